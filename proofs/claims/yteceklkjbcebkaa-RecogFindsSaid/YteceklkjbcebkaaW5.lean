/- pollardingref1.Through: the walk. No condition. -/
import Derived.Test.YteceklkjbcebkaaW2
import Derived.Test.YteceklkjbcebkaaPThru
import Derived.Test.YteceklkjbcebkaaSyt
namespace Go.Sy
open Go Go.RowKit Go.Proofs

set_option maxRecDepth 20000 in
theorem through_any (gv dv : Value) (g : Gram) (d : List Int) (w : World) (hg : GramAt (Cl w) gv g) (hd : IntsAt (Cl w) dv d) : Calls Try.prog 17 #[gv, dv] w (fun e w' => ∃ x : TR, e = .returned (.tuple #[x.v1, x.v2, .bool x.ok]) ∧ ThruOk g d x ∧ Sat (Old w) w [trow 3 1 encN x.v1 x.out, trow 47 3 encS x.v2 x.sp] w') := by
  have hg0 := hg
  obtain ⟨rv, rfl, hr⟩ := hg.mono old_rd
  obtain ⟨a, c, rfl, hc1, hc2, hrs⟩ := hr
  clear hg
  obtain ⟨a2, c2, rfl, hd1, hd2, hds⟩ := hd.mono old_rd
  clear hd
  refine calls_CW Try.func17 rfl Try.ntmps17 rfl (Sat.start w) ?_
  refine CW_seq ?_
  refine CW_region ?_
  refine OW_e (e_box rfl rfl) rfl (fun b2 => ?_)
  refine OW_q (q_assign rfl) rfl ?_
  refine OW_q (q_assign rfl) rfl ?_
  refine OW_q (q_assign rfl) rfl ?_
  refine OW_nil ?_
  refine EW_then ?_
  refine CW_seq ?_
  refine CW_seq ?_
  refine CW_region ?_
  first | (refine OW_q (q_loadN_own Try.isAgg24 Try.sizeOf24 rfl rfl (by (repeat (first | exact .head | apply Swap.tail))) (by rfl)) rfl ?_) | (refine OW_q (q_loadN_ro Try.isAgg24 Try.sizeOf24 rfl (by first | assumption | exact Row.at_ (by assumption) rfl) (by rfl)) rfl ?_)
  refine OW_e (e_call Try.call14 rfl (fun w hw => lift_ro (may1_any _ g w (hg0.mono (fun _ _ h => hw.rd (Rd.old h)))) hw)) rfl (fun x15 => ?_)
  refine OW_q (q_not rfl) rfl ?_
  refine OW_q (q_move rfl) rfl ?_
  refine OW_part (t := 17) rfl (fun hg17 => ?_) (fun hg17 => ?_)
  · skip
    refine OW_skip rfl rfl rfl rfl ?_
    refine OW_skip rfl rfl rfl rfl ?_
    refine OW_skip rfl rfl rfl rfl ?_
    refine OW_q (q_pick_t rfl rfl) rfl ?_
    refine OW_nil ?_
    refine EW_then ?_
    refine CW_true rfl rfl ?_
    refine CW_seq ?_
    refine CW_region ?_
    refine OW_q (q_assign rfl) rfl ?_
    refine OW_q (q_assign rfl) rfl ?_
    refine OW_q (q_assign rfl) rfl ?_
    refine OW_nil ?_
    refine EW_then ?_
    refine CW_ret ?_
    refine EW_then_ret ?_
    refine ret3 Try.results17 rfl rfl rfl (fun w hw => ?_)
    exact ⟨⟨_, _, [], [], false⟩, rfl, ⟨(fun h => by cases h), (fun _ hm1 hm2 => by simp [hm1] at hg17)⟩, ((hw.sub .nil).tnil 47 3 encS).tnil 3 1 encN⟩
  · skip
    have hm : mayB g = true := by simpa using hg17
    refine OW_wanted rfl rfl rfl ?_
    refine OW_q (q_move rfl) rfl ?_
    refine OW_wanted rfl rfl rfl ?_
    refine OW_q (q_len Try.underlying25 rfl) rfl ?_
    refine OW_wanted rfl rfl rfl ?_
    refine OW_q (q_gtr rfl rfl) rfl ?_
    refine OW_q (q_pick_f rfl rfl) rfl ?_
    refine OW_nil ?_
    refine EW_then ?_
    refine CW_cond rfl (fun h21 => ?_) (fun h21 => ?_)
    · skip
      refine CW_seq ?_
      refine CW_region ?_
      refine OW_q (q_assign rfl) rfl ?_
      refine OW_q (q_assign rfl) rfl ?_
      refine OW_q (q_assign rfl) rfl ?_
      refine OW_nil ?_
      refine EW_then ?_
      refine CW_ret ?_
      refine EW_then_ret ?_
      refine ret3 Try.results17 rfl rfl rfl (fun w hw => ?_)
      exact ⟨⟨_, _, [], [], false⟩, rfl, ⟨(fun h => by cases h), (fun _ hm1 hm2 => by have := of_decide_eq_true h21; omega)⟩, ((hw.sub .nil).tnil 47 3 encS).tnil 3 1 encN⟩
    · skip
      have hdl : d.length ≤ 400 := by have := of_decide_eq_false h21; omega
      have hM := mayB_true.1 hm
      refine CW_skip ?_
      refine EW_then ?_
      refine CW_seq ?_
      refine CW_region ?_
      refine OW_q (q_assign rfl) rfl ?_
      refine OW_nil ?_
      refine EW_then ?_
      refine CW_seq ?_
      refine CW_region ?_
      refine OW_q (q_assign rfl) rfl ?_
      refine OW_nil ?_
      refine EW_then ?_
      refine CW_seq ?_
      refine CW_region ?_
      refine OW_q (q_build (ps := #[]) (v := .agg #[vb false, vi 0, vb false, vi 0]) rfl (fun w => by kernel_rfl)) rfl ?_
      refine OW_e (e_single Try.underlying65 Try.sizeOf64 Try.zeroValue64 (e := 64) (v := .agg #[vb false, vi 0, vb false, vi 0]) (cs := [vb false, vi 0, vb false, vi 0]) rfl rfl rfl rfl (by decide) (by decide)) rfl (fun b23 => ?_)
      refine OW_q (q_assign rfl) rfl ?_
      refine OW_nil ?_
      refine EW_then ?_
      refine CW_seq ?_
      refine CW_region ?_
      refine OW_q (q_assign rfl) rfl ?_
      refine OW_nil ?_
      refine EW_then ?_
      refine CW_seq ?_
      refine CW_block ?_
      refine CW_loopP (ι := List Itm × Nat × List Int × List Spn × Value × Value × Value) (fun i_ => i_.2.1 ≤ d.length ∧ i_.2.2.2.1.length = i_.2.1 ∧ (∀ i ∈ i_.1, i.close = true → 0 ≤ i.span ∧ i.span < (i_.2.1 : Int)) ∧ i_.2.2.1.length + i_.1.length ≤ 1 + 9 * i_.2.1 ∧ (∀ r, Thru g d i_.1 i_.2.1 i_.2.2.1 i_.2.2.2.1 r → Thru g d open0 0 [] [] r)) (fun i_ => [(1, .slice a2 d.length c2), (2, .pointer (some ⟨b2, 0, none⟩)), (7, i_.2.2.2.2.1), (8, i_.2.2.2.2.2.1), (9, i_.2.2.2.2.2.2), (10, .int .i64 (i_.2.1 : Int))]) (fun i_ => Sat (Old w) w [trow 3 1 encN i_.2.2.2.2.1 i_.2.2.1, trow 47 3 encS i_.2.2.2.2.2.1 i_.2.2.2.1, trow 64 4 encO i_.2.2.2.2.2.2 i_.1.reverse, cel b2 24 [.int .i64 g.terms, .int .i64 g.names, .slice a g.rules.length c]]) (fun i_ => (d.length - i_.2.1) * 10 + i_.1.length) (open0, 0, [], [], .slice none 0 0, .slice none 0 0, .slice (some ⟨b23, 0, none⟩) 1 1) ?_ ⟨rfl, rfl, rfl, rfl, rfl, rfl, trivial⟩ (fun w hw => ((Sat.swap .head (row_of_cel (size := 4) (n := 1) rfl (by decide)) hw).tnil 47 3 encS).tnil 3 1 encN) ?_
      · exact ⟨Nat.zero_le _, rfl, (fun i hi hc => by rw [List.mem_singleton.1 hi] at hc; cases hc), Nat.le_refl 1, fun r hr => hr⟩
      intro i_ hpre
      obtain ⟨st, used, out, sp, v7, v8, v9⟩ := i_
      replace hpre : used ≤ d.length ∧ sp.length = used ∧ (∀ i ∈ st, i.close = true → 0 ≤ i.span ∧ i.span < (used : Int)) ∧ out.length + st.length ≤ 1 + 9 * used ∧ (∀ r, Thru g d st used out sp r → Thru g d open0 0 [] [] r) := hpre
      change CW _ _ _ _ [(1, .slice a2 d.length c2), (2, .pointer (some ⟨b2, 0, none⟩)), (7, v7), (8, v8), (9, v9), (10, .int .i64 (used : Int))] (Sat (Old w) w [trow 3 1 encN v7 out, trow 47 3 encS v8 sp, trow 64 4 encO v9 st.reverse, cel b2 24 [.int .i64 g.terms, .int .i64 g.names, .slice a g.rules.length c]])
      obtain ⟨hu1, hspl, hcl, hout, hcont⟩ := hpre
      refine CW_fact (fun w hw => hw.tform (v := v7) (by repeat (first | exact .head | apply Swap.tail))) (fun hf => ?_)
      obtain ⟨a7, c7, rfl, h7a, h7b, h7c⟩ := hf
      refine CW_fact (fun w hw => hw.tform (v := v8) (by repeat (first | exact .head | apply Swap.tail))) (fun hf => ?_)
      obtain ⟨a8, c8, rfl, h8a, h8b, h8c⟩ := hf
      refine CW_fact (fun w hw => hw.tform (v := v9) (by repeat (first | exact .head | apply Swap.tail))) (fun hf => ?_)
      rw [List.length_reverse] at hf
      obtain ⟨a9, c9, rfl, h9a, h9b, h9c⟩ := hf
      refine CW_seq ?_
      refine CW_seq ?_
      refine CW_region ?_
      refine OW_q (q_move rfl) rfl ?_
      refine OW_q (q_len Try.underlying65 rfl) rfl ?_
      refine OW_q (q_gtr rfl rfl) rfl ?_
      refine OW_nil ?_
      refine EW_then ?_
      refine CW_cond rfl (fun h26 => ?_) (fun h26 => ?_)
      · skip
        obtain ⟨it, st, rfl⟩ : ∃ it s, st = it :: s := by
          cases st with
          | nil => simp at h26
          | cons it s => exact ⟨it, s, rfl⟩
        obtain ⟨b9, rfl⟩ := h9c (by simp)
        have hlen9 : (it :: st).length = st.length + 1 := rfl
        rw [List.reverse_cons]
        refine CW_skip ?_
        refine EW_then ?_
        refine CW_block ?_
        refine CW_seq ?_
        refine CW_region ?_
        refine OW_q (q_move rfl) rfl ?_
        refine OW_q (q_move rfl) rfl ?_
        refine OW_q (q_len Try.underlying65 rfl) rfl ?_
        refine OW_q (q_sub rfl rfl (by omega) (by omega)) rfl ?_
        refine OW_spell 30 (.int .i64 (st.length : Int)) rfl (by simp) ?_
        refine OW_q (q_indexAddr Try.underlying65 Try.sizeOf64 rfl rfl (by first | omega | assumption)) rfl ?_
        refine OW_q (q_loadN_t Try.isAgg64 Try.sizeOf64 (fun _ => rfl) rfl (by repeat (first | exact .head | apply Swap.tail)) rfl (rev_get st it)) rfl ?_
        refine OW_spell 32 (.agg #[vb it.s.term, vi it.s.n, vb it.close, vi it.span]) rfl rfl ?_
        refine OW_e (e_alloc Try.zeroValue64 rfl) rfl (fun b11 => ?_)
        refine OW_e0 (e_storeN Try.sizeOf64 rfl rfl rfl rfl (by simp [Value.oneCell']) (by (repeat (first | exact .head | apply Swap.tail))) (by rfl)) (fun _ => ?_)
        refine OW_nil ?_
        refine EW_then ?_
        refine CW_seq ?_
        refine CW_region ?_
        refine OW_q (q_move rfl) rfl ?_
        refine OW_q (q_move rfl) rfl ?_
        refine OW_q (q_len Try.underlying65 rfl) rfl ?_
        refine OW_q (q_sub rfl rfl (by omega) (by omega)) rfl ?_
        refine OW_spell 36 (.int .i64 (st.length : Int)) rfl (by simp) ?_
        refine OW_q (q_slice Try.underlying65 Try.sizeOf64 rfl (.inl ⟨rfl, rfl⟩) (.inr ⟨_, rfl, rfl⟩) (by omega) (by omega) (by omega)) rfl ?_
        refine OW_spell 37 (.slice (some ⟨b9, 0, none⟩) st.length c9) rfl (by rw [if_neg (by omega)]; rfl) ?_
        refine OW_q (q_assign rfl) rfl ?_
        refine OW_nil ?_
        refine EW_then ?_
        refine CW_seq ?_
        refine CW_seq ?_
        refine CW_region ?_
        refine OW_weak (fun w hw => hw.tpop (enc := encO) (l := st.reverse) (m := st.length) (y := it) (fun _ => rfl) List.length_reverse (by repeat (first | exact .head | apply Swap.tail))) ?_
        refine OW_q (q_fieldAddr Try.underlying64 rfl rfl Try.sizeOf4 rfl rfl) rfl ?_
        first | (refine OW_q (q_load1_own Try.isAgg4 rfl rfl (by (repeat (first | exact .head | apply Swap.tail))) (by rfl)) rfl ?_) | (refine OW_q (q_load1_ro Try.isAgg4 rfl (by first | assumption | exact Row.at_ (by assumption) rfl)) rfl ?_)
        refine OW_nil ?_
        refine EW_then ?_
        refine CW_cond rfl (fun h39 => ?_) (fun h39 => ?_)
        · skip
          have hcl1 := hcl it (by simp) h39
          obtain ⟨b8, rfl⟩ := h8c (by omega)
          obtain ⟨sx, hsx⟩ := get_of_lt (l := sp) (k := it.span.toNat) (by omega)
          refine CW_seq ?_
          refine CW_region ?_
          refine OW_q (q_move rfl) rfl ?_
          refine OW_q (q_fieldAddr Try.underlying64 rfl rfl Try.sizeOf3 rfl rfl) rfl ?_
          first | (refine OW_q (q_load1_own Try.isAgg3 rfl rfl (by (repeat (first | exact .head | apply Swap.tail))) (by rfl)) rfl ?_) | (refine OW_q (q_load1_ro Try.isAgg3 rfl (by first | assumption | exact Row.at_ (by assumption) rfl)) rfl ?_)
          refine OW_q (q_move rfl) rfl ?_
          refine OW_q (q_len Try.underlying25 rfl) rfl ?_
          refine OW_q (q_indexAddrI Try.underlying32 Try.sizeOf47 rfl rfl (by first | omega | assumption) (by first | omega | assumption)) rfl ?_
          refine OW_q (q_fieldAddr Try.underlying47 rfl rfl Try.sizeOf3 rfl rfl) rfl ?_
          refine OW_e0 (e_store_t (enc := encS) (y' := ⟨sx.rule, sx.frm, out.length⟩) Try.sizeOf3 (fun _ => rfl) rfl rfl rfl rfl hsx rfl (by repeat (first | exact .head | apply Swap.tail))) (fun _ => ?_)
          refine OW_nil ?_
          refine EW_then ?_
          refine CW_exit ?_
          refine EW_then_exit ?_
          refine EW_block_exit ?_
          refine EW_again ((st, used, out, sp.set it.span.toNat ⟨sx.rule, sx.frm, out.length⟩, .slice a7 out.length c7, .slice (some ⟨b8, 0, none⟩) sp.length c8, .slice (some ⟨b9, 0, none⟩) st.length c9)) ⟨?_, ?_⟩ ⟨rfl, rfl, rfl, rfl, rfl, rfl, trivial⟩ (fun w hw => hw.sub (by (repeat (first | exact SubL.nil | exact Pick.head | apply Pick.tail | apply SubL.cons))))
          · show (d.length - used) * 10 + st.length < (d.length - used) * 10 + (st.length + 1); omega
          · refine ⟨hu1, by show (List.set _ _ _).length = _; rw [List.length_set]; exact hspl, fun i hi => hcl i (List.mem_cons_of_mem _ hi), by show out.length + st.length ≤ 1 + 9 * used; omega, fun r hr => hcont r (.close h39 hsx hr)⟩
        · skip
          refine CW_skip ?_
          refine EW_then ?_
          refine CW_seq ?_
          refine CW_seq ?_
          refine CW_region ?_
          refine OW_q (q_fieldAddr Try.underlying64 rfl rfl Try.sizeOf62 rfl rfl) rfl ?_
          refine OW_q (q_fieldAddr Try.underlying62 rfl rfl Try.sizeOf4 rfl rfl) rfl ?_
          first | (refine OW_q (q_load1_own Try.isAgg4 rfl rfl (by (repeat (first | exact .head | apply Swap.tail))) (by rfl)) rfl ?_) | (refine OW_q (q_load1_ro Try.isAgg4 rfl (by first | assumption | exact Row.at_ (by assumption) rfl)) rfl ?_)
          refine OW_nil ?_
          refine EW_then ?_
          refine CW_cond rfl (fun h49 => ?_) (fun h49 => ?_)
          · skip
            refine CW_seq ?_
            refine CW_region ?_
            refine OW_q (q_move rfl) rfl ?_
            refine OW_q (q_fieldAddr Try.underlying64 rfl rfl Try.sizeOf62 rfl rfl) rfl ?_
            refine OW_q (q_fieldAddr Try.underlying62 rfl rfl Try.sizeOf3 rfl rfl) rfl ?_
            first | (refine OW_q (q_load1_own Try.isAgg3 rfl rfl (by (repeat (first | exact .head | apply Swap.tail))) (by rfl)) rfl ?_) | (refine OW_q (q_load1_ro Try.isAgg3 rfl (by first | assumption | exact Row.at_ (by assumption) rfl)) rfl ?_)
            refine OW_e (e_single Try.underlying25 Try.sizeOf3 Try.zeroValue3 (e := 3) (v := vi it.s.n) (cs := [vi it.s.n]) rfl rfl rfl rfl (by decide) (by decide)) rfl (fun b54 => ?_)
            refine OW_e (e_append_t (x0 := it.s.n) (enc := encN) Try.underlying25 Try.typeInfo3 rfl rfl rfl rfl rfl rfl rfl (by repeat (first | exact .head | apply Pick.tail)) rfl (by exact fun w hw => hw.news (by repeat (first | exact .head | apply Swap.tail))) (by simp [Value.oneCell']) (by omega) (by decide)) rfl (fun v55 => ?_)
            refine OW_q (q_assign rfl) rfl ?_
            refine OW_nil ?_
            refine EW_then ?_
            refine CW_exit ?_
            refine EW_then_exit ?_
            refine EW_block_exit ?_
            refine EW_again ((st, used, out ++ [it.s.n], sp, v55, .slice a8 sp.length c8, .slice (some ⟨b9, 0, none⟩) st.length c9)) ⟨?_, ?_⟩ ⟨rfl, rfl, rfl, rfl, rfl, rfl, trivial⟩ (fun w hw => hw.sub (by (repeat (first | exact SubL.nil | exact Pick.head | apply Pick.tail | apply SubL.cons))))
            · show (d.length - used) * 10 + st.length < (d.length - used) * 10 + (st.length + 1); omega
            · refine ⟨hu1, hspl, fun i hi => hcl i (List.mem_cons_of_mem _ hi), by show (out ++ [it.s.n]).length + st.length ≤ 1 + 9 * used; rw [List.length_append, List.length_singleton]; omega, fun r hr => hcont r (.term (by simpa using h39) (by simpa using h49) hr)⟩
          · skip
            refine CW_skip ?_
            refine EW_then ?_
            refine CW_seq ?_
            refine CW_seq ?_
            refine CW_drawS 36 [(0, false), (1, false), (2, false), (3, false), (4, false), (5, false), (6, false), (7, false), (8, false), (9, false), (10, false), (11, false), (12, false), (13, false), (14, false), (15, false), (16, false), (17, false), (18, false), (19, false), (20, false), (21, false), (22, false), (23, false), (24, false), (25, false), (26, false), (27, false), (28, false), (29, false), (30, false), (31, false), (32, false), (33, false), (34, false), (35, false)] (by kernel_rfl) (Blind.then (Blind.then (Blind.block (Blind.again (Blind.block (Blind.then (Blind.body (by intro c w h; simp at h)))))))) (by kernel_rfl) (fun w hw => hw.drew) ?_
            refine DW_q rfl (fun w hw => hw.sub (by (repeat (first | exact SubL.nil | exact Pick.head | apply Pick.tail | apply SubL.cons)))) (q_move rfl) rfl ?_
            refine DW_q rfl (fun w hw => hw.sub (by (repeat (first | exact SubL.nil | exact Pick.head | apply Pick.tail | apply SubL.cons)))) (q_move rfl) rfl ?_
            refine DW_q rfl (fun w hw => hw.sub (by (repeat (first | exact SubL.nil | exact Pick.head | apply Pick.tail | apply SubL.cons)))) (q_len Try.underlying25 rfl) rfl ?_
            refine DW_q rfl (fun w hw => hw.sub (by (repeat (first | exact SubL.nil | exact Pick.head | apply Pick.tail | apply SubL.cons)))) (q_geq rfl rfl) rfl ?_
            refine DW_q rfl (fun w hw => hw.sub (by (repeat (first | exact SubL.nil | exact Pick.head | apply Pick.tail | apply SubL.cons)))) (q_move rfl) rfl ?_
            refine DW_part (t := 60) rfl (fun hg60 => ?_) (fun hg60 => ?_)
            · skip
              have hge : d.length ≤ used := by simpa using hg60
              refine DW_skip rfl (fun w hw => hw.sub (by (repeat (first | exact SubL.nil | exact Pick.head | apply Pick.tail | apply SubL.cons)))) rfl rfl rfl rfl ?_
              refine DW_skip rfl (fun w hw => hw.sub (by (repeat (first | exact SubL.nil | exact Pick.head | apply Pick.tail | apply SubL.cons)))) rfl rfl rfl rfl ?_
              refine DW_skip rfl (fun w hw => hw.sub (by (repeat (first | exact SubL.nil | exact Pick.head | apply Pick.tail | apply SubL.cons)))) rfl rfl rfl rfl ?_
              refine DW_skip rfl (fun w hw => hw.sub (by (repeat (first | exact SubL.nil | exact Pick.head | apply Pick.tail | apply SubL.cons)))) rfl rfl rfl rfl ?_
              refine DW_skip rfl (fun w hw => hw.sub (by (repeat (first | exact SubL.nil | exact Pick.head | apply Pick.tail | apply SubL.cons)))) rfl rfl rfl rfl ?_
              refine DW_q rfl (fun w hw => hw.sub (by (repeat (first | exact SubL.nil | exact Pick.head | apply Pick.tail | apply SubL.cons)))) (q_pick_t rfl rfl) rfl ?_
              refine DW_q rfl (fun w hw => hw.sub (by (repeat (first | exact SubL.nil | exact Pick.head | apply Pick.tail | apply SubL.cons)))) (q_move rfl) rfl ?_
              refine DW_skip rfl (fun w hw => hw.sub (by (repeat (first | exact SubL.nil | exact Pick.head | apply Pick.tail | apply SubL.cons)))) rfl rfl rfl rfl ?_
              refine DW_skip rfl (fun w hw => hw.sub (by (repeat (first | exact SubL.nil | exact Pick.head | apply Pick.tail | apply SubL.cons)))) rfl rfl rfl rfl ?_
              refine DW_skip rfl (fun w hw => hw.sub (by (repeat (first | exact SubL.nil | exact Pick.head | apply Pick.tail | apply SubL.cons)))) rfl rfl rfl rfl ?_
              refine DW_skip rfl (fun w hw => hw.sub (by (repeat (first | exact SubL.nil | exact Pick.head | apply Pick.tail | apply SubL.cons)))) rfl rfl rfl rfl ?_
              refine DW_skip rfl (fun w hw => hw.sub (by (repeat (first | exact SubL.nil | exact Pick.head | apply Pick.tail | apply SubL.cons)))) rfl rfl rfl rfl ?_
              refine DW_skip rfl (fun w hw => hw.sub (by (repeat (first | exact SubL.nil | exact Pick.head | apply Pick.tail | apply SubL.cons)))) rfl rfl rfl rfl ?_
              refine DW_skip rfl (fun w hw => hw.sub (by (repeat (first | exact SubL.nil | exact Pick.head | apply Pick.tail | apply SubL.cons)))) rfl rfl rfl rfl ?_
              refine DW_skip rfl (fun w hw => hw.sub (by (repeat (first | exact SubL.nil | exact Pick.head | apply Pick.tail | apply SubL.cons)))) rfl rfl rfl rfl ?_
              refine DW_q rfl (fun w hw => hw.sub (by (repeat (first | exact SubL.nil | exact Pick.head | apply Pick.tail | apply SubL.cons)))) (q_pick_t rfl rfl) rfl ?_
              refine DW_q rfl (fun w hw => hw.sub (by (repeat (first | exact SubL.nil | exact Pick.head | apply Pick.tail | apply SubL.cons)))) (q_move rfl) rfl ?_
              refine DW_skip rfl (fun w hw => hw.sub (by (repeat (first | exact SubL.nil | exact Pick.head | apply Pick.tail | apply SubL.cons)))) rfl rfl rfl rfl ?_
              refine DW_skip rfl (fun w hw => hw.sub (by (repeat (first | exact SubL.nil | exact Pick.head | apply Pick.tail | apply SubL.cons)))) rfl rfl rfl rfl ?_
              refine DW_skip rfl (fun w hw => hw.sub (by (repeat (first | exact SubL.nil | exact Pick.head | apply Pick.tail | apply SubL.cons)))) rfl rfl rfl rfl ?_
              refine DW_skip rfl (fun w hw => hw.sub (by (repeat (first | exact SubL.nil | exact Pick.head | apply Pick.tail | apply SubL.cons)))) rfl rfl rfl rfl ?_
              refine DW_skip rfl (fun w hw => hw.sub (by (repeat (first | exact SubL.nil | exact Pick.head | apply Pick.tail | apply SubL.cons)))) rfl rfl rfl rfl ?_
              refine DW_skip rfl (fun w hw => hw.sub (by (repeat (first | exact SubL.nil | exact Pick.head | apply Pick.tail | apply SubL.cons)))) rfl rfl rfl rfl ?_
              refine DW_skip rfl (fun w hw => hw.sub (by (repeat (first | exact SubL.nil | exact Pick.head | apply Pick.tail | apply SubL.cons)))) rfl rfl rfl rfl ?_
              refine DW_skip rfl (fun w hw => hw.sub (by (repeat (first | exact SubL.nil | exact Pick.head | apply Pick.tail | apply SubL.cons)))) rfl rfl rfl rfl ?_
              refine DW_skip rfl (fun w hw => hw.sub (by (repeat (first | exact SubL.nil | exact Pick.head | apply Pick.tail | apply SubL.cons)))) rfl rfl rfl rfl ?_
              refine DW_skip rfl (fun w hw => hw.sub (by (repeat (first | exact SubL.nil | exact Pick.head | apply Pick.tail | apply SubL.cons)))) rfl rfl rfl rfl ?_
              refine DW_skip rfl (fun w hw => hw.sub (by (repeat (first | exact SubL.nil | exact Pick.head | apply Pick.tail | apply SubL.cons)))) rfl rfl rfl rfl ?_
              refine DW_skip rfl (fun w hw => hw.sub (by (repeat (first | exact SubL.nil | exact Pick.head | apply Pick.tail | apply SubL.cons)))) rfl rfl rfl rfl ?_
              refine DW_skip rfl (fun w hw => hw.sub (by (repeat (first | exact SubL.nil | exact Pick.head | apply Pick.tail | apply SubL.cons)))) rfl rfl rfl rfl ?_
              refine DW_q rfl (fun w hw => hw.sub (by (repeat (first | exact SubL.nil | exact Pick.head | apply Pick.tail | apply SubL.cons)))) (q_pick_t rfl rfl) rfl ?_
              refine DW_nil ?_
              refine EW_then ?_
              refine CW_true rfl rfl ?_
              refine CW_seq ?_
              refine CW_region ?_
              refine OW_q (q_assign rfl) rfl ?_
              refine OW_q (q_assign rfl) rfl ?_
              refine OW_q (q_assign rfl) rfl ?_
              refine OW_nil ?_
              refine EW_then ?_
              refine CW_ret ?_
              refine EW_then_ret ?_
              refine EW_block_ret ?_
              refine EW_out_ret ?_
              refine EW_block_ret ?_
              refine EW_then_ret ?_
              refine ret3 Try.results17 rfl rfl rfl (fun w hw => ?_)
              exact ⟨⟨_, _, [], [], false⟩, rfl, ⟨(fun h => by cases h), (fun _ hm1 hm2 => hcont _ (.bad (by simpa using h39) (by simpa using h49) (fun x q h1 _ _ => by rw [List.getElem?_eq_none hge] at h1; cases h1)))⟩, ((hw.sub .nil).tnil 47 3 encS).tnil 3 1 encN⟩
            · skip
              have hul : used < d.length := by simpa using hg60
              obtain ⟨x, hdx⟩ := get_of_lt hul
              obtain ⟨pd, rfl, hrd⟩ := hds used x hdx
              refine DW_qg rfl (fun w hw => hw.sub (by (repeat (first | exact SubL.nil | exact Pick.head | apply Pick.tail | apply SubL.cons)))) rfl rfl rfl (q_move rfl) rfl ?_
              refine DW_qg rfl (fun w hw => hw.sub (by (repeat (first | exact SubL.nil | exact Pick.head | apply Pick.tail | apply SubL.cons)))) rfl rfl rfl (q_move rfl) rfl ?_
              refine DW_qg rfl (fun w hw => hw.sub (by (repeat (first | exact SubL.nil | exact Pick.head | apply Pick.tail | apply SubL.cons)))) rfl rfl rfl (q_indexAddr Try.underlying25 Try.sizeOf3 rfl rfl (by first | omega | assumption)) rfl ?_
              refine DW_qg rfl (fun w hw => hw.sub (by (repeat (first | exact SubL.nil | exact Pick.head | apply Pick.tail | apply SubL.cons)))) rfl rfl rfl (q_load1_ro Try.isAgg3 rfl (by first | assumption | exact Row.at_ (by assumption) rfl)) rfl ?_
              refine DW_qg rfl (fun w hw => hw.sub (by (repeat (first | exact SubL.nil | exact Pick.head | apply Pick.tail | apply SubL.cons)))) rfl rfl rfl (q_lss rfl rfl) rfl ?_
              refine DW_q rfl (fun w hw => hw.sub (by (repeat (first | exact SubL.nil | exact Pick.head | apply Pick.tail | apply SubL.cons)))) (q_pick_f rfl rfl) rfl ?_
              refine DW_q rfl (fun w hw => hw.sub (by (repeat (first | exact SubL.nil | exact Pick.head | apply Pick.tail | apply SubL.cons)))) (q_move rfl) rfl ?_
              refine DW_part (t := 67) rfl (fun hg67 => ?_) (fun hg67 => ?_)
              · skip
                have hx0 : x < 0 := by simpa using hg67
                refine DW_skip rfl (fun w hw => hw.sub (by (repeat (first | exact SubL.nil | exact Pick.head | apply Pick.tail | apply SubL.cons)))) rfl rfl rfl rfl ?_
                refine DW_skip rfl (fun w hw => hw.sub (by (repeat (first | exact SubL.nil | exact Pick.head | apply Pick.tail | apply SubL.cons)))) rfl rfl rfl rfl ?_
                refine DW_skip rfl (fun w hw => hw.sub (by (repeat (first | exact SubL.nil | exact Pick.head | apply Pick.tail | apply SubL.cons)))) rfl rfl rfl rfl ?_
                refine DW_skip rfl (fun w hw => hw.sub (by (repeat (first | exact SubL.nil | exact Pick.head | apply Pick.tail | apply SubL.cons)))) rfl rfl rfl rfl ?_
                refine DW_skip rfl (fun w hw => hw.sub (by (repeat (first | exact SubL.nil | exact Pick.head | apply Pick.tail | apply SubL.cons)))) rfl rfl rfl rfl ?_
                refine DW_skip rfl (fun w hw => hw.sub (by (repeat (first | exact SubL.nil | exact Pick.head | apply Pick.tail | apply SubL.cons)))) rfl rfl rfl rfl ?_
                refine DW_skip rfl (fun w hw => hw.sub (by (repeat (first | exact SubL.nil | exact Pick.head | apply Pick.tail | apply SubL.cons)))) rfl rfl rfl rfl ?_
                refine DW_skip rfl (fun w hw => hw.sub (by (repeat (first | exact SubL.nil | exact Pick.head | apply Pick.tail | apply SubL.cons)))) rfl rfl rfl rfl ?_
                refine DW_q rfl (fun w hw => hw.sub (by (repeat (first | exact SubL.nil | exact Pick.head | apply Pick.tail | apply SubL.cons)))) (q_pick_t rfl rfl) rfl ?_
                refine DW_q rfl (fun w hw => hw.sub (by (repeat (first | exact SubL.nil | exact Pick.head | apply Pick.tail | apply SubL.cons)))) (q_move rfl) rfl ?_
                refine DW_skip rfl (fun w hw => hw.sub (by (repeat (first | exact SubL.nil | exact Pick.head | apply Pick.tail | apply SubL.cons)))) rfl rfl rfl rfl ?_
                refine DW_skip rfl (fun w hw => hw.sub (by (repeat (first | exact SubL.nil | exact Pick.head | apply Pick.tail | apply SubL.cons)))) rfl rfl rfl rfl ?_
                refine DW_skip rfl (fun w hw => hw.sub (by (repeat (first | exact SubL.nil | exact Pick.head | apply Pick.tail | apply SubL.cons)))) rfl rfl rfl rfl ?_
                refine DW_skip rfl (fun w hw => hw.sub (by (repeat (first | exact SubL.nil | exact Pick.head | apply Pick.tail | apply SubL.cons)))) rfl rfl rfl rfl ?_
                refine DW_skip rfl (fun w hw => hw.sub (by (repeat (first | exact SubL.nil | exact Pick.head | apply Pick.tail | apply SubL.cons)))) rfl rfl rfl rfl ?_
                refine DW_skip rfl (fun w hw => hw.sub (by (repeat (first | exact SubL.nil | exact Pick.head | apply Pick.tail | apply SubL.cons)))) rfl rfl rfl rfl ?_
                refine DW_skip rfl (fun w hw => hw.sub (by (repeat (first | exact SubL.nil | exact Pick.head | apply Pick.tail | apply SubL.cons)))) rfl rfl rfl rfl ?_
                refine DW_skip rfl (fun w hw => hw.sub (by (repeat (first | exact SubL.nil | exact Pick.head | apply Pick.tail | apply SubL.cons)))) rfl rfl rfl rfl ?_
                refine DW_skip rfl (fun w hw => hw.sub (by (repeat (first | exact SubL.nil | exact Pick.head | apply Pick.tail | apply SubL.cons)))) rfl rfl rfl rfl ?_
                refine DW_skip rfl (fun w hw => hw.sub (by (repeat (first | exact SubL.nil | exact Pick.head | apply Pick.tail | apply SubL.cons)))) rfl rfl rfl rfl ?_
                refine DW_skip rfl (fun w hw => hw.sub (by (repeat (first | exact SubL.nil | exact Pick.head | apply Pick.tail | apply SubL.cons)))) rfl rfl rfl rfl ?_
                refine DW_skip rfl (fun w hw => hw.sub (by (repeat (first | exact SubL.nil | exact Pick.head | apply Pick.tail | apply SubL.cons)))) rfl rfl rfl rfl ?_
                refine DW_skip rfl (fun w hw => hw.sub (by (repeat (first | exact SubL.nil | exact Pick.head | apply Pick.tail | apply SubL.cons)))) rfl rfl rfl rfl ?_
                refine DW_q rfl (fun w hw => hw.sub (by (repeat (first | exact SubL.nil | exact Pick.head | apply Pick.tail | apply SubL.cons)))) (q_pick_t rfl rfl) rfl ?_
                refine DW_nil ?_
                refine EW_then ?_
                refine CW_true rfl rfl ?_
                refine CW_seq ?_
                refine CW_region ?_
                refine OW_q (q_assign rfl) rfl ?_
                refine OW_q (q_assign rfl) rfl ?_
                refine OW_q (q_assign rfl) rfl ?_
                refine OW_nil ?_
                refine EW_then ?_
                refine CW_ret ?_
                refine EW_then_ret ?_
                refine EW_block_ret ?_
                refine EW_out_ret ?_
                refine EW_block_ret ?_
                refine EW_then_ret ?_
                refine ret3 Try.results17 rfl rfl rfl (fun w hw => ?_)
                exact ⟨⟨_, _, [], [], false⟩, rfl, ⟨(fun h => by cases h), (fun _ hm1 hm2 => hcont _ (.bad (by simpa using h39) (by simpa using h49) (fun y q h1 h2 _ => by rw [hdx] at h1; cases h1; omega)))⟩, ((hw.sub .nil).tnil 47 3 encS).tnil 3 1 encN⟩
              · skip
                have hx0 : 0 ≤ x := by simpa using hg67
                refine DW_qg rfl (fun w hw => hw.sub (by (repeat (first | exact SubL.nil | exact Pick.head | apply Pick.tail | apply SubL.cons)))) rfl rfl rfl (q_move rfl) rfl ?_
                refine DW_qg rfl (fun w hw => hw.sub (by (repeat (first | exact SubL.nil | exact Pick.head | apply Pick.tail | apply SubL.cons)))) rfl rfl rfl (q_move rfl) rfl ?_
                refine DW_qg rfl (fun w hw => hw.sub (by (repeat (first | exact SubL.nil | exact Pick.head | apply Pick.tail | apply SubL.cons)))) rfl rfl rfl (q_indexAddr Try.underlying25 Try.sizeOf3 rfl rfl (by first | omega | assumption)) rfl ?_
                refine DW_qg rfl (fun w hw => hw.sub (by (repeat (first | exact SubL.nil | exact Pick.head | apply Pick.tail | apply SubL.cons)))) rfl rfl rfl (q_load1_ro Try.isAgg3 rfl (by first | assumption | exact Row.at_ (by assumption) rfl)) rfl ?_
                refine DW_qg rfl (fun w hw => hw.sub (by (repeat (first | exact SubL.nil | exact Pick.head | apply Pick.tail | apply SubL.cons)))) rfl rfl rfl (q_fieldAddr Try.underlying24 rfl rfl Try.sizeOf22 rfl rfl) rfl ?_
                first | (refine DW_qg rfl (fun w hw => hw.sub (by (repeat (first | exact SubL.nil | exact Pick.head | apply Pick.tail | apply SubL.cons)))) rfl rfl rfl (q_load1_own Try.isAgg22 rfl rfl (by (repeat (first | exact .head | apply Swap.tail))) (by rfl)) rfl ?_) | (refine DW_qg rfl (fun w hw => hw.sub (by (repeat (first | exact SubL.nil | exact Pick.head | apply Pick.tail | apply SubL.cons)))) rfl rfl rfl (q_load1_ro Try.isAgg22 rfl (by first | assumption | exact Row.at_ (by assumption) rfl)) rfl ?_)
                refine DW_qg rfl (fun w hw => hw.sub (by (repeat (first | exact SubL.nil | exact Pick.head | apply Pick.tail | apply SubL.cons)))) rfl rfl rfl (q_len Try.underlying22 rfl) rfl ?_
                refine DW_qg rfl (fun w hw => hw.sub (by (repeat (first | exact SubL.nil | exact Pick.head | apply Pick.tail | apply SubL.cons)))) rfl rfl rfl (q_geq rfl rfl) rfl ?_
                refine DW_q rfl (fun w hw => hw.sub (by (repeat (first | exact SubL.nil | exact Pick.head | apply Pick.tail | apply SubL.cons)))) (q_pick_f rfl rfl) rfl ?_
                refine DW_q rfl (fun w hw => hw.sub (by (repeat (first | exact SubL.nil | exact Pick.head | apply Pick.tail | apply SubL.cons)))) (q_move rfl) rfl ?_
                refine DW_part (t := 77) rfl (fun hg77 => ?_) (fun hg77 => ?_)
                · skip
                  have hxl : (g.rules.length : Int) ≤ x := by simpa using hg77
                  refine DW_skip rfl (fun w hw => hw.sub (by (repeat (first | exact SubL.nil | exact Pick.head | apply Pick.tail | apply SubL.cons)))) rfl rfl rfl rfl ?_
                  refine DW_skip rfl (fun w hw => hw.sub (by (repeat (first | exact SubL.nil | exact Pick.head | apply Pick.tail | apply SubL.cons)))) rfl rfl rfl rfl ?_
                  refine DW_skip rfl (fun w hw => hw.sub (by (repeat (first | exact SubL.nil | exact Pick.head | apply Pick.tail | apply SubL.cons)))) rfl rfl rfl rfl ?_
                  refine DW_skip rfl (fun w hw => hw.sub (by (repeat (first | exact SubL.nil | exact Pick.head | apply Pick.tail | apply SubL.cons)))) rfl rfl rfl rfl ?_
                  refine DW_skip rfl (fun w hw => hw.sub (by (repeat (first | exact SubL.nil | exact Pick.head | apply Pick.tail | apply SubL.cons)))) rfl rfl rfl rfl ?_
                  refine DW_skip rfl (fun w hw => hw.sub (by (repeat (first | exact SubL.nil | exact Pick.head | apply Pick.tail | apply SubL.cons)))) rfl rfl rfl rfl ?_
                  refine DW_skip rfl (fun w hw => hw.sub (by (repeat (first | exact SubL.nil | exact Pick.head | apply Pick.tail | apply SubL.cons)))) rfl rfl rfl rfl ?_
                  refine DW_skip rfl (fun w hw => hw.sub (by (repeat (first | exact SubL.nil | exact Pick.head | apply Pick.tail | apply SubL.cons)))) rfl rfl rfl rfl ?_
                  refine DW_skip rfl (fun w hw => hw.sub (by (repeat (first | exact SubL.nil | exact Pick.head | apply Pick.tail | apply SubL.cons)))) rfl rfl rfl rfl ?_
                  refine DW_skip rfl (fun w hw => hw.sub (by (repeat (first | exact SubL.nil | exact Pick.head | apply Pick.tail | apply SubL.cons)))) rfl rfl rfl rfl ?_
                  refine DW_skip rfl (fun w hw => hw.sub (by (repeat (first | exact SubL.nil | exact Pick.head | apply Pick.tail | apply SubL.cons)))) rfl rfl rfl rfl ?_
                  refine DW_skip rfl (fun w hw => hw.sub (by (repeat (first | exact SubL.nil | exact Pick.head | apply Pick.tail | apply SubL.cons)))) rfl rfl rfl rfl ?_
                  refine DW_skip rfl (fun w hw => hw.sub (by (repeat (first | exact SubL.nil | exact Pick.head | apply Pick.tail | apply SubL.cons)))) rfl rfl rfl rfl ?_
                  refine DW_q rfl (fun w hw => hw.sub (by (repeat (first | exact SubL.nil | exact Pick.head | apply Pick.tail | apply SubL.cons)))) (q_pick_t rfl rfl) rfl ?_
                  refine DW_nil ?_
                  refine EW_then ?_
                  refine CW_true rfl rfl ?_
                  refine CW_seq ?_
                  refine CW_region ?_
                  refine OW_q (q_assign rfl) rfl ?_
                  refine OW_q (q_assign rfl) rfl ?_
                  refine OW_q (q_assign rfl) rfl ?_
                  refine OW_nil ?_
                  refine EW_then ?_
                  refine CW_ret ?_
                  refine EW_then_ret ?_
                  refine EW_block_ret ?_
                  refine EW_out_ret ?_
                  refine EW_block_ret ?_
                  refine EW_then_ret ?_
                  refine ret3 Try.results17 rfl rfl rfl (fun w hw => ?_)
                  exact ⟨⟨_, _, [], [], false⟩, rfl, ⟨(fun h => by cases h), (fun _ hm1 hm2 => hcont _ (.bad (by simpa using h39) (by simpa using h49) (fun y q h1 h2 h3 => by rw [hdx] at h1; cases h1; have := (List.getElem?_eq_some_iff.1 h3).1; omega)))⟩, ((hw.sub .nil).tnil 47 3 encS).tnil 3 1 encN⟩
                · skip
                  have hxl : x < (g.rules.length : Int) := by simpa using hg77
                  obtain ⟨q, hq⟩ := get_of_lt (l := g.rules) (k := x.toNat) (by omega)
                  obtain ⟨p, rfl, rv2, hsy, hrow⟩ := hrs x.toNat q hq
                  obtain ⟨a12, c12, rfl, hl1, hl2, hss⟩ := hsy
                  refine DW_qg rfl (fun w hw => hw.sub (by (repeat (first | exact SubL.nil | exact Pick.head | apply Pick.tail | apply SubL.cons)))) rfl rfl rfl (q_fieldAddr Try.underlying24 rfl rfl Try.sizeOf22 rfl rfl) rfl ?_
                  first | (refine DW_qg rfl (fun w hw => hw.sub (by (repeat (first | exact SubL.nil | exact Pick.head | apply Pick.tail | apply SubL.cons)))) rfl rfl rfl (q_load1_own Try.isAgg22 rfl rfl (by (repeat (first | exact .head | apply Swap.tail))) (by rfl)) rfl ?_) | (refine DW_qg rfl (fun w hw => hw.sub (by (repeat (first | exact SubL.nil | exact Pick.head | apply Pick.tail | apply SubL.cons)))) rfl rfl rfl (q_load1_ro Try.isAgg22 rfl (by first | assumption | exact Row.at_ (by assumption) rfl)) rfl ?_)
                  refine DW_qg rfl (fun w hw => hw.sub (by (repeat (first | exact SubL.nil | exact Pick.head | apply Pick.tail | apply SubL.cons)))) rfl rfl rfl (q_move rfl) rfl ?_
                  refine DW_qg rfl (fun w hw => hw.sub (by (repeat (first | exact SubL.nil | exact Pick.head | apply Pick.tail | apply SubL.cons)))) rfl rfl rfl (q_move rfl) rfl ?_
                  refine DW_qg rfl (fun w hw => hw.sub (by (repeat (first | exact SubL.nil | exact Pick.head | apply Pick.tail | apply SubL.cons)))) rfl rfl rfl (q_indexAddr Try.underlying25 Try.sizeOf3 rfl rfl (by first | omega | assumption)) rfl ?_
                  refine DW_qg rfl (fun w hw => hw.sub (by (repeat (first | exact SubL.nil | exact Pick.head | apply Pick.tail | apply SubL.cons)))) rfl rfl rfl (q_load1_ro Try.isAgg3 rfl (by first | assumption | exact Row.at_ (by assumption) rfl)) rfl ?_
                  refine DW_qg rfl (fun w hw => hw.sub (by (repeat (first | exact SubL.nil | exact Pick.head | apply Pick.tail | apply SubL.cons)))) rfl rfl rfl (q_indexAddrI Try.underlying22 Try.sizeOf41 rfl rfl (by first | omega | assumption) (by first | omega | assumption)) rfl ?_
                  refine DW_qg rfl (fun w hw => hw.sub (by (repeat (first | exact SubL.nil | exact Pick.head | apply Pick.tail | apply SubL.cons)))) rfl rfl rfl (q_fieldAddr Try.underlying41 rfl rfl Try.sizeOf3 rfl rfl) rfl ?_
                  refine DW_qg rfl (fun w hw => hw.sub (by (repeat (first | exact SubL.nil | exact Pick.head | apply Pick.tail | apply SubL.cons)))) rfl rfl rfl (q_load1_ro Try.isAgg3 rfl (by first | assumption | exact Row.at_ (by assumption) rfl)) rfl ?_
                  refine DW_qg rfl (fun w hw => hw.sub (by (repeat (first | exact SubL.nil | exact Pick.head | apply Pick.tail | apply SubL.cons)))) rfl rfl rfl (q_fieldAddr Try.underlying64 rfl rfl Try.sizeOf62 rfl rfl) rfl ?_
                  refine DW_qg rfl (fun w hw => hw.sub (by (repeat (first | exact SubL.nil | exact Pick.head | apply Pick.tail | apply SubL.cons)))) rfl rfl rfl (q_fieldAddr Try.underlying62 rfl rfl Try.sizeOf3 rfl rfl) rfl ?_
                  first | (refine DW_qg rfl (fun w hw => hw.sub (by (repeat (first | exact SubL.nil | exact Pick.head | apply Pick.tail | apply SubL.cons)))) rfl rfl rfl (q_load1_own Try.isAgg3 rfl rfl (by (repeat (first | exact .head | apply Swap.tail))) (by rfl)) rfl ?_) | (refine DW_qg rfl (fun w hw => hw.sub (by (repeat (first | exact SubL.nil | exact Pick.head | apply Pick.tail | apply SubL.cons)))) rfl rfl rfl (q_load1_ro Try.isAgg3 rfl (by first | assumption | exact Row.at_ (by assumption) rfl)) rfl ?_)
                  refine DW_qg rfl (fun w hw => hw.sub (by (repeat (first | exact SubL.nil | exact Pick.head | apply Pick.tail | apply SubL.cons)))) rfl rfl rfl (q_nei rfl rfl) rfl ?_
                  refine DW_q rfl (fun w hw => hw.sub (by (repeat (first | exact SubL.nil | exact Pick.head | apply Pick.tail | apply SubL.cons)))) (q_pick_f rfl rfl) rfl ?_
                  refine DW_nil ?_
                  refine EW_then ?_
                  refine CW_cond rfl (fun h91 => ?_) (fun h91 => ?_)
                  · skip
                    refine CW_seq ?_
                    refine CW_region ?_
                    refine OW_q (q_assign rfl) rfl ?_
                    refine OW_q (q_assign rfl) rfl ?_
                    refine OW_q (q_assign rfl) rfl ?_
                    refine OW_nil ?_
                    refine EW_then ?_
                    refine CW_ret ?_
                    refine EW_then_ret ?_
                    refine EW_block_ret ?_
                    refine EW_out_ret ?_
                    refine EW_block_ret ?_
                    refine EW_then_ret ?_
                    refine ret3 Try.results17 rfl rfl rfl (fun w hw => ?_)
                    exact ⟨⟨_, _, [], [], false⟩, rfl, ⟨(fun h => by cases h), (fun _ hm1 hm2 => hcont _ (.bad (by simpa using h39) (by simpa using h49) (fun y q' h1 h2 h3 => by rw [hdx] at h1; cases h1; rw [hq] at h3; cases h3; simpa using h91)))⟩, ((hw.sub .nil).tnil 47 3 encS).tnil 3 1 encN⟩
                  · skip
                    have hql : q.left = it.s.n := by simpa using h91
                    have hr8 := (may_rule hm hq).2.2
                    refine CW_skip ?_
                    refine EW_then ?_
                    refine CW_seq ?_
                    refine CW_drawS 10 [(0, false), (1, false), (2, false), (3, false), (4, false), (5, false), (6, false), (7, false), (8, false), (9, false)] (by kernel_rfl) (Blind.then (Blind.block (Blind.again (Blind.block (Blind.then (Blind.body (by intro c w h; simp at h))))))) (by kernel_rfl) (fun w hw => hw.drew) ?_
                    refine DW_q rfl (fun w hw => hw.sub (by (repeat (first | exact SubL.nil | exact Pick.head | apply Pick.tail | apply SubL.cons)))) (q_fieldAddr Try.underlying24 rfl rfl Try.sizeOf22 rfl rfl) rfl ?_
                    first | (refine DW_q rfl (fun w hw => hw.sub (by (repeat (first | exact SubL.nil | exact Pick.head | apply Pick.tail | apply SubL.cons)))) (q_load1_own Try.isAgg22 rfl rfl (by (repeat (first | exact .head | apply Swap.tail))) (by rfl)) rfl ?_) | (refine DW_q rfl (fun w hw => hw.sub (by (repeat (first | exact SubL.nil | exact Pick.head | apply Pick.tail | apply SubL.cons)))) (q_load1_ro Try.isAgg22 rfl (by first | assumption | exact Row.at_ (by assumption) rfl)) rfl ?_)
                    refine DW_q rfl (fun w hw => hw.sub (by (repeat (first | exact SubL.nil | exact Pick.head | apply Pick.tail | apply SubL.cons)))) (q_move rfl) rfl ?_
                    refine DW_q rfl (fun w hw => hw.sub (by (repeat (first | exact SubL.nil | exact Pick.head | apply Pick.tail | apply SubL.cons)))) (q_move rfl) rfl ?_
                    refine DW_q rfl (fun w hw => hw.sub (by (repeat (first | exact SubL.nil | exact Pick.head | apply Pick.tail | apply SubL.cons)))) (q_indexAddr Try.underlying25 Try.sizeOf3 rfl rfl (by first | omega | assumption)) rfl ?_
                    refine DW_q rfl (fun w hw => hw.sub (by (repeat (first | exact SubL.nil | exact Pick.head | apply Pick.tail | apply SubL.cons)))) (q_load1_ro Try.isAgg3 rfl (by first | assumption | exact Row.at_ (by assumption) rfl)) rfl ?_
                    refine DW_q rfl (fun w hw => hw.sub (by (repeat (first | exact SubL.nil | exact Pick.head | apply Pick.tail | apply SubL.cons)))) (q_indexAddrI Try.underlying22 Try.sizeOf41 rfl rfl (by first | omega | assumption) (by first | omega | assumption)) rfl ?_
                    refine DW_q rfl (fun w hw => hw.sub (by (repeat (first | exact SubL.nil | exact Pick.head | apply Pick.tail | apply SubL.cons)))) (q_fieldAddr Try.underlying41 rfl rfl Try.sizeOf39 rfl rfl) rfl ?_
                    refine DW_q rfl (fun w hw => hw.sub (by (repeat (first | exact SubL.nil | exact Pick.head | apply Pick.tail | apply SubL.cons)))) (q_load1_ro Try.isAgg39 rfl (by first | assumption | exact Row.at_ (by assumption) rfl)) rfl ?_
                    refine DW_q rfl (fun w hw => hw.sub (by (repeat (first | exact SubL.nil | exact Pick.head | apply Pick.tail | apply SubL.cons)))) (q_assign rfl) rfl ?_
                    refine DW_nil ?_
                    refine EW_then ?_
                    refine CW_seq ?_
                    refine CW_region ?_
                    refine OW_q (q_move rfl) rfl ?_
                    refine OW_q (q_move rfl) rfl ?_
                    refine OW_q (q_move rfl) rfl ?_
                    refine OW_q (q_indexAddr Try.underlying25 Try.sizeOf3 rfl rfl (by first | omega | assumption)) rfl ?_
                    refine OW_q (q_load1_ro Try.isAgg3 rfl (by first | assumption | exact Row.at_ (by assumption) rfl)) rfl ?_
                    refine OW_q (q_move rfl) rfl ?_
                    refine OW_q (q_len Try.underlying25 rfl) rfl ?_
                    refine OW_q (q_build (ps := #[(0, vi x), (1, vi out.length)]) (v := .agg #[vi x, vi out.length, vi 0]) rfl (fun w => by kernel_rfl)) rfl ?_
                    refine OW_e (e_single Try.underlying32 Try.sizeOf47 Try.zeroValue47 (e := 47) (v := .agg #[vi x, vi out.length, vi 0]) (cs := [vi x, vi out.length, vi 0]) rfl rfl rfl rfl (by decide) (by decide)) rfl (fun b109 => ?_)
                    refine OW_e (e_append_t (x0 := ⟨x, out.length, 0⟩) (enc := encS) Try.underlying32 Try.typeInfo47 rfl rfl rfl rfl rfl rfl rfl (by repeat (first | exact .head | apply Pick.tail)) rfl (by exact fun w hw => hw.news (by repeat (first | exact .head | apply Swap.tail))) (by simp [Value.oneCell']) (by omega) (by decide)) rfl (fun v110 => ?_)
                    refine OW_q (q_assign rfl) rfl ?_
                    refine OW_nil ?_
                    refine EW_then ?_
                    refine CW_seq ?_
                    refine CW_region ?_
                    refine OW_q (q_move rfl) rfl ?_
                    refine OW_q (q_move rfl) rfl ?_
                    refine OW_q (q_build (ps := #[(1, vb true), (2, vi used)]) (v := .agg #[vb false, vi 0, vb true, vi used]) rfl (fun w => by kernel_rfl)) rfl ?_
                    refine OW_e (e_single Try.underlying65 Try.sizeOf64 Try.zeroValue64 (e := 64) (v := .agg #[vb false, vi 0, vb true, vi used]) (cs := [vb false, vi 0, vb true, vi used]) rfl rfl rfl rfl (by decide) (by decide)) rfl (fun b114 => ?_)
                    refine OW_e (e_append_t (x0 := mkC used) (enc := encO) Try.underlying65 Try.typeInfo64 rfl rfl rfl rfl rfl rfl rfl (by repeat (first | exact .head | apply Pick.tail)) rfl (by exact fun w hw => hw.news (by repeat (first | exact .head | apply Swap.tail))) (by simp [Value.oneCell']) (by simp only [List.length_reverse]; omega) (by decide)) rfl (fun v115 => ?_)
                    refine OW_q (q_assign rfl) rfl ?_
                    refine OW_nil ?_
                    refine EW_then ?_
                    refine CW_seq ?_
                    refine CW_seq ?_
                    refine CW_region ?_
                    refine OW_q (q_move rfl) rfl ?_
                    refine OW_q (q_len Try.underlying39 rfl) rfl ?_
                    refine OW_q (q_sub rfl rfl (by omega) (by omega)) rfl ?_
                    refine OW_q (q_assign rfl) rfl ?_
                    refine OW_nil ?_
                    refine EW_then ?_
                    refine CW_block ?_
                    refine CW_loopP (ι := Nat × Value) (fun i_ => i_.1 ≤ q.right.length) (fun i_ => [(1, .slice (some pd) d.length c2), (2, .pointer (some ⟨b2, 0, none⟩)), (7, .slice a7 out.length c7), (8, v110), (9, i_.2), (10, .int .i64 (used : Int)), (12, .slice a12 q.right.length c12), (13, .int .i64 ((i_.1 : Int) - 1))]) (fun i_ => Sat (Old w) w [trow 64 4 encO i_.2 ((q.right.drop i_.1).map mkS ++ mkC used :: st).reverse, trow 47 3 encS v110 (sp ++ [⟨x, out.length, 0⟩]), trow 3 1 encN (.slice a7 out.length c7) out, cel b2 24 [.int .i64 g.terms, .int .i64 g.names, .slice (some p) g.rules.length c]]) (fun i_ => i_.1) (q.right.length, v115) ?_ ⟨rfl, rfl, rfl, rfl, rfl, rfl, rfl, rfl, trivial⟩ (fun w hw => by rw [List.drop_length, List.map_nil, List.nil_append, List.reverse_cons]; exact hw.sub (by repeat (first | exact SubL.nil | exact Pick.head | apply Pick.tail | apply SubL.cons))) ?_
                    · exact Nat.le_refl _
                    intro i_ hpre
                    obtain ⟨k, v9⟩ := i_
                    replace hpre : k ≤ q.right.length := hpre
                    change CW _ _ _ _ [(1, .slice (some pd) d.length c2), (2, .pointer (some ⟨b2, 0, none⟩)), (7, .slice a7 out.length c7), (8, v110), (9, v9), (10, .int .i64 (used : Int)), (12, .slice a12 q.right.length c12), (13, .int .i64 ((k : Int) - 1))] (Sat (Old w) w [trow 64 4 encO v9 ((q.right.drop k).map mkS ++ mkC used :: st).reverse, trow 47 3 encS v110 (sp ++ [⟨x, out.length, 0⟩]), trow 3 1 encN (.slice a7 out.length c7) out, cel b2 24 [.int .i64 g.terms, .int .i64 g.names, .slice (some p) g.rules.length c]])
                    refine CW_seq ?_
                    refine CW_seq ?_
                    refine CW_region ?_
                    refine OW_q (q_move rfl) rfl ?_
                    refine OW_q (q_geq rfl rfl) rfl ?_
                    refine OW_nil ?_
                    refine EW_then ?_
                    refine CW_cond rfl (fun h120 => ?_) (fun h120 => ?_)
                    · skip
                      obtain ⟨k, rfl⟩ : ∃ j, k = j + 1 := by
                        cases k with
                        | zero => simp at h120
                        | succ k => exact ⟨k, rfl⟩
                      obtain ⟨s, hs⟩ := get_of_lt (l := q.right) (k := k) (by omega)
                      obtain ⟨p12, rfl, hrow2⟩ := hss k s hs
                      refine CW_spell 13 (.int .i64 (k : Int)) rfl (by simp) ?_
                      refine CW_skip ?_
                      refine EW_then ?_
                      refine CW_seq ?_
                      refine CW_block ?_
                      refine CW_region ?_
                      refine OW_q (q_move rfl) rfl ?_
                      refine OW_q (q_move rfl) rfl ?_
                      refine OW_q (q_move rfl) rfl ?_
                      refine OW_q (q_indexAddr Try.underlying39 Try.sizeOf62 rfl rfl (by first | omega | assumption)) rfl ?_
                      refine OW_q (q_loadN_ro Try.isAgg62 Try.sizeOf62 rfl (by first | assumption | exact Row.at_ (by assumption) rfl) (by rfl)) rfl ?_
                      refine OW_q (q_build (ps := #[(0, .agg #[vb s.term, vi s.n])]) (v := .agg #[vb s.term, vi s.n, vb false, vi 0]) rfl (fun w => by kernel_rfl)) rfl ?_
                      refine OW_e (e_single Try.underlying65 Try.sizeOf64 Try.zeroValue64 (e := 64) (v := .agg #[vb s.term, vi s.n, vb false, vi 0]) (cs := [vb s.term, vi s.n, vb false, vi 0]) rfl rfl rfl rfl (by decide) (by decide)) rfl (fun b129 => ?_)
                      refine OW_e (e_append_t (x0 := mkS s) (enc := encO) Try.underlying65 Try.typeInfo64 rfl rfl rfl rfl rfl rfl rfl (by repeat (first | exact .head | apply Pick.tail)) rfl (by exact fun w hw => hw.news (by repeat (first | exact .head | apply Swap.tail))) (by simp [Value.oneCell']) (by simp only [List.length_append, List.length_reverse, List.length_cons, List.length_map, List.length_drop]; omega) (by decide)) rfl (fun v130 => ?_)
                      refine OW_q (q_assign rfl) rfl ?_
                      refine OW_nil ?_
                      refine EW_block_normal ?_
                      refine EW_then ?_
                      refine CW_region ?_
                      refine OW_q (q_move rfl) rfl ?_
                      refine OW_q (q_sub rfl rfl (by omega) (by omega)) rfl ?_
                      refine OW_q (q_assign rfl) rfl ?_
                      refine OW_nil ?_
                      refine EW_again ((k, v130)) ⟨?_, ?_⟩ ⟨rfl, rfl, rfl, rfl, rfl, rfl, rfl, rfl, trivial⟩ (fun w hw => by dsimp only; rw [drop_cons hs, List.map_cons, List.cons_append, List.reverse_cons]; exact hw.sub (by repeat (first | exact SubL.nil | exact Pick.head | apply Pick.tail | apply SubL.cons)))
                      · show k < k + 1; omega
                      · show k ≤ _; omega
                    · skip
                      obtain rfl : k = 0 := by
                        cases k with
                        | zero => rfl
                        | succ k => exfalso; have := of_decide_eq_false h120; omega
                      refine CW_weak (fun w hw => by rw [List.drop_zero] at hw; exact hw) ?_
                      refine CW_exit ?_
                      refine EW_then_exit ?_
                      refine EW_out ?_
                      refine EW_block_exit ?_
                      refine EW_then ?_
                      refine CW_region ?_
                      refine OW_q (q_move rfl) rfl ?_
                      first | refine OW_q (q_inc rfl rfl (by omega)) rfl ?_ | refine OW_q (q_add rfl rfl (by omega) (by omega)) rfl ?_
                      refine OW_q (q_assign rfl) rfl ?_
                      refine OW_nil ?_
                      refine EW_block_normal ?_
                      refine EW_again ((q.right.map mkS ++ mkC used :: st, used + 1, out, sp ++ [⟨x, out.length, 0⟩], .slice a7 out.length c7, v110, v9)) ⟨?_, ?_⟩ ⟨rfl, rfl, rfl, rfl, rfl, rfl, trivial⟩ (fun w hw => hw.sub (by (repeat (first | exact SubL.nil | exact Pick.head | apply Pick.tail | apply SubL.cons))))
                      · show (d.length - (used + 1)) * 10 + (q.right.map mkS ++ mkC used :: st).length < (d.length - used) * 10 + (st.length + 1); rw [List.length_append, List.length_map, List.length_cons]; omega
                      · refine ⟨hul, by show (sp ++ [_]).length = _; rw [List.length_append, List.length_singleton, hspl], fun i hi hc => ?_, by show out.length + (q.right.map mkS ++ mkC used :: st).length ≤ 1 + 9 * (used + 1); rw [List.length_append, List.length_map, List.length_cons]; omega, fun r hr => hcont r (.rule (by simpa using h39) (by simpa using h49) hdx hx0 hq hql hr)⟩
                        rcases List.mem_append.1 hi with hi | hi
                        · obtain ⟨s, _, rfl⟩ := List.mem_map.1 hi
                          cases hc
                        · rcases List.mem_cons.1 hi with rfl | hi
                          · show 0 ≤ (used : Int) ∧ (used : Int) < ((used + 1 : Nat) : Int)
                            omega
                          · have := hcl i (List.mem_cons_of_mem _ hi) hc
                            show 0 ≤ i.span ∧ i.span < ((used + 1 : Nat) : Int)
                            omega
      · skip
        obtain rfl : st = [] := by
          cases st with
          | nil => rfl
          | cons it s => exfalso; have := of_decide_eq_false h26; simp only [List.length_cons] at this; omega
        refine CW_exit ?_
        refine EW_then_exit ?_
        refine EW_out ?_
        refine EW_block_exit ?_
        refine EW_then ?_
        refine CW_seq ?_
        refine CW_seq ?_
        refine CW_region ?_
        refine OW_q (q_move rfl) rfl ?_
        refine OW_q (q_move rfl) rfl ?_
        refine OW_q (q_len Try.underlying25 rfl) rfl ?_
        refine OW_q (q_nei rfl rfl) rfl ?_
        refine OW_nil ?_
        refine EW_then ?_
        refine CW_cond rfl (fun h136 => ?_) (fun h136 => ?_)
        · skip
          have hne : used ≠ d.length := by simp at h136; omega
          refine CW_seq ?_
          refine CW_region ?_
          refine OW_q (q_assign rfl) rfl ?_
          refine OW_q (q_assign rfl) rfl ?_
          refine OW_q (q_assign rfl) rfl ?_
          refine OW_nil ?_
          refine EW_then ?_
          refine CW_ret ?_
          refine EW_then_ret ?_
          refine ret3 Try.results17 rfl rfl rfl (fun w hw => ?_)
          exact ⟨⟨_, _, [], [], false⟩, rfl, ⟨(fun h => by cases h), (fun _ hm1 hm2 => hcont _ (.short hne))⟩, ((hw.sub .nil).tnil 47 3 encS).tnil 3 1 encN⟩
        · skip
          have heq : used = d.length := by simp at h136; omega
          refine CW_skip ?_
          refine EW_then ?_
          refine CW_seq ?_
          refine CW_region ?_
          refine OW_q (q_move rfl) rfl ?_
          refine OW_q (q_move rfl) rfl ?_
          refine OW_q (q_assign rfl) rfl ?_
          refine OW_q (q_assign rfl) rfl ?_
          refine OW_q (q_assign rfl) rfl ?_
          refine OW_nil ?_
          refine EW_then ?_
          refine CW_ret ?_
          refine ret3 Try.results17 rfl rfl rfl (fun w hw => ?_)
          exact ⟨⟨_, _, out, sp, true⟩, rfl, ⟨(fun _ => ⟨hm, hdl, hcont _ (.done heq)⟩), (fun h => by cases h)⟩, hw.sub (by repeat (first | exact SubL.nil | exact Pick.head | apply Pick.tail | apply SubL.cons))⟩

end Go.Sy
