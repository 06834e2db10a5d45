/- GramSpans. No condition. -/
import Derived.Test.YteceklkjbcebkaaW25
namespace Go.Sy
open Go Go.RowKit Go.Proofs

/-- A grammar of one rule, that becomes nothing. -/
def one1 : Gram := ⟨0, 1, [⟨0, []⟩]⟩
section
variable {R : Nat → Prop} {w0 w : World} {L L' : List HP}
theorem one_gram {b : Nat} {T : TypeId} (h : Sat R w0 L w) (s : Swap L (cel b T [.int .i64 0, .slice none 0 0]) (cel b T [.int .i64 0, .slice none 0 0]) L') : GramAt (Cl w) (.agg #[.int .i64 0, .int .i64 1, .slice (some ⟨b, 0, none⟩) 1 1]) one1 := by
  refine ⟨_, rfl, some ⟨b, 0, none⟩, 1, rfl, Nat.le_refl _, by omega, fun k x hx => ?_⟩
  have hk : k = 0 := by have := (List.getElem?_eq_some_iff.1 hx).1; simp only [one1, List.length_singleton] at this; omega
  subst hk
  cases hx
  refine ⟨_, rfl, .slice none 0 0, ⟨none, 0, rfl, Nat.le_refl _, by omega, fun k x hx => by cases hx⟩, fun j u hj => ?_⟩
  rw [Nat.zero_mul, Addr.add_zero', Addr.add_lit, Nat.zero_add]
  show w.cell? _ = _
  rw [h.cell s]; exact hj
theorem one_ints {b : Nat} {T : TypeId} (h : Sat R w0 L w) (s : Swap L (cel b T [.int .i64 0]) (cel b T [.int .i64 0]) L') : IntsAt (Cl w) (.slice (some ⟨b, 0, none⟩) 1 1) [0] := by
  refine ⟨some ⟨b, 0, none⟩, 1, rfl, Nat.le_refl _, by omega, fun k x hx => ?_⟩
  have hk : k = 0 := by have := (List.getElem?_eq_some_iff.1 hx).1; simp only [List.length_singleton] at this; omega
  subst hk
  cases hx
  refine ⟨_, rfl, ?_⟩
  show w.cell? _ = _
  rw [Nat.zero_mul, Addr.add_zero', h.cell s]; rfl
end
theorem one_may : mayB one1 = true := by decide
theorem one_ok {x : WR} (h : WkOk one1 [0] x) : x.ok = true := by
  cases hx : x.ok with
  | true => rfl
  | false =>
    have h1 : PS one1 top0 [0] (some (.cons 0 .nil .nil, [])) := .ok (q := ⟨0, []⟩) rfl (by decide) rfl rfl .nil .nil
    obtain ⟨o, s, h2⟩ := ps_ws h1
    have e := thru_det (ps_top_ok h1 h2) _ (wk_none h hx one_may (by decide))
    cases e

set_option maxRecDepth 20000 in
theorem gramSpans_any (gv dv : Value) (g : Gram) (d : List Int) (w : World) (hg : GramAt (Cl w) gv g) (hd : IntsAt (Cl w) dv d) : Calls Try.prog 7 #[gv, dv] w (fun e w' => e = .returned (.bool true) ∧ Sat (Old w) w [] w') := by
  have hg0 := hg
  obtain ⟨rv, rfl, hr⟩ := hg.mono old_rd
  have hrr := hr
  obtain ⟨a, c, rfl, hc1, hc2, hrs⟩ := hr
  have hdd := hd.mono old_rd
  obtain ⟨a2, c2, rfl, hd1, hd2, hds⟩ := id hdd
  have hd0 := hd
  refine calls_CW Try.func7 rfl Try.ntmps7 rfl (Sat.start w) ?_
  refine CW_seq ?_
  refine CW_region ?_
  refine OW_e (e_box rfl rfl) rfl (fun b2 => ?_)
  refine OW_q (q_assign rfl) rfl ?_
  refine OW_nil ?_
  refine EW_then ?_
  refine CW_seq ?_
  refine CW_region ?_
  first | (refine OW_q (q_loadN_own Try.isAgg24 Try.sizeOf24 rfl rfl (by (repeat (first | exact .head | apply Swap.tail))) (by rfl)) rfl ?_) | (refine OW_q (q_loadN_ro Try.isAgg24 Try.sizeOf24 rfl (by first | assumption | exact Row.at_ (by assumption) rfl) (by rfl)) rfl ?_)
  refine OW_q (q_move rfl) rfl ?_
  refine OW_e (e_call Try.call21 rfl (fun w hw => lift_oldP (yield_any _ _ g d w (hg0.mono (fun _ _ h => hw.rd (Rd.old h))) (hd0.mono (fun _ _ h => hw.rd (Rd.old h)))) hw)) rfl (fun x16 => ?_)
  refine OW_pure fun hx16 => ?_
  refine OW_q (q_move rfl) rfl ?_
  refine OW_q (q_extract rfl rfl) rfl ?_
  refine OW_q (q_extract rfl rfl) rfl ?_
  refine OW_q (q_assign rfl) rfl ?_
  refine OW_q (q_assign rfl) rfl ?_
  refine OW_nil ?_
  refine EW_then ?_
  refine CW_seq ?_
  refine CW_region ?_
  first | (refine OW_q (q_loadN_own Try.isAgg24 Try.sizeOf24 rfl rfl (by (repeat (first | exact .head | apply Swap.tail))) (by rfl)) rfl ?_) | (refine OW_q (q_loadN_ro Try.isAgg24 Try.sizeOf24 rfl (by first | assumption | exact Row.at_ (by assumption) rfl) (by rfl)) rfl ?_)
  refine OW_q (q_move rfl) rfl ?_
  refine OW_e (e_call Try.call22 rfl (fun w hw => lift_oldP (spans_any _ _ g d w (hg0.mono (fun _ _ h => hw.rd (Rd.old h))) (hd0.mono (fun _ _ h => hw.rd (Rd.old h)))) hw)) rfl (fun x22 => ?_)
  refine OW_pure fun hx22 => ?_
  obtain ⟨e1, e2, e3⟩ := wk_wk hx16 hx22
  refine OW_q (q_move rfl) rfl ?_
  refine OW_q (q_extract rfl rfl) rfl ?_
  refine OW_q (q_extract rfl rfl) rfl ?_
  refine OW_q (q_assign rfl) rfl ?_
  refine OW_q (q_assign rfl) rfl ?_
  refine OW_nil ?_
  refine EW_then ?_
  refine CW_seq ?_
  refine CW_region ?_
  refine OW_q (q_build (ps := #[]) (v := .agg #[.int .i64 0, .slice none 0 0]) rfl (fun w => by kernel_rfl)) rfl ?_
  refine OW_e (e_single Try.underlying22 Try.sizeOf41 Try.zeroValue41 (e := 41) (v := .agg #[.int .i64 0, .slice none 0 0]) (cs := [.int .i64 0, .slice none 0 0]) rfl rfl rfl rfl (by decide) (by decide)) rfl (fun b26 => ?_)
  refine OW_q (q_build (ps := #[(1, .int .i64 1), (2, .slice (some ⟨b26, 0, none⟩) 1 1)]) (v := .agg #[.int .i64 0, .int .i64 1, .slice (some ⟨b26, 0, none⟩) 1 1]) rfl (fun w => by kernel_rfl)) rfl ?_
  refine OW_e (e_alloc Try.zeroValue24 rfl) rfl (fun b9 => ?_)
  refine OW_e0 (e_storeN Try.sizeOf24 rfl rfl rfl rfl (by simp [Value.oneCell']) (by (repeat (first | exact .head | apply Swap.tail))) (by rfl)) (fun _ => ?_)
  refine OW_nil ?_
  refine EW_then ?_
  refine CW_seq ?_
  refine CW_region ?_
  first | (refine OW_q (q_loadN_own Try.isAgg24 Try.sizeOf24 rfl rfl (by (repeat (first | exact .head | apply Swap.tail))) (by rfl)) rfl ?_) | (refine OW_q (q_loadN_ro Try.isAgg24 Try.sizeOf24 rfl (by first | assumption | exact Row.at_ (by assumption) rfl) (by rfl)) rfl ?_)
  refine OW_e (e_single Try.underlying25 Try.sizeOf3 Try.zeroValue3 (e := 3) (v := .int .i64 0) (cs := [.int .i64 0]) rfl rfl rfl rfl (by decide) (by decide)) rfl (fun b30 => ?_)
  refine OW_e (e_call Try.call21 rfl (fun w hw => lift_oldP (yield_any _ _ one1 [0] w (one_gram (b := b26) (T := 41) hw (by repeat (first | exact .head | apply Swap.tail))) (one_ints (b := b30) (T := 3) hw (by repeat (first | exact .head | apply Swap.tail)))) hw)) rfl (fun x31 => ?_)
  refine OW_pure fun hx31 => ?_
  have hone := one_ok hx31
  refine OW_q (q_move rfl) rfl ?_
  refine OW_q (q_extract rfl rfl) rfl ?_
  refine OW_q (q_extract rfl rfl) rfl ?_
  refine OW_q (q_assign rfl) rfl ?_
  refine OW_q (q_assign rfl) rfl ?_
  refine OW_nil ?_
  refine EW_then ?_
  refine CW_seq ?_
  refine CW_seq ?_
  refine CW_region ?_
  refine OW_q (q_move rfl) rfl ?_
  refine OW_q (q_not rfl) rfl ?_
  refine OW_q (q_move rfl) rfl ?_
  refine OW_part (t := 36) rfl (fun hg36 => ?_) (fun hg36 => ?_)
  · skip
    exact absurd hg36 (by simp [hone]) --stop
  · skip
    refine OW_wanted rfl rfl rfl ?_
    refine OW_q (q_move rfl) rfl ?_
    refine OW_wanted rfl rfl rfl ?_
    refine OW_q (q_move rfl) rfl ?_
    refine OW_wanted rfl rfl rfl ?_
    refine OW_q (q_neb Try.underlying4 rfl rfl) rfl ?_
    refine OW_q (q_pick_f rfl rfl) rfl ?_
    refine OW_nil ?_
    refine EW_then ?_
    refine CW_false rfl (by simp [e1]) ?_
    refine CW_skip ?_
    refine EW_then ?_
    refine CW_seq ?_
    refine CW_seq ?_
    refine CW_region ?_
    refine OW_q (q_move rfl) rfl ?_
    refine OW_q (q_not rfl) rfl ?_
    refine OW_nil ?_
    refine EW_then ?_
    refine CW_cond rfl (fun h42 => ?_) (fun h42 => ?_)
    · skip
      have hn := (hx16.2 (by simpa using h42)).1
      have hn2 := (hx22.2 (by rw [← e1]; simpa using h42)).1
      have hz1 : x16.tk.length = 0 := by rw [hn.1]; rfl
      have hz2 : x22.sp.length = 0 := by rw [hn2.2]; rfl
      refine CW_seq ?_
      refine CW_fact (fun w hw => hw.tform (v := x22.v2) (l := x22.sp) (by repeat (first | exact .head | apply Swap.tail))) (fun hf => ?_)
      obtain ⟨a5, c5, hv5, hv5a, hv5b, hv5c⟩ := hf
      refine CW_spell 7 (.slice a5 x22.sp.length c5) rfl hv5 ?_
      refine CW_fact (fun w hw => hw.tform (v := x16.v1) (l := x16.tk) (by repeat (first | exact .head | apply Swap.tail))) (fun hf => ?_)
      obtain ⟨a6, c6, hv6, hv6a, hv6b, hv6c⟩ := hf
      refine CW_spell 5 (.slice a6 x16.tk.length c6) rfl hv6 ?_
      
      refine CW_region ?_
      refine OW_q (q_move rfl) rfl ?_
      refine OW_q (q_len Try.underlying25 rfl) rfl ?_
      refine OW_q (q_move rfl) rfl ?_
      refine OW_q (q_len Try.underlying32 rfl) rfl ?_
      first | refine OW_q (q_inc rfl rfl (by omega)) rfl ?_ | refine OW_q (q_add rfl rfl (by omega) (by omega)) rfl ?_
      refine OW_q (q_eqi rfl rfl) rfl ?_
      refine OW_q (q_assign rfl) rfl ?_
      refine OW_nil ?_
      refine EW_then ?_
      refine CW_ret ?_
      refine EW_then_ret ?_
      refine ret1 Try.results7 rfl (fun w hw => ?_)
      exact ⟨(rt (B := _) (by simp [hn.1, hn2.2])).symm, hw.sub .nil⟩
    · skip
      refine CW_skip ?_
      refine EW_then ?_
      refine CW_seq ?_
      refine CW_seq ?_
      have hok : x22.ok = true := by rw [← e1]; simpa using h42
      obtain ⟨hsl, hdp, ⟨r0, hy0⟩, hall, hmon⟩ := wk_spans hx22 hok
      have hy00 : x22.sp[(0 : Int).toNat]? = some ⟨r0, 0, x22.tk.length⟩ := hy0
      refine CW_fact (fun w hw => hw.tform (v := x22.v2) (l := x22.sp) (by repeat (first | exact .head | apply Swap.tail))) (fun hf => ?_)
      obtain ⟨a5, c5, hv5, hv5a, hv5b, hv5c⟩ := hf
      refine CW_spell 7 (.slice a5 x22.sp.length c5) rfl hv5 ?_
      refine CW_fact (fun w hw => hw.tform (v := x16.v1) (l := x16.tk) (by repeat (first | exact .head | apply Swap.tail))) (fun hf => ?_)
      obtain ⟨a6, c6, hv6, hv6a, hv6b, hv6c⟩ := hf
      refine CW_spell 5 (.slice a6 x16.tk.length c6) rfl hv6 ?_
      obtain ⟨b5, rfl⟩ := hv5c (by omega)
      refine CW_region ?_
      refine OW_q (q_move rfl) rfl ?_
      refine OW_q (q_len Try.underlying32 rfl) rfl ?_
      refine OW_q (q_move rfl) rfl ?_
      refine OW_q (q_len Try.underlying25 rfl) rfl ?_
      refine OW_q (q_nei rfl rfl) rfl ?_
      refine OW_q (q_move rfl) rfl ?_
      refine OW_part (t := 54) rfl (fun hg54 => ?_) (fun hg54 => ?_)
      · skip
        exact absurd hg54 (by simp [hsl]) --stop
      · skip
        refine OW_wanted rfl rfl rfl ?_
        refine OW_q (q_move rfl) rfl ?_
        refine OW_wanted rfl rfl rfl ?_
        refine OW_q (q_len Try.underlying32 rfl) rfl ?_
        refine OW_wanted rfl rfl rfl ?_
        refine OW_q (q_eqi rfl rfl) rfl ?_
        refine OW_q (q_pick_f rfl rfl) rfl ?_
        refine OW_q (q_move rfl) rfl ?_
        refine OW_part (t := 59) rfl (fun hg59 => ?_) (fun hg59 => ?_)
        · skip
          exact absurd (eq_of_beq hg59) (by omega) --stop
        · skip
          refine OW_wanted rfl rfl rfl ?_
          refine OW_q (q_move rfl) rfl ?_
          refine OW_wanted rfl rfl rfl ?_
          refine OW_q (q_indexAddrI Try.underlying32 Try.sizeOf47 rfl rfl (by first | omega | assumption) (by first | omega | assumption)) rfl ?_
          refine OW_wanted rfl rfl rfl ?_
          refine OW_q (q_fieldAddr Try.underlying47 rfl rfl Try.sizeOf3 rfl rfl) rfl ?_
          refine OW_wanted rfl rfl rfl ?_
          refine OW_q (q_load1_t (enc := encS) (k := (0 : Int).toNat) (off := 1) (v := x22.v2) (l := x22.sp) Try.isAgg3 (fun _ => rfl) rfl (by repeat (first | exact .head | apply Swap.tail)) hv5 hy00 rfl) rfl ?_
          refine OW_wanted rfl rfl rfl ?_
          refine OW_q (q_nei rfl rfl) rfl ?_
          refine OW_q (q_pick_f rfl rfl) rfl ?_
          refine OW_q (q_move rfl) rfl ?_
          refine OW_part (t := 66) rfl (fun hg66 => ?_) (fun hg66 => ?_)
          · skip
            exact absurd hg66 (by simp) --stop
          · skip
            refine OW_wanted rfl rfl rfl ?_
            refine OW_q (q_move rfl) rfl ?_
            refine OW_wanted rfl rfl rfl ?_
            refine OW_q (q_indexAddrI Try.underlying32 Try.sizeOf47 rfl rfl (by first | omega | assumption) (by first | omega | assumption)) rfl ?_
            refine OW_wanted rfl rfl rfl ?_
            refine OW_q (q_fieldAddr Try.underlying47 rfl rfl Try.sizeOf3 rfl rfl) rfl ?_
            refine OW_wanted rfl rfl rfl ?_
            refine OW_q (q_load1_t (enc := encS) (k := (0 : Int).toNat) (off := 2) (v := x22.v2) (l := x22.sp) Try.isAgg3 (fun _ => rfl) rfl (by repeat (first | exact .head | apply Swap.tail)) hv5 hy00 rfl) rfl ?_
            refine OW_wanted rfl rfl rfl ?_
            refine OW_q (q_move rfl) rfl ?_
            refine OW_wanted rfl rfl rfl ?_
            refine OW_q (q_len Try.underlying25 rfl) rfl ?_
            refine OW_wanted rfl rfl rfl ?_
            refine OW_q (q_nei rfl rfl) rfl ?_
            refine OW_q (q_pick_f rfl rfl) rfl ?_
            refine OW_nil ?_
            refine EW_then ?_
            refine CW_false rfl (by simp [e2]) ?_
            refine CW_skip ?_
            refine EW_then ?_
            refine CW_seq ?_
            refine CW_seq ?_
            refine CW_region ?_
            refine OW_q (q_assign rfl) rfl ?_
            refine OW_nil ?_
            refine EW_then ?_
            refine CW_block ?_
            refine CW_loopP (ι := Nat) (fun i => i ≤ x22.sp.length) (fun i => [(1, .slice a2 d.length c2), (5, .slice a6 x16.tk.length c6), (7, .slice (some ⟨b5, 0, none⟩) x22.sp.length c5), (12, .int .i64 (i : Int))]) (fun i => Sat (Old w) w [trow 47 3 encS x22.v2 x22.sp]) (fun i => x22.sp.length - i) 0 ?_ ⟨rfl, rfl, rfl, rfl, trivial⟩ (fun w hw => hw.sub (by (repeat (first | exact SubL.nil | exact Pick.head | apply Pick.tail | apply SubL.cons)))) ?_
            · exact Nat.zero_le _
            intro i hpre
            change CW _ _ _ _ [(1, .slice a2 d.length c2), (5, .slice a6 x16.tk.length c6), (7, .slice (some ⟨b5, 0, none⟩) x22.sp.length c5), (12, .int .i64 (i : Int))] (Sat (Old w) w [trow 47 3 encS x22.v2 x22.sp])
            refine CW_seq ?_
            refine CW_seq ?_
            refine CW_region ?_
            refine OW_q (q_move rfl) rfl ?_
            refine OW_q (q_move rfl) rfl ?_
            refine OW_q (q_len Try.underlying32 rfl) rfl ?_
            refine OW_q (q_lss rfl rfl) rfl ?_
            refine OW_nil ?_
            refine EW_then ?_
            refine CW_cond rfl (fun h78 => ?_) (fun h78 => ?_)
            · skip
              have hlt : i < x22.sp.length := by have := of_decide_eq_true h78; omega
              obtain ⟨y, hy⟩ := get_of_lt hlt
              obtain ⟨hyd, hy1, hy2⟩ := hall i y hy
              obtain ⟨pd, rfl, hrd⟩ := hds i _ hyd
              refine CW_skip ?_
              refine EW_then ?_
              refine CW_seq ?_
              refine CW_block ?_
              refine CW_seq ?_
              refine CW_drawS 51 [(0, false), (1, false), (2, false), (3, false), (4, false), (5, false), (6, false), (7, false), (8, false), (9, false), (10, false), (11, false), (12, false), (13, false), (14, false), (15, false), (16, false), (17, false), (18, false), (19, false), (20, false), (21, false), (22, false), (23, false), (24, false), (25, false), (26, false), (27, false), (28, false), (29, false), (30, false), (31, false), (32, false), (33, false), (34, false), (35, false), (36, false), (37, false), (38, false), (39, false), (40, false), (41, false), (42, false), (43, false), (44, false), (45, false), (46, false), (47, false), (48, false), (49, false), (50, false)] (by kernel_rfl) (Blind.then (Blind.block (Blind.then (Blind.again (Blind.block (Blind.then (Blind.body (by intro c w h; simp at h)))))))) (by kernel_rfl) (fun w hw => hw.drew) ?_
              refine DW_q rfl (fun w hw => hw.sub (by (repeat (first | exact SubL.nil | exact Pick.head | apply Pick.tail | apply SubL.cons)))) (q_move rfl) rfl ?_
              refine DW_q rfl (fun w hw => hw.sub (by (repeat (first | exact SubL.nil | exact Pick.head | apply Pick.tail | apply SubL.cons)))) (q_move rfl) rfl ?_
              refine DW_q rfl (fun w hw => hw.sub (by (repeat (first | exact SubL.nil | exact Pick.head | apply Pick.tail | apply SubL.cons)))) (q_indexAddr Try.underlying32 Try.sizeOf47 rfl rfl (by first | omega | assumption)) rfl ?_
              refine DW_q rfl (fun w hw => hw.sub (by (repeat (first | exact SubL.nil | exact Pick.head | apply Pick.tail | apply SubL.cons)))) (q_fieldAddr Try.underlying47 rfl rfl Try.sizeOf3 rfl rfl) rfl ?_
              refine DW_q rfl (fun w hw => hw.sub (by repeat (first | exact SubL.nil | exact Pick.head | apply Pick.tail | apply SubL.cons))) (q_load1_t (enc := encS) (k := i) (off := 0) (v := x22.v2) (l := x22.sp) Try.isAgg3 (fun _ => rfl) rfl (by repeat (first | exact .head | apply Swap.tail)) hv5 hy rfl) rfl ?_
              refine DW_q rfl (fun w hw => hw.sub (by (repeat (first | exact SubL.nil | exact Pick.head | apply Pick.tail | apply SubL.cons)))) (q_move rfl) rfl ?_
              refine DW_q rfl (fun w hw => hw.sub (by (repeat (first | exact SubL.nil | exact Pick.head | apply Pick.tail | apply SubL.cons)))) (q_move rfl) rfl ?_
              refine DW_q rfl (fun w hw => hw.sub (by (repeat (first | exact SubL.nil | exact Pick.head | apply Pick.tail | apply SubL.cons)))) (q_indexAddr Try.underlying25 Try.sizeOf3 rfl rfl (by first | omega | assumption)) rfl ?_
              refine DW_q rfl (fun w hw => hw.sub (by (repeat (first | exact SubL.nil | exact Pick.head | apply Pick.tail | apply SubL.cons)))) (q_load1_ro Try.isAgg3 rfl (by first | exact hrd)) rfl ?_
              refine DW_q rfl (fun w hw => hw.sub (by (repeat (first | exact SubL.nil | exact Pick.head | apply Pick.tail | apply SubL.cons)))) (q_nei rfl rfl) rfl ?_
              refine DW_q rfl (fun w hw => hw.sub (by (repeat (first | exact SubL.nil | exact Pick.head | apply Pick.tail | apply SubL.cons)))) (q_move rfl) rfl ?_
              refine DW_part (t := 91) rfl (fun hg91 => ?_) (fun hg91 => ?_)
              · skip
                exact absurd hg91 (by simp) --stop
              · skip
                refine DW_qg rfl (fun w hw => hw.sub (by (repeat (first | exact SubL.nil | exact Pick.head | apply Pick.tail | apply SubL.cons)))) rfl rfl rfl (q_move rfl) rfl ?_
                refine DW_qg rfl (fun w hw => hw.sub (by (repeat (first | exact SubL.nil | exact Pick.head | apply Pick.tail | apply SubL.cons)))) rfl rfl rfl (q_move rfl) rfl ?_
                refine DW_qg rfl (fun w hw => hw.sub (by (repeat (first | exact SubL.nil | exact Pick.head | apply Pick.tail | apply SubL.cons)))) rfl rfl rfl (q_indexAddr Try.underlying32 Try.sizeOf47 rfl rfl (by first | omega | assumption)) rfl ?_
                refine DW_qg rfl (fun w hw => hw.sub (by (repeat (first | exact SubL.nil | exact Pick.head | apply Pick.tail | apply SubL.cons)))) rfl rfl rfl (q_fieldAddr Try.underlying47 rfl rfl Try.sizeOf3 rfl rfl) rfl ?_
                refine DW_qg rfl (fun w hw => hw.sub (by repeat (first | exact SubL.nil | exact Pick.head | apply Pick.tail | apply SubL.cons))) rfl rfl rfl (q_load1_t (enc := encS) (k := i) (off := 1) (v := x22.v2) (l := x22.sp) Try.isAgg3 (fun _ => rfl) rfl (by repeat (first | exact .head | apply Swap.tail)) hv5 hy rfl) rfl ?_
                refine DW_qg rfl (fun w hw => hw.sub (by (repeat (first | exact SubL.nil | exact Pick.head | apply Pick.tail | apply SubL.cons)))) rfl rfl rfl (q_move rfl) rfl ?_
                refine DW_qg rfl (fun w hw => hw.sub (by (repeat (first | exact SubL.nil | exact Pick.head | apply Pick.tail | apply SubL.cons)))) rfl rfl rfl (q_move rfl) rfl ?_
                refine DW_qg rfl (fun w hw => hw.sub (by (repeat (first | exact SubL.nil | exact Pick.head | apply Pick.tail | apply SubL.cons)))) rfl rfl rfl (q_indexAddr Try.underlying32 Try.sizeOf47 rfl rfl (by first | omega | assumption)) rfl ?_
                refine DW_qg rfl (fun w hw => hw.sub (by (repeat (first | exact SubL.nil | exact Pick.head | apply Pick.tail | apply SubL.cons)))) rfl rfl rfl (q_fieldAddr Try.underlying47 rfl rfl Try.sizeOf3 rfl rfl) rfl ?_
                refine DW_qg rfl (fun w hw => hw.sub (by repeat (first | exact SubL.nil | exact Pick.head | apply Pick.tail | apply SubL.cons))) rfl rfl rfl (q_load1_t (enc := encS) (k := i) (off := 2) (v := x22.v2) (l := x22.sp) Try.isAgg3 (fun _ => rfl) rfl (by repeat (first | exact .head | apply Swap.tail)) hv5 hy rfl) rfl ?_
                refine DW_qg rfl (fun w hw => hw.sub (by (repeat (first | exact SubL.nil | exact Pick.head | apply Pick.tail | apply SubL.cons)))) rfl rfl rfl (q_gtr rfl rfl) rfl ?_
                refine DW_q rfl (fun w hw => hw.sub (by (repeat (first | exact SubL.nil | exact Pick.head | apply Pick.tail | apply SubL.cons)))) (q_pick_f rfl rfl) rfl ?_
                refine DW_q rfl (fun w hw => hw.sub (by (repeat (first | exact SubL.nil | exact Pick.head | apply Pick.tail | apply SubL.cons)))) (q_move rfl) rfl ?_
                refine DW_part (t := 104) rfl (fun hg104 => ?_) (fun hg104 => ?_)
                · skip
                  exact absurd (of_decide_eq_true hg104) (by omega) --stop
                · skip
                  refine DW_qg rfl (fun w hw => hw.sub (by (repeat (first | exact SubL.nil | exact Pick.head | apply Pick.tail | apply SubL.cons)))) rfl rfl rfl (q_move rfl) rfl ?_
                  refine DW_qg rfl (fun w hw => hw.sub (by (repeat (first | exact SubL.nil | exact Pick.head | apply Pick.tail | apply SubL.cons)))) rfl rfl rfl (q_move rfl) rfl ?_
                  refine DW_qg rfl (fun w hw => hw.sub (by (repeat (first | exact SubL.nil | exact Pick.head | apply Pick.tail | apply SubL.cons)))) rfl rfl rfl (q_indexAddr Try.underlying32 Try.sizeOf47 rfl rfl (by first | omega | assumption)) rfl ?_
                  refine DW_qg rfl (fun w hw => hw.sub (by (repeat (first | exact SubL.nil | exact Pick.head | apply Pick.tail | apply SubL.cons)))) rfl rfl rfl (q_fieldAddr Try.underlying47 rfl rfl Try.sizeOf3 rfl rfl) rfl ?_
                  refine DW_qg rfl (fun w hw => hw.sub (by repeat (first | exact SubL.nil | exact Pick.head | apply Pick.tail | apply SubL.cons))) rfl rfl rfl (q_load1_t (enc := encS) (k := i) (off := 2) (v := x22.v2) (l := x22.sp) Try.isAgg3 (fun _ => rfl) rfl (by repeat (first | exact .head | apply Swap.tail)) hv5 hy rfl) rfl ?_
                  refine DW_qg rfl (fun w hw => hw.sub (by (repeat (first | exact SubL.nil | exact Pick.head | apply Pick.tail | apply SubL.cons)))) rfl rfl rfl (q_move rfl) rfl ?_
                  refine DW_qg rfl (fun w hw => hw.sub (by (repeat (first | exact SubL.nil | exact Pick.head | apply Pick.tail | apply SubL.cons)))) rfl rfl rfl (q_len Try.underlying25 rfl) rfl ?_
                  refine DW_qg rfl (fun w hw => hw.sub (by (repeat (first | exact SubL.nil | exact Pick.head | apply Pick.tail | apply SubL.cons)))) rfl rfl rfl (q_gtr rfl rfl) rfl ?_
                  refine DW_q rfl (fun w hw => hw.sub (by (repeat (first | exact SubL.nil | exact Pick.head | apply Pick.tail | apply SubL.cons)))) (q_pick_f rfl rfl) rfl ?_
                  refine DW_q rfl (fun w hw => hw.sub (by (repeat (first | exact SubL.nil | exact Pick.head | apply Pick.tail | apply SubL.cons)))) (q_move rfl) rfl ?_
                  refine DW_part (t := 114) rfl (fun hg114 => ?_) (fun hg114 => ?_)
                  · skip
                    exact absurd (of_decide_eq_true hg114) (by rw [e2]; omega) --stop
                  · skip
                    refine DW_qg rfl (fun w hw => hw.sub (by (repeat (first | exact SubL.nil | exact Pick.head | apply Pick.tail | apply SubL.cons)))) rfl rfl rfl (q_move rfl) rfl ?_
                    refine DW_qg rfl (fun w hw => hw.sub (by (repeat (first | exact SubL.nil | exact Pick.head | apply Pick.tail | apply SubL.cons)))) rfl rfl rfl (q_gtr rfl rfl) rfl ?_
                    refine DW_qg rfl (fun w hw => hw.sub (by (repeat (first | exact SubL.nil | exact Pick.head | apply Pick.tail | apply SubL.cons)))) rfl rfl rfl (q_move rfl) rfl ?_
                    refine DW_part (t := 117) rfl (fun hg117 => ?_) (fun hg117 => ?_)
                    · skip
                      have hi0 : 0 < i := by have := of_decide_eq_true hg117; omega
                      obtain ⟨y0, hyp⟩ := get_of_lt (l := x22.sp) (k := ((i : Int) - 1).toNat) (by omega)
                      have hmono := hmon ((i : Int) - 1).toNat i y0 y (by omega) hyp hy
                      refine DW_qg rfl (fun w hw => hw.sub (by (repeat (first | exact SubL.nil | exact Pick.head | apply Pick.tail | apply SubL.cons)))) rfl rfl rfl (q_move rfl) rfl ?_
                      refine DW_qg rfl (fun w hw => hw.sub (by (repeat (first | exact SubL.nil | exact Pick.head | apply Pick.tail | apply SubL.cons)))) rfl rfl rfl (q_move rfl) rfl ?_
                      refine DW_qg rfl (fun w hw => hw.sub (by (repeat (first | exact SubL.nil | exact Pick.head | apply Pick.tail | apply SubL.cons)))) rfl rfl rfl (q_indexAddr Try.underlying32 Try.sizeOf47 rfl rfl (by first | omega | assumption)) rfl ?_
                      refine DW_qg rfl (fun w hw => hw.sub (by (repeat (first | exact SubL.nil | exact Pick.head | apply Pick.tail | apply SubL.cons)))) rfl rfl rfl (q_fieldAddr Try.underlying47 rfl rfl Try.sizeOf3 rfl rfl) rfl ?_
                      refine DW_qg rfl (fun w hw => hw.sub (by repeat (first | exact SubL.nil | exact Pick.head | apply Pick.tail | apply SubL.cons))) rfl rfl rfl (q_load1_t (enc := encS) (k := i) (off := 1) (v := x22.v2) (l := x22.sp) Try.isAgg3 (fun _ => rfl) rfl (by repeat (first | exact .head | apply Swap.tail)) hv5 hy rfl) rfl ?_
                      refine DW_qg rfl (fun w hw => hw.sub (by (repeat (first | exact SubL.nil | exact Pick.head | apply Pick.tail | apply SubL.cons)))) rfl rfl rfl (q_move rfl) rfl ?_
                      refine DW_qg rfl (fun w hw => hw.sub (by (repeat (first | exact SubL.nil | exact Pick.head | apply Pick.tail | apply SubL.cons)))) rfl rfl rfl (q_move rfl) rfl ?_
                      refine DW_qg rfl (fun w hw => hw.sub (by (repeat (first | exact SubL.nil | exact Pick.head | apply Pick.tail | apply SubL.cons)))) rfl rfl rfl (q_sub rfl rfl (by omega) (by omega)) rfl ?_
                      refine DW_qg rfl (fun w hw => hw.sub (by (repeat (first | exact SubL.nil | exact Pick.head | apply Pick.tail | apply SubL.cons)))) rfl rfl rfl (q_indexAddrI Try.underlying32 Try.sizeOf47 rfl rfl (by first | omega | assumption) (by first | omega | assumption)) rfl ?_
                      refine DW_qg rfl (fun w hw => hw.sub (by (repeat (first | exact SubL.nil | exact Pick.head | apply Pick.tail | apply SubL.cons)))) rfl rfl rfl (q_fieldAddr Try.underlying47 rfl rfl Try.sizeOf3 rfl rfl) rfl ?_
                      refine DW_qg rfl (fun w hw => hw.sub (by repeat (first | exact SubL.nil | exact Pick.head | apply Pick.tail | apply SubL.cons))) rfl rfl rfl (q_load1_t (enc := encS) (k := ((i : Int) - 1).toNat) (off := 1) (v := x22.v2) (l := x22.sp) Try.isAgg3 (fun _ => rfl) rfl (by repeat (first | exact .head | apply Swap.tail)) hv5 hyp rfl) rfl ?_
                      refine DW_qg rfl (fun w hw => hw.sub (by (repeat (first | exact SubL.nil | exact Pick.head | apply Pick.tail | apply SubL.cons)))) rfl rfl rfl (q_lss rfl rfl) rfl ?_
                      refine DW_qg rfl (fun w hw => hw.sub (by (repeat (first | exact SubL.nil | exact Pick.head | apply Pick.tail | apply SubL.cons)))) rfl rfl rfl (q_pick_t rfl rfl) rfl ?_
                      refine DW_q rfl (fun w hw => hw.sub (by (repeat (first | exact SubL.nil | exact Pick.head | apply Pick.tail | apply SubL.cons)))) (q_pick_f rfl rfl) rfl ?_
                      refine DW_nil ?_
                      refine EW_then ?_
                      refine CW_false rfl (decide_eq_false (by omega)) ?_
                      refine CW_skip ?_
                      refine EW_block_normal ?_
                      refine EW_then ?_
                      refine CW_region ?_
                      refine OW_q (q_move rfl) rfl ?_
                      first | refine OW_q (q_inc rfl rfl (by omega)) rfl ?_ | refine OW_q (q_add rfl rfl (by omega) (by omega)) rfl ?_
                      refine OW_q (q_assign rfl) rfl ?_
                      refine OW_nil ?_
                      refine EW_again (i + 1) ⟨?_, ?_⟩ ⟨rfl, rfl, rfl, rfl, trivial⟩ (fun w hw => hw.sub (by (repeat (first | exact SubL.nil | exact Pick.head | apply Pick.tail | apply SubL.cons))))
                      · show x22.sp.length - (i + 1) < x22.sp.length - i; omega
                      · show i + 1 ≤ _; omega
                    · skip
                      refine DW_skip rfl (fun w hw => hw.sub (by (repeat (first | exact SubL.nil | exact Pick.head | apply Pick.tail | apply SubL.cons)))) rfl rfl rfl rfl ?_
                      refine DW_skip rfl (fun w hw => hw.sub (by (repeat (first | exact SubL.nil | exact Pick.head | apply Pick.tail | apply SubL.cons)))) rfl rfl rfl rfl ?_
                      refine DW_skip rfl (fun w hw => hw.sub (by (repeat (first | exact SubL.nil | exact Pick.head | apply Pick.tail | apply SubL.cons)))) rfl rfl rfl rfl ?_
                      refine DW_skip rfl (fun w hw => hw.sub (by (repeat (first | exact SubL.nil | exact Pick.head | apply Pick.tail | apply SubL.cons)))) rfl rfl rfl rfl ?_
                      refine DW_skip rfl (fun w hw => hw.sub (by (repeat (first | exact SubL.nil | exact Pick.head | apply Pick.tail | apply SubL.cons)))) rfl rfl rfl rfl ?_
                      refine DW_skip rfl (fun w hw => hw.sub (by (repeat (first | exact SubL.nil | exact Pick.head | apply Pick.tail | apply SubL.cons)))) rfl rfl rfl rfl ?_
                      refine DW_skip rfl (fun w hw => hw.sub (by (repeat (first | exact SubL.nil | exact Pick.head | apply Pick.tail | apply SubL.cons)))) rfl rfl rfl rfl ?_
                      refine DW_skip rfl (fun w hw => hw.sub (by (repeat (first | exact SubL.nil | exact Pick.head | apply Pick.tail | apply SubL.cons)))) rfl rfl rfl rfl ?_
                      refine DW_skip rfl (fun w hw => hw.sub (by (repeat (first | exact SubL.nil | exact Pick.head | apply Pick.tail | apply SubL.cons)))) rfl rfl rfl rfl ?_
                      refine DW_skip rfl (fun w hw => hw.sub (by (repeat (first | exact SubL.nil | exact Pick.head | apply Pick.tail | apply SubL.cons)))) rfl rfl rfl rfl ?_
                      refine DW_skip rfl (fun w hw => hw.sub (by (repeat (first | exact SubL.nil | exact Pick.head | apply Pick.tail | apply SubL.cons)))) rfl rfl rfl rfl ?_
                      refine DW_skip rfl (fun w hw => hw.sub (by (repeat (first | exact SubL.nil | exact Pick.head | apply Pick.tail | apply SubL.cons)))) rfl rfl rfl rfl ?_
                      refine DW_qg rfl (fun w hw => hw.sub (by (repeat (first | exact SubL.nil | exact Pick.head | apply Pick.tail | apply SubL.cons)))) rfl rfl rfl (q_pick_f rfl rfl) rfl ?_
                      refine DW_q rfl (fun w hw => hw.sub (by (repeat (first | exact SubL.nil | exact Pick.head | apply Pick.tail | apply SubL.cons)))) (q_pick_f rfl rfl) rfl ?_
                      refine DW_nil ?_
                      refine EW_then ?_
                      refine CW_false rfl rfl ?_
                      refine CW_skip ?_
                      refine EW_block_normal ?_
                      refine EW_then ?_
                      refine CW_region ?_
                      refine OW_q (q_move rfl) rfl ?_
                      first | refine OW_q (q_inc rfl rfl (by omega)) rfl ?_ | refine OW_q (q_add rfl rfl (by omega) (by omega)) rfl ?_
                      refine OW_q (q_assign rfl) rfl ?_
                      refine OW_nil ?_
                      refine EW_again (i + 1) ⟨?_, ?_⟩ ⟨rfl, rfl, rfl, rfl, trivial⟩ (fun w hw => hw.sub (by (repeat (first | exact SubL.nil | exact Pick.head | apply Pick.tail | apply SubL.cons))))
                      · show x22.sp.length - (i + 1) < x22.sp.length - i; omega
                      · show i + 1 ≤ _; omega
            · skip
              refine CW_exit ?_
              refine EW_then_exit ?_
              refine EW_out ?_
              refine EW_block_exit ?_
              refine EW_then ?_
              refine CW_seq ?_
              refine CW_region ?_
              refine OW_q (q_assign rfl) rfl ?_
              refine OW_nil ?_
              refine EW_then ?_
              refine CW_ret ?_
              refine ret1 Try.results7 rfl (fun w hw => ?_)
              exact ⟨rfl, hw.sub .nil⟩

end Go.Sy
