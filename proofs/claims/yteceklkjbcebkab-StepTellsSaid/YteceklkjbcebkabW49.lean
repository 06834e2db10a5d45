/- step.change: a name that begins with itself. No condition. -/
import Derived.Test.YteceklkjbcebkabW48
import Derived.Test.YteceklkjbcebkabSyt2
namespace Go.Sy
open Go Go.RowKit Go.Proofs

theorem ofL_nodup (rs : List Rule) (n : Int) : (ofL rs n).Nodup := List.filter_sublist.nodup List.nodup_range
theorem nodup_take {l : List Nat} (h : l.Nodup) {k j : Nat} (hj : l[k]? = some j) : j ∉ l.take k := fun hm => by
  obtain ⟨i, hi⟩ := List.getElem?_of_mem hm
  have hik := (List.getElem?_eq_some_iff.1 hi).1
  rw [List.length_take] at hik
  rw [List.getElem?_take, if_pos (by omega)] at hi
  have := (List.getElem?_inj (by omega) h).1 (hi.trans hj.symm)
  omega
theorem leftR_other {g : Gram} {a : Int} {q : Rule} (h : q.left ≠ a) : leftR g a q = q := by unfold leftR; rw [if_neg h]
set_option maxRecDepth 20000 in
theorem change4_any (gv : Value) (g : Gram) (s : SStep) (w : World) (hm : mayB g = true) (hs : mayS g s = true) (hop : s.op = 4) (hg : GramAt (Cl w) gv g) : Calls Try.prog 20 #[gv, stepV s] w (fun e w' => ∃ x : Value × List RV × List Bool × List Bool, e = .returned (.agg #[.int .i64 g.terms, .int .i64 (stepG g s x.2.2.1 x.2.2.2).names, x.1]) ∧ ((s.op = 5 → MksOk g x.2.2.1 ∧ CmsOk g x.2.2.2) ∧ plainR x.2.1 = (stepG g s x.2.2.1 x.2.2.2).rules) ∧ Sat (Old w) w [rulesA x.1 x.2.1, symsA x.2.1] w') := by
  have hg0 := hg
  obtain ⟨rv, rfl, hr⟩ := hg.mono old_rd
  obtain ⟨a, c, rfl, hc1, hc2, hrs⟩ := id hr
  clear hg
  have hM := mayB_true.1 hm
  have hr8 : ∀ r ∈ g.rules, r.right.length ≤ 1000 := fun r hr => by
    obtain ⟨k, hk⟩ := List.getElem?_of_mem hr
    have := (may_rule hm hk).2.2
    omega
  have hs2 := hs
  unfold mayS at hs2
  rw [if_neg (by omega), if_neg (by omega), if_neg (by omega), if_pos hop] at hs2
  simp only [Bool.and_eq_true, decide_eq_true_eq] at hs2
  obtain ⟨kl, hkl⟩ : ∃ kl, kl = ofL g.rules s.a := ⟨_, rfl⟩
  have hkll : kl.length ≤ g.rules.length := by rw [hkl]; exact ofLk_len _ _ _
  have hknd : kl.Nodup := by rw [hkl]; exact ofL_nodup _ _
  refine calls_CW Try.func20 rfl Try.ntmps20 rfl (Sat.start w) ?_
  refine CW_seq ?_
  refine CW_region ?_
  refine OW_e (e_box rfl rfl) rfl (fun b2 => ?_)
  refine OW_e (e_box rfl rfl) rfl (fun b3 => ?_)
  refine OW_e (e_alloc Try.zeroValue24 rfl) rfl (fun b4 => ?_)
  refine OW_nil ?_
  refine EW_then ?_
  refine CW_seq ?_
  refine CW_region ?_
  first | (refine OW_q (q_loadN_own Try.isAgg24 Try.sizeOf24 rfl rfl (by (repeat (first | exact .head | apply Swap.tail))) (by rfl)) rfl ?_) | (refine OW_q (q_loadN_ro Try.isAgg24 Try.sizeOf24 rfl (by first | assumption | exact Row.at_ (by assumption) rfl) (by rfl)) rfl ?_)
  refine OW_e (e_call Try.call30 rfl (fun w hw => lift_oldP (cloneG_any _ g w (by omega) hr8 (hg0.mono (fun _ _ h => hw.rd (Rd.old h)))) hw)) rfl (fun x20 => ?_)
  refine OW_pure fun hx20 => ?_
  obtain ⟨ov, rs⟩ := x20
  have hrl : plainR rs = g.rules := hx20
  have hrsl : rs.length = g.rules.length := by rw [← hrl]; simp [plainR]
  refine OW_fact (fun w hw => hw.tform (v := ov) (l := rs) (enc := encRV) (by repeat (first | exact .head | apply Swap.tail))) (fun hf => ?_)
  obtain ⟨ao, co, rfl, _, _, hbo⟩ := hf
  refine OW_spell 20 (.agg #[.int .i64 g.terms, .int .i64 g.names, .slice ao rs.length co]) rfl rfl ?_
  refine OW_weak (S' := Sat (Old w) w [rulesA (.slice ao rs.length co) rs, symsA rs, cel b4 24 [.int .i64 0, .int .i64 0, .slice none 0 0], cel b3 26 [.int .i64 s.op, .int .i64 s.a, .int .i64 s.b, .int .i64 s.c], cel b2 24 [.int .i64 g.terms, .int .i64 g.names, .slice a g.rules.length c]]) (fun w hw => hw) ?_
  refine OW_fact (fun w hw => hw.symsOne (by repeat (first | exact .head | apply Swap.tail))) (fun hone => ?_)
  refine OW_e (e_alloc Try.zeroValue24 rfl) rfl (fun b5 => ?_)
  refine OW_e0 (e_storeN Try.sizeOf24 rfl rfl rfl rfl (by simp [Value.oneCell']) (by (repeat (first | exact .head | apply Swap.tail))) (by rfl)) (fun _ => ?_)
  refine OW_nil ?_
  refine EW_then ?_
  refine CW_seq ?_
  refine CW_region ?_
  refine OW_q (q_fieldAddr Try.underlying24 rfl rfl Try.sizeOf3 rfl rfl) rfl ?_
  first | (refine OW_q (q_load1_own Try.isAgg3 rfl rfl (by (repeat (first | exact .head | apply Swap.tail))) (by rfl)) rfl ?_) | (refine OW_q (q_load1_ro Try.isAgg3 rfl (by first | assumption | exact Row.at_ (by assumption) rfl)) rfl ?_)
  refine OW_e (e_call Try.call31 rfl (fun w hw => lift_ro (name_any g.names w) hw)) rfl (fun x23 => ?_)
  refine OW_e (e_alloc Try.zeroValue51 rfl) rfl (fun b6 => ?_)
  refine OW_e0 (e_storeN Try.sizeOf51 rfl rfl rfl rfl (by simp [Value.oneCell']) (by (repeat (first | exact .head | apply Swap.tail))) (by rfl)) (fun _ => ?_)
  refine OW_nil ?_
  refine EW_then ?_
  refine CW_seq ?_
  refine CW_seq ?_
  refine CW_region ?_
  refine OW_q (q_fieldAddr Try.underlying26 rfl rfl Try.sizeOf3 rfl rfl) rfl ?_
  first | (refine OW_q (q_load1_own Try.isAgg3 rfl rfl (by (repeat (first | exact .head | apply Swap.tail))) (by rfl)) rfl ?_) | (refine OW_q (q_load1_ro Try.isAgg3 rfl (by first | assumption | exact Row.at_ (by assumption) rfl)) rfl ?_)
  refine OW_nil ?_
  refine EW_then ?_
  refine CW_block ?_
  refine CW_seq ?_
  refine CW_region ?_
  refine OW_q (q_eqi rfl rfl) rfl ?_
  refine OW_q (q_assign rfl) rfl ?_
  refine OW_nil ?_
  refine EW_then ?_
  refine CW_false rfl (by simp [hop]) ?_
  refine CW_seq ?_
  refine CW_region ?_
  refine OW_q (q_eqi rfl rfl) rfl ?_
  refine OW_q (q_assign rfl) rfl ?_
  refine OW_nil ?_
  refine EW_then ?_
  refine CW_false rfl (by simp [hop]) ?_
  refine CW_seq ?_
  refine CW_region ?_
  refine OW_q (q_eqi rfl rfl) rfl ?_
  refine OW_q (q_assign rfl) rfl ?_
  refine OW_nil ?_
  refine EW_then ?_
  refine CW_false rfl (by simp [hop]) ?_
  refine CW_seq ?_
  refine CW_region ?_
  refine OW_q (q_eqi rfl rfl) rfl ?_
  refine OW_q (q_assign rfl) rfl ?_
  refine OW_nil ?_
  refine EW_then ?_
  refine CW_true rfl (by simp [hop]) ?_
  refine CW_seq ?_
  refine CW_seq ?_
  refine CW_region ?_
  first | (refine OW_q (q_loadN_own Try.isAgg24 Try.sizeOf24 rfl rfl (by (repeat (first | exact .head | apply Swap.tail))) (by rfl)) rfl ?_) | (refine OW_q (q_loadN_ro Try.isAgg24 Try.sizeOf24 rfl (by first | assumption | exact Row.at_ (by assumption) rfl) (by rfl)) rfl ?_)
  refine OW_q (q_fieldAddr Try.underlying26 rfl rfl Try.sizeOf3 rfl rfl) rfl ?_
  first | (refine OW_q (q_load1_own Try.isAgg3 rfl rfl (by (repeat (first | exact .head | apply Swap.tail))) (by rfl)) rfl ?_) | (refine OW_q (q_load1_ro Try.isAgg3 rfl (by first | assumption | exact Row.at_ (by assumption) rfl)) rfl ?_)
  refine OW_e (e_call Try.call28 rfl (fun w hw => lift_old (ofS_any _ g s.a w (by omega) (hg0.mono (fun _ _ h => hw.rd (Rd.old h)))) hw)) rfl (fun x136 => ?_)
  refine OW_fact (fun w hw => hw.tform (v := x136) (l := (ofL g.rules s.a).map (fun (z : Nat) => (z : Int))) (enc := encN) (by repeat (first | exact .head | apply Swap.tail))) (fun hf => ?_)
  obtain ⟨aq, cq, rfl, _, _, hbq⟩ := hf
  rw [← hkl, List.length_map] at hbq
  refine OW_spell 136 (.slice aq kl.length cq) rfl (by rw [← hkl, List.length_map]) ?_
  refine OW_weak (S' := Sat (Old w) w [trow 3 1 encN (.slice aq kl.length cq) (kl.map (fun (z : Nat) => (z : Int))), rulesA (.slice ao rs.length co) rs, symsA rs, cel b6 51 [.bool false, .int .i64 g.names], cel b5 24 [.int .i64 g.terms, .int .i64 g.names, (.slice ao rs.length co)], cel b4 24 [.int .i64 0, .int .i64 0, .slice none 0 0], cel b3 26 [.int .i64 s.op, .int .i64 s.a, .int .i64 s.b, .int .i64 s.c], cel b2 24 [.int .i64 g.terms, .int .i64 g.names, .slice a g.rules.length c]]) (fun w hw => by rw [← hkl, List.length_map] at hw; exact hw.sub (by repeat (first | exact SubL.nil | exact Pick.head | apply Pick.tail | apply SubL.cons))) ?_
  refine OW_q (q_len Try.underlying32 rfl) rfl ?_
  refine OW_q (q_move rfl) rfl ?_
  refine OW_nil ?_
  refine EW_then ?_
  refine CW_block ?_
  refine CW_loopP (ι := Nat × List RV) (fun i_ => i_.1 ≤ kl.length ∧ i_.2.length = rs.length ∧ ∀ j' q', g.rules[j']? = some q' → ∃ v, i_.2[j']? = some (⟨if j' ∈ kl.take i_.1 then leftR g s.a q' else q', v⟩ : RV)) (fun i_ => [(2, .pointer (some ⟨b2, 0, none⟩)), (3, .pointer (some ⟨b3, 0, none⟩)), (4, .pointer (some ⟨b4, 0, none⟩)), (5, .pointer (some ⟨b5, 0, none⟩)), (6, .pointer (some ⟨b6, 0, none⟩)), (136, .slice aq kl.length cq), (137, .int .i64 (kl.length : Int)), (138, .int .i64 (i_.1 : Int))]) (fun i_ => Sat (Old w) w [trow 3 1 encN (.slice aq kl.length cq) (kl.map (fun (z : Nat) => (z : Int))), rulesA (.slice ao rs.length co) i_.2, symsA i_.2, cel b6 51 [.bool false, .int .i64 g.names], cel b5 24 [.int .i64 g.terms, .int .i64 g.names, (.slice ao rs.length co)], cel b4 24 [.int .i64 0, .int .i64 0, .slice none 0 0], cel b3 26 [.int .i64 s.op, .int .i64 s.a, .int .i64 s.b, .int .i64 s.c], cel b2 24 [.int .i64 g.terms, .int .i64 g.names, .slice a g.rules.length c]]) (fun i_ => kl.length - i_.1) (0, rs) ?_ ⟨rfl, rfl, rfl, rfl, rfl, rfl, rfl, rfl, trivial⟩ (fun w hw => hw.sub (by (repeat (first | exact SubL.nil | exact Pick.head | apply Pick.tail | apply SubL.cons)))) ?_
  · refine ⟨Nat.zero_le _, rfl, fun j' q' h => ?_⟩
    obtain ⟨v, hv⟩ := plain_get hrl h
    exact ⟨v, by rw [hv, if_neg (by simp)]⟩
  intro i_ hpre
  obtain ⟨k, rs1⟩ := i_
  replace hpre : k ≤ kl.length ∧ rs1.length = rs.length ∧ ∀ j' q', g.rules[j']? = some q' → ∃ v, rs1[j']? = some (⟨if j' ∈ kl.take k then leftR g s.a q' else q', v⟩ : RV) := hpre
  change CW _ _ _ _ [(2, .pointer (some ⟨b2, 0, none⟩)), (3, .pointer (some ⟨b3, 0, none⟩)), (4, .pointer (some ⟨b4, 0, none⟩)), (5, .pointer (some ⟨b5, 0, none⟩)), (6, .pointer (some ⟨b6, 0, none⟩)), (136, .slice aq kl.length cq), (137, .int .i64 (kl.length : Int)), (138, .int .i64 (k : Int))] (Sat (Old w) w [trow 3 1 encN (.slice aq kl.length cq) (kl.map (fun (z : Nat) => (z : Int))), rulesA (.slice ao rs.length co) rs1, symsA rs1, cel b6 51 [.bool false, .int .i64 g.names], cel b5 24 [.int .i64 g.terms, .int .i64 g.names, (.slice ao rs.length co)], cel b4 24 [.int .i64 0, .int .i64 0, .slice none 0 0], cel b3 26 [.int .i64 s.op, .int .i64 s.a, .int .i64 s.b, .int .i64 s.c], cel b2 24 [.int .i64 g.terms, .int .i64 g.names, .slice a g.rules.length c]])
  obtain ⟨hk, hrl1, hrk⟩ := hpre
  refine CW_seq ?_
  refine CW_region ?_
  refine OW_q (q_lss rfl rfl) rfl ?_
  refine OW_nil ?_
  refine EW_then ?_
  refine CW_seq ?_
  refine CW_cond rfl (fun h139 => ?_) (fun h139 => ?_)
  · skip
    have hlk : k < kl.length := by have := of_decide_eq_true h139; omega
    obtain ⟨j, hj⟩ := get_of_lt hlk
    have hjm : (kl.map (fun (z : Nat) => (z : Int)))[k]? = some ((j : Nat) : Int) := by rw [List.getElem?_map, hj]; rfl
    obtain ⟨bq, rfl⟩ := hbq (by omega)
    obtain ⟨q, hq, hql⟩ := ofL_mem (rs := g.rules) (n := s.a) (by rw [← hkl]; exact List.mem_of_getElem? hj)
    have hjr := (List.getElem?_eq_some_iff.1 hq).1
    have hq8 := (may_rule hm hq).2.2
    obtain ⟨bo, rfl⟩ := hbo (by omega)
    obtain ⟨p, rfl, rvq, hsy, hrow⟩ := hrs j q hq
    obtain ⟨ya, yc, rfl, _, _, _⟩ := id hsy
    obtain ⟨xv, hx⟩ := hrk j q hq
    rw [if_neg (nodup_take hknd hj)] at hx
    refine CW_fact (fun w hw => hw.tform (v := xv) (l := q.right) (enc := encY) ((Hole.tail (Hole.tail (Hole.sym hx))).swap _)) (fun hf => ?_)
    obtain ⟨ax, cx, rfl, _, _, hbx⟩ := hf
    refine CW_skip ?_
    refine EW_then ?_
    refine CW_seq ?_
    refine CW_block ?_
    refine CW_seq ?_
    refine CW_region ?_
    refine OW_q (q_indexAddr Try.underlying32 Try.sizeOf3 rfl rfl (by first | omega | assumption)) rfl ?_
    refine OW_q (q_load_t1 (enc := encN) (k := k) (v := .slice (some ⟨bq, 0, none⟩) kl.length cq) (l := kl.map (fun (z : Nat) => (z : Int))) Try.isAgg3 (fun _ => rfl) rfl (by repeat (first | exact .head | apply Swap.tail)) rfl hjm rfl) rfl ?_
    refine OW_q (q_assign rfl) rfl ?_
    refine OW_nil ?_
    refine EW_then ?_
    refine CW_seq ?_
    refine CW_region ?_
    refine OW_q (q_fieldAddr Try.underlying24 rfl rfl Try.sizeOf22 rfl rfl) rfl ?_
    first | (refine OW_q (q_load1_own Try.isAgg22 rfl rfl (by (repeat (first | exact .head | apply Swap.tail))) (by rfl)) rfl ?_) | (refine OW_q (q_load1_ro Try.isAgg22 rfl (by first | assumption | exact Row.at_ (by assumption) rfl)) rfl ?_)
    refine OW_q (q_move rfl) rfl ?_
    refine OW_q (q_indexAddr Try.underlying22 Try.sizeOf49 rfl rfl (by first | omega | assumption)) rfl ?_
    refine OW_q (q_assign rfl) rfl ?_
    refine OW_nil ?_
    refine EW_then ?_
    refine CW_seq ?_
    refine CW_seq ?_
    refine CW_region ?_
    refine OW_q (q_fieldAddr Try.underlying24 rfl rfl Try.sizeOf22 rfl rfl) rfl ?_
    first | (refine OW_q (q_load1_own Try.isAgg22 rfl rfl (by (repeat (first | exact .head | apply Swap.tail))) (by rfl)) rfl ?_) | (refine OW_q (q_load1_ro Try.isAgg22 rfl (by first | assumption | exact Row.at_ (by assumption) rfl)) rfl ?_)
    refine OW_q (q_move rfl) rfl ?_
    refine OW_q (q_indexAddr Try.underlying22 Try.sizeOf49 rfl rfl (by first | omega | assumption)) rfl ?_
    refine OW_q (q_loadN_ro Try.isAgg49 Try.sizeOf49 rfl (by first | exact hrow) (by rfl)) rfl ?_
    refine OW_e (e_call Try.call29 rfl (fun w hw => lift_ro (loops_any q _ w (hsy.mono fun _ _ h => hw.rd h)) hw)) rfl (fun x151 => ?_)
    refine OW_nil ?_
    refine EW_then ?_
    refine CW_cond rfl (fun h151 => ?_) (fun h151 => ?_)
    · skip
      have hlen1 : 1 ≤ q.right.length := by
        have h1 : loopsB q = true := h151
        unfold loopsB at h1
        cases hr : q.right with
        | nil => rw [hr] at h1; cases h1
        | cons z l => simp
      refine CW_drawT (Sat (Old w) w [rulesA (.slice (some ⟨bo, 0, none⟩) rs.length co) rs1, cel b2 24 [.int .i64 g.terms, .int .i64 g.names, .slice (some p) g.rules.length c]]) [11] (.q 0 false (.q 1 false (.q 2 false (.q 3 true (.q 4 false (.q 5 false (.q 6 false (.q 7 true (.q 8 false (.q 9 false (.q 10 false (.e 11 (.q 12 false (.q 13 false (.e 14 .nil))))))))))))))) (by kernel_rfl) (Blind.then (Blind.block (Blind.then (Blind.again (Blind.block (Blind.then (Blind.block (Blind.then (Blind.body (by intro c w h; simp at h)))))))))) (by kernel_rfl) (fun w hw => hw.drew) ?_
      refine DT_p rfl (.inr (fun w hw => (by first | exact hw.sub (by (repeat (first | exact SubL.nil | exact Pick.head | apply Pick.tail | apply SubL.cons))) | exact hw.2.sub (by (repeat (first | exact SubL.nil | exact Pick.head | apply Pick.tail | apply SubL.cons)))))) (q_move rfl) rfl ?_
      refine DT_p rfl (.inr (fun w hw => (by first | exact hw.sub (by (repeat (first | exact SubL.nil | exact Pick.head | apply Pick.tail | apply SubL.cons))) | exact hw.2.sub (by (repeat (first | exact SubL.nil | exact Pick.head | apply Pick.tail | apply SubL.cons)))))) (q_move rfl) rfl ?_
      refine DT_p rfl (.inr (fun w hw => (by first | exact hw.sub (by (repeat (first | exact SubL.nil | exact Pick.head | apply Pick.tail | apply SubL.cons))) | exact hw.2.sub (by (repeat (first | exact SubL.nil | exact Pick.head | apply Pick.tail | apply SubL.cons)))))) (q_fieldAddr Try.underlying24 rfl rfl Try.sizeOf3 rfl rfl) rfl ?_
      first | (refine DT_q rfl (fun w hw => (by first | exact hw.sub (by (repeat (first | exact SubL.nil | exact Pick.head | apply Pick.tail | apply SubL.cons))) | exact hw.2.sub (by (repeat (first | exact SubL.nil | exact Pick.head | apply Pick.tail | apply SubL.cons))))) (q_load1_own Try.isAgg3 rfl rfl (by (repeat (first | exact .head | apply Swap.tail))) (by rfl)) rfl ?_) | (refine DT_q rfl (fun w hw => (by first | exact hw.sub (by (repeat (first | exact SubL.nil | exact Pick.head | apply Pick.tail | apply SubL.cons))) | exact hw.2.sub (by (repeat (first | exact SubL.nil | exact Pick.head | apply Pick.tail | apply SubL.cons))))) (q_load1_ro Try.isAgg3 rfl (by first | assumption | exact Row.at_ (by assumption) rfl)) rfl ?_)
      refine DT_p rfl (.inr (fun w hw => (by first | exact hw.sub (by (repeat (first | exact SubL.nil | exact Pick.head | apply Pick.tail | apply SubL.cons))) | exact hw.2.sub (by (repeat (first | exact SubL.nil | exact Pick.head | apply Pick.tail | apply SubL.cons)))))) (q_move rfl) rfl ?_
      refine DT_p rfl (.inr (fun w hw => (by first | exact hw.sub (by (repeat (first | exact SubL.nil | exact Pick.head | apply Pick.tail | apply SubL.cons))) | exact hw.2.sub (by (repeat (first | exact SubL.nil | exact Pick.head | apply Pick.tail | apply SubL.cons)))))) (q_nilCheck rfl) rfl ?_
      refine DT_p rfl (.inr (fun w hw => (by first | exact hw.sub (by (repeat (first | exact SubL.nil | exact Pick.head | apply Pick.tail | apply SubL.cons))) | exact hw.2.sub (by (repeat (first | exact SubL.nil | exact Pick.head | apply Pick.tail | apply SubL.cons)))))) (q_fieldAddr Try.underlying49 rfl rfl Try.sizeOf46 rfl rfl) rfl ?_
      refine DT_q rfl (fun w hw => (by first | exact hw.sub (by repeat (first | exact SubL.nil | exact Pick.head | apply Pick.tail | apply SubL.cons)) | exact hw.2.sub (by repeat (first | exact SubL.nil | exact Pick.head | apply Pick.tail | apply SubL.cons)))) (q_load1_t (enc := encRV) (k := j) (off := 1) (v := .slice (some ⟨bo, 0, none⟩) rs.length co) (l := rs1) Try.isAgg46 (fun _ => rfl) rfl (by repeat (first | exact .head | apply Swap.tail)) rfl hx rfl) rfl ?_
      refine DT_p rfl (.inr (fun w hw => (by first | exact hw.sub (by repeat (first | exact SubL.nil | exact Pick.head | apply Pick.tail | apply SubL.cons)) | exact hw.2.sub (by repeat (first | exact SubL.nil | exact Pick.head | apply Pick.tail | apply SubL.cons))))) (q_slice (l := 1) Try.underlying46 Try.sizeOf51 rfl (.inr ⟨_, rfl, rfl⟩) (.inl ⟨rfl, rfl⟩) (by omega) (by omega) (by omega)) rfl ?_
      refine DT_p rfl (.inr (fun w hw => (by first | exact hw.sub (by (repeat (first | exact SubL.nil | exact Pick.head | apply Pick.tail | apply SubL.cons))) | exact hw.2.sub (by (repeat (first | exact SubL.nil | exact Pick.head | apply Pick.tail | apply SubL.cons)))))) (q_nilCheck rfl) rfl ?_
      refine DT_p rfl (.inr (fun w hw => (by first | exact hw.sub (by (repeat (first | exact SubL.nil | exact Pick.head | apply Pick.tail | apply SubL.cons))) | exact hw.2.sub (by (repeat (first | exact SubL.nil | exact Pick.head | apply Pick.tail | apply SubL.cons)))))) (q_fieldAddr Try.underlying49 rfl rfl Try.sizeOf3 rfl rfl) rfl ?_
      refine DT_e0 rfl (e_store_t (enc := encRV) (k := j) (off := 0) (v := .slice (some ⟨bo, 0, none⟩) rs.length co) (l := rs1) (y := ⟨q, .slice ax q.right.length cx⟩) (y' := ⟨⟨g.names, q.right⟩, .slice ax q.right.length cx⟩) Try.sizeOf3 (fun _ => rfl) rfl rfl rfl rfl hx rfl (by repeat (first | exact .head | apply Swap.tail))) (.inl rfl) (fun _ => ?_)
      refine DT_p rfl (.inl rfl) (q_nilCheck rfl) rfl ?_
      refine DT_p rfl (.inl rfl) (q_fieldAddr Try.underlying49 rfl rfl Try.sizeOf46 rfl rfl) rfl ?_
      refine DT_e0 rfl (e_store_t (enc := encRV) (k := j) (off := 1) (v := .slice (some ⟨bo, 0, none⟩) rs.length co) (l := (rs1.set j ⟨⟨g.names, q.right⟩, .slice ax q.right.length cx⟩)) (y := ⟨⟨g.names, q.right⟩, .slice ax q.right.length cx⟩) (y' := ⟨⟨g.names, q.right⟩, .slice (if cx = 1 then ax else ax.map (·.add (1 * 2))) (q.right.length - 1) (cx - 1)⟩) Try.sizeOf46 (fun _ => rfl) rfl rfl rfl rfl (List.getElem?_set_self (List.getElem?_eq_some_iff.1 hx).1) rfl (by repeat (first | exact .head | apply Swap.tail))) (.inl rfl) (fun _ => ?_)
      refine DT_nil ?_
      refine EW_then ?_
      first
        | (replace h151 : loopsB q = true := h151
           obtain ⟨nl, ys, vv, hY, hysl, hsv, e1, e2⟩ : ∃ (nl : Int) (ys : List Sym) (vv : Value), (⟨nl, ys ++ [nameS g.names]⟩ : Rule) = leftR g s.a q ∧ ys.length ≤ 8 ∧ (∀ w', SymsAt (Cl w') (.slice ax q.right.length cx) q.right → SymsAt (Cl w') vv ys) ∧ nl = g.names ∧ vv = (.slice (if cx = 1 then ax else ax.map (·.add (1 * 2))) (q.right.length - 1) (cx - 1)) := by
             refine ⟨g.names, q.right.tail, _, by unfold leftR; rw [if_pos hql, if_pos h151], by rw [List.length_tail]; omega, fun w' h => ?_, rfl, rfl⟩
             have h2 := SlAt.sub h (lo := 1) (hi := q.right.length) hlen1 (Nat.le_refl _)
             rw [List.take_length, List.drop_one] at h2
             exact h2
           refine CW_weak (S' := Sat (Old w) w [trow 3 1 encN (.slice (some ⟨bq, 0, none⟩) kl.length cq) (kl.map (fun (z : Nat) => (z : Int))), rulesA (.slice (some ⟨bo, 0, none⟩) rs.length co) (rs1.set j ⟨⟨nl, q.right⟩, vv⟩), symsA rs1, cel b6 51 [.bool false, .int .i64 g.names], cel b5 24 [.int .i64 g.terms, .int .i64 g.names, (.slice (some ⟨bo, 0, none⟩) rs.length co)], cel b4 24 [.int .i64 0, .int .i64 0, .slice none 0 0], cel b3 26 [.int .i64 s.op, .int .i64 s.a, .int .i64 s.b, .int .i64 s.c], cel b2 24 [.int .i64 g.terms, .int .i64 g.names, .slice (some p) g.rules.length c]]) (fun w hw => by rw [e1, e2]; rw [List.set_set] at hw; exact hw) ?_)
        | (replace h151 : loopsB q = false := h151
           obtain ⟨nl, ys, vv, hY, hysl, hsv, e1, e2⟩ : ∃ (nl : Int) (ys : List Sym) (vv : Value), (⟨nl, ys ++ [nameS g.names]⟩ : Rule) = leftR g s.a q ∧ ys.length ≤ 8 ∧ (∀ w', SymsAt (Cl w') (.slice ax q.right.length cx) q.right → SymsAt (Cl w') vv ys) ∧ nl = q.left ∧ vv = .slice ax q.right.length cx :=
             ⟨q.left, q.right, _, by unfold leftR; rw [if_pos hql, if_neg (by rw [h151]; decide)], hq8, fun w' h => h, rfl, rfl⟩
           refine CW_weak (S' := Sat (Old w) w [trow 3 1 encN (.slice (some ⟨bq, 0, none⟩) kl.length cq) (kl.map (fun (z : Nat) => (z : Int))), rulesA (.slice (some ⟨bo, 0, none⟩) rs.length co) (rs1.set j ⟨⟨nl, q.right⟩, vv⟩), symsA rs1, cel b6 51 [.bool false, .int .i64 g.names], cel b5 24 [.int .i64 g.terms, .int .i64 g.names, (.slice (some ⟨bo, 0, none⟩) rs.length co)], cel b4 24 [.int .i64 0, .int .i64 0, .slice none 0 0], cel b3 26 [.int .i64 s.op, .int .i64 s.a, .int .i64 s.b, .int .i64 s.c], cel b2 24 [.int .i64 g.terms, .int .i64 g.names, .slice (some p) g.rules.length c]]) (fun w hw => by
             have e3 : rs1.set j ⟨⟨q.left, q.right⟩, .slice ax q.right.length cx⟩ = rs1 := set_same_of hx
             rw [e1, e2, e3]; exact hw.sub (by repeat (first | exact SubL.nil | exact Pick.head | apply Pick.tail | apply SubL.cons))) ?_)
      have hx1 : ((rs1.set j ⟨⟨nl, q.right⟩, vv⟩))[j]? = some ⟨⟨nl, q.right⟩, vv⟩ := List.getElem?_set_self (List.getElem?_eq_some_iff.1 hx).1
      refine CW_drawT (Sat (Old w) w [rulesA (.slice (some ⟨bo, 0, none⟩) rs.length co) (rs1.set j ⟨⟨nl, q.right⟩, vv⟩), symsA rs1, cel b6 51 [.bool false, .int .i64 g.names]]) [11] (.q 0 false (.q 1 false (.q 2 false (.q 3 false (.q 4 true (.q 6 true (.alt 5 (.e 7 (.e 8 (.q 9 false (.q 10 false (.e 11 .nil))))) 7 (.e 5 (.e 8 (.q 9 false (.q 10 false (.e 11 .nil)))))))))))) (by kernel_rfl) (Blind.block (Blind.then (Blind.again (Blind.block (Blind.then (Blind.block (Blind.then (Blind.body (by intro c w h; simp at h))))))))) (by kernel_rfl) (fun w hw => hw.drew) ?_
      refine DT_p rfl (.inr (fun w hw => (by first | exact hw.sub (by (repeat (first | exact SubL.nil | exact Pick.head | apply Pick.tail | apply SubL.cons))) | exact hw.2.sub (by (repeat (first | exact SubL.nil | exact Pick.head | apply Pick.tail | apply SubL.cons)))))) (q_move rfl) rfl ?_
      refine DT_p rfl (.inr (fun w hw => (by first | exact hw.sub (by (repeat (first | exact SubL.nil | exact Pick.head | apply Pick.tail | apply SubL.cons))) | exact hw.2.sub (by (repeat (first | exact SubL.nil | exact Pick.head | apply Pick.tail | apply SubL.cons)))))) (q_move rfl) rfl ?_
      refine DT_p rfl (.inr (fun w hw => (by first | exact hw.sub (by (repeat (first | exact SubL.nil | exact Pick.head | apply Pick.tail | apply SubL.cons))) | exact hw.2.sub (by (repeat (first | exact SubL.nil | exact Pick.head | apply Pick.tail | apply SubL.cons)))))) (q_nilCheck rfl) rfl ?_
      refine DT_p rfl (.inr (fun w hw => (by first | exact hw.sub (by (repeat (first | exact SubL.nil | exact Pick.head | apply Pick.tail | apply SubL.cons))) | exact hw.2.sub (by (repeat (first | exact SubL.nil | exact Pick.head | apply Pick.tail | apply SubL.cons)))))) (q_fieldAddr Try.underlying49 rfl rfl Try.sizeOf46 rfl rfl) rfl ?_
      refine DT_q rfl (fun w hw => (by first | exact hw.sub (by repeat (first | exact SubL.nil | exact Pick.head | apply Pick.tail | apply SubL.cons)) | exact hw.2.sub (by repeat (first | exact SubL.nil | exact Pick.head | apply Pick.tail | apply SubL.cons)))) (q_load1_t (enc := encRV) (k := j) (off := 1) (v := .slice (some ⟨bo, 0, none⟩) rs.length co) (l := (rs1.set j ⟨⟨nl, q.right⟩, vv⟩)) Try.isAgg46 (fun _ => rfl) rfl (by repeat (first | exact .head | apply Swap.tail)) rfl hx1 rfl) rfl ?_
      first | (refine DT_q rfl (fun w hw => (by first | exact hw.sub (by (repeat (first | exact SubL.nil | exact Pick.head | apply Pick.tail | apply SubL.cons))) | exact hw.2.sub (by (repeat (first | exact SubL.nil | exact Pick.head | apply Pick.tail | apply SubL.cons))))) (q_loadN_own Try.isAgg51 Try.sizeOf51 rfl rfl (by (repeat (first | exact .head | apply Swap.tail))) (by rfl)) rfl ?_) | (refine DT_q rfl (fun w hw => (by first | exact hw.sub (by (repeat (first | exact SubL.nil | exact Pick.head | apply Pick.tail | apply SubL.cons))) | exact hw.2.sub (by (repeat (first | exact SubL.nil | exact Pick.head | apply Pick.tail | apply SubL.cons))))) (q_loadN_ro Try.isAgg51 Try.sizeOf51 rfl (by first | assumption | exact Row.at_ (by assumption) rfl) (by rfl)) rfl ?_)
      refine DT_alt ?_ ?_
      · skip
        refine DT_e rfl (e_call Try.call33 rfl (fun w hw => lift_old (cloneY_any vv ys w (by omega) (hsv w (hw.symsIn (v := .slice ax q.right.length cx) (l := q.right) (by repeat (first | exact (Hole.sym hx).swap _ | apply Swap.tail))))) hw)) rfl (.inr (fun _ w hw => (by first | exact hw.sub (by (repeat (first | exact SubL.nil | exact Pick.head | apply Pick.tail | apply SubL.cons))) | exact hw.2.sub (by (repeat (first | exact SubL.nil | exact Pick.head | apply Pick.tail | apply SubL.cons)))))) (fun x170 => ?_)
        refine DT_e rfl (e_single Try.underlying46 Try.sizeOf51 Try.zeroValue51 (e := 51) (v := .agg #[.bool false, .int .i64 g.names]) (cs := [.bool false, .int .i64 g.names]) rfl rfl rfl rfl (by decide) (by decide)) rfl (.inr (fun _ w hw => (by first | exact hw.sub (by repeat (first | exact SubL.nil | exact Pick.head | apply Pick.tail | apply SubL.cons)) | exact hw.2.sub (by repeat (first | exact SubL.nil | exact Pick.head | apply Pick.tail | apply SubL.cons))))) (fun b172 => ?_)
        refine DT_e rfl (e_append_t (x0 := nameS g.names) (enc := encY) (l := ys) Try.underlying46 Try.typeInfo51 rfl rfl rfl rfl rfl rfl rfl (by repeat (first | exact .head | apply Pick.tail)) rfl (by exact fun w hw => hw.news (by repeat (first | exact .head | apply Swap.tail))) (by simp [Value.oneCell']) (by omega) (by decide)) rfl (.inr (fun _ w hw => (by first | exact hw.sub (by repeat (first | exact SubL.nil | exact Pick.head | apply Pick.tail | apply SubL.cons)) | exact hw.2.sub (by repeat (first | exact SubL.nil | exact Pick.head | apply Pick.tail | apply SubL.cons))))) (fun v173 => ?_)
        refine DT_fact (fun w hw => hw.tform (v := v173) (l := (ys ++ [nameS g.names])) (enc := encY) (by repeat (first | exact .head | apply Swap.tail))) (fun hf => ?_)
        obtain ⟨a173, c173, e173, _, _, hb173⟩ := hf
        refine DT_p rfl (.inr (fun w hw => (by first | exact hw.sub (by (repeat (first | exact SubL.nil | exact Pick.head | apply Pick.tail | apply SubL.cons))) | exact hw.2.sub (by (repeat (first | exact SubL.nil | exact Pick.head | apply Pick.tail | apply SubL.cons)))))) (q_nilCheck rfl) rfl ?_
        refine DT_p rfl (.inr (fun w hw => (by first | exact hw.sub (by (repeat (first | exact SubL.nil | exact Pick.head | apply Pick.tail | apply SubL.cons))) | exact hw.2.sub (by (repeat (first | exact SubL.nil | exact Pick.head | apply Pick.tail | apply SubL.cons)))))) (q_fieldAddr Try.underlying49 rfl rfl Try.sizeOf46 rfl rfl) rfl ?_
        refine DT_e0 rfl (e_store_t (enc := encRV) (k := j) (off := 1) (v := .slice (some ⟨bo, 0, none⟩) rs.length co) (l := (rs1.set j ⟨⟨nl, q.right⟩, vv⟩)) (y := ⟨⟨nl, q.right⟩, vv⟩) (y' := (⟨⟨nl, ys ++ [nameS g.names]⟩, v173⟩ : RV)) Try.sizeOf46 (fun _ => rfl) rfl rfl (by rw [e173]; rfl) rfl hx1 rfl (by repeat (first | exact .head | apply Swap.tail))) (.inl rfl) (fun _ => ?_)
        refine DT_nil ?_
        refine EW_block_normal ?_
        refine EW_then ?_
        refine CW_region ?_
        first | refine OW_q (q_inc rfl rfl (by omega)) rfl ?_ | refine OW_q (q_add rfl rfl (by omega) (by omega)) rfl ?_
        refine OW_q (q_move rfl) rfl ?_
        refine OW_nil ?_
        refine EW_weak (S' := Sat (Old _) _ [trow 3 1 encN (.slice (some ⟨bq, 0, none⟩) kl.length cq) (kl.map (fun (z : Nat) => (z : Int))), rulesA (.slice (some ⟨bo, 0, none⟩) rs.length co) (rs1.set j (⟨⟨nl, ys ++ [nameS g.names]⟩, v173⟩ : RV)), symsA (rs1.set j (⟨⟨nl, ys ++ [nameS g.names]⟩, v173⟩ : RV)), cel b6 51 [.bool false, .int .i64 g.names], cel b5 24 [.int .i64 g.terms, .int .i64 g.names, (.slice (some ⟨bo, 0, none⟩) rs.length co)], cel b4 24 [.int .i64 0, .int .i64 0, .slice none 0 0], cel b3 26 [.int .i64 s.op, .int .i64 s.a, .int .i64 s.b, .int .i64 s.c], cel b2 24 [.int .i64 g.terms, .int .i64 g.names, .slice (some p) g.rules.length c]]) (fun w hw => by
          rw [List.set_set] at hw
          have h1 : Sat _ _ (symA (⟨⟨nl, ys ++ [nameS g.names]⟩, v173⟩ : RV) :: symsA rs1 :: [trow 3 1 encN (.slice (some ⟨bq, 0, none⟩) kl.length cq) (kl.map (fun (z : Nat) => (z : Int))), rulesA (.slice (some ⟨bo, 0, none⟩) rs.length co) (rs1.set j (⟨⟨nl, ys ++ [nameS g.names]⟩, v173⟩ : RV)), cel b6 51 [.bool false, .int .i64 g.names], cel b5 24 [.int .i64 g.terms, .int .i64 g.names, (.slice (some ⟨bo, 0, none⟩) rs.length co)], cel b4 24 [.int .i64 0, .int .i64 0, .slice none 0 0], cel b3 26 [.int .i64 s.op, .int .i64 s.a, .int .i64 s.b, .int .i64 s.c], cel b2 24 [.int .i64 g.terms, .int .i64 g.names, .slice (some p) g.rules.length c]]) w := hw.sub (by repeat (first | exact SubL.nil | exact Pick.head | apply Pick.tail | apply SubL.cons))
          exact (h1.symsPut hx).sub (by repeat (first | exact SubL.nil | exact Pick.head | apply Pick.tail | apply SubL.cons))) ?_
        refine EW_again ((k + 1, rs1.set j (⟨⟨nl, ys ++ [nameS g.names]⟩, v173⟩ : RV))) ⟨?_, ?_⟩ ⟨rfl, rfl, rfl, rfl, rfl, rfl, rfl, rfl, trivial⟩ (fun w hw => hw.sub (by (repeat (first | exact SubL.nil | exact Pick.head | apply Pick.tail | apply SubL.cons))))
        · show kl.length - (k + 1) < kl.length - k; omega
        · refine ⟨by show k + 1 ≤ _; omega, by show (rs1.set j _).length = _; rw [List.length_set]; exact hrl1, fun j' q' hq' => ?_⟩
          show ∃ v, (rs1.set j _)[j']? = some (⟨if j' ∈ kl.take (k + 1) then _ else _, v⟩ : RV)
          by_cases e : j = j'
          · subst e
            rw [hq] at hq'
            cases hq'
            refine ⟨v173, ?_⟩
            rw [List.getElem?_set_self (List.getElem?_eq_some_iff.1 hx).1, if_pos (by rw [take_next hj]; simp), ← hY]
          · obtain ⟨v, hv⟩ := hrk j' q' hq'
            refine ⟨v, ?_⟩
            rw [List.getElem?_set_ne e, hv]
            have e2 : (j' ∈ kl.take (k + 1)) ↔ j' ∈ kl.take k := by
              rw [take_next hj, List.mem_append, List.mem_singleton]
              constructor
              · rintro (h | h)
                · exact h
                · exact absurd h.symm e
              · exact .inl
            simp only [e2]
      · skip
        refine DT_e rfl (e_single Try.underlying46 Try.sizeOf51 Try.zeroValue51 (e := 51) (v := .agg #[.bool false, .int .i64 g.names]) (cs := [.bool false, .int .i64 g.names]) rfl rfl rfl rfl (by decide) (by decide)) rfl (.inr (fun _ w hw => (by first | exact hw.sub (by repeat (first | exact SubL.nil | exact Pick.head | apply Pick.tail | apply SubL.cons)) | exact hw.2.sub (by repeat (first | exact SubL.nil | exact Pick.head | apply Pick.tail | apply SubL.cons))))) (fun b172 => ?_)
        refine DT_e rfl (e_call Try.call33 rfl (fun w hw => lift_old (cloneY_any vv ys w (by omega) (hsv w (hw.symsIn (v := .slice ax q.right.length cx) (l := q.right) (by repeat (first | exact (Hole.sym hx).swap _ | apply Swap.tail))))) hw)) rfl (.inr (fun _ w hw => (by first | exact hw.sub (by (repeat (first | exact SubL.nil | exact Pick.head | apply Pick.tail | apply SubL.cons))) | exact hw.2.sub (by (repeat (first | exact SubL.nil | exact Pick.head | apply Pick.tail | apply SubL.cons)))))) (fun x170 => ?_)
        refine DT_e rfl (e_append_t (x0 := nameS g.names) (enc := encY) (l := ys) Try.underlying46 Try.typeInfo51 rfl rfl rfl rfl rfl rfl rfl (by repeat (first | exact .head | apply Pick.tail)) rfl (by exact fun w hw => hw.news (by repeat (first | exact .head | apply Swap.tail))) (by simp [Value.oneCell']) (by omega) (by decide)) rfl (.inr (fun _ w hw => (by first | exact hw.sub (by repeat (first | exact SubL.nil | exact Pick.head | apply Pick.tail | apply SubL.cons)) | exact hw.2.sub (by repeat (first | exact SubL.nil | exact Pick.head | apply Pick.tail | apply SubL.cons))))) (fun v173 => ?_)
        refine DT_fact (fun w hw => hw.tform (v := v173) (l := (ys ++ [nameS g.names])) (enc := encY) (by repeat (first | exact .head | apply Swap.tail))) (fun hf => ?_)
        obtain ⟨a173, c173, e173, _, _, hb173⟩ := hf
        refine DT_p rfl (.inr (fun w hw => (by first | exact hw.sub (by (repeat (first | exact SubL.nil | exact Pick.head | apply Pick.tail | apply SubL.cons))) | exact hw.2.sub (by (repeat (first | exact SubL.nil | exact Pick.head | apply Pick.tail | apply SubL.cons)))))) (q_nilCheck rfl) rfl ?_
        refine DT_p rfl (.inr (fun w hw => (by first | exact hw.sub (by (repeat (first | exact SubL.nil | exact Pick.head | apply Pick.tail | apply SubL.cons))) | exact hw.2.sub (by (repeat (first | exact SubL.nil | exact Pick.head | apply Pick.tail | apply SubL.cons)))))) (q_fieldAddr Try.underlying49 rfl rfl Try.sizeOf46 rfl rfl) rfl ?_
        refine DT_e0 rfl (e_store_t (enc := encRV) (k := j) (off := 1) (v := .slice (some ⟨bo, 0, none⟩) rs.length co) (l := (rs1.set j ⟨⟨nl, q.right⟩, vv⟩)) (y := ⟨⟨nl, q.right⟩, vv⟩) (y' := (⟨⟨nl, ys ++ [nameS g.names]⟩, v173⟩ : RV)) Try.sizeOf46 (fun _ => rfl) rfl rfl (by rw [e173]; rfl) rfl hx1 rfl (by repeat (first | exact .head | apply Swap.tail))) (.inl rfl) (fun _ => ?_)
        refine DT_nil ?_
        refine EW_block_normal ?_
        refine EW_then ?_
        refine CW_region ?_
        first | refine OW_q (q_inc rfl rfl (by omega)) rfl ?_ | refine OW_q (q_add rfl rfl (by omega) (by omega)) rfl ?_
        refine OW_q (q_move rfl) rfl ?_
        refine OW_nil ?_
        refine EW_weak (S' := Sat (Old _) _ [trow 3 1 encN (.slice (some ⟨bq, 0, none⟩) kl.length cq) (kl.map (fun (z : Nat) => (z : Int))), rulesA (.slice (some ⟨bo, 0, none⟩) rs.length co) (rs1.set j (⟨⟨nl, ys ++ [nameS g.names]⟩, v173⟩ : RV)), symsA (rs1.set j (⟨⟨nl, ys ++ [nameS g.names]⟩, v173⟩ : RV)), cel b6 51 [.bool false, .int .i64 g.names], cel b5 24 [.int .i64 g.terms, .int .i64 g.names, (.slice (some ⟨bo, 0, none⟩) rs.length co)], cel b4 24 [.int .i64 0, .int .i64 0, .slice none 0 0], cel b3 26 [.int .i64 s.op, .int .i64 s.a, .int .i64 s.b, .int .i64 s.c], cel b2 24 [.int .i64 g.terms, .int .i64 g.names, .slice (some p) g.rules.length c]]) (fun w hw => by
          rw [List.set_set] at hw
          have h1 : Sat _ _ (symA (⟨⟨nl, ys ++ [nameS g.names]⟩, v173⟩ : RV) :: symsA rs1 :: [trow 3 1 encN (.slice (some ⟨bq, 0, none⟩) kl.length cq) (kl.map (fun (z : Nat) => (z : Int))), rulesA (.slice (some ⟨bo, 0, none⟩) rs.length co) (rs1.set j (⟨⟨nl, ys ++ [nameS g.names]⟩, v173⟩ : RV)), cel b6 51 [.bool false, .int .i64 g.names], cel b5 24 [.int .i64 g.terms, .int .i64 g.names, (.slice (some ⟨bo, 0, none⟩) rs.length co)], cel b4 24 [.int .i64 0, .int .i64 0, .slice none 0 0], cel b3 26 [.int .i64 s.op, .int .i64 s.a, .int .i64 s.b, .int .i64 s.c], cel b2 24 [.int .i64 g.terms, .int .i64 g.names, .slice (some p) g.rules.length c]]) w := hw.sub (by repeat (first | exact SubL.nil | exact Pick.head | apply Pick.tail | apply SubL.cons))
          exact (h1.symsPut hx).sub (by repeat (first | exact SubL.nil | exact Pick.head | apply Pick.tail | apply SubL.cons))) ?_
        refine EW_again ((k + 1, rs1.set j (⟨⟨nl, ys ++ [nameS g.names]⟩, v173⟩ : RV))) ⟨?_, ?_⟩ ⟨rfl, rfl, rfl, rfl, rfl, rfl, rfl, rfl, trivial⟩ (fun w hw => hw.sub (by (repeat (first | exact SubL.nil | exact Pick.head | apply Pick.tail | apply SubL.cons))))
        · show kl.length - (k + 1) < kl.length - k; omega
        · refine ⟨by show k + 1 ≤ _; omega, by show (rs1.set j _).length = _; rw [List.length_set]; exact hrl1, fun j' q' hq' => ?_⟩
          show ∃ v, (rs1.set j _)[j']? = some (⟨if j' ∈ kl.take (k + 1) then _ else _, v⟩ : RV)
          by_cases e : j = j'
          · subst e
            rw [hq] at hq'
            cases hq'
            refine ⟨v173, ?_⟩
            rw [List.getElem?_set_self (List.getElem?_eq_some_iff.1 hx).1, if_pos (by rw [take_next hj]; simp), ← hY]
          · obtain ⟨v, hv⟩ := hrk j' q' hq'
            refine ⟨v, ?_⟩
            rw [List.getElem?_set_ne e, hv]
            have e2 : (j' ∈ kl.take (k + 1)) ↔ j' ∈ kl.take k := by
              rw [take_next hj, List.mem_append, List.mem_singleton]
              constructor
              · rintro (h | h)
                · exact h
                · exact absurd h.symm e
              · exact .inl
            simp only [e2]
    · skip
      refine CW_skip ?_
      refine EW_then ?_
      first
        | (replace h151 : loopsB q = true := h151
           obtain ⟨nl, ys, vv, hY, hysl, hsv, e1, e2⟩ : ∃ (nl : Int) (ys : List Sym) (vv : Value), (⟨nl, ys ++ [nameS g.names]⟩ : Rule) = leftR g s.a q ∧ ys.length ≤ 8 ∧ (∀ w', SymsAt (Cl w') (.slice ax q.right.length cx) q.right → SymsAt (Cl w') vv ys) ∧ nl = g.names ∧ vv = (.slice (if cx = 1 then ax else ax.map (·.add (1 * 2))) (q.right.length - 1) (cx - 1)) := by
             refine ⟨g.names, q.right.tail, _, by unfold leftR; rw [if_pos hql, if_pos h151], by rw [List.length_tail]; omega, fun w' h => ?_, rfl, rfl⟩
             have h2 := SlAt.sub h (lo := 1) (hi := q.right.length) hlen1 (Nat.le_refl _)
             rw [List.take_length, List.drop_one] at h2
             exact h2
           refine CW_weak (S' := Sat (Old w) w [trow 3 1 encN (.slice (some ⟨bq, 0, none⟩) kl.length cq) (kl.map (fun (z : Nat) => (z : Int))), rulesA (.slice (some ⟨bo, 0, none⟩) rs.length co) (rs1.set j ⟨⟨nl, q.right⟩, vv⟩), symsA rs1, cel b6 51 [.bool false, .int .i64 g.names], cel b5 24 [.int .i64 g.terms, .int .i64 g.names, (.slice (some ⟨bo, 0, none⟩) rs.length co)], cel b4 24 [.int .i64 0, .int .i64 0, .slice none 0 0], cel b3 26 [.int .i64 s.op, .int .i64 s.a, .int .i64 s.b, .int .i64 s.c], cel b2 24 [.int .i64 g.terms, .int .i64 g.names, .slice (some p) g.rules.length c]]) (fun w hw => by rw [e1, e2]; rw [List.set_set] at hw; exact hw) ?_)
        | (replace h151 : loopsB q = false := h151
           obtain ⟨nl, ys, vv, hY, hysl, hsv, e1, e2⟩ : ∃ (nl : Int) (ys : List Sym) (vv : Value), (⟨nl, ys ++ [nameS g.names]⟩ : Rule) = leftR g s.a q ∧ ys.length ≤ 8 ∧ (∀ w', SymsAt (Cl w') (.slice ax q.right.length cx) q.right → SymsAt (Cl w') vv ys) ∧ nl = q.left ∧ vv = .slice ax q.right.length cx :=
             ⟨q.left, q.right, _, by unfold leftR; rw [if_pos hql, if_neg (by rw [h151]; decide)], hq8, fun w' h => h, rfl, rfl⟩
           refine CW_weak (S' := Sat (Old w) w [trow 3 1 encN (.slice (some ⟨bq, 0, none⟩) kl.length cq) (kl.map (fun (z : Nat) => (z : Int))), rulesA (.slice (some ⟨bo, 0, none⟩) rs.length co) (rs1.set j ⟨⟨nl, q.right⟩, vv⟩), symsA rs1, cel b6 51 [.bool false, .int .i64 g.names], cel b5 24 [.int .i64 g.terms, .int .i64 g.names, (.slice (some ⟨bo, 0, none⟩) rs.length co)], cel b4 24 [.int .i64 0, .int .i64 0, .slice none 0 0], cel b3 26 [.int .i64 s.op, .int .i64 s.a, .int .i64 s.b, .int .i64 s.c], cel b2 24 [.int .i64 g.terms, .int .i64 g.names, .slice (some p) g.rules.length c]]) (fun w hw => by
             have e3 : rs1.set j ⟨⟨q.left, q.right⟩, .slice ax q.right.length cx⟩ = rs1 := set_same_of hx
             rw [e1, e2, e3]; exact hw.sub (by repeat (first | exact SubL.nil | exact Pick.head | apply Pick.tail | apply SubL.cons))) ?_)
      have hx1 : ((rs1.set j ⟨⟨nl, q.right⟩, vv⟩))[j]? = some ⟨⟨nl, q.right⟩, vv⟩ := List.getElem?_set_self (List.getElem?_eq_some_iff.1 hx).1
      refine CW_drawT (Sat (Old w) w [rulesA (.slice (some ⟨bo, 0, none⟩) rs.length co) (rs1.set j ⟨⟨nl, q.right⟩, vv⟩), symsA rs1, cel b6 51 [.bool false, .int .i64 g.names]]) [11] (.q 0 false (.q 1 false (.q 2 false (.q 3 false (.q 4 true (.q 6 true (.alt 5 (.e 7 (.e 8 (.q 9 false (.q 10 false (.e 11 .nil))))) 7 (.e 5 (.e 8 (.q 9 false (.q 10 false (.e 11 .nil)))))))))))) (by kernel_rfl) (Blind.block (Blind.then (Blind.again (Blind.block (Blind.then (Blind.block (Blind.then (Blind.body (by intro c w h; simp at h))))))))) (by kernel_rfl) (fun w hw => hw.drew) ?_
      refine DT_p rfl (.inr (fun w hw => (by first | exact hw.sub (by (repeat (first | exact SubL.nil | exact Pick.head | apply Pick.tail | apply SubL.cons))) | exact hw.2.sub (by (repeat (first | exact SubL.nil | exact Pick.head | apply Pick.tail | apply SubL.cons)))))) (q_move rfl) rfl ?_
      refine DT_p rfl (.inr (fun w hw => (by first | exact hw.sub (by (repeat (first | exact SubL.nil | exact Pick.head | apply Pick.tail | apply SubL.cons))) | exact hw.2.sub (by (repeat (first | exact SubL.nil | exact Pick.head | apply Pick.tail | apply SubL.cons)))))) (q_move rfl) rfl ?_
      refine DT_p rfl (.inr (fun w hw => (by first | exact hw.sub (by (repeat (first | exact SubL.nil | exact Pick.head | apply Pick.tail | apply SubL.cons))) | exact hw.2.sub (by (repeat (first | exact SubL.nil | exact Pick.head | apply Pick.tail | apply SubL.cons)))))) (q_nilCheck rfl) rfl ?_
      refine DT_p rfl (.inr (fun w hw => (by first | exact hw.sub (by (repeat (first | exact SubL.nil | exact Pick.head | apply Pick.tail | apply SubL.cons))) | exact hw.2.sub (by (repeat (first | exact SubL.nil | exact Pick.head | apply Pick.tail | apply SubL.cons)))))) (q_fieldAddr Try.underlying49 rfl rfl Try.sizeOf46 rfl rfl) rfl ?_
      refine DT_q rfl (fun w hw => (by first | exact hw.sub (by repeat (first | exact SubL.nil | exact Pick.head | apply Pick.tail | apply SubL.cons)) | exact hw.2.sub (by repeat (first | exact SubL.nil | exact Pick.head | apply Pick.tail | apply SubL.cons)))) (q_load1_t (enc := encRV) (k := j) (off := 1) (v := .slice (some ⟨bo, 0, none⟩) rs.length co) (l := (rs1.set j ⟨⟨nl, q.right⟩, vv⟩)) Try.isAgg46 (fun _ => rfl) rfl (by repeat (first | exact .head | apply Swap.tail)) rfl hx1 rfl) rfl ?_
      first | (refine DT_q rfl (fun w hw => (by first | exact hw.sub (by (repeat (first | exact SubL.nil | exact Pick.head | apply Pick.tail | apply SubL.cons))) | exact hw.2.sub (by (repeat (first | exact SubL.nil | exact Pick.head | apply Pick.tail | apply SubL.cons))))) (q_loadN_own Try.isAgg51 Try.sizeOf51 rfl rfl (by (repeat (first | exact .head | apply Swap.tail))) (by rfl)) rfl ?_) | (refine DT_q rfl (fun w hw => (by first | exact hw.sub (by (repeat (first | exact SubL.nil | exact Pick.head | apply Pick.tail | apply SubL.cons))) | exact hw.2.sub (by (repeat (first | exact SubL.nil | exact Pick.head | apply Pick.tail | apply SubL.cons))))) (q_loadN_ro Try.isAgg51 Try.sizeOf51 rfl (by first | assumption | exact Row.at_ (by assumption) rfl) (by rfl)) rfl ?_)
      refine DT_alt ?_ ?_
      · skip
        refine DT_e rfl (e_call Try.call33 rfl (fun w hw => lift_old (cloneY_any vv ys w (by omega) (hsv w (hw.symsIn (v := .slice ax q.right.length cx) (l := q.right) (by repeat (first | exact (Hole.sym hx).swap _ | apply Swap.tail))))) hw)) rfl (.inr (fun _ w hw => (by first | exact hw.sub (by (repeat (first | exact SubL.nil | exact Pick.head | apply Pick.tail | apply SubL.cons))) | exact hw.2.sub (by (repeat (first | exact SubL.nil | exact Pick.head | apply Pick.tail | apply SubL.cons)))))) (fun x170 => ?_)
        refine DT_e rfl (e_single Try.underlying46 Try.sizeOf51 Try.zeroValue51 (e := 51) (v := .agg #[.bool false, .int .i64 g.names]) (cs := [.bool false, .int .i64 g.names]) rfl rfl rfl rfl (by decide) (by decide)) rfl (.inr (fun _ w hw => (by first | exact hw.sub (by repeat (first | exact SubL.nil | exact Pick.head | apply Pick.tail | apply SubL.cons)) | exact hw.2.sub (by repeat (first | exact SubL.nil | exact Pick.head | apply Pick.tail | apply SubL.cons))))) (fun b172 => ?_)
        refine DT_e rfl (e_append_t (x0 := nameS g.names) (enc := encY) (l := ys) Try.underlying46 Try.typeInfo51 rfl rfl rfl rfl rfl rfl rfl (by repeat (first | exact .head | apply Pick.tail)) rfl (by exact fun w hw => hw.news (by repeat (first | exact .head | apply Swap.tail))) (by simp [Value.oneCell']) (by omega) (by decide)) rfl (.inr (fun _ w hw => (by first | exact hw.sub (by repeat (first | exact SubL.nil | exact Pick.head | apply Pick.tail | apply SubL.cons)) | exact hw.2.sub (by repeat (first | exact SubL.nil | exact Pick.head | apply Pick.tail | apply SubL.cons))))) (fun v173 => ?_)
        refine DT_fact (fun w hw => hw.tform (v := v173) (l := (ys ++ [nameS g.names])) (enc := encY) (by repeat (first | exact .head | apply Swap.tail))) (fun hf => ?_)
        obtain ⟨a173, c173, e173, _, _, hb173⟩ := hf
        refine DT_p rfl (.inr (fun w hw => (by first | exact hw.sub (by (repeat (first | exact SubL.nil | exact Pick.head | apply Pick.tail | apply SubL.cons))) | exact hw.2.sub (by (repeat (first | exact SubL.nil | exact Pick.head | apply Pick.tail | apply SubL.cons)))))) (q_nilCheck rfl) rfl ?_
        refine DT_p rfl (.inr (fun w hw => (by first | exact hw.sub (by (repeat (first | exact SubL.nil | exact Pick.head | apply Pick.tail | apply SubL.cons))) | exact hw.2.sub (by (repeat (first | exact SubL.nil | exact Pick.head | apply Pick.tail | apply SubL.cons)))))) (q_fieldAddr Try.underlying49 rfl rfl Try.sizeOf46 rfl rfl) rfl ?_
        refine DT_e0 rfl (e_store_t (enc := encRV) (k := j) (off := 1) (v := .slice (some ⟨bo, 0, none⟩) rs.length co) (l := (rs1.set j ⟨⟨nl, q.right⟩, vv⟩)) (y := ⟨⟨nl, q.right⟩, vv⟩) (y' := (⟨⟨nl, ys ++ [nameS g.names]⟩, v173⟩ : RV)) Try.sizeOf46 (fun _ => rfl) rfl rfl (by rw [e173]; rfl) rfl hx1 rfl (by repeat (first | exact .head | apply Swap.tail))) (.inl rfl) (fun _ => ?_)
        refine DT_nil ?_
        refine EW_block_normal ?_
        refine EW_then ?_
        refine CW_region ?_
        first | refine OW_q (q_inc rfl rfl (by omega)) rfl ?_ | refine OW_q (q_add rfl rfl (by omega) (by omega)) rfl ?_
        refine OW_q (q_move rfl) rfl ?_
        refine OW_nil ?_
        refine EW_weak (S' := Sat (Old _) _ [trow 3 1 encN (.slice (some ⟨bq, 0, none⟩) kl.length cq) (kl.map (fun (z : Nat) => (z : Int))), rulesA (.slice (some ⟨bo, 0, none⟩) rs.length co) (rs1.set j (⟨⟨nl, ys ++ [nameS g.names]⟩, v173⟩ : RV)), symsA (rs1.set j (⟨⟨nl, ys ++ [nameS g.names]⟩, v173⟩ : RV)), cel b6 51 [.bool false, .int .i64 g.names], cel b5 24 [.int .i64 g.terms, .int .i64 g.names, (.slice (some ⟨bo, 0, none⟩) rs.length co)], cel b4 24 [.int .i64 0, .int .i64 0, .slice none 0 0], cel b3 26 [.int .i64 s.op, .int .i64 s.a, .int .i64 s.b, .int .i64 s.c], cel b2 24 [.int .i64 g.terms, .int .i64 g.names, .slice (some p) g.rules.length c]]) (fun w hw => by
          rw [List.set_set] at hw
          have h1 : Sat _ _ (symA (⟨⟨nl, ys ++ [nameS g.names]⟩, v173⟩ : RV) :: symsA rs1 :: [trow 3 1 encN (.slice (some ⟨bq, 0, none⟩) kl.length cq) (kl.map (fun (z : Nat) => (z : Int))), rulesA (.slice (some ⟨bo, 0, none⟩) rs.length co) (rs1.set j (⟨⟨nl, ys ++ [nameS g.names]⟩, v173⟩ : RV)), cel b6 51 [.bool false, .int .i64 g.names], cel b5 24 [.int .i64 g.terms, .int .i64 g.names, (.slice (some ⟨bo, 0, none⟩) rs.length co)], cel b4 24 [.int .i64 0, .int .i64 0, .slice none 0 0], cel b3 26 [.int .i64 s.op, .int .i64 s.a, .int .i64 s.b, .int .i64 s.c], cel b2 24 [.int .i64 g.terms, .int .i64 g.names, .slice (some p) g.rules.length c]]) w := hw.sub (by repeat (first | exact SubL.nil | exact Pick.head | apply Pick.tail | apply SubL.cons))
          exact (h1.symsPut hx).sub (by repeat (first | exact SubL.nil | exact Pick.head | apply Pick.tail | apply SubL.cons))) ?_
        refine EW_again ((k + 1, rs1.set j (⟨⟨nl, ys ++ [nameS g.names]⟩, v173⟩ : RV))) ⟨?_, ?_⟩ ⟨rfl, rfl, rfl, rfl, rfl, rfl, rfl, rfl, trivial⟩ (fun w hw => hw.sub (by (repeat (first | exact SubL.nil | exact Pick.head | apply Pick.tail | apply SubL.cons))))
        · show kl.length - (k + 1) < kl.length - k; omega
        · refine ⟨by show k + 1 ≤ _; omega, by show (rs1.set j _).length = _; rw [List.length_set]; exact hrl1, fun j' q' hq' => ?_⟩
          show ∃ v, (rs1.set j _)[j']? = some (⟨if j' ∈ kl.take (k + 1) then _ else _, v⟩ : RV)
          by_cases e : j = j'
          · subst e
            rw [hq] at hq'
            cases hq'
            refine ⟨v173, ?_⟩
            rw [List.getElem?_set_self (List.getElem?_eq_some_iff.1 hx).1, if_pos (by rw [take_next hj]; simp), ← hY]
          · obtain ⟨v, hv⟩ := hrk j' q' hq'
            refine ⟨v, ?_⟩
            rw [List.getElem?_set_ne e, hv]
            have e2 : (j' ∈ kl.take (k + 1)) ↔ j' ∈ kl.take k := by
              rw [take_next hj, List.mem_append, List.mem_singleton]
              constructor
              · rintro (h | h)
                · exact h
                · exact absurd h.symm e
              · exact .inl
            simp only [e2]
      · skip
        refine DT_e rfl (e_single Try.underlying46 Try.sizeOf51 Try.zeroValue51 (e := 51) (v := .agg #[.bool false, .int .i64 g.names]) (cs := [.bool false, .int .i64 g.names]) rfl rfl rfl rfl (by decide) (by decide)) rfl (.inr (fun _ w hw => (by first | exact hw.sub (by repeat (first | exact SubL.nil | exact Pick.head | apply Pick.tail | apply SubL.cons)) | exact hw.2.sub (by repeat (first | exact SubL.nil | exact Pick.head | apply Pick.tail | apply SubL.cons))))) (fun b172 => ?_)
        refine DT_e rfl (e_call Try.call33 rfl (fun w hw => lift_old (cloneY_any vv ys w (by omega) (hsv w (hw.symsIn (v := .slice ax q.right.length cx) (l := q.right) (by repeat (first | exact (Hole.sym hx).swap _ | apply Swap.tail))))) hw)) rfl (.inr (fun _ w hw => (by first | exact hw.sub (by (repeat (first | exact SubL.nil | exact Pick.head | apply Pick.tail | apply SubL.cons))) | exact hw.2.sub (by (repeat (first | exact SubL.nil | exact Pick.head | apply Pick.tail | apply SubL.cons)))))) (fun x170 => ?_)
        refine DT_e rfl (e_append_t (x0 := nameS g.names) (enc := encY) (l := ys) Try.underlying46 Try.typeInfo51 rfl rfl rfl rfl rfl rfl rfl (by repeat (first | exact .head | apply Pick.tail)) rfl (by exact fun w hw => hw.news (by repeat (first | exact .head | apply Swap.tail))) (by simp [Value.oneCell']) (by omega) (by decide)) rfl (.inr (fun _ w hw => (by first | exact hw.sub (by repeat (first | exact SubL.nil | exact Pick.head | apply Pick.tail | apply SubL.cons)) | exact hw.2.sub (by repeat (first | exact SubL.nil | exact Pick.head | apply Pick.tail | apply SubL.cons))))) (fun v173 => ?_)
        refine DT_fact (fun w hw => hw.tform (v := v173) (l := (ys ++ [nameS g.names])) (enc := encY) (by repeat (first | exact .head | apply Swap.tail))) (fun hf => ?_)
        obtain ⟨a173, c173, e173, _, _, hb173⟩ := hf
        refine DT_p rfl (.inr (fun w hw => (by first | exact hw.sub (by (repeat (first | exact SubL.nil | exact Pick.head | apply Pick.tail | apply SubL.cons))) | exact hw.2.sub (by (repeat (first | exact SubL.nil | exact Pick.head | apply Pick.tail | apply SubL.cons)))))) (q_nilCheck rfl) rfl ?_
        refine DT_p rfl (.inr (fun w hw => (by first | exact hw.sub (by (repeat (first | exact SubL.nil | exact Pick.head | apply Pick.tail | apply SubL.cons))) | exact hw.2.sub (by (repeat (first | exact SubL.nil | exact Pick.head | apply Pick.tail | apply SubL.cons)))))) (q_fieldAddr Try.underlying49 rfl rfl Try.sizeOf46 rfl rfl) rfl ?_
        refine DT_e0 rfl (e_store_t (enc := encRV) (k := j) (off := 1) (v := .slice (some ⟨bo, 0, none⟩) rs.length co) (l := (rs1.set j ⟨⟨nl, q.right⟩, vv⟩)) (y := ⟨⟨nl, q.right⟩, vv⟩) (y' := (⟨⟨nl, ys ++ [nameS g.names]⟩, v173⟩ : RV)) Try.sizeOf46 (fun _ => rfl) rfl rfl (by rw [e173]; rfl) rfl hx1 rfl (by repeat (first | exact .head | apply Swap.tail))) (.inl rfl) (fun _ => ?_)
        refine DT_nil ?_
        refine EW_block_normal ?_
        refine EW_then ?_
        refine CW_region ?_
        first | refine OW_q (q_inc rfl rfl (by omega)) rfl ?_ | refine OW_q (q_add rfl rfl (by omega) (by omega)) rfl ?_
        refine OW_q (q_move rfl) rfl ?_
        refine OW_nil ?_
        refine EW_weak (S' := Sat (Old _) _ [trow 3 1 encN (.slice (some ⟨bq, 0, none⟩) kl.length cq) (kl.map (fun (z : Nat) => (z : Int))), rulesA (.slice (some ⟨bo, 0, none⟩) rs.length co) (rs1.set j (⟨⟨nl, ys ++ [nameS g.names]⟩, v173⟩ : RV)), symsA (rs1.set j (⟨⟨nl, ys ++ [nameS g.names]⟩, v173⟩ : RV)), cel b6 51 [.bool false, .int .i64 g.names], cel b5 24 [.int .i64 g.terms, .int .i64 g.names, (.slice (some ⟨bo, 0, none⟩) rs.length co)], cel b4 24 [.int .i64 0, .int .i64 0, .slice none 0 0], cel b3 26 [.int .i64 s.op, .int .i64 s.a, .int .i64 s.b, .int .i64 s.c], cel b2 24 [.int .i64 g.terms, .int .i64 g.names, .slice (some p) g.rules.length c]]) (fun w hw => by
          rw [List.set_set] at hw
          have h1 : Sat _ _ (symA (⟨⟨nl, ys ++ [nameS g.names]⟩, v173⟩ : RV) :: symsA rs1 :: [trow 3 1 encN (.slice (some ⟨bq, 0, none⟩) kl.length cq) (kl.map (fun (z : Nat) => (z : Int))), rulesA (.slice (some ⟨bo, 0, none⟩) rs.length co) (rs1.set j (⟨⟨nl, ys ++ [nameS g.names]⟩, v173⟩ : RV)), cel b6 51 [.bool false, .int .i64 g.names], cel b5 24 [.int .i64 g.terms, .int .i64 g.names, (.slice (some ⟨bo, 0, none⟩) rs.length co)], cel b4 24 [.int .i64 0, .int .i64 0, .slice none 0 0], cel b3 26 [.int .i64 s.op, .int .i64 s.a, .int .i64 s.b, .int .i64 s.c], cel b2 24 [.int .i64 g.terms, .int .i64 g.names, .slice (some p) g.rules.length c]]) w := hw.sub (by repeat (first | exact SubL.nil | exact Pick.head | apply Pick.tail | apply SubL.cons))
          exact (h1.symsPut hx).sub (by repeat (first | exact SubL.nil | exact Pick.head | apply Pick.tail | apply SubL.cons))) ?_
        refine EW_again ((k + 1, rs1.set j (⟨⟨nl, ys ++ [nameS g.names]⟩, v173⟩ : RV))) ⟨?_, ?_⟩ ⟨rfl, rfl, rfl, rfl, rfl, rfl, rfl, rfl, trivial⟩ (fun w hw => hw.sub (by (repeat (first | exact SubL.nil | exact Pick.head | apply Pick.tail | apply SubL.cons))))
        · show kl.length - (k + 1) < kl.length - k; omega
        · refine ⟨by show k + 1 ≤ _; omega, by show (rs1.set j _).length = _; rw [List.length_set]; exact hrl1, fun j' q' hq' => ?_⟩
          show ∃ v, (rs1.set j _)[j']? = some (⟨if j' ∈ kl.take (k + 1) then _ else _, v⟩ : RV)
          by_cases e : j = j'
          · subst e
            rw [hq] at hq'
            cases hq'
            refine ⟨v173, ?_⟩
            rw [List.getElem?_set_self (List.getElem?_eq_some_iff.1 hx).1, if_pos (by rw [take_next hj]; simp), ← hY]
          · obtain ⟨v, hv⟩ := hrk j' q' hq'
            refine ⟨v, ?_⟩
            rw [List.getElem?_set_ne e, hv]
            have e2 : (j' ∈ kl.take (k + 1)) ↔ j' ∈ kl.take k := by
              rw [take_next hj, List.mem_append, List.mem_singleton]
              constructor
              · rintro (h | h)
                · exact h
                · exact absurd h.symm e
              · exact .inl
            simp only [e2]
  · skip
    have hke : k = kl.length := by have := of_decide_eq_false h139; omega
    refine CW_exit ?_
    refine EW_then_exit ?_
    refine EW_out ?_
    refine EW_block_exit ?_
    refine EW_then ?_
    refine CW_seq ?_
    refine CW_region ?_
    refine OW_q (q_fieldAddr Try.underlying24 rfl rfl Try.sizeOf3 rfl rfl) rfl ?_
    first | (refine OW_q (q_load1_own Try.isAgg3 rfl rfl (by (repeat (first | exact .head | apply Swap.tail))) (by rfl)) rfl ?_) | (refine OW_q (q_load1_ro Try.isAgg3 rfl (by first | assumption | exact Row.at_ (by assumption) rfl)) rfl ?_)
    first | refine OW_q (q_inc rfl rfl (by omega)) rfl ?_ | refine OW_q (q_add rfl rfl (by omega) (by omega)) rfl ?_
    refine OW_q (q_fieldAddr Try.underlying24 rfl rfl Try.sizeOf3 rfl rfl) rfl ?_
    refine OW_e0 (e_store Try.sizeOf3 rfl rfl rfl rfl (by (repeat (first | exact .head | apply Swap.tail))) (by rfl)) (fun _ => ?_)
    refine OW_nil ?_
    refine EW_then ?_
    refine CW_region ?_
    refine OW_q (q_fieldAddr Try.underlying24 rfl rfl Try.sizeOf22 rfl rfl) rfl ?_
    first | (refine OW_q (q_load1_own Try.isAgg22 rfl rfl (by (repeat (first | exact .head | apply Swap.tail))) (by rfl)) rfl ?_) | (refine OW_q (q_load1_ro Try.isAgg22 rfl (by first | assumption | exact Row.at_ (by assumption) rfl)) rfl ?_)
    refine OW_q (q_fieldAddr Try.underlying24 rfl rfl Try.sizeOf3 rfl rfl) rfl ?_
    first | (refine OW_q (q_load1_own Try.isAgg3 rfl rfl (by (repeat (first | exact .head | apply Swap.tail))) (by rfl)) rfl ?_) | (refine OW_q (q_load1_ro Try.isAgg3 rfl (by first | assumption | exact Row.at_ (by assumption) rfl)) rfl ?_)
    refine OW_q (q_build (ps := #[(0, .int .i64 g.names)]) (v := .agg #[.int .i64 g.names, .slice none 0 0]) rfl (fun w => by kernel_rfl)) rfl ?_
    refine OW_e (e_single Try.underlying22 Try.sizeOf49 Try.zeroValue49 (e := 49) (v := .agg #[.int .i64 g.names, .slice none 0 0]) (cs := [.int .i64 g.names, .slice none 0 0]) rfl rfl rfl rfl (by decide) (by decide)) rfl (fun b186 => ?_)
    refine OW_e (e_append_t (x0 := (⟨⟨g.names, []⟩, .slice none 0 0⟩ : RV)) (enc := encRV) (v := .slice ao rs.length co) (l := rs1) Try.underlying22 Try.typeInfo49 rfl rfl rfl rfl rfl rfl rfl (by repeat (first | exact .head | apply Pick.tail)) rfl (by exact fun w hw => hw.news (by repeat (first | exact .head | apply Swap.tail))) (by simp [Value.oneCell']) (by omega) (by decide)) rfl (fun v187 => ?_)
    refine OW_fact (fun w hw => hw.tform (v := v187) (l := rs1 ++ [(⟨⟨g.names, []⟩, .slice none 0 0⟩ : RV)]) (enc := encRV) (by repeat (first | exact .head | apply Swap.tail))) (fun hf => ?_)
    obtain ⟨a187, c187, rfl, _, _, hb187⟩ := hf
    refine OW_q (q_fieldAddr Try.underlying24 rfl rfl Try.sizeOf22 rfl rfl) rfl ?_
    refine OW_e0 (e_store Try.sizeOf22 rfl rfl rfl rfl (by (repeat (first | exact .head | apply Swap.tail))) (by rfl)) (fun _ => ?_)
    refine OW_nil ?_
    refine EW_block_normal ?_
    refine EW_then ?_
    refine CW_seq ?_
    refine CW_region ?_
    first | (refine OW_q (q_loadN_own Try.isAgg24 Try.sizeOf24 rfl rfl (by (repeat (first | exact .head | apply Swap.tail))) (by rfl)) rfl ?_) | (refine OW_q (q_loadN_ro Try.isAgg24 Try.sizeOf24 rfl (by first | assumption | exact Row.at_ (by assumption) rfl) (by rfl)) rfl ?_)
    refine OW_e0 (e_storeN Try.sizeOf24 rfl rfl rfl rfl (by simp [Value.oneCell']) (by (repeat (first | exact .head | apply Swap.tail))) (by rfl)) (fun _ => ?_)
    refine OW_nil ?_
    refine EW_then ?_
    refine CW_ret ?_
    refine retc1a (vs := [.int .i64 g.terms, .int .i64 (g.names + 1), .slice a187 (rs1 ++ [(⟨⟨g.names, []⟩, .slice none 0 0⟩ : RV)]).length c187]) Try.results20 Try.isAgg24 Try.sizeOf24 rfl rfl (fun w hw j u hj => by rw [Addr.add_lit, hw.cell (t := 24) (cs := [.int .i64 g.terms, .int .i64 (g.names + 1), .slice a187 (rs1 ++ [(⟨⟨g.names, []⟩, .slice none 0 0⟩ : RV)]).length c187]) (A' := cel b4 24 [.int .i64 g.terms, .int .i64 (g.names + 1), .slice a187 (rs1 ++ [(⟨⟨g.names, []⟩, .slice none 0 0⟩ : RV)]).length c187]) (by repeat (first | exact .head | apply Swap.tail)), Nat.zero_add]; exact hj) (fun w hw => ?_)
    have hst : ∀ ms cs, stepG g s ms cs = ⟨g.terms, g.names + 1, g.rules.map (leftR g s.a) ++ [⟨g.names, []⟩]⟩ := fun ms cs => by unfold stepG; rw [if_neg (by omega), if_neg (by omega), if_neg (by omega), if_pos hop]
    have hpl : plainR rs1 = g.rules.map (leftR g s.a) := by
      apply List.ext_getElem?
      intro j
      unfold plainR
      rw [List.getElem?_map, List.getElem?_map]
      cases hq : g.rules[j]? with
      | none =>
        have := List.getElem?_eq_none_iff.1 hq
        rw [List.getElem?_eq_none (by omega)]; rfl
      | some q =>
        obtain ⟨v, hv⟩ := hrk j q hq
        rw [hv]
        show some _ = some _
        congr 1
        rw [hke, List.take_length]
        split
        · rfl
        · rename_i hn
          exact (leftR_other fun e => hn (by rw [hkl]; exact ofL_get hq e)).symm
    refine ⟨(.slice a187 (rs1 ++ [(⟨⟨g.names, []⟩, .slice none 0 0⟩ : RV)]).length c187, rs1 ++ [(⟨⟨g.names, []⟩, .slice none 0 0⟩ : RV)], [], []), by simp only [hst], ⟨fun h => by omega, ?_⟩, ?_⟩
    · simp only [hst]
      rw [← hpl]
      simp [plainR]
    · have h1 : Sat (Old _) _ (symsA rs1 :: symA (⟨⟨g.names, []⟩, .slice none 0 0⟩ : RV) :: [rulesA (.slice a187 (rs1 ++ [(⟨⟨g.names, []⟩, .slice none 0 0⟩ : RV)]).length c187) (rs1 ++ [(⟨⟨g.names, []⟩, .slice none 0 0⟩ : RV)])]) w := (hw.tnil 51 2 encY).sub (by repeat (first | exact SubL.nil | exact Pick.head | apply Pick.tail | apply SubL.cons))
      exact h1.symsPush.sub (by repeat (first | exact SubL.nil | exact Pick.head | apply Pick.tail | apply SubL.cons))

end Go.Sy
