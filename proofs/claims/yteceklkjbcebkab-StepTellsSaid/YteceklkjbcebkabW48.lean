/- step.change: a name put in its rules. No condition. -/
import Derived.Test.YteceklkjbcebkabW47
namespace Go.Sy
open Go Go.RowKit Go.Proofs

theorem lift_mutN {P : Program} {R : Nat → Prop} {w0 w : World} {L1 : List HP} {f : FuncId} {vs : Array Value} {ι : Type} {V : ι → Value} {M0 : List HP} {M : ι → List HP} (hS : Sat R w0 (M0 ++ L1) w)
    (h : ∀ F, Sat R w0 (M0 ++ [F]) w → Calls P f vs w (fun e w' => ∃ x, e = .returned (V x) ∧ Sat R w0 (M x ++ [F]) w')) :
    Calls P f vs w (fun e w' => ∃ x, e = .returned (V x) ∧ Sat R w0 (M x ++ L1) w') :=
  (lift_mutL (p := fun _ => True) hS fun F hF => (h F hF).mono fun _ _ ⟨x, he, hw⟩ => ⟨x, he, trivial, hw⟩).mono fun _ _ ⟨x, he, _, hw⟩ => ⟨x, he, hw⟩
theorem ofL_pick {rs : List Rule} {n : Int} : (ofL rs n).filterMap (fun k => rs[k]?) = rs.filter (fun r => decide (r.left = n)) := by
  have := range_pick rs (fun r => decide (r.left = n)) rs.length
  rw [List.take_length] at this
  rw [← this]
  unfold ofL
  congr 1
  apply List.filter_congr
  intro k _
  cases rs[k]? <;> simp
section
variable {R : Nat → Prop} {w0 w : World} {L : List HP}
theorem Sat.symsPutIn {rs ys : List RV} {i : Nat} (h : Sat R w0 (symsA rs :: symsA ys :: L) w) : Sat R w0 (symsA (rs.take i ++ ys ++ rs.drop (i + 1)) :: L) w := by
  have h1 : Sat R w0 (symsA (rs.take i ++ rs.drop i) :: symsA ys :: L) w := by rw [List.take_append_drop]; exact h
  have h2 := h1.symsCut
  have h3 : Sat R w0 (symsA (rs.drop i) :: symsA (rs.take i) :: symsA ys :: L) w := h2.pick (.tail .head)
  have h4 := h3.symsSub (l := rs.drop (i + 1)) (by rw [← List.drop_drop]; exact List.drop_sublist _ _)
  have h5 := (h4.pick (.tail (.tail .head))).pick (.tail (.tail .head))
  exact (h5.symsJoin).symsJoin
end
set_option maxRecDepth 20000 in
theorem change3_any (gv : Value) (g : Gram) (s : SStep) (w : World) (hm : mayB g = true) (hs : mayS g s = true) (hop : s.op = 3) (hg : GramAt (Cl w) gv g) : Calls Try.prog 20 #[gv, stepV s] w (fun e w' => ∃ x : Value × List RV × List Bool × List Bool, e = .returned (.agg #[.int .i64 g.terms, .int .i64 (stepG g s x.2.2.1 x.2.2.2).names, x.1]) ∧ ((s.op = 5 → MksOk g x.2.2.1 ∧ CmsOk g x.2.2.2) ∧ plainR x.2.1 = (stepG g s x.2.2.1 x.2.2.2).rules) ∧ Sat (Old w) w [rulesA x.1 x.2.1, symsA x.2.1] w') := by
  have hg0 := hg
  obtain ⟨rv, rfl, hr⟩ := hg.mono old_rd
  obtain ⟨a, c, rfl, hc1, hc2, hrs⟩ := id hr
  clear hg
  have hM := mayB_true.1 hm
  have hr8 : ∀ r ∈ g.rules, r.right.length ≤ 1000 := fun r hr => by
    obtain ⟨k, hk⟩ := List.getElem?_of_mem hr
    have := (may_rule hm hk).2.2
    omega
  have hs2 := hs
  unfold mayS at hs2
  rw [if_neg (by omega), if_neg (by omega), if_pos hop] at hs2
  simp only [Bool.and_eq_true, inR_true, decide_eq_true_eq] at hs2
  obtain ⟨⟨⟨⟨ha0, ha1⟩, hc0⟩, hb0, hb1⟩, hil⟩ := hs2
  obtain ⟨q, hq⟩ := get_of_lt (l := g.rules) (k := s.a.toNat) (by omega)
  have hra := ruleAt_get hq
  unfold inlB at hil
  rw [hra] at hb1 hil
  obtain ⟨y, hy⟩ := get_of_lt (l := q.right) (k := s.b.toNat) (by omega)
  rw [hy] at hil
  have hq8 := (may_rule hm hq).2.2
  obtain ⟨kl, hkl⟩ : ∃ kl, kl = ofL g.rules y.n := ⟨_, rfl⟩
  have hkll : kl.length ≤ g.rules.length := by rw [hkl]; exact ofLk_len _ _ _
  refine calls_CW Try.func20 rfl Try.ntmps20 rfl (Sat.start w) ?_
  refine CW_seq ?_
  refine CW_region ?_
  refine OW_e (e_box rfl rfl) rfl (fun b2 => ?_)
  refine OW_e (e_box rfl rfl) rfl (fun b3 => ?_)
  refine OW_e (e_alloc Try.zeroValue24 rfl) rfl (fun b4 => ?_)
  refine OW_nil ?_
  refine EW_then ?_
  refine CW_seq ?_
  refine CW_region ?_
  first | (refine OW_q (q_loadN_own Try.isAgg24 Try.sizeOf24 rfl rfl (by (repeat (first | exact .head | apply Swap.tail))) (by rfl)) rfl ?_) | (refine OW_q (q_loadN_ro Try.isAgg24 Try.sizeOf24 rfl (by first | assumption | exact Row.at_ (by assumption) rfl) (by rfl)) rfl ?_)
  refine OW_e (e_call Try.call30 rfl (fun w hw => lift_oldP (cloneG_any _ g w (by omega) hr8 (hg0.mono (fun _ _ h => hw.rd (Rd.old h)))) hw)) rfl (fun x20 => ?_)
  refine OW_pure fun hx20 => ?_
  obtain ⟨ov, rs⟩ := x20
  have hrl : plainR rs = g.rules := hx20
  have hrsl : rs.length = g.rules.length := by rw [← hrl]; simp [plainR]
  refine OW_fact (fun w hw => hw.tform (v := ov) (l := rs) (enc := encRV) (by repeat (first | exact .head | apply Swap.tail))) (fun hf => ?_)
  obtain ⟨ao, co, rfl, _, _, hbo⟩ := hf
  refine OW_spell 20 (.agg #[.int .i64 g.terms, .int .i64 g.names, .slice ao rs.length co]) rfl rfl ?_
  refine OW_weak (S' := Sat (Old w) w [rulesA (.slice ao rs.length co) rs, symsA rs, cel b4 24 [.int .i64 0, .int .i64 0, .slice none 0 0], cel b3 26 [.int .i64 s.op, .int .i64 s.a, .int .i64 s.b, .int .i64 s.c], cel b2 24 [.int .i64 g.terms, .int .i64 g.names, .slice a g.rules.length c]]) (fun w hw => hw) ?_
  refine OW_fact (fun w hw => hw.symsOne (by repeat (first | exact .head | apply Swap.tail))) (fun hone => ?_)
  refine OW_e (e_alloc Try.zeroValue24 rfl) rfl (fun b5 => ?_)
  refine OW_e0 (e_storeN Try.sizeOf24 rfl rfl rfl rfl (by simp [Value.oneCell']) (by (repeat (first | exact .head | apply Swap.tail))) (by rfl)) (fun _ => ?_)
  refine OW_nil ?_
  refine EW_then ?_
  refine CW_seq ?_
  refine CW_region ?_
  refine OW_q (q_fieldAddr Try.underlying24 rfl rfl Try.sizeOf3 rfl rfl) rfl ?_
  first | (refine OW_q (q_load1_own Try.isAgg3 rfl rfl (by (repeat (first | exact .head | apply Swap.tail))) (by rfl)) rfl ?_) | (refine OW_q (q_load1_ro Try.isAgg3 rfl (by first | assumption | exact Row.at_ (by assumption) rfl)) rfl ?_)
  refine OW_e (e_call Try.call31 rfl (fun w hw => lift_ro (name_any g.names w) hw)) rfl (fun x23 => ?_)
  refine OW_e (e_alloc Try.zeroValue51 rfl) rfl (fun b6 => ?_)
  refine OW_e0 (e_storeN Try.sizeOf51 rfl rfl rfl rfl (by simp [Value.oneCell']) (by (repeat (first | exact .head | apply Swap.tail))) (by rfl)) (fun _ => ?_)
  refine OW_nil ?_
  refine EW_then ?_
  refine CW_seq ?_
  refine CW_seq ?_
  refine CW_region ?_
  refine OW_q (q_fieldAddr Try.underlying26 rfl rfl Try.sizeOf3 rfl rfl) rfl ?_
  first | (refine OW_q (q_load1_own Try.isAgg3 rfl rfl (by (repeat (first | exact .head | apply Swap.tail))) (by rfl)) rfl ?_) | (refine OW_q (q_load1_ro Try.isAgg3 rfl (by first | assumption | exact Row.at_ (by assumption) rfl)) rfl ?_)
  refine OW_nil ?_
  refine EW_then ?_
  refine CW_block ?_
  refine CW_seq ?_
  refine CW_region ?_
  refine OW_q (q_eqi rfl rfl) rfl ?_
  refine OW_q (q_assign rfl) rfl ?_
  refine OW_nil ?_
  refine EW_then ?_
  refine CW_false rfl (by simp [hop]) ?_
  refine CW_seq ?_
  refine CW_region ?_
  refine OW_q (q_eqi rfl rfl) rfl ?_
  refine OW_q (q_assign rfl) rfl ?_
  refine OW_nil ?_
  refine EW_then ?_
  refine CW_false rfl (by simp [hop]) ?_
  refine CW_seq ?_
  refine CW_region ?_
  refine OW_q (q_eqi rfl rfl) rfl ?_
  refine OW_q (q_assign rfl) rfl ?_
  refine OW_nil ?_
  refine EW_then ?_
  refine CW_true rfl (by simp [hop]) ?_
  refine CW_seq ?_
  obtain ⟨p, rfl, rvq, hsy, hrow⟩ := hrs s.a.toNat q hq
  obtain ⟨ya, yc, rfl, hy1, hy2, hys⟩ := id hsy
  obtain ⟨py, rfl, hry⟩ := hys s.b.toNat y hy
  refine CW_weak (S' := Sat (Old w) w [rulesA (.slice ao rs.length co) rs, symsA rs, cel b6 51 [.bool false, .int .i64 g.names], cel b5 24 [.int .i64 g.terms, .int .i64 g.names, .slice ao rs.length co], cel b4 24 [.int .i64 0, .int .i64 0, .slice none 0 0], cel b3 26 [.int .i64 s.op, .int .i64 s.a, .int .i64 s.b, .int .i64 s.c], cel b2 24 [.int .i64 g.terms, .int .i64 g.names, .slice (some p) g.rules.length c]]) (fun w hw => hw.sub (by repeat (first | exact SubL.nil | exact Pick.head | apply Pick.tail | apply SubL.cons))) ?_
  refine CW_region ?_
  refine OW_q (q_fieldAddr Try.underlying24 rfl rfl Try.sizeOf22 rfl rfl) rfl ?_
  first | (refine OW_q (q_load1_own Try.isAgg22 rfl rfl (by (repeat (first | exact .head | apply Swap.tail))) (by rfl)) rfl ?_) | (refine OW_q (q_load1_ro Try.isAgg22 rfl (by first | assumption | exact Row.at_ (by assumption) rfl)) rfl ?_)
  refine OW_q (q_fieldAddr Try.underlying26 rfl rfl Try.sizeOf3 rfl rfl) rfl ?_
  first | (refine OW_q (q_load1_own Try.isAgg3 rfl rfl (by (repeat (first | exact .head | apply Swap.tail))) (by rfl)) rfl ?_) | (refine OW_q (q_load1_ro Try.isAgg3 rfl (by first | assumption | exact Row.at_ (by assumption) rfl)) rfl ?_)
  refine OW_q (q_indexAddrI Try.underlying22 Try.sizeOf49 rfl rfl (by first | omega | assumption) (by first | omega | assumption)) rfl ?_
  refine OW_q (q_loadN_ro Try.isAgg49 Try.sizeOf49 rfl (by first | exact hrow) (by rfl)) rfl ?_
  refine OW_e (e_alloc Try.zeroValue49 rfl) rfl (fun b9 => ?_)
  refine OW_e0 (e_storeN Try.sizeOf49 rfl rfl rfl rfl (by simp [Value.oneCell']) (by (repeat (first | exact .head | apply Swap.tail))) (by rfl)) (fun _ => ?_)
  refine OW_nil ?_
  refine EW_then ?_
  refine CW_seq ?_
  refine CW_region ?_
  refine OW_q (q_assign rfl) rfl ?_
  refine OW_nil ?_
  refine EW_then ?_
  refine CW_seq ?_
  refine CW_seq ?_
  refine CW_drawS 11 [(0, false), (1, false), (2, false), (3, false), (4, false), (5, false), (6, false), (7, false), (10, false), (8, true), (9, false)] (by kernel_rfl) (Blind.then (Blind.then (Blind.block (Blind.then (Blind.body (by intro c w h; simp at h)))))) (by kernel_rfl) (fun w hw => hw.drew) ?_
  first | (refine DW_q rfl (fun w hw => hw.sub (by (repeat (first | exact SubL.nil | exact Pick.head | apply Pick.tail | apply SubL.cons)))) (q_loadN_own Try.isAgg24 Try.sizeOf24 rfl rfl (by (repeat (first | exact .head | apply Swap.tail))) (by rfl)) rfl ?_) | (refine DW_q rfl (fun w hw => hw.sub (by (repeat (first | exact SubL.nil | exact Pick.head | apply Pick.tail | apply SubL.cons)))) (q_loadN_ro Try.isAgg24 Try.sizeOf24 rfl (by first | assumption | exact Row.at_ (by assumption) rfl) (by rfl)) rfl ?_)
  refine DW_q rfl (fun w hw => hw.sub (by (repeat (first | exact SubL.nil | exact Pick.head | apply Pick.tail | apply SubL.cons)))) (q_fieldAddr Try.underlying49 rfl rfl Try.sizeOf46 rfl rfl) rfl ?_
  first | (refine DW_q rfl (fun w hw => hw.sub (by (repeat (first | exact SubL.nil | exact Pick.head | apply Pick.tail | apply SubL.cons)))) (q_load1_own Try.isAgg46 rfl rfl (by (repeat (first | exact .head | apply Swap.tail))) (by rfl)) rfl ?_) | (refine DW_q rfl (fun w hw => hw.sub (by (repeat (first | exact SubL.nil | exact Pick.head | apply Pick.tail | apply SubL.cons)))) (q_load1_ro Try.isAgg46 rfl (by first | assumption | exact Row.at_ (by assumption) rfl)) rfl ?_)
  refine DW_q rfl (fun w hw => hw.sub (by (repeat (first | exact SubL.nil | exact Pick.head | apply Pick.tail | apply SubL.cons)))) (q_fieldAddr Try.underlying26 rfl rfl Try.sizeOf3 rfl rfl) rfl ?_
  first | (refine DW_q rfl (fun w hw => hw.sub (by (repeat (first | exact SubL.nil | exact Pick.head | apply Pick.tail | apply SubL.cons)))) (q_load1_own Try.isAgg3 rfl rfl (by (repeat (first | exact .head | apply Swap.tail))) (by rfl)) rfl ?_) | (refine DW_q rfl (fun w hw => hw.sub (by (repeat (first | exact SubL.nil | exact Pick.head | apply Pick.tail | apply SubL.cons)))) (q_load1_ro Try.isAgg3 rfl (by first | assumption | exact Row.at_ (by assumption) rfl)) rfl ?_)
  refine DW_q rfl (fun w hw => hw.sub (by (repeat (first | exact SubL.nil | exact Pick.head | apply Pick.tail | apply SubL.cons)))) (q_indexAddrI Try.underlying46 Try.sizeOf51 rfl rfl (by first | omega | assumption) (by first | omega | assumption)) rfl ?_
  refine DW_q rfl (fun w hw => hw.sub (by (repeat (first | exact SubL.nil | exact Pick.head | apply Pick.tail | apply SubL.cons)))) (q_fieldAddr Try.underlying51 rfl rfl Try.sizeOf3 rfl rfl) rfl ?_
  refine DW_q rfl (fun w hw => hw.sub (by (repeat (first | exact SubL.nil | exact Pick.head | apply Pick.tail | apply SubL.cons)))) (q_load1_ro Try.isAgg3 rfl (by first | exact hry.at_ (j := 1) rfl)) rfl ?_
  refine DW_q rfl (fun w hw => hw.sub (by (repeat (first | exact SubL.nil | exact Pick.head | apply Pick.tail | apply SubL.cons)))) (q_move rfl) rfl ?_
  refine DW_e rfl (e_call Try.call28 rfl (fun w hw => lift_old (ofS_any _ g y.n w (by omega) (hg0.mono (fun _ _ h => hw.rd (Rd.old h)))) hw)) rfl (fun _ w hw => by first | exact hw.sub (by (repeat (first | exact SubL.nil | exact Pick.head | apply Pick.tail | apply SubL.cons))) | exact hw.2.sub (by (repeat (first | exact SubL.nil | exact Pick.head | apply Pick.tail | apply SubL.cons)))) (fun x93 => ?_)
  refine DW_fact (fun w hw => hw.tform (v := x93) (l := (ofL g.rules y.n).map (fun (z : Nat) => (z : Int))) (enc := encN) (by repeat (first | exact .head | apply Swap.tail))) (fun hf => ?_)
  obtain ⟨aq, cq, rfl, _, _, hbq⟩ := hf
  rw [← hkl, List.length_map] at hbq
  refine DW_spell 93 (.slice aq kl.length cq) rfl (by rw [← hkl, List.length_map]) ?_
  refine DW_weak (S' := Sat (Old w) w [trow 3 1 encN (.slice aq kl.length cq) (kl.map (fun (z : Nat) => (z : Int))), cel b9 49 [.int .i64 q.left, .slice (some py) q.right.length yc], rulesA (.slice ao rs.length co) rs, symsA rs, cel b6 51 [.bool false, .int .i64 g.names], cel b5 24 [.int .i64 g.terms, .int .i64 g.names, .slice ao rs.length co], cel b4 24 [.int .i64 0, .int .i64 0, .slice none 0 0], cel b3 26 [.int .i64 s.op, .int .i64 s.a, .int .i64 s.b, .int .i64 s.c], cel b2 24 [.int .i64 g.terms, .int .i64 g.names, .slice (some p) g.rules.length c]]) (fun w hw => by rw [← hkl, List.length_map] at hw; exact hw.sub (by repeat (first | exact SubL.nil | exact Pick.head | apply Pick.tail | apply SubL.cons))) ?_
  refine DW_q rfl (fun w hw => hw.sub (by (repeat (first | exact SubL.nil | exact Pick.head | apply Pick.tail | apply SubL.cons)))) (q_len Try.underlying32 rfl) rfl ?_
  refine DW_nil ?_
  refine EW_then ?_
  refine CW_block ?_
  refine CW_weak (S' := Sat (Old w) w [trow 3 1 encN (.slice aq kl.length cq) (kl.map (fun (z : Nat) => (z : Int))), rulesA (.slice none 0 0) [], symsA [], cel b9 49 [.int .i64 q.left, .slice (some py) q.right.length yc], rulesA (.slice ao rs.length co) rs, symsA rs, cel b6 51 [.bool false, .int .i64 g.names], cel b5 24 [.int .i64 g.terms, .int .i64 g.names, .slice ao rs.length co], cel b4 24 [.int .i64 0, .int .i64 0, .slice none 0 0], cel b3 26 [.int .i64 s.op, .int .i64 s.a, .int .i64 s.b, .int .i64 s.c], cel b2 24 [.int .i64 g.terms, .int .i64 g.names, .slice (some p) g.rules.length c]]) (fun w hw => ((hw.tnil 49 2 encRV).addEmp (A := symsA []) rfl).sub (by repeat (first | exact SubL.nil | exact Pick.head | apply Pick.tail | apply SubL.cons))) ?_
  refine CW_loopP (ι := Nat × Value × List RV) (fun i_ => i_.1 ≤ kl.length ∧ plainR i_.2.2 = ((kl.take i_.1).filterMap (fun z => g.rules[z]?)).map (inlR q s.b.toNat)) (fun i_ => [(2, .pointer (some ⟨b2, 0, none⟩)), (3, .pointer (some ⟨b3, 0, none⟩)), (4, .pointer (some ⟨b4, 0, none⟩)), (5, .pointer (some ⟨b5, 0, none⟩)), (6, .pointer (some ⟨b6, 0, none⟩)), (9, .pointer (some ⟨b9, 0, none⟩)), (10, i_.2.1), (93, .slice aq kl.length cq), (94, .int .i64 (kl.length : Int)), (95, .int .i64 (i_.1 : Int))]) (fun i_ => Sat (Old w) w [trow 3 1 encN (.slice aq kl.length cq) (kl.map (fun (z : Nat) => (z : Int))), rulesA i_.2.1 i_.2.2, symsA i_.2.2, cel b9 49 [.int .i64 q.left, .slice (some py) q.right.length yc], rulesA (.slice ao rs.length co) rs, symsA rs, cel b6 51 [.bool false, .int .i64 g.names], cel b5 24 [.int .i64 g.terms, .int .i64 g.names, .slice ao rs.length co], cel b4 24 [.int .i64 0, .int .i64 0, .slice none 0 0], cel b3 26 [.int .i64 s.op, .int .i64 s.a, .int .i64 s.b, .int .i64 s.c], cel b2 24 [.int .i64 g.terms, .int .i64 g.names, .slice (some p) g.rules.length c]]) (fun i_ => kl.length - i_.1) (0, .slice none 0 0, []) ?_ ⟨rfl, rfl, rfl, rfl, rfl, rfl, rfl, rfl, rfl, rfl, trivial⟩ (fun w hw => hw.sub (by (repeat (first | exact SubL.nil | exact Pick.head | apply Pick.tail | apply SubL.cons)))) ?_
  · exact ⟨Nat.zero_le _, by simp [plainR]⟩
  intro i_ hpre
  obtain ⟨k, lv, lrs⟩ := i_
  replace hpre : k ≤ kl.length ∧ plainR lrs = ((kl.take k).filterMap (fun z => g.rules[z]?)).map (inlR q s.b.toNat) := hpre
  change CW _ _ _ _ [(2, .pointer (some ⟨b2, 0, none⟩)), (3, .pointer (some ⟨b3, 0, none⟩)), (4, .pointer (some ⟨b4, 0, none⟩)), (5, .pointer (some ⟨b5, 0, none⟩)), (6, .pointer (some ⟨b6, 0, none⟩)), (9, .pointer (some ⟨b9, 0, none⟩)), (10, lv), (93, .slice aq kl.length cq), (94, .int .i64 (kl.length : Int)), (95, .int .i64 (k : Int))] (Sat (Old w) w [trow 3 1 encN (.slice aq kl.length cq) (kl.map (fun (z : Nat) => (z : Int))), rulesA lv lrs, symsA lrs, cel b9 49 [.int .i64 q.left, .slice (some py) q.right.length yc], rulesA (.slice ao rs.length co) rs, symsA rs, cel b6 51 [.bool false, .int .i64 g.names], cel b5 24 [.int .i64 g.terms, .int .i64 g.names, .slice ao rs.length co], cel b4 24 [.int .i64 0, .int .i64 0, .slice none 0 0], cel b3 26 [.int .i64 s.op, .int .i64 s.a, .int .i64 s.b, .int .i64 s.c], cel b2 24 [.int .i64 g.terms, .int .i64 g.names, .slice (some p) g.rules.length c]])
  obtain ⟨hk, hlr⟩ := hpre
  have hll : lrs.length ≤ k := by have h1 := congrArg List.length hlr; have := List.length_filterMap_le (fun z => g.rules[z]?) (kl.take k); unfold plainR at h1; rw [List.length_map, List.length_map] at h1; rw [List.length_take] at this; omega
  refine CW_seq ?_
  refine CW_region ?_
  refine OW_q (q_lss rfl rfl) rfl ?_
  refine OW_nil ?_
  refine EW_then ?_
  refine CW_seq ?_
  refine CW_cond rfl (fun h96 => ?_) (fun h96 => ?_)
  · skip
    have hlk : k < kl.length := by have := of_decide_eq_true h96; omega
    obtain ⟨j, hj⟩ := get_of_lt hlk
    have hjm : (kl.map (fun (z : Nat) => (z : Int)))[k]? = some ((j : Nat) : Int) := by rw [List.getElem?_map, hj]; rfl
    obtain ⟨bq, rfl⟩ := hbq (by omega)
    obtain ⟨q2, hq2, _⟩ := ofL_mem (rs := g.rules) (n := y.n) (by rw [← hkl]; exact List.mem_of_getElem? hj)
    have hjr := (List.getElem?_eq_some_iff.1 hq2).1
    have hq28 := (may_rule hm hq2).2.2
    obtain ⟨p', hp', rv2, hsy2, hrow2⟩ := hrs j q2 hq2
    cases hp'
    obtain ⟨ja, jc, rfl, _, _, _⟩ := id hsy2
    refine CW_skip ?_
    refine EW_then ?_
    refine CW_seq ?_
    refine CW_block ?_
    refine CW_seq ?_
    refine CW_region ?_
    refine OW_q (q_indexAddr Try.underlying32 Try.sizeOf3 rfl rfl (by first | omega | assumption)) rfl ?_
    refine OW_q (q_load_t1 (enc := encN) (k := k) (v := .slice (some ⟨bq, 0, none⟩) kl.length cq) (l := kl.map (fun (z : Nat) => (z : Int))) Try.isAgg3 (fun _ => rfl) rfl (by repeat (first | exact .head | apply Swap.tail)) rfl hjm rfl) rfl ?_
    refine OW_q (q_assign rfl) rfl ?_
    refine OW_nil ?_
    refine EW_then ?_
    refine CW_draw (Sat (Old w) w [cel b9 49 [.int .i64 q.left, .slice (some py) q.right.length yc], cel b3 26 [.int .i64 s.op, .int .i64 s.a, .int .i64 s.b, .int .i64 s.c], cel b2 24 [.int .i64 g.terms, .int .i64 g.names, .slice (some p) g.rules.length c]]) 22 [(0, false), (1, false), (2, false), (3, false), (4, false), (6, false), (7, false), (8, false), (9, false), (10, false), (11, false), (12, false), (13, false), (14, false), (15, false), (16, false), (5, true), (17, true), (18, false), (19, true), (20, true), (21, false)] (by kernel_rfl) (Blind.block (Blind.then (Blind.again (Blind.block (Blind.then (Blind.block (Blind.then (Blind.body (by intro c w h; simp at h))))))))) (by kernel_rfl) (fun w hw => hw.drew) ?_
    refine DW_q rfl (fun w hw => hw.sub (by (repeat (first | exact SubL.nil | exact Pick.head | apply Pick.tail | apply SubL.cons)))) (q_move rfl) rfl ?_
    refine DW_q rfl (fun w hw => hw.sub (by (repeat (first | exact SubL.nil | exact Pick.head | apply Pick.tail | apply SubL.cons)))) (q_fieldAddr Try.underlying49 rfl rfl Try.sizeOf3 rfl rfl) rfl ?_
    first | (refine DW_q rfl (fun w hw => hw.sub (by (repeat (first | exact SubL.nil | exact Pick.head | apply Pick.tail | apply SubL.cons)))) (q_load1_own Try.isAgg3 rfl rfl (by (repeat (first | exact .head | apply Swap.tail))) (by rfl)) rfl ?_) | (refine DW_q rfl (fun w hw => hw.sub (by (repeat (first | exact SubL.nil | exact Pick.head | apply Pick.tail | apply SubL.cons)))) (q_load1_ro Try.isAgg3 rfl (by first | assumption | exact Row.at_ (by assumption) rfl)) rfl ?_)
    refine DW_q rfl (fun w hw => hw.sub (by (repeat (first | exact SubL.nil | exact Pick.head | apply Pick.tail | apply SubL.cons)))) (q_fieldAddr Try.underlying49 rfl rfl Try.sizeOf46 rfl rfl) rfl ?_
    first | (refine DW_q rfl (fun w hw => hw.sub (by (repeat (first | exact SubL.nil | exact Pick.head | apply Pick.tail | apply SubL.cons)))) (q_load1_own Try.isAgg46 rfl rfl (by (repeat (first | exact .head | apply Swap.tail))) (by rfl)) rfl ?_) | (refine DW_q rfl (fun w hw => hw.sub (by (repeat (first | exact SubL.nil | exact Pick.head | apply Pick.tail | apply SubL.cons)))) (q_load1_ro Try.isAgg46 rfl (by first | assumption | exact Row.at_ (by assumption) rfl)) rfl ?_)
    refine DW_q rfl (fun w hw => hw.sub (by (repeat (first | exact SubL.nil | exact Pick.head | apply Pick.tail | apply SubL.cons)))) (q_fieldAddr Try.underlying26 rfl rfl Try.sizeOf3 rfl rfl) rfl ?_
    first | (refine DW_q rfl (fun w hw => hw.sub (by (repeat (first | exact SubL.nil | exact Pick.head | apply Pick.tail | apply SubL.cons)))) (q_load1_own Try.isAgg3 rfl rfl (by (repeat (first | exact .head | apply Swap.tail))) (by rfl)) rfl ?_) | (refine DW_q rfl (fun w hw => hw.sub (by (repeat (first | exact SubL.nil | exact Pick.head | apply Pick.tail | apply SubL.cons)))) (q_load1_ro Try.isAgg3 rfl (by first | assumption | exact Row.at_ (by assumption) rfl)) rfl ?_)
    refine DW_q rfl (fun w hw => hw.sub (by (repeat (first | exact SubL.nil | exact Pick.head | apply Pick.tail | apply SubL.cons)))) (q_fieldAddr Try.underlying26 rfl rfl Try.sizeOf3 rfl rfl) rfl ?_
    first | (refine DW_q rfl (fun w hw => hw.sub (by (repeat (first | exact SubL.nil | exact Pick.head | apply Pick.tail | apply SubL.cons)))) (q_load1_own Try.isAgg3 rfl rfl (by (repeat (first | exact .head | apply Swap.tail))) (by rfl)) rfl ?_) | (refine DW_q rfl (fun w hw => hw.sub (by (repeat (first | exact SubL.nil | exact Pick.head | apply Pick.tail | apply SubL.cons)))) (q_load1_ro Try.isAgg3 rfl (by first | assumption | exact Row.at_ (by assumption) rfl)) rfl ?_)
    first | refine DW_q rfl (fun w hw => hw.sub (by (repeat (first | exact SubL.nil | exact Pick.head | apply Pick.tail | apply SubL.cons)))) (q_inc rfl rfl (by omega)) rfl ?_ | refine DW_q rfl (fun w hw => hw.sub (by (repeat (first | exact SubL.nil | exact Pick.head | apply Pick.tail | apply SubL.cons)))) (q_add rfl rfl (by omega) (by omega)) rfl ?_
    refine DW_q rfl (fun w hw => hw.sub (by (repeat (first | exact SubL.nil | exact Pick.head | apply Pick.tail | apply SubL.cons)))) (q_fieldAddr Try.underlying24 rfl rfl Try.sizeOf22 rfl rfl) rfl ?_
    first | (refine DW_q rfl (fun w hw => hw.sub (by (repeat (first | exact SubL.nil | exact Pick.head | apply Pick.tail | apply SubL.cons)))) (q_load1_own Try.isAgg22 rfl rfl (by (repeat (first | exact .head | apply Swap.tail))) (by rfl)) rfl ?_) | (refine DW_q rfl (fun w hw => hw.sub (by (repeat (first | exact SubL.nil | exact Pick.head | apply Pick.tail | apply SubL.cons)))) (q_load1_ro Try.isAgg22 rfl (by first | assumption | exact Row.at_ (by assumption) rfl)) rfl ?_)
    refine DW_q rfl (fun w hw => hw.sub (by (repeat (first | exact SubL.nil | exact Pick.head | apply Pick.tail | apply SubL.cons)))) (q_move rfl) rfl ?_
    refine DW_q rfl (fun w hw => hw.sub (by (repeat (first | exact SubL.nil | exact Pick.head | apply Pick.tail | apply SubL.cons)))) (q_indexAddr Try.underlying22 Try.sizeOf49 rfl rfl (by first | omega | assumption)) rfl ?_
    refine DW_q rfl (fun w hw => hw.sub (by (repeat (first | exact SubL.nil | exact Pick.head | apply Pick.tail | apply SubL.cons)))) (q_fieldAddr Try.underlying49 rfl rfl Try.sizeOf46 rfl rfl) rfl ?_
    refine DW_q rfl (fun w hw => hw.sub (by (repeat (first | exact SubL.nil | exact Pick.head | apply Pick.tail | apply SubL.cons)))) (q_load1_ro Try.isAgg46 rfl (by first | exact hrow2.at_ (j := 1) rfl)) rfl ?_
    refine DW_e rfl (e_call Try.call33 rfl (fun w hw => lift_old (cloneY_any _ q.right w (by omega) (hsy.mono fun _ _ h => hw.rd h)) hw)) rfl (fun _ w hw => by first | exact hw.sub (by (repeat (first | exact SubL.nil | exact Pick.head | apply Pick.tail | apply SubL.cons))) | exact hw.2.sub (by (repeat (first | exact SubL.nil | exact Pick.head | apply Pick.tail | apply SubL.cons)))) (fun x104 => ?_)
    refine DW_spell 106 (.int .i64 ((s.b.toNat : Nat) : Int)) rfl (congrArg (Value.int .i64) (by omega)) ?_
    refine DW_spell 109 (.int .i64 ((s.b.toNat + 1 : Nat) : Int)) rfl (congrArg (Value.int .i64) (by omega)) ?_
    refine DW_e rfl (e_call Try.call34 rfl (fun w hw => lift_mutN (M0 := [trow 51 2 encY x104 q.right]) (L1 := [trow 3 1 encN (.slice (some ⟨bq, 0, none⟩) kl.length cq) (kl.map (fun (z : Nat) => (z : Int))), rulesA lv lrs, symsA lrs, cel b9 49 [.int .i64 q.left, .slice (some py) q.right.length yc], rulesA (.slice ao rs.length co) rs, symsA rs, cel b6 51 [.bool false, .int .i64 g.names], cel b5 24 [.int .i64 g.terms, .int .i64 g.names, .slice ao rs.length co], cel b4 24 [.int .i64 0, .int .i64 0, .slice none 0 0], cel b3 26 [.int .i64 s.op, .int .i64 s.a, .int .i64 s.b, .int .i64 s.c], cel b2 24 [.int .i64 g.terms, .int .i64 g.names, .slice (some p) g.rules.length c]]) (hw.sub (by repeat (first | exact SubL.nil | exact Pick.head | apply Pick.tail | apply SubL.cons))) (fun F hF => replY_any x104 q.right q2.right s.b.toNat (s.b.toNat + 1) jc ja _ _ w F (by omega) (by omega) (by omega) (VIn.syms hsy2) hF))) rfl (fun _ w hw => by first | exact hw.sub (by (repeat (first | exact SubL.nil | exact Pick.head | apply Pick.tail | apply SubL.cons))) | exact hw.2.sub (by (repeat (first | exact SubL.nil | exact Pick.head | apply Pick.tail | apply SubL.cons)))) (fun x116 => ?_)
    refine DW_fact (fun w hw => hw.tform (v := x116) (l := (inlR q s.b.toNat q2).right) (enc := encY) (by repeat (first | exact .head | apply Swap.tail))) (fun hf => ?_)
    obtain ⟨a116, c116, rfl, _, _, hb116⟩ := hf
    refine DW_q rfl (fun w hw => hw.sub (by (repeat (first | exact SubL.nil | exact Pick.head | apply Pick.tail | apply SubL.cons)))) (q_build (ps := #[(0, .int .i64 q.left), (1, .slice a116 (inlR q s.b.toNat q2).right.length c116)]) (v := .agg #[.int .i64 q.left, .slice a116 (inlR q s.b.toNat q2).right.length c116]) rfl (fun w => by kernel_rfl)) rfl ?_
    refine DW_e rfl (e_single Try.underlying22 Try.sizeOf49 Try.zeroValue49 (e := 49) (v := .agg #[.int .i64 q.left, .slice a116 (inlR q s.b.toNat q2).right.length c116]) (cs := [.int .i64 q.left, .slice a116 (inlR q s.b.toNat q2).right.length c116]) rfl rfl rfl rfl (by decide) (by decide)) rfl (fun _ w hw => hw.sub (by repeat (first | exact SubL.nil | exact Pick.head | apply Pick.tail | apply SubL.cons))) (fun b118 => ?_)
    refine DW_e rfl (e_append_t (x0 := (⟨(inlR q s.b.toNat q2), .slice a116 (inlR q s.b.toNat q2).right.length c116⟩ : RV)) (enc := encRV) (l := lrs) Try.underlying22 Try.typeInfo49 rfl rfl rfl rfl rfl rfl rfl (by repeat (first | exact .head | apply Pick.tail)) rfl (by exact fun w hw => hw.news (by repeat (first | exact .head | apply Swap.tail))) (by simp [Value.oneCell']) (by omega) (by decide)) rfl (fun _ w hw => hw.sub (by repeat (first | exact SubL.nil | exact Pick.head | apply Pick.tail | apply SubL.cons))) (fun v119 => ?_)
    refine DW_q rfl (fun w hw => hw.sub (by (repeat (first | exact SubL.nil | exact Pick.head | apply Pick.tail | apply SubL.cons)))) (q_assign rfl) rfl ?_
    refine DW_nil ?_
    refine EW_block_normal ?_
    refine EW_then ?_
    refine CW_region ?_
    first | refine OW_q (q_inc rfl rfl (by omega)) rfl ?_ | refine OW_q (q_add rfl rfl (by omega) (by omega)) rfl ?_
    refine OW_q (q_move rfl) rfl ?_
    refine OW_nil ?_
    refine EW_weak (S' := Sat (Old _) _ [trow 3 1 encN (.slice (some ⟨bq, 0, none⟩) kl.length cq) (kl.map (fun (z : Nat) => (z : Int))), rulesA v119 (lrs ++ [(⟨(inlR q s.b.toNat q2), .slice a116 (inlR q s.b.toNat q2).right.length c116⟩ : RV)]), symsA (lrs ++ [(⟨(inlR q s.b.toNat q2), .slice a116 (inlR q s.b.toNat q2).right.length c116⟩ : RV)]), cel b9 49 [.int .i64 q.left, .slice (some py) q.right.length yc], rulesA (.slice ao rs.length co) rs, symsA rs, cel b6 51 [.bool false, .int .i64 g.names], cel b5 24 [.int .i64 g.terms, .int .i64 g.names, .slice ao rs.length co], cel b4 24 [.int .i64 0, .int .i64 0, .slice none 0 0], cel b3 26 [.int .i64 s.op, .int .i64 s.a, .int .i64 s.b, .int .i64 s.c], cel b2 24 [.int .i64 g.terms, .int .i64 g.names, .slice (some p) g.rules.length c]]) (fun w hw => by
      have h1 : Sat _ _ (symsA lrs :: symA (⟨(inlR q s.b.toNat q2), .slice a116 (inlR q s.b.toNat q2).right.length c116⟩ : RV) :: [trow 3 1 encN (.slice (some ⟨bq, 0, none⟩) kl.length cq) (kl.map (fun (z : Nat) => (z : Int))), rulesA v119 (lrs ++ [(⟨(inlR q s.b.toNat q2), .slice a116 (inlR q s.b.toNat q2).right.length c116⟩ : RV)]), cel b9 49 [.int .i64 q.left, .slice (some py) q.right.length yc], rulesA (.slice ao rs.length co) rs, symsA rs, cel b6 51 [.bool false, .int .i64 g.names], cel b5 24 [.int .i64 g.terms, .int .i64 g.names, .slice ao rs.length co], cel b4 24 [.int .i64 0, .int .i64 0, .slice none 0 0], cel b3 26 [.int .i64 s.op, .int .i64 s.a, .int .i64 s.b, .int .i64 s.c], cel b2 24 [.int .i64 g.terms, .int .i64 g.names, .slice (some p) g.rules.length c]]) w := hw.sub (by repeat (first | exact SubL.nil | exact Pick.head | apply Pick.tail | apply SubL.cons))
      exact h1.symsPush.sub (by repeat (first | exact SubL.nil | exact Pick.head | apply Pick.tail | apply SubL.cons))) ?_
    refine EW_again ((k + 1, v119, lrs ++ [(⟨(inlR q s.b.toNat q2), .slice a116 (inlR q s.b.toNat q2).right.length c116⟩ : RV)])) ⟨?_, ?_⟩ ⟨rfl, rfl, rfl, rfl, rfl, rfl, rfl, rfl, rfl, rfl, trivial⟩ (fun w hw => hw.sub (by (repeat (first | exact SubL.nil | exact Pick.head | apply Pick.tail | apply SubL.cons))))
    · show kl.length - (k + 1) < kl.length - k; omega
    · refine ⟨by show k + 1 ≤ _; omega, ?_⟩
      show plainR (lrs ++ [_]) = _
      rw [take_next hj, List.filterMap_append, List.map_append, ← hlr]
      simp [plainR, hq2]
  · skip
    have hke : k = kl.length := by have := of_decide_eq_false h96; omega
    refine CW_exit ?_
    refine EW_then_exit ?_
    refine EW_out ?_
    refine EW_block_exit ?_
    refine EW_then ?_
    refine CW_fact (fun w hw => hw.tform (v := lv) (l := lrs) (enc := encRV) (by repeat (first | exact .head | apply Swap.tail))) (fun hf => ?_)
    obtain ⟨al, cl, rfl, _, _, hbl⟩ := hf
    refine CW_fact (fun w hw => hw.symsOne (rs := lrs) (by repeat (first | exact .head | apply Swap.tail))) (fun hone2 => ?_)
    refine CW_weak (S' := Sat (Old w) w [rulesA (.slice al lrs.length cl) lrs, rulesA (.slice ao rs.length co) rs, symsA rs, symsA lrs, cel b6 51 [.bool false, .int .i64 g.names], cel b5 24 [.int .i64 g.terms, .int .i64 g.names, .slice ao rs.length co], cel b4 24 [.int .i64 0, .int .i64 0, .slice none 0 0], cel b3 26 [.int .i64 s.op, .int .i64 s.a, .int .i64 s.b, .int .i64 s.c], cel b2 24 [.int .i64 g.terms, .int .i64 g.names, .slice (some p) g.rules.length c]]) (fun w hw => hw.sub (by repeat (first | exact SubL.nil | exact Pick.head | apply Pick.tail | apply SubL.cons))) ?_
    refine CW_region ?_
    refine OW_q (q_fieldAddr Try.underlying24 rfl rfl Try.sizeOf22 rfl rfl) rfl ?_
    first | (refine OW_q (q_load1_own Try.isAgg22 rfl rfl (by (repeat (first | exact .head | apply Swap.tail))) (by rfl)) rfl ?_) | (refine OW_q (q_load1_ro Try.isAgg22 rfl (by first | assumption | exact Row.at_ (by assumption) rfl)) rfl ?_)
    refine OW_q (q_fieldAddr Try.underlying26 rfl rfl Try.sizeOf3 rfl rfl) rfl ?_
    first | (refine OW_q (q_load1_own Try.isAgg3 rfl rfl (by (repeat (first | exact .head | apply Swap.tail))) (by rfl)) rfl ?_) | (refine OW_q (q_load1_ro Try.isAgg3 rfl (by first | assumption | exact Row.at_ (by assumption) rfl)) rfl ?_)
    refine OW_q (q_fieldAddr Try.underlying26 rfl rfl Try.sizeOf3 rfl rfl) rfl ?_
    first | (refine OW_q (q_load1_own Try.isAgg3 rfl rfl (by (repeat (first | exact .head | apply Swap.tail))) (by rfl)) rfl ?_) | (refine OW_q (q_load1_ro Try.isAgg3 rfl (by first | assumption | exact Row.at_ (by assumption) rfl)) rfl ?_)
    first | refine OW_q (q_inc rfl rfl (by omega)) rfl ?_ | refine OW_q (q_add rfl rfl (by omega) (by omega)) rfl ?_
    refine OW_q (q_move rfl) rfl ?_
    refine OW_spell 124 (.int .i64 ((s.a.toNat : Nat) : Int)) rfl (congrArg (Value.int .i64) (by omega)) ?_
    refine OW_spell 127 (.int .i64 ((s.a.toNat + 1 : Nat) : Int)) rfl (congrArg (Value.int .i64) (by omega)) ?_
    refine OW_e (e_call Try.call35 rfl (fun w hw => lift_two (VA := rulesA (.slice al lrs.length cl) lrs) Hole.head hw (fun F hF => replRV_any (.slice ao rs.length co) rs lrs s.a.toNat (s.a.toNat + 1) cl al _ _ w _ (by omega) (by omega) (by omega) hone hone2 (VIn.star VIn.trow) hF))) rfl (fun x129 => ?_)
    refine OW_fact (fun w hw => hw.tform (v := x129) (l := (rs.take s.a.toNat ++ lrs ++ rs.drop (s.a.toNat + 1))) (enc := encRV) (by repeat (first | exact .head | apply Swap.tail))) (fun hf => ?_)
    obtain ⟨a129, c129, rfl, _, _, hb129⟩ := hf
    refine OW_q (q_fieldAddr Try.underlying24 rfl rfl Try.sizeOf22 rfl rfl) rfl ?_
    refine OW_e0 (e_store Try.sizeOf22 rfl rfl rfl rfl (by (repeat (first | exact .head | apply Swap.tail))) (by rfl)) (fun _ => ?_)
    refine OW_nil ?_
    refine EW_block_normal ?_
    refine EW_then ?_
    refine CW_seq ?_
    refine CW_region ?_
    first | (refine OW_q (q_loadN_own Try.isAgg24 Try.sizeOf24 rfl rfl (by (repeat (first | exact .head | apply Swap.tail))) (by rfl)) rfl ?_) | (refine OW_q (q_loadN_ro Try.isAgg24 Try.sizeOf24 rfl (by first | assumption | exact Row.at_ (by assumption) rfl) (by rfl)) rfl ?_)
    refine OW_e0 (e_storeN Try.sizeOf24 rfl rfl rfl rfl (by simp [Value.oneCell']) (by (repeat (first | exact .head | apply Swap.tail))) (by rfl)) (fun _ => ?_)
    refine OW_nil ?_
    refine EW_then ?_
    refine CW_ret ?_
    refine retc1a (vs := [.int .i64 g.terms, .int .i64 g.names, .slice a129 (rs.take s.a.toNat ++ lrs ++ rs.drop (s.a.toNat + 1)).length c129]) Try.results20 Try.isAgg24 Try.sizeOf24 rfl rfl (fun w hw j u hj => by rw [Addr.add_lit, hw.cell (t := 24) (cs := [.int .i64 g.terms, .int .i64 g.names, .slice a129 (rs.take s.a.toNat ++ lrs ++ rs.drop (s.a.toNat + 1)).length c129]) (A' := cel b4 24 [.int .i64 g.terms, .int .i64 g.names, .slice a129 (rs.take s.a.toNat ++ lrs ++ rs.drop (s.a.toNat + 1)).length c129]) (by repeat (first | exact .head | apply Swap.tail)), Nat.zero_add]; exact hj) (fun w hw => ?_)
    have hst : ∀ ms cs, stepG g s ms cs = ⟨g.terms, g.names, g.rules.take s.a.toNat ++ inlL g s ++ g.rules.drop (s.a.toNat + 1)⟩ := fun ms cs => by unfold stepG; rw [if_neg (by omega), if_neg (by omega), if_pos hop]
    refine ⟨(.slice a129 (rs.take s.a.toNat ++ lrs ++ rs.drop (s.a.toNat + 1)).length c129, rs.take s.a.toNat ++ lrs ++ rs.drop (s.a.toNat + 1), [], []), by simp only [hst], ⟨fun h => by omega, ?_⟩, ?_⟩
    · simp only [hst]
      have e1 : inlL g s = plainR lrs := by
        rw [hlr, hke, List.take_length, hkl, ofL_pick]
        unfold inlL
        rw [hra, hy]
        simp
      rw [e1, ← hrl]
      simp [plainR, List.map_take, List.map_drop]
    · have h1 : Sat (Old _) _ (symsA rs :: symsA lrs :: [rulesA (.slice a129 (rs.take s.a.toNat ++ lrs ++ rs.drop (s.a.toNat + 1)).length c129) (rs.take s.a.toNat ++ lrs ++ rs.drop (s.a.toNat + 1))]) w := hw.sub (by repeat (first | exact SubL.nil | exact Pick.head | apply Pick.tail | apply SubL.cons))
      exact h1.symsPutIn.sub (by repeat (first | exact SubL.nil | exact Pick.head | apply Pick.tail | apply SubL.cons))

end Go.Sy
