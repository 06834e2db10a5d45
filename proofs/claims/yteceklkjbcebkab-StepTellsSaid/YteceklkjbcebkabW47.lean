/- step.change: a part taken out. No condition. -/
import Derived.Test.YteceklkjbcebkabW46
namespace Go.Sy
open Go Go.RowKit Go.Proofs

theorem DW_weak [Inhabited (List Deferred)] {P : Program} {Q : Exit → Act → World → Prop} {n : Nat} {K : Env} {S S' : World → Prop} {ops : Array Oper} {C : World → Prop} {z : Nat} {l : List (Nat × Bool)} (hp : ∀ w, S w → S' w) (h : DW P ops Q C z l n K S') : DW P ops Q C z l n K S := fun a w ha hw => h a w ha (hp w hw)
theorem plain_get {rs : List RV} {l : List Rule} (h : plainR rs = l) {k : Nat} {q : Rule} (hq : l[k]? = some q) : ∃ v, rs[k]? = some ⟨q, v⟩ := by
  rw [← h] at hq
  unfold plainR at hq
  rw [List.getElem?_map] at hq
  obtain ⟨⟨r, v⟩, h1, rfl⟩ := Option.map_eq_some_iff.1 hq
  exact ⟨v, h1⟩
set_option maxRecDepth 20000 in
theorem change2_any (gv : Value) (g : Gram) (s : SStep) (w : World) (hm : mayB g = true) (hs : mayS g s = true) (hop : s.op = 2) (hg : GramAt (Cl w) gv g) : Calls Try.prog 20 #[gv, stepV s] w (fun e w' => ∃ x : Value × List RV × List Bool × List Bool, e = .returned (.agg #[.int .i64 g.terms, .int .i64 (stepG g s x.2.2.1 x.2.2.2).names, x.1]) ∧ ((s.op = 5 → MksOk g x.2.2.1 ∧ CmsOk g x.2.2.2) ∧ plainR x.2.1 = (stepG g s x.2.2.1 x.2.2.2).rules) ∧ Sat (Old w) w [rulesA x.1 x.2.1, symsA x.2.1] w') := by
  have hg0 := hg
  obtain ⟨rv, rfl, hr⟩ := hg.mono old_rd
  obtain ⟨a, c, rfl, hc1, hc2, hrs⟩ := id hr
  clear hg
  have hM := mayB_true.1 hm
  have hr8 : ∀ r ∈ g.rules, r.right.length ≤ 1000 := fun r hr => by
    obtain ⟨k, hk⟩ := List.getElem?_of_mem hr
    have := (may_rule hm hk).2.2
    omega
  have hs2 := hs
  unfold mayS at hs2
  rw [if_neg (by omega), if_pos hop] at hs2
  simp only [Bool.and_eq_true, inR_true, decide_eq_true_eq] at hs2
  obtain ⟨⟨⟨ha0, ha1⟩, hb0, hbc⟩, hcr⟩ := hs2
  obtain ⟨q, hq⟩ := get_of_lt (l := g.rules) (k := s.a.toNat) (by omega)
  rw [ruleAt_get hq] at hcr
  have hq8 := (may_rule hm hq).2.2
  obtain ⟨pt, hpt⟩ : ∃ pt, pt = (q.right.take s.c.toNat).drop s.b.toNat := ⟨_, rfl⟩
  have hptl : pt.length = s.c.toNat - s.b.toNat := by rw [hpt, List.length_drop, List.length_take]; omega
  refine calls_CW Try.func20 rfl Try.ntmps20 rfl (Sat.start w) ?_
  refine CW_seq ?_
  refine CW_region ?_
  refine OW_e (e_box rfl rfl) rfl (fun b2 => ?_)
  refine OW_e (e_box rfl rfl) rfl (fun b3 => ?_)
  refine OW_e (e_alloc Try.zeroValue24 rfl) rfl (fun b4 => ?_)
  refine OW_nil ?_
  refine EW_then ?_
  refine CW_seq ?_
  refine CW_region ?_
  first | (refine OW_q (q_loadN_own Try.isAgg24 Try.sizeOf24 rfl rfl (by (repeat (first | exact .head | apply Swap.tail))) (by rfl)) rfl ?_) | (refine OW_q (q_loadN_ro Try.isAgg24 Try.sizeOf24 rfl (by first | assumption | exact Row.at_ (by assumption) rfl) (by rfl)) rfl ?_)
  refine OW_e (e_call Try.call30 rfl (fun w hw => lift_oldP (cloneG_any _ g w (by omega) hr8 (hg0.mono (fun _ _ h => hw.rd (Rd.old h)))) hw)) rfl (fun x20 => ?_)
  refine OW_pure fun hx20 => ?_
  obtain ⟨ov, rs⟩ := x20
  have hrl : plainR rs = g.rules := hx20
  have hrsl : rs.length = g.rules.length := by rw [← hrl]; simp [plainR]
  refine OW_fact (fun w hw => hw.tform (v := ov) (l := rs) (enc := encRV) (by repeat (first | exact .head | apply Swap.tail))) (fun hf => ?_)
  obtain ⟨ao, co, rfl, _, _, hbo⟩ := hf
  refine OW_spell 20 (.agg #[.int .i64 g.terms, .int .i64 g.names, .slice ao rs.length co]) rfl rfl ?_
  refine OW_weak (S' := Sat (Old w) w [rulesA (.slice ao rs.length co) rs, symsA rs, cel b4 24 [.int .i64 0, .int .i64 0, .slice none 0 0], cel b3 26 [.int .i64 s.op, .int .i64 s.a, .int .i64 s.b, .int .i64 s.c], cel b2 24 [.int .i64 g.terms, .int .i64 g.names, .slice a g.rules.length c]]) (fun w hw => hw) ?_
  refine OW_fact (fun w hw => hw.symsOne (by repeat (first | exact .head | apply Swap.tail))) (fun hone => ?_)
  refine OW_e (e_alloc Try.zeroValue24 rfl) rfl (fun b5 => ?_)
  refine OW_e0 (e_storeN Try.sizeOf24 rfl rfl rfl rfl (by simp [Value.oneCell']) (by (repeat (first | exact .head | apply Swap.tail))) (by rfl)) (fun _ => ?_)
  refine OW_nil ?_
  refine EW_then ?_
  refine CW_seq ?_
  refine CW_region ?_
  refine OW_q (q_fieldAddr Try.underlying24 rfl rfl Try.sizeOf3 rfl rfl) rfl ?_
  first | (refine OW_q (q_load1_own Try.isAgg3 rfl rfl (by (repeat (first | exact .head | apply Swap.tail))) (by rfl)) rfl ?_) | (refine OW_q (q_load1_ro Try.isAgg3 rfl (by first | assumption | exact Row.at_ (by assumption) rfl)) rfl ?_)
  refine OW_e (e_call Try.call31 rfl (fun w hw => lift_ro (name_any g.names w) hw)) rfl (fun x23 => ?_)
  refine OW_e (e_alloc Try.zeroValue51 rfl) rfl (fun b6 => ?_)
  refine OW_e0 (e_storeN Try.sizeOf51 rfl rfl rfl rfl (by simp [Value.oneCell']) (by (repeat (first | exact .head | apply Swap.tail))) (by rfl)) (fun _ => ?_)
  refine OW_nil ?_
  refine EW_then ?_
  refine CW_seq ?_
  refine CW_seq ?_
  refine CW_region ?_
  refine OW_q (q_fieldAddr Try.underlying26 rfl rfl Try.sizeOf3 rfl rfl) rfl ?_
  first | (refine OW_q (q_load1_own Try.isAgg3 rfl rfl (by (repeat (first | exact .head | apply Swap.tail))) (by rfl)) rfl ?_) | (refine OW_q (q_load1_ro Try.isAgg3 rfl (by first | assumption | exact Row.at_ (by assumption) rfl)) rfl ?_)
  refine OW_nil ?_
  refine EW_then ?_
  refine CW_block ?_
  refine CW_seq ?_
  refine CW_region ?_
  refine OW_q (q_eqi rfl rfl) rfl ?_
  refine OW_q (q_assign rfl) rfl ?_
  refine OW_nil ?_
  refine EW_then ?_
  refine CW_false rfl (by simp [hop]) ?_
  refine CW_seq ?_
  refine CW_region ?_
  refine OW_q (q_eqi rfl rfl) rfl ?_
  refine OW_q (q_assign rfl) rfl ?_
  refine OW_nil ?_
  refine EW_then ?_
  refine CW_true rfl (by simp [hop]) ?_
  refine CW_seq ?_
  obtain ⟨xv, hx⟩ := plain_get hrl hq
  obtain ⟨bo, rfl⟩ := hbo (by have := (List.getElem?_eq_some_iff.1 hx).1; omega)
  refine CW_weak (S' := Sat (Old w) w [rulesA (.slice (some ⟨bo, 0, none⟩) rs.length co) rs, symsA rs, cel b6 51 [.bool false, .int .i64 g.names], cel b5 24 [.int .i64 g.terms, .int .i64 g.names, .slice (some ⟨bo, 0, none⟩) rs.length co], cel b4 24 [.int .i64 0, .int .i64 0, .slice none 0 0], cel b3 26 [.int .i64 s.op, .int .i64 s.a, .int .i64 s.b, .int .i64 s.c], cel b2 24 [.int .i64 g.terms, .int .i64 g.names, .slice a g.rules.length c]]) (fun w hw => hw.sub (by repeat (first | exact SubL.nil | exact Pick.head | apply Pick.tail | apply SubL.cons))) ?_
  refine CW_fact (fun w hw => hw.tform (v := xv) (l := q.right) (enc := encY) ((Hole.tail (Hole.sym hx)).swap _)) (fun hf => ?_)
  obtain ⟨ax, cx, rfl, _, _, hbx⟩ := hf
  refine CW_region ?_
  refine OW_q (q_fieldAddr Try.underlying24 rfl rfl Try.sizeOf22 rfl rfl) rfl ?_
  first | (refine OW_q (q_load1_own Try.isAgg22 rfl rfl (by (repeat (first | exact .head | apply Swap.tail))) (by rfl)) rfl ?_) | (refine OW_q (q_load1_ro Try.isAgg22 rfl (by first | assumption | exact Row.at_ (by assumption) rfl)) rfl ?_)
  refine OW_q (q_fieldAddr Try.underlying26 rfl rfl Try.sizeOf3 rfl rfl) rfl ?_
  first | (refine OW_q (q_load1_own Try.isAgg3 rfl rfl (by (repeat (first | exact .head | apply Swap.tail))) (by rfl)) rfl ?_) | (refine OW_q (q_load1_ro Try.isAgg3 rfl (by first | assumption | exact Row.at_ (by assumption) rfl)) rfl ?_)
  refine OW_q (q_indexAddrI Try.underlying22 Try.sizeOf49 rfl rfl (by first | omega | assumption) (by first | omega | assumption)) rfl ?_
  refine OW_q (q_assign rfl) rfl ?_
  refine OW_nil ?_
  refine EW_then ?_
  refine CW_seq ?_
  refine CW_drawS 11 [(0, false), (1, false), (2, false), (3, false), (4, false), (5, false), (6, false), (7, false), (8, false), (9, true), (10, false)] (by kernel_rfl) (Blind.then (Blind.block (Blind.then (Blind.body (by intro c w h; simp at h))))) (by kernel_rfl) (fun w hw => hw.drew) ?_
  refine DW_q rfl (fun w hw => hw.sub (by (repeat (first | exact SubL.nil | exact Pick.head | apply Pick.tail | apply SubL.cons)))) (q_move rfl) rfl ?_
  refine DW_q rfl (fun w hw => hw.sub (by (repeat (first | exact SubL.nil | exact Pick.head | apply Pick.tail | apply SubL.cons)))) (q_nilCheck rfl) rfl ?_
  refine DW_q rfl (fun w hw => hw.sub (by (repeat (first | exact SubL.nil | exact Pick.head | apply Pick.tail | apply SubL.cons)))) (q_fieldAddr Try.underlying49 rfl rfl Try.sizeOf46 rfl rfl) rfl ?_
  refine DW_q rfl (fun w hw => hw.sub (by repeat (first | exact SubL.nil | exact Pick.head | apply Pick.tail | apply SubL.cons))) (q_load1_t (enc := encRV) (k := s.a.toNat) (off := 1) (v := .slice (some ⟨bo, 0, none⟩) rs.length co) (l := rs) Try.isAgg46 (fun _ => rfl) rfl (by repeat (first | exact .head | apply Swap.tail)) rfl hx rfl) rfl ?_
  refine DW_q rfl (fun w hw => hw.sub (by (repeat (first | exact SubL.nil | exact Pick.head | apply Pick.tail | apply SubL.cons)))) (q_fieldAddr Try.underlying26 rfl rfl Try.sizeOf3 rfl rfl) rfl ?_
  first | (refine DW_q rfl (fun w hw => hw.sub (by (repeat (first | exact SubL.nil | exact Pick.head | apply Pick.tail | apply SubL.cons)))) (q_load1_own Try.isAgg3 rfl rfl (by (repeat (first | exact .head | apply Swap.tail))) (by rfl)) rfl ?_) | (refine DW_q rfl (fun w hw => hw.sub (by (repeat (first | exact SubL.nil | exact Pick.head | apply Pick.tail | apply SubL.cons)))) (q_load1_ro Try.isAgg3 rfl (by first | assumption | exact Row.at_ (by assumption) rfl)) rfl ?_)
  refine DW_q rfl (fun w hw => hw.sub (by (repeat (first | exact SubL.nil | exact Pick.head | apply Pick.tail | apply SubL.cons)))) (q_fieldAddr Try.underlying26 rfl rfl Try.sizeOf3 rfl rfl) rfl ?_
  first | (refine DW_q rfl (fun w hw => hw.sub (by (repeat (first | exact SubL.nil | exact Pick.head | apply Pick.tail | apply SubL.cons)))) (q_load1_own Try.isAgg3 rfl rfl (by (repeat (first | exact .head | apply Swap.tail))) (by rfl)) rfl ?_) | (refine DW_q rfl (fun w hw => hw.sub (by (repeat (first | exact SubL.nil | exact Pick.head | apply Pick.tail | apply SubL.cons)))) (q_load1_ro Try.isAgg3 rfl (by first | assumption | exact Row.at_ (by assumption) rfl)) rfl ?_)
  refine DW_spell 45 (.int .i64 ((s.b.toNat : Nat) : Int)) rfl (congrArg (Value.int .i64) (by omega)) ?_
  refine DW_spell 47 (.int .i64 ((s.c.toNat : Nat) : Int)) rfl (congrArg (Value.int .i64) (by omega)) ?_
  refine DW_q rfl (fun w hw => hw.sub (by (repeat (first | exact SubL.nil | exact Pick.head | apply Pick.tail | apply SubL.cons)))) (q_slice Try.underlying46 Try.sizeOf51 rfl (.inr ⟨_, rfl, rfl⟩) (.inr ⟨_, rfl, rfl⟩) (by omega) (by omega) (by omega)) rfl ?_
  refine DW_e rfl (e_call Try.call33 rfl (fun w hw => lift_old (cloneY_any _ pt w (by omega) (by rw [hpt]; exact SlAt.sub (hw.symsIn ((Hole.tail (Hole.sym hx)).swap _)) (by omega) (by omega))) hw)) rfl (fun _ w hw => by first | exact hw.sub (by (repeat (first | exact SubL.nil | exact Pick.head | apply Pick.tail | apply SubL.cons))) | exact hw.2.sub (by (repeat (first | exact SubL.nil | exact Pick.head | apply Pick.tail | apply SubL.cons)))) (fun x49 => ?_)
  refine DW_fact (fun w hw => hw.tform (v := x49) (l := pt) (enc := encY) (by repeat (first | exact .head | apply Swap.tail))) (fun hf => ?_)
  obtain ⟨a49, c49, rfl, _, _, hb49⟩ := hf
  refine DW_q rfl (fun w hw => hw.sub (by (repeat (first | exact SubL.nil | exact Pick.head | apply Pick.tail | apply SubL.cons)))) (q_assign rfl) rfl ?_
  refine DW_nil ?_
  refine EW_then ?_
  refine CW_seq ?_
  refine CW_draw (Sat (Old w) w [rulesA (.slice (some ⟨bo, 0, none⟩) rs.length co) rs, cel b6 51 [.bool false, .int .i64 g.names], cel b5 24 [.int .i64 g.terms, .int .i64 g.names, (.slice (some ⟨bo, 0, none⟩) rs.length co)], cel b4 24 [.int .i64 0, .int .i64 0, .slice none 0 0], cel b3 26 [.int .i64 s.op, .int .i64 s.a, .int .i64 s.b, .int .i64 s.c], cel b2 24 [.int .i64 g.terms, .int .i64 g.names, .slice a g.rules.length c]]) 14 [(0, false), (1, false), (2, false), (3, false), (4, false), (5, false), (6, false), (7, false), (8, false), (9, false), (10, true), (11, true), (12, false), (13, false), (14, true)] (by kernel_rfl) (Blind.then (Blind.block (Blind.then (Blind.body (by intro c w h; simp at h))))) (by kernel_rfl) (fun w hw => hw.drew) ?_
  refine DW_q rfl (fun w hw => hw.sub (by (repeat (first | exact SubL.nil | exact Pick.head | apply Pick.tail | apply SubL.cons)))) (q_move rfl) rfl ?_
  refine DW_q rfl (fun w hw => hw.sub (by (repeat (first | exact SubL.nil | exact Pick.head | apply Pick.tail | apply SubL.cons)))) (q_move rfl) rfl ?_
  refine DW_q rfl (fun w hw => hw.sub (by (repeat (first | exact SubL.nil | exact Pick.head | apply Pick.tail | apply SubL.cons)))) (q_nilCheck rfl) rfl ?_
  refine DW_q rfl (fun w hw => hw.sub (by (repeat (first | exact SubL.nil | exact Pick.head | apply Pick.tail | apply SubL.cons)))) (q_fieldAddr Try.underlying49 rfl rfl Try.sizeOf46 rfl rfl) rfl ?_
  refine DW_q rfl (fun w hw => hw.sub (by repeat (first | exact SubL.nil | exact Pick.head | apply Pick.tail | apply SubL.cons))) (q_load1_t (enc := encRV) (k := s.a.toNat) (off := 1) (v := .slice (some ⟨bo, 0, none⟩) rs.length co) (l := rs) Try.isAgg46 (fun _ => rfl) rfl (by repeat (first | exact .head | apply Swap.tail)) rfl hx rfl) rfl ?_
  refine DW_q rfl (fun w hw => hw.sub (by (repeat (first | exact SubL.nil | exact Pick.head | apply Pick.tail | apply SubL.cons)))) (q_fieldAddr Try.underlying26 rfl rfl Try.sizeOf3 rfl rfl) rfl ?_
  first | (refine DW_q rfl (fun w hw => hw.sub (by (repeat (first | exact SubL.nil | exact Pick.head | apply Pick.tail | apply SubL.cons)))) (q_load1_own Try.isAgg3 rfl rfl (by (repeat (first | exact .head | apply Swap.tail))) (by rfl)) rfl ?_) | (refine DW_q rfl (fun w hw => hw.sub (by (repeat (first | exact SubL.nil | exact Pick.head | apply Pick.tail | apply SubL.cons)))) (q_load1_ro Try.isAgg3 rfl (by first | assumption | exact Row.at_ (by assumption) rfl)) rfl ?_)
  refine DW_q rfl (fun w hw => hw.sub (by (repeat (first | exact SubL.nil | exact Pick.head | apply Pick.tail | apply SubL.cons)))) (q_fieldAddr Try.underlying26 rfl rfl Try.sizeOf3 rfl rfl) rfl ?_
  first | (refine DW_q rfl (fun w hw => hw.sub (by (repeat (first | exact SubL.nil | exact Pick.head | apply Pick.tail | apply SubL.cons)))) (q_load1_own Try.isAgg3 rfl rfl (by (repeat (first | exact .head | apply Swap.tail))) (by rfl)) rfl ?_) | (refine DW_q rfl (fun w hw => hw.sub (by (repeat (first | exact SubL.nil | exact Pick.head | apply Pick.tail | apply SubL.cons)))) (q_load1_ro Try.isAgg3 rfl (by first | assumption | exact Row.at_ (by assumption) rfl)) rfl ?_)
  first | (refine DW_q rfl (fun w hw => hw.sub (by (repeat (first | exact SubL.nil | exact Pick.head | apply Pick.tail | apply SubL.cons)))) (q_loadN_own Try.isAgg51 Try.sizeOf51 rfl rfl (by (repeat (first | exact .head | apply Swap.tail))) (by rfl)) rfl ?_) | (refine DW_q rfl (fun w hw => hw.sub (by (repeat (first | exact SubL.nil | exact Pick.head | apply Pick.tail | apply SubL.cons)))) (q_loadN_ro Try.isAgg51 Try.sizeOf51 rfl (by first | assumption | exact Row.at_ (by assumption) rfl) (by rfl)) rfl ?_)
  refine DW_e rfl (e_single Try.underlying46 Try.sizeOf51 Try.zeroValue51 (e := 51) (v := .agg #[.bool false, .int .i64 g.names]) (cs := [.bool false, .int .i64 g.names]) rfl rfl rfl rfl (by decide) (by decide)) rfl (fun _ w hw => hw.sub (by repeat (first | exact SubL.nil | exact Pick.head | apply Pick.tail | apply SubL.cons))) (fun b60 => ?_)
  refine DW_spell 56 (.int .i64 ((s.b.toNat : Nat) : Int)) rfl (congrArg (Value.int .i64) (by omega)) ?_
  refine DW_spell 58 (.int .i64 ((s.c.toNat : Nat) : Int)) rfl (congrArg (Value.int .i64) (by omega)) ?_
  refine DW_e rfl (e_call Try.call34 rfl (fun w hw => lift_two (VA := cel b60 51 [.bool false, .int .i64 g.names]) (Hole.tail (Hole.tail (Hole.sym hx))) hw (fun F hF => replY_any (.slice ax q.right.length cx) q.right [nameS g.names] s.b.toNat s.c.toNat 1 (some ⟨b60, 0, none⟩) _ _ w _ (by omega) (by omega) (by simp only [List.length_singleton]; omega) (VIn.star (VIn.cel (off := 0))) hF))) rfl (fun _ w hw => by first | exact hw.sub (by (repeat (first | exact SubL.nil | exact Pick.head | apply Pick.tail | apply SubL.cons))) | exact hw.2.sub (by (repeat (first | exact SubL.nil | exact Pick.head | apply Pick.tail | apply SubL.cons)))) (fun x61 => ?_)
  refine DW_weak (S' := Sat (Old w) w [cel b60 51 [.bool false, .int .i64 g.names], trow 51 2 encY (.slice a49 pt.length c49) pt, rulesA (.slice (some ⟨bo, 0, none⟩) rs.length co) rs, symsA (rs.set s.a.toNat (⟨⟨q.left, (q.right.take s.b.toNat ++ [nameS g.names] ++ q.right.drop s.c.toNat)⟩, x61⟩ : RV)), cel b6 51 [.bool false, .int .i64 g.names], cel b5 24 [.int .i64 g.terms, .int .i64 g.names, (.slice (some ⟨bo, 0, none⟩) rs.length co)], cel b4 24 [.int .i64 0, .int .i64 0, .slice none 0 0], cel b3 26 [.int .i64 s.op, .int .i64 s.a, .int .i64 s.b, .int .i64 s.c], cel b2 24 [.int .i64 g.terms, .int .i64 g.names, .slice a g.rules.length c]]) (fun w hw => by rw [← symsA_set (rs := rs) (k := s.a.toNat) (⟨⟨q.left, (q.right.take s.b.toNat ++ [nameS g.names] ++ q.right.drop s.c.toNat)⟩, x61⟩ : RV)]; exact hw) ?_
  have hx61 : (rs.set s.a.toNat (⟨⟨q.left, (q.right.take s.b.toNat ++ [nameS g.names] ++ q.right.drop s.c.toNat)⟩, x61⟩ : RV))[s.a.toNat]? = some (⟨⟨q.left, (q.right.take s.b.toNat ++ [nameS g.names] ++ q.right.drop s.c.toNat)⟩, x61⟩ : RV) := List.getElem?_set_self (List.getElem?_eq_some_iff.1 hx).1
  refine DW_fact (fun w hw => hw.tform (v := x61) (l := (q.right.take s.b.toNat ++ [nameS g.names] ++ q.right.drop s.c.toNat)) (enc := encY) ((Hole.tail (Hole.tail (Hole.tail (Hole.sym hx61)))).swap _)) (fun hf => ?_)
  obtain ⟨a61, c61, e61, _, _, hb61⟩ := hf
  refine DW_q rfl (fun w hw => hw.sub (by (repeat (first | exact SubL.nil | exact Pick.head | apply Pick.tail | apply SubL.cons)))) (q_nilCheck rfl) rfl ?_
  refine DW_q rfl (fun w hw => hw.sub (by (repeat (first | exact SubL.nil | exact Pick.head | apply Pick.tail | apply SubL.cons)))) (q_fieldAddr Try.underlying49 rfl rfl Try.sizeOf46 rfl rfl) rfl ?_
  refine DW_z0 rfl (e_store_t (enc := encRV) (k := s.a.toNat) (off := 1) (v := .slice (some ⟨bo, 0, none⟩) rs.length co) (l := rs) (y := ⟨q, .slice ax q.right.length cx⟩) (y' := (⟨⟨q.left, (q.right.take s.b.toNat ++ [nameS g.names] ++ q.right.drop s.c.toNat)⟩, x61⟩ : RV)) Try.sizeOf46 (fun _ => rfl) rfl rfl (by rw [e61]; rfl) rfl hx rfl (by repeat (first | exact .head | apply Swap.tail))) (fun _ => ?_)
  refine EW_then ?_
  refine CW_seq ?_
  refine CW_region ?_
  refine OW_q (q_fieldAddr Try.underlying24 rfl rfl Try.sizeOf3 rfl rfl) rfl ?_
  first | (refine OW_q (q_load1_own Try.isAgg3 rfl rfl (by (repeat (first | exact .head | apply Swap.tail))) (by rfl)) rfl ?_) | (refine OW_q (q_load1_ro Try.isAgg3 rfl (by first | assumption | exact Row.at_ (by assumption) rfl)) rfl ?_)
  first | refine OW_q (q_inc rfl rfl (by omega)) rfl ?_ | refine OW_q (q_add rfl rfl (by omega) (by omega)) rfl ?_
  refine OW_q (q_fieldAddr Try.underlying24 rfl rfl Try.sizeOf3 rfl rfl) rfl ?_
  refine OW_e0 (e_store Try.sizeOf3 rfl rfl rfl rfl (by (repeat (first | exact .head | apply Swap.tail))) (by rfl)) (fun _ => ?_)
  refine OW_nil ?_
  refine EW_then ?_
  refine CW_region ?_
  refine OW_q (q_fieldAddr Try.underlying24 rfl rfl Try.sizeOf22 rfl rfl) rfl ?_
  first | (refine OW_q (q_load1_own Try.isAgg22 rfl rfl (by (repeat (first | exact .head | apply Swap.tail))) (by rfl)) rfl ?_) | (refine OW_q (q_load1_ro Try.isAgg22 rfl (by first | assumption | exact Row.at_ (by assumption) rfl)) rfl ?_)
  refine OW_q (q_fieldAddr Try.underlying24 rfl rfl Try.sizeOf3 rfl rfl) rfl ?_
  first | (refine OW_q (q_load1_own Try.isAgg3 rfl rfl (by (repeat (first | exact .head | apply Swap.tail))) (by rfl)) rfl ?_) | (refine OW_q (q_load1_ro Try.isAgg3 rfl (by first | assumption | exact Row.at_ (by assumption) rfl)) rfl ?_)
  refine OW_q (q_move rfl) rfl ?_
  refine OW_q (q_build (ps := #[(0, .int .i64 g.names), (1, .slice a49 pt.length c49)]) (v := .agg #[.int .i64 g.names, .slice a49 pt.length c49]) rfl (fun w => by kernel_rfl)) rfl ?_
  refine OW_e (e_single Try.underlying22 Try.sizeOf49 Try.zeroValue49 (e := 49) (v := .agg #[.int .i64 g.names, .slice a49 pt.length c49]) (cs := [.int .i64 g.names, .slice a49 pt.length c49]) rfl rfl rfl rfl (by decide) (by decide)) rfl (fun b74 => ?_)
  refine OW_e (e_append_t (x0 := (⟨⟨g.names, pt⟩, .slice a49 pt.length c49⟩ : RV)) (enc := encRV) (v := .slice (some ⟨bo, 0, none⟩) rs.length co) (l := (rs.set s.a.toNat (⟨⟨q.left, (q.right.take s.b.toNat ++ [nameS g.names] ++ q.right.drop s.c.toNat)⟩, x61⟩ : RV))) Try.underlying22 Try.typeInfo49 rfl rfl rfl rfl rfl rfl rfl (by repeat (first | exact .head | apply Pick.tail)) rfl (by exact fun w hw => hw.news (by repeat (first | exact .head | apply Swap.tail))) (by simp [Value.oneCell']) (by rw [List.length_set]; omega) (by decide)) rfl (fun v75 => ?_)
  refine OW_fact (fun w hw => hw.tform (v := v75) (l := (rs.set s.a.toNat (⟨⟨q.left, (q.right.take s.b.toNat ++ [nameS g.names] ++ q.right.drop s.c.toNat)⟩, x61⟩ : RV)) ++ [(⟨⟨g.names, pt⟩, .slice a49 pt.length c49⟩ : RV)]) (enc := encRV) (by repeat (first | exact .head | apply Swap.tail))) (fun hf => ?_)
  obtain ⟨a75, c75, rfl, _, _, hb75⟩ := hf
  refine OW_q (q_fieldAddr Try.underlying24 rfl rfl Try.sizeOf22 rfl rfl) rfl ?_
  refine OW_e0 (e_store Try.sizeOf22 rfl rfl rfl rfl (by (repeat (first | exact .head | apply Swap.tail))) (by rfl)) (fun _ => ?_)
  refine OW_nil ?_
  refine EW_block_normal ?_
  refine EW_then ?_
  refine CW_seq ?_
  refine CW_region ?_
  first | (refine OW_q (q_loadN_own Try.isAgg24 Try.sizeOf24 rfl rfl (by (repeat (first | exact .head | apply Swap.tail))) (by rfl)) rfl ?_) | (refine OW_q (q_loadN_ro Try.isAgg24 Try.sizeOf24 rfl (by first | assumption | exact Row.at_ (by assumption) rfl) (by rfl)) rfl ?_)
  refine OW_e0 (e_storeN Try.sizeOf24 rfl rfl rfl rfl (by simp [Value.oneCell']) (by (repeat (first | exact .head | apply Swap.tail))) (by rfl)) (fun _ => ?_)
  refine OW_nil ?_
  refine EW_then ?_
  refine CW_ret ?_
  refine retc1a (vs := [.int .i64 g.terms, .int .i64 (g.names + 1), .slice a75 ((rs.set s.a.toNat (⟨⟨q.left, (q.right.take s.b.toNat ++ [nameS g.names] ++ q.right.drop s.c.toNat)⟩, x61⟩ : RV)) ++ [(⟨⟨g.names, pt⟩, .slice a49 pt.length c49⟩ : RV)]).length c75]) Try.results20 Try.isAgg24 Try.sizeOf24 rfl rfl (fun w hw j u hj => by rw [Addr.add_lit, hw.cell (t := 24) (cs := [.int .i64 g.terms, .int .i64 (g.names + 1), .slice a75 ((rs.set s.a.toNat (⟨⟨q.left, (q.right.take s.b.toNat ++ [nameS g.names] ++ q.right.drop s.c.toNat)⟩, x61⟩ : RV)) ++ [(⟨⟨g.names, pt⟩, .slice a49 pt.length c49⟩ : RV)]).length c75]) (A' := cel b4 24 [.int .i64 g.terms, .int .i64 (g.names + 1), .slice a75 ((rs.set s.a.toNat (⟨⟨q.left, (q.right.take s.b.toNat ++ [nameS g.names] ++ q.right.drop s.c.toNat)⟩, x61⟩ : RV)) ++ [(⟨⟨g.names, pt⟩, .slice a49 pt.length c49⟩ : RV)]).length c75]) (by repeat (first | exact .head | apply Swap.tail)), Nat.zero_add]; exact hj) (fun w hw => ?_)
  have hst : ∀ ms cs, stepG g s ms cs = ⟨g.terms, g.names + 1, g.rules.set s.a.toNat (extR q s.b.toNat s.c.toNat (nameS g.names)) ++ [⟨g.names, (q.right.drop s.b.toNat).take (s.c.toNat - s.b.toNat)⟩]⟩ := fun ms cs => by
    unfold stepG
    rw [if_neg (by omega), if_pos hop, ruleAt_get hq]
  refine ⟨(.slice a75 ((rs.set s.a.toNat (⟨⟨q.left, (q.right.take s.b.toNat ++ [nameS g.names] ++ q.right.drop s.c.toNat)⟩, x61⟩ : RV)) ++ [(⟨⟨g.names, pt⟩, .slice a49 pt.length c49⟩ : RV)]).length c75, (rs.set s.a.toNat (⟨⟨q.left, (q.right.take s.b.toNat ++ [nameS g.names] ++ q.right.drop s.c.toNat)⟩, x61⟩ : RV)) ++ [(⟨⟨g.names, pt⟩, .slice a49 pt.length c49⟩ : RV)], [], []), by simp only [hst], ⟨fun h => by omega, ?_⟩, ?_⟩
  · simp only [hst]
    rw [← hrl, hpt, List.drop_take]
    simp [plainR, extR, List.map_set]
  · have h1 : Sat (Old _) _ (symsA (rs.set s.a.toNat (⟨⟨q.left, (q.right.take s.b.toNat ++ [nameS g.names] ++ q.right.drop s.c.toNat)⟩, x61⟩ : RV)) :: symA (⟨⟨g.names, pt⟩, .slice a49 pt.length c49⟩ : RV) :: [rulesA (.slice a75 ((rs.set s.a.toNat (⟨⟨q.left, (q.right.take s.b.toNat ++ [nameS g.names] ++ q.right.drop s.c.toNat)⟩, x61⟩ : RV)) ++ [(⟨⟨g.names, pt⟩, .slice a49 pt.length c49⟩ : RV)]).length c75) ((rs.set s.a.toNat (⟨⟨q.left, (q.right.take s.b.toNat ++ [nameS g.names] ++ q.right.drop s.c.toNat)⟩, x61⟩ : RV)) ++ [(⟨⟨g.names, pt⟩, .slice a49 pt.length c49⟩ : RV)])]) w := hw.sub (by repeat (first | exact SubL.nil | exact Pick.head | apply Pick.tail | apply SubL.cons))
    exact h1.symsPush.sub (by repeat (first | exact SubL.nil | exact Pick.head | apply Pick.tail | apply SubL.cons))

end Go.Sy
