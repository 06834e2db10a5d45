/- SetsTells: the program's sets of a grammar are the reference's. No condition. -/
import Derived.Test.YteceklkjbcebkaaW17
import Derived.Test.YteceklkjbcebkaaSyw
namespace Go.Sy
open Go Go.RowKit Go.Proofs

theorem nl_le {g : Gram} {a b : List Bool} (ha : NS g a) (hb : NC g b) {n : Nat} (h : a[n]? = some true) : atB b n = true := by
  have h1 := nullB_complete hb (ha (n : Int) (Int.natCast_nonneg n) (by rw [atB_nat h]))
  rw [nullB_cons] at h1
  simpa [nullB_nil] using h1
theorem sets_unique {g : Gram} {x y : SR} (hm : mayB g = true) (hx : SetsOk g g.names.toNat x) (hy : SetsOk g g.names.toNat y) : x.nl = y.nl ∧ x.fs = y.fs ∧ x.fo = y.fo := by
  have hM := mayB_true.1 hm
  have fs1 : ∀ {p q : SR}, SetsOk g g.names.toNat p → SetsOk g g.names.toNat q → ∀ n t : Int, 0 ≤ n → 0 ≤ t → t < g.terms → at2 p.fs n t = true → at2 q.fs n t = true := by
    intro p q hp hq n t h0 h1 h2 h
    have h3 := begB_complete hq.2.2.1 hq.2.2.2.1 (hp.2.1.2.1 n t h0 h1 h) h1 h2
    rw [begB_cons] at h3
    simpa [begB] using h3
  have fo1 : ∀ {p q : SR}, SetsOk g g.names.toNat p → SetsOk g g.names.toNat q → ∀ n t : Int, 0 ≤ n → 0 ≤ t → at2 p.fo n t = true → at2 q.fo n t = true := by
    intro p q hp hq n t h0 h1 h
    exact (follow_complete (fun r hr s hs ht => may_term hm hr hs ht) hM.1 hq.2.2.1 hq.2.2.2.1 hq.2.2.2.2 hq.2.1.2.2.2 (hp.2.1.2.2.1 n t h0 h1 h)).2
  refine ⟨bools_ext hx.1.1 hy.1.1 (fun _ h => nl_le hx.2.1.1 hy.2.2.1 h) (fun _ h => nl_le hy.2.1.1 hx.2.2.1 h), tab_ext hx.1.2.1 hy.1.2.1 fun n t h0 _ h1 h2 => ?_, tab_ext hx.1.2.2.1 hy.1.2.2.1 fun n t h0 _ h1 _ => ?_⟩
  · exact Bool.eq_iff_iff.2 ⟨fs1 hx hy n t h0 h1 (by omega), fs1 hy hx n t h0 h1 (by omega)⟩
  · exact Bool.eq_iff_iff.2 ⟨fo1 hx hy n t h0 h1, fo1 hy hx n t h0 h1⟩

set_option maxRecDepth 20000 in
theorem setsTells_no (gv : Value) (g : Gram) (w : World) (hg : GramAt (Cl w) gv g) (hm : mayB g = false) : Calls Try.prog 10 #[gv] w (fun e w' => e = .returned (.bool true) ∧ Sat (Old w) w [] w') := by
  have hg0 := hg
  obtain ⟨rv, rfl, hr⟩ := hg.mono old_rd
  obtain ⟨a, c, rfl, hc1, hc2, hrs⟩ := hr
  clear hg
  refine calls_CW Try.func10 rfl Try.ntmps10 rfl (Sat.start w) ?_
  refine CW_seq ?_
  refine CW_region ?_
  refine OW_e (e_box rfl rfl) rfl (fun b1 => ?_)
  refine OW_q (q_assign rfl) rfl ?_
  refine OW_nil ?_
  refine EW_then ?_
  refine CW_seq ?_
  refine CW_region ?_
  first | (refine OW_q (q_loadN_own Try.isAgg24 Try.sizeOf24 rfl rfl (by (repeat (first | exact .head | apply Swap.tail))) (by rfl)) rfl ?_) | (refine OW_q (q_loadN_ro Try.isAgg24 Try.sizeOf24 rfl (by first | assumption | exact Row.at_ (by assumption) rfl) (by rfl)) rfl ?_)
  refine OW_e (e_call Try.call26 rfl (fun w hw => lift_ro (setsOf_no _ g w (hg0.mono (fun _ _ h => hw.rd (Rd.old h))) hm) hw)) rfl (fun x7 => ?_)
  refine OW_q (q_move rfl) rfl ?_
  refine OW_q (q_extract rfl rfl) rfl ?_
  refine OW_q (q_extract rfl rfl) rfl ?_
  refine OW_e (e_alloc Try.zeroValue53 rfl) rfl (fun b3 => ?_)
  refine OW_e0 (e_storeN Try.sizeOf53 rfl rfl rfl rfl (by simp [Value.oneCell']) (by (repeat (first | exact .head | apply Swap.tail))) (by rfl)) (fun _ => ?_)
  refine OW_q (q_assign rfl) rfl ?_
  refine OW_nil ?_
  refine EW_then ?_
  refine CW_seq ?_
  refine CW_seq ?_
  refine CW_region ?_
  first | (refine OW_q (q_loadN_own Try.isAgg24 Try.sizeOf24 rfl rfl (by (repeat (first | exact .head | apply Swap.tail))) (by rfl)) rfl ?_) | (refine OW_q (q_loadN_ro Try.isAgg24 Try.sizeOf24 rfl (by first | assumption | exact Row.at_ (by assumption) rfl) (by rfl)) rfl ?_)
  refine OW_e (e_call Try.call14 rfl (fun w hw => lift_ro (may1_any _ g w (hg0.mono (fun _ _ h => hw.rd (Rd.old h)))) hw)) rfl (fun x11 => ?_)
  refine OW_q (q_not rfl) rfl ?_
  refine OW_nil ?_
  refine EW_then ?_
  refine CW_true rfl (by simp [hm]) ?_
  refine CW_seq ?_
  refine CW_region ?_
  refine OW_q (q_move rfl) rfl ?_
  refine OW_q (q_eqi rfl rfl) rfl ?_
  refine OW_q (q_move rfl) rfl ?_
  refine OW_part (t := 15) rfl (fun hg15 => ?_) (fun hg15 => ?_)
  · skip
    refine OW_wanted rfl rfl rfl ?_
    first | (refine OW_q (q_loadN_own Try.isAgg53 Try.sizeOf53 rfl rfl (by (repeat (first | exact .head | apply Swap.tail))) (by rfl)) rfl ?_) | (refine OW_q (q_loadN_ro Try.isAgg53 Try.sizeOf53 rfl (by first | assumption | exact Row.at_ (by assumption) rfl) (by rfl)) rfl ?_)
    refine OW_wanted rfl rfl rfl ?_
    refine OW_q (q_build (ps := #[]) (v := .agg #[.slice none 0 0, .slice none 0 0, .slice none 0 0]) rfl (fun w => by kernel_rfl)) rfl ?_
    refine OW_wanted rfl rfl rfl ?_
    refine OW_e (e_call Try.call27 rfl (fun w hw => lift_ro (same_any _ _ _ _ _ _ [] [] [] [] [] [] w (⟨none, 0, rfl, Nat.le_refl _, by omega, fun k x hx => by cases hx⟩ : BoolsAt (Cl w) (.slice none 0 0) []) (⟨none, 0, rfl, Nat.le_refl _, by omega, fun k x hx => by cases hx⟩ : TabAt (Cl w) (.slice none 0 0) []) (⟨none, 0, rfl, Nat.le_refl _, by omega, fun k x hx => by cases hx⟩ : TabAt (Cl w) (.slice none 0 0) []) (⟨none, 0, rfl, Nat.le_refl _, by omega, fun k x hx => by cases hx⟩ : BoolsAt (Cl w) (.slice none 0 0) []) (⟨none, 0, rfl, Nat.le_refl _, by omega, fun k x hx => by cases hx⟩ : TabAt (Cl w) (.slice none 0 0) []) (⟨none, 0, rfl, Nat.le_refl _, by omega, fun k x hx => by cases hx⟩ : TabAt (Cl w) (.slice none 0 0) [])) hw)) rfl (fun x18 => ?_)
    refine OW_q (q_pick_t rfl rfl) rfl ?_
    refine OW_q (q_assign rfl) rfl ?_
    refine OW_nil ?_
    refine EW_then ?_
    refine CW_ret ?_
    refine EW_then_ret ?_
    refine ret1 Try.results10 rfl (fun w hw => ?_)
    exact ⟨rfl, hw.sub .nil⟩
  · skip
    exact absurd hg15 (by decide) --stop

set_option maxRecDepth 20000 in
theorem setsTells_yes (gv : Value) (g : Gram) (w : World) (hg : GramAt (Cl w) gv g) (hm : mayB g = true) : Calls Try.prog 10 #[gv] w (fun e w' => e = .returned (.bool true) ∧ Sat (Old w) w [] w') := by
  have hg0 := hg
  obtain ⟨rv, rfl, hr⟩ := hg.mono old_rd
  obtain ⟨a, c, rfl, hc1, hc2, hrs⟩ := hr
  clear hg
  have hM := mayB_true.1 hm
  have hn64 : g.names.toNat ≤ 9223372036854775807 := by omega
  refine calls_CW Try.func10 rfl Try.ntmps10 rfl (Sat.start w) ?_
  refine CW_seq ?_
  refine CW_region ?_
  refine OW_e (e_box rfl rfl) rfl (fun b1 => ?_)
  refine OW_q (q_assign rfl) rfl ?_
  refine OW_nil ?_
  refine EW_then ?_
  refine CW_seq ?_
  refine CW_region ?_
  first | (refine OW_q (q_loadN_own Try.isAgg24 Try.sizeOf24 rfl rfl (by (repeat (first | exact .head | apply Swap.tail))) (by rfl)) rfl ?_) | (refine OW_q (q_loadN_ro Try.isAgg24 Try.sizeOf24 rfl (by first | assumption | exact Row.at_ (by assumption) rfl) (by rfl)) rfl ?_)
  refine OW_e (e_call Try.call26 rfl (fun w hw => lift_oldP (setsOf_yes _ g w (hg0.mono (fun _ _ h => hw.rd (Rd.old h))) hm) hw)) rfl (fun x7 => ?_)
  refine OW_pure fun hx7 => ?_
  have hl7 : x7.fs.length = g.names.toNat := hx7.1.2.1.1
  have hlo7 : x7.fo.length = g.names.toNat := hx7.1.2.2.1.1
  refine OW_q (q_move rfl) rfl ?_
  refine OW_q (q_extract rfl rfl) rfl ?_
  refine OW_q (q_extract rfl rfl) rfl ?_
  refine OW_e (e_alloc Try.zeroValue53 rfl) rfl (fun b3 => ?_)
  refine OW_e0 (e_storeN Try.sizeOf53 rfl rfl rfl rfl (by simp [Value.oneCell']) (by (repeat (first | exact .head | apply Swap.tail))) (by rfl)) (fun _ => ?_)
  refine OW_q (q_assign rfl) rfl ?_
  refine OW_nil ?_
  refine EW_then ?_
  refine CW_seq ?_
  refine CW_seq ?_
  refine CW_region ?_
  first | (refine OW_q (q_loadN_own Try.isAgg24 Try.sizeOf24 rfl rfl (by (repeat (first | exact .head | apply Swap.tail))) (by rfl)) rfl ?_) | (refine OW_q (q_loadN_ro Try.isAgg24 Try.sizeOf24 rfl (by first | assumption | exact Row.at_ (by assumption) rfl) (by rfl)) rfl ?_)
  refine OW_e (e_call Try.call14 rfl (fun w hw => lift_ro (may1_any _ g w (hg0.mono (fun _ _ h => hw.rd (Rd.old h)))) hw)) rfl (fun x11 => ?_)
  refine OW_q (q_not rfl) rfl ?_
  refine OW_nil ?_
  refine EW_then ?_
  refine CW_false rfl (by simp [hm]) ?_
  refine CW_skip ?_
  refine EW_then ?_
  refine CW_seq ?_
  refine CW_drawS 9 [(0, false), (1, false), (2, false), (3, false), (4, false), (5, true), (6, true), (7, false), (8, false)] (by kernel_rfl) (Blind.then (Blind.body (by intro c w h; simp at h))) (by kernel_rfl) (fun w hw => hw.drew) ?_
  refine DW_q rfl (fun w hw => hw.sub (by (repeat (first | exact SubL.nil | exact Pick.head | apply Pick.tail | apply SubL.cons)))) (q_move rfl) rfl ?_
  refine DW_q rfl (fun w hw => hw.sub (by (repeat (first | exact SubL.nil | exact Pick.head | apply Pick.tail | apply SubL.cons)))) (q_eqi rfl rfl) rfl ?_
  refine DW_q rfl (fun w hw => hw.sub (by (repeat (first | exact SubL.nil | exact Pick.head | apply Pick.tail | apply SubL.cons)))) (q_move rfl) rfl ?_
  refine DW_part (t := 22) rfl (fun hg22 => ?_) (fun hg22 => ?_)
  · skip
    first | (refine DW_qg rfl (fun w hw => hw.sub (by (repeat (first | exact SubL.nil | exact Pick.head | apply Pick.tail | apply SubL.cons)))) rfl rfl rfl (q_loadN_own Try.isAgg53 Try.sizeOf53 rfl rfl (by (repeat (first | exact .head | apply Swap.tail))) (by rfl)) rfl ?_) | (refine DW_qg rfl (fun w hw => hw.sub (by (repeat (first | exact SubL.nil | exact Pick.head | apply Pick.tail | apply SubL.cons)))) rfl rfl rfl (q_loadN_ro Try.isAgg53 Try.sizeOf53 rfl (by first | assumption | exact Row.at_ (by assumption) rfl) (by rfl)) rfl ?_)
    first | (refine DW_qg rfl (fun w hw => hw.sub (by (repeat (first | exact SubL.nil | exact Pick.head | apply Pick.tail | apply SubL.cons)))) rfl rfl rfl (q_loadN_own Try.isAgg24 Try.sizeOf24 rfl rfl (by (repeat (first | exact .head | apply Swap.tail))) (by rfl)) rfl ?_) | (refine DW_qg rfl (fun w hw => hw.sub (by (repeat (first | exact SubL.nil | exact Pick.head | apply Pick.tail | apply SubL.cons)))) rfl rfl rfl (q_loadN_ro Try.isAgg24 Try.sizeOf24 rfl (by first | assumption | exact Row.at_ (by assumption) rfl) (by rfl)) rfl ?_)
    refine DW_eg rfl rfl rfl rfl (e_call Try.call28 rfl (fun w hw => lift_oldP (ref2Of_any _ g w (hg0.mono (fun _ _ h => hw.rd (Rd.old h))) hm) hw)) rfl (fun _ w hw => by first | exact hw.sub (by (repeat (first | exact SubL.nil | exact Pick.head | apply Pick.tail | apply SubL.cons))) | exact hw.2.sub (by (repeat (first | exact SubL.nil | exact Pick.head | apply Pick.tail | apply SubL.cons)))) (fun x25 => ?_)
    refine DW_pure fun hx25 => ?_
    have hl25 : x25.fs.length = g.names.toNat := hx25.1.2.1.1
    have hlo25 : x25.fo.length = g.names.toNat := hx25.1.2.2.1.1
    refine DW_eg rfl rfl rfl rfl (e_call Try.call27 rfl (fun w hw => lift_ro (same_any _ _ _ _ _ _ x7.nl x25.nl x7.fs x25.fs x7.fo x25.fo w (hw.boolsAt (A' := bools 0 0 []) (by repeat (first | exact .head | apply Swap.tail)) hx7.1.1 (Nat.le_refl _) hn64) (by have := hw.tabAt (bl := x7.blf) (tab := x7.fs) (by repeat (first | exact .head | apply Swap.tail)) (by repeat (first | exact .head | apply Swap.tail)) (by rw [hx7.1.2.2.2.1, hl7]) hx7.1.2.1.2 (by omega); exact this) (by have := hw.tabAt (bl := x7.blo) (tab := x7.fo) (by repeat (first | exact .head | apply Swap.tail)) (by repeat (first | exact .head | apply Swap.tail)) (by rw [hx7.1.2.2.2.2, hlo7]) hx7.1.2.2.1.2 (by omega); exact this) (hw.boolsAt (A' := bools 0 0 []) (by repeat (first | exact .head | apply Swap.tail)) hx25.1.1 (Nat.le_refl _) hn64) (by have := hw.tabAt (bl := x25.blf) (tab := x25.fs) (by repeat (first | exact .head | apply Swap.tail)) (by repeat (first | exact .head | apply Swap.tail)) (by rw [hx25.1.2.2.2.1, hl25]) hx25.1.2.1.2 (by omega); exact this) (by have := hw.tabAt (bl := x25.blo) (tab := x25.fo) (by repeat (first | exact .head | apply Swap.tail)) (by repeat (first | exact .head | apply Swap.tail)) (by rw [hx25.1.2.2.2.2, hlo25]) hx25.1.2.2.1.2 (by omega); exact this)) hw)) rfl (fun _ w hw => by first | exact hw.sub (by (repeat (first | exact SubL.nil | exact Pick.head | apply Pick.tail | apply SubL.cons))) | exact hw.2.sub (by (repeat (first | exact SubL.nil | exact Pick.head | apply Pick.tail | apply SubL.cons)))) (fun x26 => ?_)
    refine DW_q rfl (fun w hw => hw.sub (by (repeat (first | exact SubL.nil | exact Pick.head | apply Pick.tail | apply SubL.cons)))) (q_pick_t rfl rfl) rfl ?_
    refine DW_q rfl (fun w hw => hw.sub (by (repeat (first | exact SubL.nil | exact Pick.head | apply Pick.tail | apply SubL.cons)))) (q_assign rfl) rfl ?_
    refine DW_nil ?_
    refine EW_then ?_
    refine CW_ret ?_
    refine ret1 Try.results10 rfl (fun w hw => ?_)
    have hu := sets_unique hm hx7 hx25
    exact ⟨(rt (B := _) (by simp [hu.1, hu.2.1, hu.2.2])).symm, hw.sub .nil⟩
  · skip
    exact absurd hg22 (by decide) --stop


theorem setsTells_any (gv : Value) (g : Gram) (w : World) (hg : GramAt (Cl w) gv g) : Calls Try.prog 10 #[gv] w (fun e w' => e = .returned (.bool true) ∧ Sat (Old w) w [] w') := by
  cases hm : mayB g
  · exact setsTells_no gv g w hg hm
  · exact setsTells_yes gv g w hg hm
end Go.Sy
