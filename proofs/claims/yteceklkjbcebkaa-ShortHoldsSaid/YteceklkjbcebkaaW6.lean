/- ShortHolds: the walk. No condition. -/
import Derived.Test.YteceklkjbcebkaaW3
import Derived.Test.YteceklkjbcebkaaW5
namespace Go.Sy
open Go Go.RowKit Go.Proofs

theorem short_first {g : Gram} {of : List Int} {k : Nat} (hc : Closed g of) (hr : Rng of) (h : Ylds g (syms open0) k) : 0 ≤ at0 of 0 ∧ at0 of 0 ≤ k := by
  have h0 : Ylds g [⟨false, 0⟩] k := h
  have h1 := closed_min hc h0 0 (by decide) (by decide)
  have h2 := hr.at0 0
  unfold srule at h1
  simp only [Bool.false_eq_true, if_false] at h1
  split at h1
  · omega
  · unfold srule at h1; omega

set_option maxRecDepth 20000 in
theorem shortHolds_no (gv dv : Value) (g : Gram) (d : List Int) (w : World) (hg : GramAt (Cl w) gv g) (hd : IntsAt (Cl w) dv d) (hm : mayB g = false) : Calls Try.prog 4 #[gv, dv] w (fun e w' => e = .returned (.bool true) ∧ Sat (Old w) w [] w') := by
  have hd0 := hd
  have hg0 := hg
  obtain ⟨rv, rfl, hr⟩ := hg.mono old_rd
  obtain ⟨a, c, rfl, hc1, hc2, hrs⟩ := hr
  clear hg
  obtain ⟨a2, c2, rfl, hd1, hd2, hds⟩ := hd.mono old_rd
  clear hd
  refine calls_CW Try.func4 rfl Try.ntmps4 rfl (Sat.start w) ?_
  refine CW_seq ?_
  refine CW_region ?_
  refine OW_e (e_box rfl rfl) rfl (fun b2 => ?_)
  refine OW_q (q_assign rfl) rfl ?_
  refine OW_nil ?_
  refine EW_then ?_
  refine CW_seq ?_
  refine CW_region ?_
  first | (refine OW_q (q_loadN_own Try.isAgg24 Try.sizeOf24 rfl rfl (by (repeat (first | exact .head | apply Swap.tail))) (by rfl)) rfl ?_) | (refine OW_q (q_loadN_ro Try.isAgg24 Try.sizeOf24 rfl (by first | assumption | exact Row.at_ (by assumption) rfl) (by rfl)) rfl ?_)
  refine OW_e (e_call Try.call13 rfl (fun w hw => lift_ro (shortOf_no _ g w (hg0.mono (fun _ _ h => hw.rd (Rd.old h))) hm) hw)) rfl (fun x12 => ?_)
  refine OW_q (q_move rfl) rfl ?_
  refine OW_q (q_extract rfl rfl) rfl ?_
  refine OW_q (q_extract rfl rfl) rfl ?_
  refine OW_q (q_assign rfl) rfl ?_
  refine OW_q (q_assign rfl) rfl ?_
  refine OW_nil ?_
  refine EW_then ?_
  refine CW_seq ?_
  refine CW_region ?_
  first | (refine OW_q (q_loadN_own Try.isAgg24 Try.sizeOf24 rfl rfl (by (repeat (first | exact .head | apply Swap.tail))) (by rfl)) rfl ?_) | (refine OW_q (q_loadN_ro Try.isAgg24 Try.sizeOf24 rfl (by first | assumption | exact Row.at_ (by assumption) rfl) (by rfl)) rfl ?_)
  refine OW_q (q_move rfl) rfl ?_
  refine OW_e (e_call Try.call17 rfl (fun w hw => lift_oldP (through_any _ _ g d w (hg0.mono (fun _ _ h => hw.rd (Rd.old h))) (hd0.mono (fun _ _ h => hw.rd (Rd.old h)))) hw)) rfl (fun x18 => ?_)
  refine OW_pure fun hx18 => ?_
  refine OW_q (q_move rfl) rfl ?_
  refine OW_q (q_extract rfl rfl) rfl ?_
  refine OW_q (q_extract rfl rfl) rfl ?_
  refine OW_q (q_extract rfl rfl) rfl ?_
  refine OW_q (q_assign rfl) rfl ?_
  refine OW_q (q_assign rfl) rfl ?_
  refine OW_q (q_assign rfl) rfl ?_
  refine OW_nil ?_
  refine EW_then ?_
  refine CW_seq ?_
  refine CW_seq ?_
  refine CW_region ?_
  first | (refine OW_q (q_loadN_own Try.isAgg24 Try.sizeOf24 rfl rfl (by (repeat (first | exact .head | apply Swap.tail))) (by rfl)) rfl ?_) | (refine OW_q (q_loadN_ro Try.isAgg24 Try.sizeOf24 rfl (by first | assumption | exact Row.at_ (by assumption) rfl) (by rfl)) rfl ?_)
  refine OW_e (e_call Try.call14 rfl (fun w hw => lift_ro (may1_any _ g w (hg0.mono (fun _ _ h => hw.rd (Rd.old h)))) hw)) rfl (fun x23 => ?_)
  refine OW_q (q_not rfl) rfl ?_
  refine OW_nil ?_
  refine EW_then ?_
  refine CW_true rfl (by simp [hm]) ?_
  refine CW_seq ?_
  refine CW_region ?_
  refine OW_q (q_move rfl) rfl ?_
  refine OW_q (q_eqi rfl rfl) rfl ?_
  refine OW_q (q_assign rfl) rfl ?_
  refine OW_nil ?_
  refine EW_then ?_
  refine CW_ret ?_
  refine EW_then_ret ?_
  refine ret1 Try.results4 rfl (fun w hw => ?_)
  exact ⟨rfl, hw.sub .nil⟩

set_option maxRecDepth 20000 in
theorem shortHolds_yes (gv dv : Value) (g : Gram) (d : List Int) (w : World) (hg : GramAt (Cl w) gv g) (hd : IntsAt (Cl w) dv d) (hm : mayB g = true) : Calls Try.prog 4 #[gv, dv] w (fun e w' => e = .returned (.bool true) ∧ Sat (Old w) w [] w') := by
  have hd0 := hd
  have hg0 := hg
  obtain ⟨rv, rfl, hr⟩ := hg.mono old_rd
  obtain ⟨a, c, rfl, hc1, hc2, hrs⟩ := hr
  clear hg
  obtain ⟨a2, c2, rfl, hd1, hd2, hds⟩ := hd.mono old_rd
  clear hd
  have hM := mayB_true.1 hm
  refine calls_CW Try.func4 rfl Try.ntmps4 rfl (Sat.start w) ?_
  refine CW_seq ?_
  refine CW_region ?_
  refine OW_e (e_box rfl rfl) rfl (fun b2 => ?_)
  refine OW_q (q_assign rfl) rfl ?_
  refine OW_nil ?_
  refine EW_then ?_
  refine CW_seq ?_
  refine CW_region ?_
  first | (refine OW_q (q_loadN_own Try.isAgg24 Try.sizeOf24 rfl rfl (by (repeat (first | exact .head | apply Swap.tail))) (by rfl)) rfl ?_) | (refine OW_q (q_loadN_ro Try.isAgg24 Try.sizeOf24 rfl (by first | assumption | exact Row.at_ (by assumption) rfl) (by rfl)) rfl ?_)
  refine OW_e (e_call Try.call13 rfl (fun w hw => lift_oldP (shortOf_yes _ g w (hg0.mono (fun _ _ h => hw.rd (Rd.old h))) hm) hw)) rfl (fun x12 => ?_)
  refine OW_pure fun hx12 => ?_
  have hc0 : x12.2[(0 : Int).toNat]? = some (at0 x12.2 0) := at0_get (by omega) (by omega)
  refine OW_q (q_move rfl) rfl ?_
  refine OW_q (q_extract rfl rfl) rfl ?_
  refine OW_q (q_extract rfl rfl) rfl ?_
  refine OW_q (q_assign rfl) rfl ?_
  refine OW_q (q_assign rfl) rfl ?_
  refine OW_nil ?_
  refine EW_then ?_
  refine CW_seq ?_
  refine CW_region ?_
  first | (refine OW_q (q_loadN_own Try.isAgg24 Try.sizeOf24 rfl rfl (by (repeat (first | exact .head | apply Swap.tail))) (by rfl)) rfl ?_) | (refine OW_q (q_loadN_ro Try.isAgg24 Try.sizeOf24 rfl (by first | assumption | exact Row.at_ (by assumption) rfl) (by rfl)) rfl ?_)
  refine OW_q (q_move rfl) rfl ?_
  refine OW_e (e_call Try.call17 rfl (fun w hw => lift_oldP (through_any _ _ g d w (hg0.mono (fun _ _ h => hw.rd (Rd.old h))) (hd0.mono (fun _ _ h => hw.rd (Rd.old h)))) hw)) rfl (fun x18 => ?_)
  refine OW_pure fun hx18 => ?_
  refine OW_q (q_move rfl) rfl ?_
  refine OW_q (q_extract rfl rfl) rfl ?_
  refine OW_q (q_extract rfl rfl) rfl ?_
  refine OW_q (q_extract rfl rfl) rfl ?_
  refine OW_q (q_assign rfl) rfl ?_
  refine OW_q (q_assign rfl) rfl ?_
  refine OW_q (q_assign rfl) rfl ?_
  refine OW_nil ?_
  refine EW_then ?_
  refine CW_seq ?_
  refine CW_seq ?_
  refine CW_region ?_
  first | (refine OW_q (q_loadN_own Try.isAgg24 Try.sizeOf24 rfl rfl (by (repeat (first | exact .head | apply Swap.tail))) (by rfl)) rfl ?_) | (refine OW_q (q_loadN_ro Try.isAgg24 Try.sizeOf24 rfl (by first | assumption | exact Row.at_ (by assumption) rfl) (by rfl)) rfl ?_)
  refine OW_e (e_call Try.call14 rfl (fun w hw => lift_ro (may1_any _ g w (hg0.mono (fun _ _ h => hw.rd (Rd.old h)))) hw)) rfl (fun x23 => ?_)
  refine OW_q (q_not rfl) rfl ?_
  refine OW_nil ?_
  refine EW_then ?_
  refine CW_false rfl (by simp [hm]) ?_
  refine CW_skip ?_
  refine EW_then ?_
  refine CW_seq ?_
  refine CW_seq ?_
  refine CW_region ?_
  refine OW_q (q_move rfl) rfl ?_
  refine OW_q (q_nei rfl rfl) rfl ?_
  refine OW_q (q_move rfl) rfl ?_
  refine OW_part (t := 29) rfl (fun hg29 => ?_) (fun hg29 => ?_)
  · skip
    exact absurd hg29 (by decide) --stop
  · skip
    refine OW_wanted rfl rfl rfl ?_
    refine OW_q (q_move rfl) rfl ?_
    refine OW_wanted rfl rfl rfl ?_
    refine OW_q (q_len Try.underlying25 rfl) rfl ?_
    refine OW_wanted rfl rfl rfl ?_
    refine OW_q (q_fieldAddr Try.underlying24 rfl rfl Try.sizeOf3 rfl rfl) rfl ?_
    refine OW_wanted rfl rfl rfl ?_
    first | (refine OW_q (q_load1_own Try.isAgg3 rfl rfl (by (repeat (first | exact .head | apply Swap.tail))) (by rfl)) rfl ?_) | (refine OW_q (q_load1_ro Try.isAgg3 rfl (by first | assumption | exact Row.at_ (by assumption) rfl)) rfl ?_)
    refine OW_wanted rfl rfl rfl ?_
    refine OW_q (q_nei rfl rfl) rfl ?_
    refine OW_q (q_pick_f rfl rfl) rfl ?_
    refine OW_nil ?_
    refine EW_then ?_
    refine CW_false rfl (by simp; omega) ?_
    refine CW_skip ?_
    refine EW_then ?_
    refine CW_seq ?_
    refine CW_region ?_
    refine OW_q (q_move rfl) rfl ?_
    refine OW_q (q_not rfl) rfl ?_
    refine OW_q (q_move rfl) rfl ?_
    refine OW_part (t := 38) rfl (fun hg38 => ?_) (fun hg38 => ?_)
    · skip
      refine OW_skip rfl rfl rfl rfl ?_
      refine OW_skip rfl rfl rfl rfl ?_
      refine OW_skip rfl rfl rfl rfl ?_
      refine OW_skip rfl rfl rfl rfl ?_
      refine OW_skip rfl rfl rfl rfl ?_
      refine OW_skipU rfl rfl rfl ?_
      refine OW_skipU rfl rfl rfl ?_
      refine OW_skipU rfl rfl rfl ?_
      refine OW_skipU rfl rfl rfl ?_
      refine OW_skipU rfl rfl rfl ?_
      refine OW_skipU rfl rfl rfl ?_
      refine OW_skip rfl rfl rfl rfl ?_
      refine OW_q (q_pick_t rfl rfl) rfl ?_
      refine OW_q (q_assign rfl) rfl ?_
      refine OW_nil ?_
      refine EW_then ?_
      refine CW_ret ?_
      refine ret1 Try.results4 rfl (fun w hw => ?_)
      exact ⟨rfl, hw.sub .nil⟩
    · skip
      have hok : x18.ok = true := by simpa using hg38
      have hth := (hx18.1 hok).2.2
      obtain ⟨k, hy, hk⟩ := thru_ylds hth _ _ rfl
      have hsf := short_first hx12.2.2.1 hx12.2.2.2 hy
      refine OW_wanted rfl rfl rfl ?_
      refine OW_q (q_move rfl) rfl ?_
      refine OW_wanted rfl rfl rfl ?_
      refine OW_q (q_indexAddrI Try.underlying25 Try.sizeOf3 rfl rfl (by first | omega | assumption) (by first | omega | assumption)) rfl ?_
      refine OW_wanted rfl rfl rfl ?_
      refine OW_q (q_load_ints Try.isAgg3 rfl (by (repeat (first | exact .head | apply Swap.tail))) (by assumption)) rfl ?_
      refine OW_wanted rfl rfl rfl ?_
      refine OW_q (q_geq rfl rfl) rfl ?_
      refine OW_wanted rfl rfl rfl ?_
      refine OW_q (q_move rfl) rfl ?_
      refine OW_part (t := 43) rfl (fun hg43 => ?_) (fun hg43 => ?_)
      · skip
        refine OW_wanted rfl rfl rfl ?_
        refine OW_q (q_move rfl) rfl ?_
        refine OW_wanted rfl rfl rfl ?_
        refine OW_q (q_indexAddrI Try.underlying25 Try.sizeOf3 rfl rfl (by first | omega | assumption) (by first | omega | assumption)) rfl ?_
        refine OW_wanted rfl rfl rfl ?_
        refine OW_q (q_load_ints Try.isAgg3 rfl (by (repeat (first | exact .head | apply Swap.tail))) (by assumption)) rfl ?_
        refine OW_wanted rfl rfl rfl ?_
        refine OW_fact (fun w hw => hw.tform (v := x18.v1) (by repeat (first | exact .head | apply Swap.tail))) (fun hf => ?_)
        obtain ⟨a7, c7, hv7, _⟩ := hf
        refine OW_spell 7 (.slice a7 x18.out.length c7) rfl hv7 ?_
        refine OW_q (q_move rfl) rfl ?_
        refine OW_wanted rfl rfl rfl ?_
        refine OW_q (q_len Try.underlying25 rfl) rfl ?_
        refine OW_wanted rfl rfl rfl ?_
        refine OW_q (q_leq rfl rfl) rfl ?_
        refine OW_wanted rfl rfl rfl ?_
        refine OW_q (q_pick_t rfl rfl) rfl ?_
        refine OW_q (q_pick_f rfl rfl) rfl ?_
        refine OW_q (q_assign rfl) rfl ?_
        refine OW_nil ?_
        refine EW_then ?_
        refine CW_ret ?_
        refine ret1 Try.results4 rfl (fun w hw => ?_)
        exact ⟨(rt (B := decide (at0 x12.2 0 ≤ (x18.out.length : Int))) (by have e := hk; simp at e; simp; omega)).symm, hw.sub .nil⟩
      · skip
        exact absurd hg43 (by simp [hsf.1]) --stop


theorem shortHolds_any (gv dv : Value) (g : Gram) (d : List Int) (w : World) (hg : GramAt (Cl w) gv g) (hd : IntsAt (Cl w) dv d) : Calls Try.prog 4 #[gv, dv] w (fun e w' => e = .returned (.bool true) ∧ Sat (Old w) w [] w') := by
  cases hm : mayB g
  · exact shortHolds_no gv dv g d w hg hd hm
  · exact shortHolds_yes gv dv g d w hg hd hm
end Go.Sy
