/- StepTells. No condition. -/
import Derived.Test.YteceklkjbcebkabW52
import Derived.Test.YteceklkjbcebkabW58
namespace Go.Sy
open Go Go.RowKit Go.Proofs

theorem do8_any (gv : Value) (g : Gram) (s : SStep) (w : World) (hg : GramAt (Cl w) gv g) : Calls Try.prog 9 #[gv, stepV s] w (fun e w' => ∃ x : Value × Gram × List RV × Int, e = .returned (.tuple #[.agg #[.int .i64 x.2.1.terms, .int .i64 x.2.1.names, x.1], .int .i64 x.2.2.2]) ∧ (DoOk8 g s x.2.1 x.2.2.2 ∧ plainR x.2.2.1 = x.2.1.rules) ∧ Sat (Old w) w [rulesA x.1 x.2.2.1, symsA x.2.2.1] w') := by
  by_cases h2 : s.op = 2
  · exact do82_any gv g s w h2 hg
  by_cases h4 : s.op = 4
  · exact do84_any gv g s w h4 hg
  exact do8x_any gv g s w h2 h4 hg
set_option maxRecDepth 20000 in
theorem stepTells_any (gv : Value) (g : Gram) (s : SStep) (w : World) (hg : GramAt (Cl w) gv g) : Calls Try.prog 3 #[gv, stepV s] w (fun e w' => e = .returned (.bool true) ∧ Sat (Old w) w [] w') := by
  have hg0 := hg
  obtain ⟨rv, rfl, hr⟩ := hg.mono old_rd
  obtain ⟨a, c, rfl, hc1, hc2, hrs⟩ := id hr
  clear hg
  refine calls_CW Try.func3 rfl Try.ntmps3 rfl (Sat.start w) ?_
  refine CW_seq ?_
  refine CW_region ?_
  refine OW_e (e_box rfl rfl) rfl (fun b2 => ?_)
  refine OW_e (e_box rfl rfl) rfl (fun b3 => ?_)
  refine OW_q (q_assign rfl) rfl ?_
  refine OW_nil ?_
  refine EW_then ?_
  refine CW_seq ?_
  refine CW_region ?_
  first | (refine OW_q (q_loadN_own Try.isAgg24 Try.sizeOf24 rfl rfl (by (repeat (first | exact .head | apply Swap.tail))) (by rfl)) rfl ?_) | (refine OW_q (q_loadN_ro Try.isAgg24 Try.sizeOf24 rfl (by first | assumption | exact Row.at_ (by assumption) rfl) (by rfl)) rfl ?_)
  first | (refine OW_q (q_loadN_own Try.isAgg26 Try.sizeOf26 rfl rfl (by (repeat (first | exact .head | apply Swap.tail))) (by rfl)) rfl ?_) | (refine OW_q (q_loadN_ro Try.isAgg26 Try.sizeOf26 rfl (by first | assumption | exact Row.at_ (by assumption) rfl) (by rfl)) rfl ?_)
  refine OW_e (e_call Try.call8 rfl (fun w hw => lift_oldP (do_any _ g s w (hg0.mono (fun _ _ h => hw.rd (Rd.old h)))) hw)) rfl (fun x12 => ?_)
  refine OW_pure fun hx12 => ?_
  obtain ⟨vx, gx, rsx, ex⟩ := x12
  obtain ⟨hd_x, hp_x⟩ := hx12
  have hpx : plainR rsx = gx.rules := hp_x
  have hdx : DoOk _ _ gx ex := hd_x
  refine OW_fact (fun w hw => hw.tform (v := vx) (l := rsx) (enc := encRV) (by repeat (first | exact .head | apply Swap.tail))) (fun hf => ?_)
  obtain ⟨ax, cx, rfl, _, _, hbx⟩ := hf
  refine OW_spell 12 (.tuple #[.agg #[.int .i64 gx.terms, .int .i64 gx.names, .slice ax rsx.length cx], .int .i64 ex]) rfl rfl ?_
  refine OW_q (q_move rfl) rfl ?_
  refine OW_q (q_extract rfl rfl) rfl ?_
  refine OW_q (q_extract rfl rfl) rfl ?_
  refine OW_e (e_alloc Try.zeroValue24 rfl) rfl (fun b5 => ?_)
  refine OW_e0 (e_storeN Try.sizeOf24 rfl rfl rfl rfl (by simp [Value.oneCell']) (by (repeat (first | exact .head | apply Swap.tail))) (by rfl)) (fun _ => ?_)
  refine OW_q (q_assign rfl) rfl ?_
  refine OW_nil ?_
  refine EW_then ?_
  refine CW_seq ?_
  refine CW_region ?_
  first | (refine OW_q (q_loadN_own Try.isAgg24 Try.sizeOf24 rfl rfl (by (repeat (first | exact .head | apply Swap.tail))) (by rfl)) rfl ?_) | (refine OW_q (q_loadN_ro Try.isAgg24 Try.sizeOf24 rfl (by first | assumption | exact Row.at_ (by assumption) rfl) (by rfl)) rfl ?_)
  first | (refine OW_q (q_loadN_own Try.isAgg26 Try.sizeOf26 rfl rfl (by (repeat (first | exact .head | apply Swap.tail))) (by rfl)) rfl ?_) | (refine OW_q (q_loadN_ro Try.isAgg26 Try.sizeOf26 rfl (by first | assumption | exact Row.at_ (by assumption) rfl) (by rfl)) rfl ?_)
  refine OW_e (e_call Try.call9 rfl (fun w hw => lift_oldP (do8_any _ g s w (hg0.mono (fun _ _ h => hw.rd (Rd.old h)))) hw)) rfl (fun x18 => ?_)
  refine OW_pure fun hx18 => ?_
  obtain ⟨vy, gy, rsy, ey⟩ := x18
  obtain ⟨hd_y, hp_y⟩ := hx18
  have hpy : plainR rsy = gy.rules := hp_y
  have hdy : DoOk8 _ _ gy ey := hd_y
  refine OW_fact (fun w hw => hw.tform (v := vy) (l := rsy) (enc := encRV) (by repeat (first | exact .head | apply Swap.tail))) (fun hf => ?_)
  obtain ⟨ay, cy, rfl, _, _, hby⟩ := hf
  refine OW_spell 18 (.tuple #[.agg #[.int .i64 gy.terms, .int .i64 gy.names, .slice ay rsy.length cy], .int .i64 ey]) rfl rfl ?_
  obtain ⟨hee, hgg⟩ := do_same hdx hdy
  refine OW_q (q_move rfl) rfl ?_
  refine OW_q (q_extract rfl rfl) rfl ?_
  refine OW_q (q_extract rfl rfl) rfl ?_
  refine OW_e (e_alloc Try.zeroValue24 rfl) rfl (fun b7 => ?_)
  refine OW_e0 (e_storeN Try.sizeOf24 rfl rfl rfl rfl (by simp [Value.oneCell']) (by (repeat (first | exact .head | apply Swap.tail))) (by rfl)) (fun _ => ?_)
  refine OW_q (q_assign rfl) rfl ?_
  refine OW_nil ?_
  refine EW_then ?_
  refine CW_seq ?_
  refine CW_region ?_
  refine OW_q (q_move rfl) rfl ?_
  refine OW_q (q_move rfl) rfl ?_
  refine OW_q (q_eqi rfl rfl) rfl ?_
  refine OW_q (q_move rfl) rfl ?_
  refine OW_part (t := 24) rfl (fun hg24 => ?_) (fun hg24 => ?_)
  · skip
    refine OW_wanted rfl rfl rfl ?_
    first | (refine OW_q (q_loadN_own Try.isAgg24 Try.sizeOf24 rfl rfl (by (repeat (first | exact .head | apply Swap.tail))) (by rfl)) rfl ?_) | (refine OW_q (q_loadN_ro Try.isAgg24 Try.sizeOf24 rfl (by first | assumption | exact Row.at_ (by assumption) rfl) (by rfl)) rfl ?_)
    refine OW_wanted rfl rfl rfl ?_
    first | (refine OW_q (q_loadN_own Try.isAgg24 Try.sizeOf24 rfl rfl (by (repeat (first | exact .head | apply Swap.tail))) (by rfl)) rfl ?_) | (refine OW_q (q_loadN_ro Try.isAgg24 Try.sizeOf24 rfl (by first | assumption | exact Row.at_ (by assumption) rfl) (by rfl)) rfl ?_)
    refine OW_wanted rfl rfl rfl ?_
    refine OW_e (e_call Try.call10 rfl (fun w hw => lift_oldP (same_any _ _ gx gy w (hw.gramIn2 hpx (by repeat (first | exact .head | apply Swap.tail)) (by repeat (first | exact .head | apply Swap.tail))) (hw.gramIn2 hpy (by repeat (first | exact .head | apply Swap.tail)) (by repeat (first | exact .head | apply Swap.tail)))) hw)) rfl (fun x27 => ?_)
    refine OW_pure fun hx27 => ?_
    refine OW_q (q_pick_t rfl rfl) rfl ?_
    refine OW_q (q_assign rfl) rfl ?_
    refine OW_nil ?_
    refine EW_then ?_
    refine CW_ret ?_
    refine ret1 Try.results3 rfl (fun w hw => ?_)
    exact ⟨by rw [hx27.2 hgg], hw.sub .nil⟩
  · skip
    exact absurd hg24 (by simp [hee]) --stop

end Go.Sy
