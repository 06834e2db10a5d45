/- TextParses, walked. No condition. -/
import Derived.Test.YteceklkjbcebkabDoorW85
import Derived.Test.YteceklkjbcebkabDoorW82
namespace Go.Sy
open Go Go.RowKit Go.Proofs

theorem fault_eq (a b : Int) (w : World) : (Op.equalIn 10000 31 (.agg ([.int .i64 a, .int .i64 b] : List Value).toArray) (.agg ([.int .i64 a, .int .i64 b] : List Value).toArray)).run Tryd.prog w = .ok true w := by
  have h1 : Tryd.prog.underlying 31 = some (.struct (Tryd.prog.fieldsOf 31)) := by kernel_rfl
  have h2 : Tryd.prog.stoodInHeld 31 = false := by kernel_rfl
  have h3 : (Tryd.prog.fieldsOf 31).toList = [⟨"Code", 25, 0, false, "", "", 0⟩, ⟨"At", 3, 1, false, "", "", 8⟩] := by kernel_rfl
  rw [run_equalIn_agg w 9999 31 _ _ h1 h2, h3]
  simp [Op.eqFields, go_sem, Tryd.sizeOf3, Tryd.underlying3, Tryd.sizeOf25, Tryd.underlying25]
set_option maxRecDepth 20000 in
theorem textParses_any (l : List UInt8) (w : World) (hl : l.length ≤ 4000000000) (hG : Globs w) : Calls Tryd.prog 4 #[.string ⟨l.toArray⟩] w (fun e w' => e = .returned (.bool true) ∧ Sat (Old w) w [] w') := by
  refine calls_CW Tryd.func4 rfl Tryd.ntmps4 rfl (Sat.start w) ?_
  refine CW_seq ?_
  refine CW_region ?_
  refine OW_q (q_assign rfl) rfl ?_
  refine OW_nil ?_
  refine EW_then ?_
  refine CW_seq ?_
  refine CW_region ?_
  refine OW_q (q_move rfl) rfl ?_
  refine OW_e (e_call Tryd.call8 rfl (fun w hw => lift_oldP (parse_any l w hl (hG.of hw)) hw)) rfl (fun x9 => ?_)
  refine OW_pure fun hx9 => ?_
  obtain ⟨v9, g9, rs9, c9, i9⟩ := x9
  obtain ⟨hp9, hrl9⟩ := hx9
  have hp9 : ParseR l g9 c9 i9 := hp9
  have hrl9 : plainR rs9 = g9.rules := hrl9
  refine OW_fact (fun w hw => hw.tform (v := v9) (l := rs9) (enc := encRV) (by repeat (first | exact .head | apply Swap.tail))) (fun hf => ?_)
  obtain ⟨av9, cv9, rfl, _, _, hbv9⟩ := hf
  refine OW_q (q_move rfl) rfl ?_
  refine OW_q (q_extract rfl rfl) rfl ?_
  refine OW_q (q_extract rfl rfl) rfl ?_
  refine OW_e (e_alloc Tryd.zeroValue24 rfl) rfl (fun b3 => ?_)
  refine OW_e (e_alloc Tryd.zeroValue31 rfl) rfl (fun b4 => ?_)
  refine OW_e0 (e_storeN Tryd.sizeOf24 rfl rfl rfl rfl (by simp [Value.oneCell']) (by (repeat (first | exact .head | apply Swap.tail))) (by rfl)) (fun _ => ?_)
  refine OW_e0 (e_storeN Tryd.sizeOf31 rfl rfl rfl rfl (by simp [Value.oneCell']) (by (repeat (first | exact .head | apply Swap.tail))) (by rfl)) (fun _ => ?_)
  refine OW_nil ?_
  refine EW_then ?_
  refine CW_seq ?_
  refine CW_region ?_
  refine OW_q (q_move rfl) rfl ?_
  refine OW_e (e_call Tryd.call9 rfl (fun w hw => lift_oldP (parse9_any l w hl) hw)) rfl (fun x14 => ?_)
  refine OW_pure fun hx14 => ?_
  obtain ⟨v14, g14, rs14, c14, i14⟩ := x14
  obtain ⟨hp14, hrl14⟩ := hx14
  have hp14 : ParseR l g14 c14 i14 := hp14
  have hrl14 : plainR rs14 = g14.rules := hrl14
  obtain ⟨e1, e2, e3⟩ := hp9.one hp14
  subst e1
  subst e2
  subst e3
  refine OW_fact (fun w hw => hw.tform (v := v14) (l := rs14) (enc := encRV) (by repeat (first | exact .head | apply Swap.tail))) (fun hf => ?_)
  obtain ⟨av14, cv14, rfl, _, _, hbv14⟩ := hf
  refine OW_q (q_move rfl) rfl ?_
  refine OW_q (q_extract rfl rfl) rfl ?_
  refine OW_q (q_extract rfl rfl) rfl ?_
  refine OW_e (e_alloc Tryd.zeroValue24 rfl) rfl (fun b5 => ?_)
  refine OW_e (e_alloc Tryd.zeroValue31 rfl) rfl (fun b6 => ?_)
  refine OW_e0 (e_storeN Tryd.sizeOf24 rfl rfl rfl rfl (by simp [Value.oneCell']) (by (repeat (first | exact .head | apply Swap.tail))) (by rfl)) (fun _ => ?_)
  refine OW_e0 (e_storeN Tryd.sizeOf31 rfl rfl rfl rfl (by simp [Value.oneCell']) (by (repeat (first | exact .head | apply Swap.tail))) (by rfl)) (fun _ => ?_)
  refine OW_nil ?_
  refine EW_then ?_
  refine CW_seq ?_
  refine CW_region ?_
  first | (refine OW_q (q_loadN_own Tryd.isAgg31 Tryd.sizeOf31 rfl rfl (by (repeat (first | exact .head | apply Swap.tail))) (by rfl)) rfl ?_) | (refine OW_q (q_loadN_ro Tryd.isAgg31 Tryd.sizeOf31 rfl (by first | assumption | exact Row.at_ (by assumption) rfl) (by rfl)) rfl ?_)
  first | (refine OW_q (q_loadN_own Tryd.isAgg31 Tryd.sizeOf31 rfl rfl (by (repeat (first | exact .head | apply Swap.tail))) (by rfl)) rfl ?_) | (refine OW_q (q_loadN_ro Tryd.isAgg31 Tryd.sizeOf31 rfl (by first | assumption | exact Row.at_ (by assumption) rfl) (by rfl)) rfl ?_)
  refine OW_q (q_eqAgg (by kernel_rfl) rfl rfl (fun w => fault_eq c9 i9 w)) rfl ?_
  refine OW_q (q_move rfl) rfl ?_
  refine OW_part (t := 20) rfl (fun hg20 => ?_) (fun hg20 => ?_)
  · skip
    refine OW_wanted rfl rfl rfl ?_
    first | (refine OW_q (q_loadN_own Tryd.isAgg24 Tryd.sizeOf24 rfl rfl (by (repeat (first | exact .head | apply Swap.tail))) (by rfl)) rfl ?_) | (refine OW_q (q_loadN_ro Tryd.isAgg24 Tryd.sizeOf24 rfl (by first | assumption | exact Row.at_ (by assumption) rfl) (by rfl)) rfl ?_)
    refine OW_wanted rfl rfl rfl ?_
    first | (refine OW_q (q_loadN_own Tryd.isAgg24 Tryd.sizeOf24 rfl rfl (by (repeat (first | exact .head | apply Swap.tail))) (by rfl)) rfl ?_) | (refine OW_q (q_loadN_ro Tryd.isAgg24 Tryd.sizeOf24 rfl (by first | assumption | exact Row.at_ (by assumption) rfl) (by rfl)) rfl ?_)
    refine OW_wanted rfl rfl rfl ?_
    refine OW_e (e_call Tryd.call10 rfl (fun w hw => lift_oldP (same_any _ _ ⟨g9.terms, g9.names, plainR rs9⟩ ⟨g9.terms, g9.names, plainR rs14⟩ w (hw.gramIn (by repeat (first | exact .head | apply Swap.tail)) (by repeat (first | exact .head | apply Swap.tail))) (hw.gramIn (by repeat (first | exact .head | apply Swap.tail)) (by repeat (first | exact .head | apply Swap.tail)))) hw)) rfl (fun x23 => ?_)
    refine OW_pure fun hx23 => ?_
    obtain rfl : x23 = true := hx23.2 (by rw [hrl9, hrl14])
    refine OW_q (q_pick_t rfl rfl) rfl ?_
    refine OW_q (q_assign rfl) rfl ?_
    refine OW_nil ?_
    refine EW_then ?_
    refine CW_ret ?_
    refine ret1 Tryd.results4 rfl (fun w hw => ?_)
    exact ⟨rfl, hw.sub .nil⟩
  · skip
    exact absurd hg20 (by simp) --stop

end Go.Sy
