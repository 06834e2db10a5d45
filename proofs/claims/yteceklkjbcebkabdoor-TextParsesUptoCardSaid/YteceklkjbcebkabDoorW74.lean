/- How the program reads a number and a symbol. No condition. -/
import Derived.Test.YteceklkjbcebkabDoorW73
namespace Go.Sy
open Go Go.RowKit Go.Proofs

theorem symF_t (r : List UInt8) : symF (116 :: r) = (numF r).map (fun (n : Nat) => (⟨true, (n : Int)⟩ : Sym)) := by simp [symF]
theorem symF_n (r : List UInt8) : symF (110 :: r) = (numF r).map (fun (n : Nat) => (⟨false, (n : Int)⟩ : Sym)) := by simp [symF]
theorem cutP_any (l : List UInt8) (c : UInt8) (w : World) : Calls Tryd.prog 41 #[.string ⟨l.toArray⟩, .string ⟨[c].toArray⟩] w (fun e w' => e = .returned (.tuple #[.string ⟨(if l.head? = some c then l.drop 1 else l).toArray⟩, .bool (decide (l.head? = some c))]) ∧ Sat (Old w) w [] w') := by
  have e1 : Lib.hasPrefix l [c] = decide (l.head? = some c) := by
    unfold Lib.hasPrefix
    cases l with
    | nil => rfl
    | cons b r =>
      by_cases h : b = c
      · subst h; simp [List.isPrefixOf]
      · have h' : ¬ c = b := fun e => h e.symm
        simp [List.isPrefixOf, h, h']
  refine (Tryd.strings_CutPrefix ⟨l.toArray⟩ ⟨[c].toArray⟩ w).mono fun e w' ⟨he, hw⟩ => ⟨?_, by rw [hw]; exact Sat.start w⟩
  rw [he]
  show Ending.returned (.tuple #[.string ⟨(Lib.trimPrefix l [c]).toArray⟩, .bool (Lib.hasPrefix l [c])]) = _
  unfold Lib.trimPrefix
  rw [e1]
  simp only [decide_eq_true_eq]
  rfl
theorem cutS_any (l : List UInt8) (c : UInt8) (w : World) (hl : l.length ≤ 4000000000) : Calls Tryd.prog 31 #[.string ⟨l.toArray⟩, .string ⟨[c].toArray⟩] w (fun e w' => e = .returned (.tuple #[.string ⟨(if l.getLast? = some c then l.dropLast else l).toArray⟩, .bool (decide (l.getLast? = some c))]) ∧ Sat (Old w) w [] w') := by
  have e1 : Lib.hasSuffix l [c] = decide (l.getLast? = some c) := by
    unfold Lib.hasSuffix
    rcases List.eq_nil_or_concat l with rfl | ⟨r, b, rfl⟩
    · rfl
    · by_cases h : b = c
      · subst h; simp [List.isSuffixOf]
      · have h' : ¬ c = b := fun e => h e.symm
        simp [List.isSuffixOf, List.isPrefixOf, h, h']
  refine (Tryd.strings_CutSuffix ⟨l.toArray⟩ ⟨[c].toArray⟩ w (by have := size_mk l; omega)).mono fun e w' ⟨he, hw⟩ => ⟨?_, by rw [hw]; exact Sat.start w⟩
  rw [he]
  show Ending.returned (.tuple #[.string ⟨(Lib.trimSuffix l [c]).toArray⟩, .bool (Lib.hasSuffix l [c])]) = _
  unfold Lib.trimSuffix
  rw [e1]
  simp only [decide_eq_true_eq]
  by_cases h : l.getLast? = some c
  · rw [if_pos h, if_pos h]; simp [List.dropLast_eq_take]
  · rw [if_neg h, if_neg h]
set_option maxRecDepth 20000 in
theorem number_any (l : List UInt8) (hl : l.length ≤ 4000000000) (w : World) (hG : Globs w) : Calls Tryd.prog 33 #[.string ⟨l.toArray⟩] w (fun e w' => ∃ x : Int × Bool, e = .returned (.tuple #[.int .i64 x.1, .bool x.2]) ∧ NumR l x ∧ Sat (Old w) w [] w') := by
  refine calls_CW Tryd.func33 rfl Tryd.ntmps33 rfl (Sat.start w) ?_
  refine CW_seq ?_
  refine CW_region ?_
  refine OW_q (q_assign rfl) rfl ?_
  refine OW_q (q_assign rfl) rfl ?_
  refine OW_nil ?_
  refine EW_then ?_
  refine CW_seq ?_
  refine CW_region ?_
  refine OW_q (q_move rfl) rfl ?_
  refine OW_e (e_call Tryd.call42 rfl (fun w hw => lift_oldP (atoi_any l hl w (hG.of hw)) hw)) rfl (fun x8 => ?_)
  refine OW_pure fun hx8 => ?_
  obtain ⟨v, okv, ti, tv⟩ := x8
  obtain ⟨hok, hno⟩ := hx8
  have hok : okv = true → Lib.atoiAll l = .ok v := hok
  have hno : okv = false → ∀ v, Lib.atoiAll l ≠ .ok v := hno
  refine OW_q (q_move rfl) rfl ?_
  refine OW_q (q_extract rfl rfl) rfl ?_
  refine OW_q (q_extract rfl rfl) rfl ?_
  refine OW_q (q_assign rfl) rfl ?_
  refine OW_q (q_assign rfl) rfl ?_
  refine OW_nil ?_
  refine EW_then ?_
  refine CW_seq ?_
  refine CW_region ?_
  refine OW_q (q_move rfl) rfl ?_
  refine OW_q (q_move rfl) rfl ?_
  refine OW_q (q_eqNilI (b := okv) (ti := ti) (tv := tv) (by kernel_rfl) rfl) rfl ?_
  refine OW_q (q_move rfl) rfl ?_
  refine OW_part (t := 14) rfl (fun hg14 => ?_) (fun hg14 => ?_)
  · skip
    refine OW_wanted rfl rfl rfl ?_
    refine OW_q (q_move rfl) rfl ?_
    refine OW_wanted rfl rfl rfl ?_
    refine OW_q (q_geq rfl rfl) rfl ?_
    refine OW_q (q_pick_t rfl rfl) rfl ?_
    refine OW_q (q_move rfl) rfl ?_
    refine OW_part (t := 18) rfl (fun hg18 => ?_) (fun hg18 => ?_)
    · skip
      refine OW_wanted rfl rfl rfl ?_
      refine OW_q (q_move rfl) rfl ?_
      refine OW_wanted rfl rfl rfl ?_
      refine OW_q (q_leq rfl rfl) rfl ?_
      refine OW_q (q_pick_t rfl rfl) rfl ?_
      refine OW_q (q_move rfl) rfl ?_
      refine OW_part (t := 22) rfl (fun hg22 => ?_) (fun hg22 => ?_)
      · skip
        refine OW_wanted rfl rfl rfl ?_
        refine OW_q (q_move rfl) rfl ?_
        refine OW_wanted rfl rfl rfl ?_
        refine OW_e (e_call Tryd.call15 rfl (fun w hw => lift_ro (itoa9_any v (of_decide_eq_true hg18) (of_decide_eq_true hg22) w (hG.of hw)) hw)) rfl (fun x24 => ?_)
        refine OW_wanted rfl rfl rfl ?_
        refine OW_q (q_move rfl) rfl ?_
        refine OW_wanted rfl rfl rfl ?_
        refine OW_q (q_eqS (a := Lib.decDigits v.toNat) (b := l) rfl rfl) rfl ?_
        refine OW_q (q_pick_t rfl rfl) rfl ?_
        refine OW_q (q_assign rfl) rfl ?_
        refine OW_q (q_assign rfl) rfl ?_
        refine OW_nil ?_
        refine EW_then ?_
        refine CW_ret ?_
        refine ret2 Tryd.results33 rfl rfl (fun w hw => ?_)
        refine ⟨(v, _), rfl, ⟨fun h => ?_, fun h => ?_⟩, hw.sub .nil⟩
        · have h1 : Lib.decDigits v.toNat = l := by simpa using h
          have h2 : v ≤ 9999 := of_decide_eq_true hg22
          have h3 : 0 ≤ v := of_decide_eq_true hg18
          exact ⟨v.toNat, numF_dec.2 ⟨by omega, h1.symm⟩, by show v = _; omega⟩
        · exact num_not (hok hg14) (.inr (.inr (by simpa using h)))
      · skip
        refine OW_skip rfl rfl rfl rfl ?_
        refine OW_skip rfl rfl rfl rfl ?_
        refine OW_skip rfl rfl rfl rfl ?_
        refine OW_skip rfl rfl rfl rfl ?_
        refine OW_q (q_pick_f rfl rfl) rfl ?_
        refine OW_q (q_assign rfl) rfl ?_
        refine OW_q (q_assign rfl) rfl ?_
        refine OW_nil ?_
        refine EW_then ?_
        refine CW_ret ?_
        refine ret2 Tryd.results33 rfl rfl (fun w hw => ?_)
        refine ⟨(v, false), rfl, ⟨(fun h => by cases h), fun _ => num_not (hok hg14) (.inr (.inl (by have := of_decide_eq_false hg22; omega)))⟩, hw.sub .nil⟩
    · skip
      refine OW_skip rfl rfl rfl rfl ?_
      refine OW_skip rfl rfl rfl rfl ?_
      refine OW_q (q_pick_f rfl rfl) rfl ?_
      refine OW_q (q_move rfl) rfl ?_
      refine OW_skip rfl rfl rfl rfl ?_
      refine OW_skip rfl rfl rfl rfl ?_
      refine OW_skip rfl rfl rfl rfl ?_
      refine OW_skip rfl rfl rfl rfl ?_
      refine OW_q (q_pick_f rfl rfl) rfl ?_
      refine OW_q (q_assign rfl) rfl ?_
      refine OW_q (q_assign rfl) rfl ?_
      refine OW_nil ?_
      refine EW_then ?_
      refine CW_ret ?_
      refine ret2 Tryd.results33 rfl rfl (fun w hw => ?_)
      refine ⟨(v, false), rfl, ⟨(fun h => by cases h), fun _ => num_not (hok hg14) (.inl (by have := of_decide_eq_false hg18; omega))⟩, hw.sub .nil⟩
  · skip
    refine OW_skip rfl rfl rfl rfl ?_
    refine OW_skip rfl rfl rfl rfl ?_
    refine OW_q (q_pick_f rfl rfl) rfl ?_
    refine OW_q (q_move rfl) rfl ?_
    refine OW_skip rfl rfl rfl rfl ?_
    refine OW_skip rfl rfl rfl rfl ?_
    refine OW_q (q_pick_f rfl rfl) rfl ?_
    refine OW_q (q_move rfl) rfl ?_
    refine OW_skip rfl rfl rfl rfl ?_
    refine OW_skip rfl rfl rfl rfl ?_
    refine OW_skip rfl rfl rfl rfl ?_
    refine OW_skip rfl rfl rfl rfl ?_
    refine OW_q (q_pick_f rfl rfl) rfl ?_
    refine OW_q (q_assign rfl) rfl ?_
    refine OW_q (q_assign rfl) rfl ?_
    refine OW_nil ?_
    refine EW_then ?_
    refine CW_ret ?_
    refine ret2 Tryd.results33 rfl rfl (fun w hw => ?_)
    refine ⟨(v, false), rfl, ⟨(fun h => by cases h), fun _ => num_err (hno hg14)⟩, hw.sub .nil⟩

set_option maxRecDepth 20000 in
theorem reads_any (l : List UInt8) (hl : l.length ≤ 4000000000) (w : World) (hG : Globs w) : Calls Tryd.prog 32 #[.string ⟨l.toArray⟩] w (fun e w' => ∃ x : Sym × Bool, e = .returned (.tuple #[.agg #[.bool x.1.term, .int .i64 x.1.n], .bool x.2]) ∧ SymR l x ∧ Sat (Old w) w [] w') := by
  refine calls_CW Tryd.func32 rfl Tryd.ntmps32 rfl (Sat.start w) ?_
  refine CW_seq ?_
  refine CW_region ?_
  refine OW_e (e_alloc Tryd.zeroValue53 rfl) rfl (fun b2 => ?_)
  refine OW_q (q_assign rfl) rfl ?_
  refine OW_nil ?_
  refine EW_then ?_
  refine CW_seq ?_
  refine CW_region ?_
  refine OW_q (q_move rfl) rfl ?_
  refine OW_e (e_call Tryd.call41 rfl (fun w hw => lift_ro (cutP_any l 116 w) hw)) rfl (fun x11 => ?_)
  refine OW_q (q_move rfl) rfl ?_
  refine OW_q (q_extract rfl rfl) rfl ?_
  refine OW_q (q_extract rfl rfl) rfl ?_
  refine OW_q (q_assign rfl) rfl ?_
  refine OW_q (q_assign rfl) rfl ?_
  refine OW_nil ?_
  refine EW_then ?_
  refine CW_seq ?_
  refine CW_seq ?_
  refine CW_region ?_
  refine OW_q (q_move rfl) rfl ?_
  refine OW_q (q_not rfl) rfl ?_
  refine OW_nil ?_
  refine EW_then ?_
  refine CW_cond rfl (fun h15 => ?_) (fun h15 => ?_)
  · skip
    have ht : ¬ l.head? = some 116 := by simpa using h15
    refine CW_seq ?_
    refine CW_region ?_
    refine OW_q (q_assign rfl) rfl ?_
    refine OW_nil ?_
    refine EW_then ?_
    refine CW_seq ?_
    refine CW_region ?_
    refine OW_q (q_move rfl) rfl ?_
    refine OW_e (e_call Tryd.call41 rfl (fun w hw => lift_ro (cutP_any l 110 w) hw)) rfl (fun x18 => ?_)
    refine OW_q (q_move rfl) rfl ?_
    refine OW_q (q_extract rfl rfl) rfl ?_
    refine OW_q (q_extract rfl rfl) rfl ?_
    refine OW_q (q_assign rfl) rfl ?_
    refine OW_q (q_assign rfl) rfl ?_
    refine OW_nil ?_
    refine EW_then ?_
    refine CW_seq ?_
    refine CW_region ?_
    refine OW_q (q_move rfl) rfl ?_
    refine OW_q (q_not rfl) rfl ?_
    refine OW_nil ?_
    refine EW_then ?_
    refine CW_cond rfl (fun h22 => ?_) (fun h22 => ?_)
    · skip
      have hn : ¬ l.head? = some 110 := by simpa using h22
      refine CW_seq ?_
      refine CW_region ?_
      refine OW_q (q_build (ps := #[]) (v := .agg #[.bool false, .int .i64 0]) rfl (fun w => by kernel_rfl)) rfl ?_
      refine OW_e0 (e_storeN Tryd.sizeOf53 rfl rfl rfl rfl (by simp [Value.oneCell']) (by (repeat (first | exact .head | apply Swap.tail))) (by rfl)) (fun _ => ?_)
      refine OW_q (q_assign rfl) rfl ?_
      refine OW_nil ?_
      refine EW_then ?_
      refine CW_ret ?_
      refine EW_then_ret ?_
      refine retc2 (vs := [.bool false, .int .i64 0]) Tryd.results32 Tryd.isAgg53 Tryd.sizeOf53 rfl rfl (fun w hw j u hj => by rw [Addr.add_lit, hw.cell (t := 53) (cs := [.bool false, .int .i64 0]) (A' := cel b2 53 [.bool false, .int .i64 0]) (by repeat (first | exact .head | apply Swap.tail)), Nat.zero_add]; exact hj) rfl (fun w hw => ?_)
      refine ⟨(⟨false, 0⟩, false), rfl, ⟨(fun h => by cases h), fun _ => ?_⟩, hw.sub .nil⟩
      cases l with
      | nil => rfl
      | cons b r =>
        have e1 : ¬ b = 116 := fun e => ht (by rw [e]; rfl)
        have e2 : ¬ b = 110 := fun e => hn (by rw [e]; rfl)
        show (if b = 116 then _ else if b = 110 then _ else _) = _
        rw [if_neg e1, if_neg e2]
    · skip
      have hn : l.head? = some 110 := by simpa using h22
      refine CW_spell 4 (.string ⟨(l.drop 1).toArray⟩) rfl (by rw [if_pos hn]; rfl) ?_
      refine CW_spell 5 (.bool false) rfl (by simp [ht]) ?_
      refine CW_skip ?_
      refine EW_then ?_
      refine CW_seq ?_
      refine CW_region ?_
      refine OW_q (q_move rfl) rfl ?_
      refine OW_e (e_call Tryd.call33 rfl (fun w hw => lift_oldP (number_any (l.drop 1) (by rw [List.length_drop]; omega) w (hG.of hw)) hw)) rfl (fun x26 => ?_)
      refine OW_pure fun hx26 => ?_
      obtain ⟨n26, ok26⟩ := x26
      obtain ⟨hn1, hn2⟩ := hx26
      have hn1 : ok26 = true → ∃ n : Nat, numF _ = some n ∧ n26 = n := hn1
      have hn2 : ok26 = false → numF _ = none := hn2
      refine OW_q (q_move rfl) rfl ?_
      refine OW_q (q_extract rfl rfl) rfl ?_
      refine OW_q (q_extract rfl rfl) rfl ?_
      refine OW_q (q_assign rfl) rfl ?_
      refine OW_q (q_assign rfl) rfl ?_
      refine OW_nil ?_
      refine EW_then ?_
      refine CW_seq ?_
      refine CW_region ?_
      refine OW_q (q_move rfl) rfl ?_
      refine OW_q (q_move rfl) rfl ?_
      first | refine OW_q (q_build (ps := #[(0, .bool true), (1, .int .i64 n26)]) (v := .agg #[.bool true, .int .i64 n26]) rfl (fun w => by kernel_rfl)) rfl ?_ | refine OW_q (q_build (ps := #[(0, .bool false), (1, .int .i64 n26)]) (v := .agg #[.bool false, .int .i64 n26]) rfl (fun w => by kernel_rfl)) rfl ?_
      refine OW_q (q_move rfl) rfl ?_
      refine OW_e0 (e_storeN Tryd.sizeOf53 rfl rfl rfl rfl (by simp [Value.oneCell']) (by (repeat (first | exact .head | apply Swap.tail))) (by rfl)) (fun _ => ?_)
      refine OW_q (q_assign rfl) rfl ?_
      refine OW_nil ?_
      refine EW_then ?_
      refine CW_ret ?_
      refine retc2 (vs := [.bool false, .int .i64 n26]) Tryd.results32 Tryd.isAgg53 Tryd.sizeOf53 rfl rfl (fun w hw j u hj => by rw [Addr.add_lit, hw.cell (t := 53) (cs := [.bool false, .int .i64 n26]) (A' := cel b2 53 [.bool false, .int .i64 n26]) (by repeat (first | exact .head | apply Swap.tail)), Nat.zero_add]; exact hj) rfl (fun w hw => ?_)
      cases l with
      | nil => cases hn
      | cons b r =>
        injection hn with hn
        subst hn
        refine ⟨(⟨false, n26⟩, ok26), rfl, ⟨fun h => ?_, fun h => ?_⟩, hw.sub .nil⟩
        · obtain ⟨m, h1, h2⟩ := hn1 h
          rw [symF_n, show numF r = some m from h1, h2]; rfl
        · rw [symF_n, show numF r = none from hn2 h]; rfl
  · skip
    have ht : l.head? = some 116 := by simpa using h15
    refine CW_spell 4 (.string ⟨(l.drop 1).toArray⟩) rfl (by rw [if_pos ht]; rfl) ?_
    refine CW_spell 5 (.bool true) rfl (by simp [ht]) ?_
    refine CW_skip ?_
    refine EW_then ?_
    refine CW_seq ?_
    refine CW_region ?_
    refine OW_q (q_move rfl) rfl ?_
    refine OW_e (e_call Tryd.call33 rfl (fun w hw => lift_oldP (number_any (l.drop 1) (by rw [List.length_drop]; omega) w (hG.of hw)) hw)) rfl (fun x26 => ?_)
    refine OW_pure fun hx26 => ?_
    obtain ⟨n26, ok26⟩ := x26
    obtain ⟨hn1, hn2⟩ := hx26
    have hn1 : ok26 = true → ∃ n : Nat, numF _ = some n ∧ n26 = n := hn1
    have hn2 : ok26 = false → numF _ = none := hn2
    refine OW_q (q_move rfl) rfl ?_
    refine OW_q (q_extract rfl rfl) rfl ?_
    refine OW_q (q_extract rfl rfl) rfl ?_
    refine OW_q (q_assign rfl) rfl ?_
    refine OW_q (q_assign rfl) rfl ?_
    refine OW_nil ?_
    refine EW_then ?_
    refine CW_seq ?_
    refine CW_region ?_
    refine OW_q (q_move rfl) rfl ?_
    refine OW_q (q_move rfl) rfl ?_
    first | refine OW_q (q_build (ps := #[(0, .bool true), (1, .int .i64 n26)]) (v := .agg #[.bool true, .int .i64 n26]) rfl (fun w => by kernel_rfl)) rfl ?_ | refine OW_q (q_build (ps := #[(0, .bool false), (1, .int .i64 n26)]) (v := .agg #[.bool false, .int .i64 n26]) rfl (fun w => by kernel_rfl)) rfl ?_
    refine OW_q (q_move rfl) rfl ?_
    refine OW_e0 (e_storeN Tryd.sizeOf53 rfl rfl rfl rfl (by simp [Value.oneCell']) (by (repeat (first | exact .head | apply Swap.tail))) (by rfl)) (fun _ => ?_)
    refine OW_q (q_assign rfl) rfl ?_
    refine OW_nil ?_
    refine EW_then ?_
    refine CW_ret ?_
    refine retc2 (vs := [.bool true, .int .i64 n26]) Tryd.results32 Tryd.isAgg53 Tryd.sizeOf53 rfl rfl (fun w hw j u hj => by rw [Addr.add_lit, hw.cell (t := 53) (cs := [.bool true, .int .i64 n26]) (A' := cel b2 53 [.bool true, .int .i64 n26]) (by repeat (first | exact .head | apply Swap.tail)), Nat.zero_add]; exact hj) rfl (fun w hw => ?_)
    cases l with
    | nil => cases ht
    | cons b r =>
      injection ht with ht
      subst ht
      refine ⟨(⟨true, n26⟩, ok26), rfl, ⟨fun h => ?_, fun h => ?_⟩, hw.sub .nil⟩
      · obtain ⟨m, h1, h2⟩ := hn1 h
        rw [symF_t, show numF r = some m from h1, h2]; rfl
      · rw [symF_t, show numF r = none from hn2 h]; rfl

end Go.Sy
