/- How the program reads a line. No condition. -/
import Derived.Test.YteceklkjbcebkabDoorW74
import Derived.Test.YteceklkjbcebkabDoorStpd
import Derived.Test.YteceklkjbcebkabDoorSyt2
namespace Go.Sy
open Go Go.RowKit Go.Proofs

theorem parts_mem {c : UInt8} : ∀ {l x : List UInt8}, x ∈ parts c l → x.length ≤ l.length
  | [], x, h => by simp [parts] at h; rw [h]; simp
  | b :: l, x, h => by
    unfold parts at h
    split at h
    · rcases List.mem_cons.1 h with rfl | h
      · simp
      · have := parts_mem h; simp only [List.length_cons]; omega
    · split at h
      · rename_i y r hy
        rcases List.mem_cons.1 h with rfl | h
        · have := parts_mem (c := c) (l := l) (x := y) (by rw [hy]; simp)
          simp only [List.length_cons]; omega
        · have := parts_mem (c := c) (l := l) (x := x) (by rw [hy]; exact .tail _ h)
          simp only [List.length_cons]; omega
      · simp at h; rw [h]; simp
theorem symsF_snoc : ∀ (l : List (List UInt8)) (x : List UInt8), symsF (l ++ [x]) = match symsF l, symF x with
    | some ys, some y => some (ys ++ [y])
    | _, _ => none
  | [], x => by
    show (match symF x, some [] with | some y, some ys => some (y :: ys) | _, _ => none) = _
    cases symF x <;> rfl
  | z :: l, x => by
    show (match symF z, symsF (l ++ [x]) with | some y, some ys => some (y :: ys) | _, _ => none) = (match (match symF z, symsF l with | some y, some ys => some (y :: ys) | _, _ => none), symF x with | some ys, some y => some (ys ++ [y]) | _, _ => none)
    rw [symsF_snoc l x]
    cases symF z <;> cases symsF l <;> cases symF x <;> rfl
theorem left_ok {a : List UInt8} {y : Sym} {ok ok1 : Bool} (h : SymR (if a.getLast? = some 58 then a.dropLast else a) (y, ok)) (h1 : ok1 = (decide (a.getLast? = some 58) && ok && !y.term)) : (ok1 = true → leftF a = some y.n) ∧ (ok1 = false → leftF a = none) := by
  unfold leftF
  by_cases hl : a.getLast? = some 58
  · rw [if_pos hl] at h ⊢
    obtain ⟨h2, h3⟩ := h
    simp only [hl, decide_true, Bool.true_and] at h1
    cases ok with
    | false =>
      rw [show symF a.dropLast = none from h3 rfl]
      exact ⟨(fun e => by rw [e] at h1; cases h1), fun _ => rfl⟩
    | true =>
      rw [show symF a.dropLast = some y from h2 rfl]
      simp only [Bool.true_and] at h1
      cases ht : y.term with
      | true => rw [ht] at h1; exact ⟨(fun e => by rw [e] at h1; cases h1), fun _ => by simp [ht]⟩
      | false => rw [ht] at h1; exact ⟨fun _ => by simp [ht], (fun e => by rw [e] at h1; cases h1)⟩
  · rw [if_neg hl]
    simp only [hl, decide_false, Bool.false_and] at h1
    exact ⟨(fun e => by rw [e] at h1; cases h1), fun _ => rfl⟩
theorem ruleF_eq {l x : List UInt8} {r : List (List UInt8)} (h : parts 32 l = x :: r) : ruleF l = match leftF x, symsF r with
    | some n, some ys => some ⟨n, ys⟩
    | _, _ => none := by unfold ruleF; rw [h]; rfl
theorem headF_eq {l a b c d : List UInt8} (h : parts 32 l = [a, b, c, d]) : headF l = if a = [116, 101, 114, 109, 115] ∧ c = [110, 97, 109, 101, 115] then match numF b, numF d with
    | some m, some n => some ((m : Int), (n : Int))
    | _, _ => none
    else none := by unfold headF; rw [h]; rfl
theorem headF_len {l : List UInt8} (h : (parts 32 l).length ≠ 4) : headF l = none := by
  unfold headF
  split
  · rename_i a b c d e
    rw [e] at h
    exact absurd rfl h
  · rfl
theorem four {α : Type} {l : List α} (h : l.length = 4) : ∃ a b c d, l = [a, b, c, d] := by
  match l, h with
  | [a, b, c, d], _ => exact ⟨a, b, c, d, rfl⟩
def HeadR (l : List UInt8) (x : (Int × Int) × Bool) : Prop := (x.2 = true → headF l = some x.1) ∧ (x.2 = false → headF l = none)
def RuleR (l : List UInt8) (rs : List RV) (x : Bool × Value × List RV) : Prop := (x.1 = true → ∃ r, ruleF l = some r ∧ plainR x.2.2 = plainR rs ++ [r]) ∧ (x.1 = false → ruleF l = none)
theorem take_nx2 {α : Type} {l : List α} {k : Nat} {x : α} (h : l[k + 1]? = some x) : (l.drop 1).take (k + 1) = (l.drop 1).take k ++ [x] := by rw [List.take_add_one, List.getElem?_drop, Nat.add_comm 1 k, h]; rfl
set_option maxRecDepth 20000 in
theorem head_any (bg : Nat) (t n : Int) (ov : Value) (l : List UInt8) (w0 w : World) (F : HP) (hl : l.length ≤ 4000000000) (hG : Globs w0) (hw : Sat (Old w0) w0 ([cel bg 24 [.int .i64 t, .int .i64 n, ov]] ++ [F]) w) : Calls Tryd.prog 22 #[.pointer (some ⟨bg, 0, none⟩), .string ⟨l.toArray⟩] w (fun e w' => ∃ x : (Int × Int) × Bool, e = .returned (.bool x.2) ∧ HeadR l x ∧ Sat (Old w0) w0 ([cel bg 24 [.int .i64 x.1.1, .int .i64 x.1.2, ov]] ++ [F]) w') := by
  refine calls_CW (S := Sat (Old w0) w0 [cel bg 24 [.int .i64 t, .int .i64 n, ov], F]) Tryd.func22 rfl Tryd.ntmps22 rfl (hw) ?_
  refine CW_seq ?_
  refine CW_region ?_
  refine OW_q (q_assign rfl) rfl ?_
  refine OW_nil ?_
  refine EW_then ?_
  refine CW_seq ?_
  refine CW_region ?_
  refine OW_q (q_move rfl) rfl ?_
  refine OW_e (e_call Tryd.call20 rfl (fun w hw => lift_old (split_any l 32 w hl (hG.of hw)) hw)) rfl (fun x11 => ?_)
  refine OW_q (q_assign rfl) rfl ?_
  refine OW_nil ?_
  refine EW_then ?_
  refine CW_seq ?_
  refine CW_seq ?_
  refine CW_region ?_
  refine OW_q (q_move rfl) rfl ?_
  refine OW_q (q_len Tryd.underlying40 rfl) rfl ?_
  refine OW_q (q_nei rfl rfl) rfl ?_
  refine OW_q (q_move rfl) rfl ?_
  refine OW_part (t := 15) rfl (fun hg15 => ?_) (fun hg15 => ?_)
  · skip
    refine OW_skip rfl rfl rfl rfl ?_
    refine OW_skip rfl rfl rfl rfl ?_
    refine OW_skip rfl rfl rfl rfl ?_
    refine OW_skip rfl rfl rfl rfl ?_
    refine OW_q (q_pick_t rfl rfl) rfl ?_
    refine OW_q (q_move rfl) rfl ?_
    refine OW_skip rfl rfl rfl rfl ?_
    refine OW_skip rfl rfl rfl rfl ?_
    refine OW_skip rfl rfl rfl rfl ?_
    refine OW_skip rfl rfl rfl rfl ?_
    refine OW_q (q_pick_t rfl rfl) rfl ?_
    refine OW_nil ?_
    refine EW_then ?_
    refine CW_true rfl rfl ?_
    refine CW_seq ?_
    refine CW_region ?_
    refine OW_q (q_assign rfl) rfl ?_
    refine OW_nil ?_
    refine EW_then ?_
    refine CW_ret ?_
    refine EW_then_ret ?_
    refine ret1 Tryd.results22 rfl (fun w hw => ?_)
    exact ⟨((t, n), false), rfl, ⟨(fun h => by cases h), fun _ => by exact headF_len (fun e => by simp [e] at hg15)⟩, hw.sub (by repeat (first | exact SubL.nil | exact Pick.head | apply Pick.tail | apply SubL.cons))⟩
  · skip
    have h15 : (((parts 32 l).length : Nat) : Int) = 4 := by simpa using hg15
    have hl4 : (parts 32 l).length = 4 := by omega
    obtain ⟨a, b, c, d, hws⟩ := four hl4
    have ha : (parts 32 l)[0]? = some a := by rw [hws]; rfl
    have hb : (parts 32 l)[1]? = some b := by rw [hws]; rfl
    have hc : (parts 32 l)[2]? = some c := by rw [hws]; rfl
    have hd : (parts 32 l)[3]? = some d := by rw [hws]; rfl
    refine OW_wanted rfl rfl rfl ?_
    refine OW_q (q_move rfl) rfl ?_
    refine OW_wanted rfl rfl rfl ?_
    refine OW_q (q_indexAddr Tryd.underlying40 Tryd.sizeOf9 rfl rfl (Nat.lt_of_lt_of_eq (by decide) hl4.symm)) rfl ?_
    refine OW_wanted rfl rfl rfl ?_
    refine OW_q (q_load_t1 (enc := encS) (k := 0) (v := .slice (some ⟨x11, 0, none⟩) (parts 32 l).length (parts 32 l).length) (l := (parts 32 l)) Tryd.isAgg9 (fun _ => rfl) rfl (by repeat (first | exact .head | apply Swap.tail)) rfl ha rfl) rfl ?_
    refine OW_wanted rfl rfl rfl ?_
    refine OW_q (q_neS (a := a) (b := [116, 101, 114, 109, 115]) rfl rfl) rfl ?_
    refine OW_q (q_pick_f rfl rfl) rfl ?_
    refine OW_q (q_move rfl) rfl ?_
    refine OW_part (t := 21) rfl (fun hg21 => ?_) (fun hg21 => ?_)
    · skip
      refine OW_skip rfl rfl rfl rfl ?_
      refine OW_skip rfl rfl rfl rfl ?_
      refine OW_skip rfl rfl rfl rfl ?_
      refine OW_skip rfl rfl rfl rfl ?_
      refine OW_q (q_pick_t rfl rfl) rfl ?_
      refine OW_nil ?_
      refine EW_then ?_
      refine CW_true rfl rfl ?_
      refine CW_seq ?_
      refine CW_region ?_
      refine OW_q (q_assign rfl) rfl ?_
      refine OW_nil ?_
      refine EW_then ?_
      refine CW_ret ?_
      refine EW_then_ret ?_
      refine ret1 Tryd.results22 rfl (fun w hw => ?_)
      exact ⟨((t, n), false), rfl, ⟨(fun h => by cases h), fun _ => by rw [headF_eq hws, if_neg (by rintro ⟨e, _⟩; simp [e] at hg21)]⟩, hw.sub (by repeat (first | exact SubL.nil | exact Pick.head | apply Pick.tail | apply SubL.cons))⟩
    · skip
      refine OW_wanted rfl rfl rfl ?_
      refine OW_q (q_move rfl) rfl ?_
      refine OW_wanted rfl rfl rfl ?_
      refine OW_q (q_indexAddr Tryd.underlying40 Tryd.sizeOf9 rfl rfl (Nat.lt_of_lt_of_eq (by decide) hl4.symm)) rfl ?_
      refine OW_wanted rfl rfl rfl ?_
      refine OW_q (q_load_t1 (enc := encS) (k := 2) (v := .slice (some ⟨x11, 0, none⟩) (parts 32 l).length (parts 32 l).length) (l := (parts 32 l)) Tryd.isAgg9 (fun _ => rfl) rfl (by repeat (first | exact .head | apply Swap.tail)) rfl hc rfl) rfl ?_
      refine OW_wanted rfl rfl rfl ?_
      refine OW_q (q_neS (a := c) (b := [110, 97, 109, 101, 115]) rfl rfl) rfl ?_
      refine OW_q (q_pick_f rfl rfl) rfl ?_
      refine OW_nil ?_
      refine EW_then ?_
      refine CW_cond rfl (fun h26 => ?_) (fun h26 => ?_)
      · skip
        refine CW_seq ?_
        refine CW_region ?_
        refine OW_q (q_assign rfl) rfl ?_
        refine OW_nil ?_
        refine EW_then ?_
        refine CW_ret ?_
        refine EW_then_ret ?_
        refine ret1 Tryd.results22 rfl (fun w hw => ?_)
        exact ⟨((t, n), false), rfl, ⟨(fun h => by cases h), fun _ => by rw [headF_eq hws, if_neg (by rintro ⟨_, e⟩; simp [e] at h26)]⟩, hw.sub (by repeat (first | exact SubL.nil | exact Pick.head | apply Pick.tail | apply SubL.cons))⟩
      · skip
        refine CW_skip ?_
        refine EW_then ?_
        refine CW_seq ?_
        refine CW_region ?_
        refine OW_q (q_move rfl) rfl ?_
        refine OW_q (q_indexAddr Tryd.underlying40 Tryd.sizeOf9 rfl rfl (Nat.lt_of_lt_of_eq (by decide) hl4.symm)) rfl ?_
        refine OW_q (q_load_t1 (enc := encS) (k := 1) (v := .slice (some ⟨x11, 0, none⟩) (parts 32 l).length (parts 32 l).length) (l := (parts 32 l)) Tryd.isAgg9 (fun _ => rfl) rfl (by repeat (first | exact .head | apply Swap.tail)) rfl hb rfl) rfl ?_
        refine OW_e (e_call Tryd.call33 rfl (fun w hw => lift_oldP (number_any b (by have := parts_mem (c := 32) (l := l) (x := b) (by rw [hws]; simp); omega) w (hG.of hw)) hw)) rfl (fun x31 => ?_)
        refine OW_pure fun hx31 => ?_
        obtain ⟨n31, ok31⟩ := x31
        have hx31 : NumR b (n31, ok31) := hx31
        refine OW_q (q_move rfl) rfl ?_
        refine OW_q (q_extract rfl rfl) rfl ?_
        refine OW_q (q_extract rfl rfl) rfl ?_
        refine OW_q (q_assign rfl) rfl ?_
        refine OW_q (q_assign rfl) rfl ?_
        refine OW_nil ?_
        refine EW_then ?_
        refine CW_seq ?_
        refine CW_region ?_
        refine OW_q (q_move rfl) rfl ?_
        refine OW_q (q_indexAddr Tryd.underlying40 Tryd.sizeOf9 rfl rfl (Nat.lt_of_lt_of_eq (by decide) hl4.symm)) rfl ?_
        refine OW_q (q_load_t1 (enc := encS) (k := 3) (v := .slice (some ⟨x11, 0, none⟩) (parts 32 l).length (parts 32 l).length) (l := (parts 32 l)) Tryd.isAgg9 (fun _ => rfl) rfl (by repeat (first | exact .head | apply Swap.tail)) rfl hd rfl) rfl ?_
        refine OW_e (e_call Tryd.call33 rfl (fun w hw => lift_oldP (number_any d (by have := parts_mem (c := 32) (l := l) (x := d) (by rw [hws]; simp); omega) w (hG.of hw)) hw)) rfl (fun x38 => ?_)
        refine OW_pure fun hx38 => ?_
        obtain ⟨n38, ok38⟩ := x38
        have hx38 : NumR d (n38, ok38) := hx38
        refine OW_q (q_move rfl) rfl ?_
        refine OW_q (q_extract rfl rfl) rfl ?_
        refine OW_q (q_extract rfl rfl) rfl ?_
        refine OW_q (q_assign rfl) rfl ?_
        refine OW_q (q_assign rfl) rfl ?_
        refine OW_nil ?_
        refine EW_then ?_
        refine CW_seq ?_
        refine CW_region ?_
        refine OW_q (q_move rfl) rfl ?_
        refine OW_q (q_move rfl) rfl ?_
        refine OW_q (q_move rfl) rfl ?_
        refine OW_q (q_move rfl) rfl ?_
        refine OW_q (q_nilCheck rfl) rfl ?_
        refine OW_q (q_fieldAddr Tryd.underlying24 rfl rfl Tryd.sizeOf3 rfl rfl) rfl ?_
        refine OW_e0 (e_store Tryd.sizeOf3 rfl rfl rfl rfl (by (repeat (first | exact .head | apply Swap.tail))) (by rfl)) (fun _ => ?_)
        refine OW_q (q_nilCheck rfl) rfl ?_
        refine OW_q (q_fieldAddr Tryd.underlying24 rfl rfl Tryd.sizeOf3 rfl rfl) rfl ?_
        refine OW_e0 (e_store Tryd.sizeOf3 rfl rfl rfl rfl (by (repeat (first | exact .head | apply Swap.tail))) (by rfl)) (fun _ => ?_)
        refine OW_nil ?_
        refine EW_then ?_
        refine CW_seq ?_
        refine CW_region ?_
        refine OW_q (q_move rfl) rfl ?_
        refine OW_q (q_move rfl) rfl ?_
        refine OW_part (t := 50) rfl (fun hg50 => ?_) (fun hg50 => ?_)
        · skip
          refine OW_wanted rfl rfl rfl ?_
          refine OW_q (q_move rfl) rfl ?_
          refine OW_q (q_pick_t rfl rfl) rfl ?_
          refine OW_q (q_assign rfl) rfl ?_
          refine OW_nil ?_
          refine EW_then ?_
          refine CW_ret ?_
          refine ret1 Tryd.results22 rfl (fun w hw => ?_)
          have e1 : a = [116, 101, 114, 109, 115] := by simpa using hg21
          have e2 : c = [110, 97, 109, 101, 115] := by simpa using h26
          obtain ⟨m1, k1, k2⟩ := hx31.1 hg50
          refine ⟨((n31, n38), ok38), rfl, ⟨fun h => ?_, fun h => ?_⟩, hw.sub (by repeat (first | exact SubL.nil | exact Pick.head | apply Pick.tail | apply SubL.cons))⟩
          · obtain ⟨m2, k3, k4⟩ := hx38.1 h
            rw [headF_eq hws, if_pos ⟨e1, e2⟩, k1, k3]
            show some _ = some (n31, n38)
            rw [show n31 = m1 from k2, show n38 = m2 from k4]
          · rw [headF_eq hws, if_pos ⟨e1, e2⟩, k1, hx38.2 h]
        · skip
          refine OW_skip rfl rfl rfl rfl ?_
          refine OW_q (q_pick_f rfl rfl) rfl ?_
          refine OW_q (q_assign rfl) rfl ?_
          refine OW_nil ?_
          refine EW_then ?_
          refine CW_ret ?_
          refine ret1 Tryd.results22 rfl (fun w hw => ?_)
          have e1 : a = [116, 101, 114, 109, 115] := by simpa using hg21
          have e2 : c = [110, 97, 109, 101, 115] := by simpa using h26
          refine ⟨((n31, n38), false), rfl, ⟨(fun h => by cases h), fun _ => ?_⟩, hw.sub (by repeat (first | exact SubL.nil | exact Pick.head | apply Pick.tail | apply SubL.cons))⟩
          rw [headF_eq hws, if_pos ⟨e1, e2⟩, hx31.2 hg50]

end Go.Sy
