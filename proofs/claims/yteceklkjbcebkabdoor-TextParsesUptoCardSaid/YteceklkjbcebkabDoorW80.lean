/- A grammar's text and its reading, in plain terms. No condition. -/
import Derived.Test.YteceklkjbcebkabDoorW71
import Derived.Test.YteceklkjbcebkabDoorPText
namespace Go.Sy
open Go

def joinC (c : UInt8) : List (List UInt8) → List UInt8
  | [] => []
  | [x] => x
  | x :: y :: r => x ++ c :: joinC c (y :: r)
theorem joinC_cons (c : UInt8) (x : List UInt8) {L : List (List UInt8)} (h : L ≠ []) : joinC c (x :: L) = x ++ c :: joinC c L := by
  cases L with
  | nil => exact absurd rfl h
  | cons y r => rfl
theorem joinC_parts (c : UInt8) : ∀ l, joinC c (parts c l) = l
  | [] => rfl
  | b :: l => by
    have ih := joinC_parts c l
    unfold parts
    split
    · rename_i h
      rw [joinC_cons c [] (parts_ne c l), ih, h]; rfl
    · split
      · rename_i x r hx
        rw [hx] at ih
        cases r with
        | nil => show b :: x = b :: l; rw [show x = l from ih]
        | cons y r =>
          rw [joinC_cons c x (by simp)] at ih
          rw [joinC_cons c (b :: x) (by simp), List.cons_append, ih]
      · rename_i hx
        exact absurd hx (parts_ne c l)
theorem parts_app {c : UInt8} {l : List UInt8} : ∀ {x : List UInt8}, c ∉ x → parts c (x ++ c :: l) = x :: parts c l
  | [], _ => by simp [parts]
  | b :: x, h => by
    have hb : ¬ b = c := fun e => h (by rw [e]; exact .head _)
    have ih := parts_app (c := c) (l := l) (x := x) fun e => h (.tail _ e)
    show (if b = c then [] :: parts c (x ++ c :: l) else match parts c (x ++ c :: l) with
      | x :: r => (b :: x) :: r
      | [] => [[b]]) = _
    rw [if_neg hb, ih]
theorem parts_no {c : UInt8} : ∀ {x : List UInt8}, c ∉ x → parts c x = [x]
  | [], _ => rfl
  | b :: x, h => by
    have hb : ¬ b = c := fun e => h (by rw [e]; exact .head _)
    have ih := parts_no (c := c) (x := x) fun e => h (.tail _ e)
    show (if b = c then [] :: parts c x else match parts c x with
      | x :: r => (b :: x) :: r
      | [] => [[b]]) = _
    rw [if_neg hb, ih]
theorem dec_no {c : UInt8} (h : digB c = false) (n : Nat) : c ∉ Lib.decDigits n := fun hc => by
  have := List.all_eq_true.1 (dec_digs n).1 c hc
  rw [h] at this
  cases this
theorem symT_no {c : UInt8} (h : digB c = false) (h1 : c ≠ 116) (h2 : c ≠ 110) (s : Sym) : c ∉ symT s := fun hc => by
  unfold symT at hc
  rcases List.mem_append.1 hc with hc | hc
  · split at hc
    · exact h1 (List.mem_singleton.1 hc)
    · exact h2 (List.mem_singleton.1 hc)
  · exact dec_no h _ hc
theorem symFt (r : List UInt8) : symF (116 :: r) = (numF r).map (fun (n : Nat) => (⟨true, (n : Int)⟩ : Sym)) := by simp [symF]
theorem symFn (r : List UInt8) : symF (110 :: r) = (numF r).map (fun (n : Nat) => (⟨false, (n : Int)⟩ : Sym)) := by simp [symF]
theorem symF_symT {s : Sym} (h0 : 0 ≤ s.n) (h : s.n ≤ 9999) : symF (symT s) = some s := by
  have h1 : numF (Lib.decDigits s.n.toNat) = some s.n.toNat := numF_dec.2 ⟨by omega, rfl⟩
  have h2 : ((s.n.toNat : Nat) : Int) = s.n := by omega
  obtain ⟨t, n⟩ := s
  cases t with
  | true => show symF (116 :: Lib.decDigits n.toNat) = _; rw [symFt, h1]; show some (Sym.mk true _) = _; rw [h2]
  | false => show symF (110 :: Lib.decDigits n.toNat) = _; rw [symFn, h1]; show some (Sym.mk false _) = _; rw [h2]
theorem symF_some {l : List UInt8} {s : Sym} (h : symF l = some s) : l = symT s := by
  cases l with
  | nil => cases h
  | cons b r =>
    by_cases hb : b = 116
    · subst hb
      rw [symFt] at h
      cases hn : numF r with
      | none => rw [hn] at h; cases h
      | some n =>
        rw [hn] at h
        injection h with h
        rw [← h, (numF_dec.1 hn).2]
        rfl
    · by_cases hc : b = 110
      · subst hc
        rw [symFn] at h
        cases hn : numF r with
        | none => rw [hn] at h; cases h
        | some n =>
          rw [hn] at h
          injection h with h
          rw [← h, (numF_dec.1 hn).2]
          rfl
      · have e : symF (b :: r) = none := by simp [symF, hb, hc]
        rw [e] at h
        cases h
theorem leftF_leftT {r : Rule} (h0 : 0 ≤ r.left) (h : r.left ≤ 9999) : leftF (leftT r) = some r.left := by
  unfold leftF leftT
  rw [if_pos (by simp), List.dropLast_concat, symF_symT (s := ⟨false, r.left⟩) h0 h]
  rfl
theorem leftF_some {l : List UInt8} {n : Int} (h : leftF l = some n) : l = symT ⟨false, n⟩ ++ [58] := by
  unfold leftF at h
  split at h
  · rename_i hl
    rcases List.eq_nil_or_concat l with rfl | ⟨r, b, hl2⟩
    · cases hl
    · rw [List.concat_eq_append] at hl2
      subst hl2
      rw [List.getLast?_concat] at hl
      injection hl with hl
      rw [List.dropLast_concat] at h
      split at h
      · rename_i y hy
        cases ht : y.term with
        | true => rw [ht] at h; cases h
        | false =>
          rw [ht] at h
          injection h with h
          rw [symF_some hy, hl]
          obtain ⟨t, m⟩ := y
          rw [show t = false from ht, show m = n from h]
      · cases h
  · cases h
theorem symsF_map : ∀ {l : List Sym}, (∀ s ∈ l, smallY s) → symsF (l.map symT) = some l
  | [], _ => rfl
  | s :: l, h => by
    have h1 := h s (.head _)
    show (match symF (symT s), symsF (l.map symT) with | some y, some ys => some (y :: ys) | _, _ => none) = _
    rw [symF_symT h1.1 (by have := h1.2; omega), symsF_map fun s hs => h s (.tail _ hs)]
theorem symsF_some : ∀ {L : List (List UInt8)} {l : List Sym}, symsF L = some l → L = l.map symT
  | [], l, h => by injection h with h; rw [← h]; rfl
  | x :: L, l, h => by
    unfold symsF at h
    split at h
    · rename_i y ys h1 h2
      injection h with h
      rw [← h, List.map_cons, ← symF_some h1, ← symsF_some h2]
    · cases h
theorem parts_body : ∀ {l : List Sym} {x : List UInt8}, (32 : UInt8) ∉ x → parts 32 (x ++ bodyT l) = x :: l.map symT
  | [], x, h => by
    have := parts_no h
    simpa [bodyT] using this
  | s :: l, x, h => by
    have e : x ++ bodyT (s :: l) = x ++ 32 :: (symT s ++ bodyT l) := by simp [bodyT]
    rw [e, parts_app h, parts_body (symT_no (by decide) (by decide) (by decide) s)]
    rfl
theorem joinC_body : ∀ {l : List Sym} {x : List UInt8}, joinC 32 (x :: l.map symT) = x ++ bodyT l
  | [], x => by simp [bodyT, joinC]
  | s :: l, x => by
    rw [List.map_cons, joinC_cons 32 x (by simp), joinC_body]
    simp [bodyT]
def ruleL (r : Rule) : List UInt8 := leftT r ++ bodyT r.right
def headL (g : Gram) : List UInt8 := tmB ++ Lib.decDigits g.terms.toNat ++ nmB ++ Lib.decDigits g.names.toNat
theorem ruleF_ruleL {r : Rule} (h : smallR r) : ruleF (ruleL r) = some r := by
  have h1 : (32 : UInt8) ∉ leftT r := fun hc => by
    unfold leftT at hc
    rcases List.mem_append.1 hc with hc | hc
    · exact symT_no (by decide) (by decide) (by decide) _ hc
    · exact absurd (List.mem_singleton.1 hc) (by decide)
  unfold ruleF ruleL
  rw [parts_body h1]
  show (match leftF (leftT r), symsF (r.right.map symT) with | some n, some ys => some (Rule.mk n ys) | _, _ => none) = _
  rw [leftF_leftT h.1 (by have := h.2.1; omega), symsF_map h.2.2.2]
theorem ruleF_some {l : List UInt8} {r : Rule} (h : ruleF l = some r) : l = ruleL r := by
  unfold ruleF at h
  split at h
  · cases h
  · rename_i x t hp
    split at h
    · rename_i n ys h1 h2
      injection h with h
      have e := joinC_parts 32 l
      rw [hp, symsF_some h2, joinC_body, leftF_some h1] at e
      rw [← e, ← h]
      rfl
    · cases h
theorem headF_headL {g : Gram} (h0 : 0 ≤ g.terms) (h1 : g.terms ≤ 9999) (h2 : 0 ≤ g.names) (h3 : g.names ≤ 9999) : headF (headL g) = some (g.terms, g.names) := by
  have e1 : headL g = [116, 101, 114, 109, 115] ++ 32 :: (Lib.decDigits g.terms.toNat ++ 32 :: ([110, 97, 109, 101, 115] ++ 32 :: Lib.decDigits g.names.toNat)) := by simp [headL, tmB, nmB]
  have e2 : parts 32 (headL g) = [[116, 101, 114, 109, 115], Lib.decDigits g.terms.toNat, [110, 97, 109, 101, 115], Lib.decDigits g.names.toNat] := by
    rw [e1, parts_app (by decide), parts_app (dec_no (by decide) _), parts_app (by decide), parts_no (dec_no (by decide) _)]
  unfold headF
  rw [e2]
  simp only [numF_dec.2 ⟨(by omega : g.terms.toNat ≤ 9999), rfl⟩, numF_dec.2 ⟨(by omega : g.names.toNat ≤ 9999), rfl⟩]
  rw [if_pos ⟨trivial, trivial⟩]
  show some (((g.terms.toNat : Nat) : Int), ((g.names.toNat : Nat) : Int)) = _
  rw [show ((g.terms.toNat : Nat) : Int) = g.terms by omega, show ((g.names.toNat : Nat) : Int) = g.names by omega]
theorem headF_some {l : List UInt8} {m n : Int} (h : headF l = some (m, n)) : l = headL ⟨m, n, []⟩ := by
  unfold headF at h
  split at h
  · rename_i a b c d hp
    split at h
    · rename_i hc
      split at h
      · rename_i x y h1 h2
        injection h with h
        injection h with k1 k2
        have e := joinC_parts 32 l
        rw [hp] at e
        rw [← e, (numF_dec.1 h1).2, (numF_dec.1 h2).2, hc.1, hc.2, ← k1, ← k2]
        simp [headL, joinC, tmB, nmB]
      · cases h
    · cases h
  · cases h
theorem flat_lines : ∀ {L : List (List UInt8)}, (∀ x ∈ L, (10 : UInt8) ∉ x) → parts 10 (L.flatMap (· ++ [10])) = L ++ [[]]
  | [], _ => rfl
  | x :: L, h => by
    have e : (x :: L).flatMap (· ++ [10]) = x ++ 10 :: L.flatMap (· ++ [10]) := by simp
    rw [e, parts_app (h x (.head _)), flat_lines fun y hy => h y (.tail _ hy)]
    rfl
theorem joinC_lines : ∀ {L : List (List UInt8)}, joinC 10 (L ++ [[]]) = L.flatMap (· ++ [10])
  | [] => rfl
  | x :: L => by
    rw [List.cons_append, joinC_cons 10 x (by simp), joinC_lines]
    simp
def linesT (g : Gram) : List (List UInt8) := headL g :: g.rules.map ruleL
theorem textT_lines (g : Gram) : textT g = (linesT g).flatMap (· ++ [10]) := by
  have h1 : ∀ l : List Rule, rulesT l = (l.map ruleL).flatMap (· ++ [10]) := fun l => by
    induction l with
    | nil => rfl
    | cons r l ih =>
      show ruleT r ++ rulesT l = (ruleL r ++ [10]) ++ (l.map ruleL).flatMap (· ++ [10])
      rw [ih]; rfl
  show headT g ++ rulesT g.rules = (headL g ++ [10]) ++ (g.rules.map ruleL).flatMap (· ++ [10])
  rw [h1]; rfl
theorem linesT_no (g : Gram) : ∀ x ∈ linesT g, (10 : UInt8) ∉ x := fun x hx hc => by
  have hd : ∀ n, (10 : UInt8) ∉ Lib.decDigits n := dec_no (by decide)
  have hs : ∀ s, (10 : UInt8) ∉ symT s := symT_no (by decide) (by decide) (by decide)
  rcases List.mem_cons.1 hx with rfl | hx
  · unfold headL at hc
    rcases List.mem_append.1 hc with hc | hc
    · rcases List.mem_append.1 hc with hc | hc
      · rcases List.mem_append.1 hc with hc | hc
        · exact absurd hc (by decide)
        · exact hd _ hc
      · exact absurd hc (by decide)
    · exact hd _ hc
  · obtain ⟨r, _, rfl⟩ := List.mem_map.1 hx
    unfold ruleL leftT bodyT at hc
    rcases List.mem_append.1 hc with hc | hc
    · rcases List.mem_append.1 hc with hc | hc
      · exact hs _ hc
      · exact absurd (List.mem_singleton.1 hc) (by decide)
    · obtain ⟨s, _, hc⟩ := List.mem_flatMap.1 hc
      rcases List.mem_append.1 hc with hc | hc
      · exact absurd (List.mem_singleton.1 hc) (by decide)
      · exact hs _ hc
/-- A grammar's text is read as the grammar. -/
theorem parse_text {g : Gram} (hm : mayB g = true) : ParseR (textT g) g 0 0 := by
  have hM := mayB_true.1 hm
  have hp : parts 10 (textT g) = linesT g ++ [[]] := by rw [textT_lines, flat_lines (linesT_no g)]
  have hl : (linesT g).length = g.rules.length + 1 := by simp [linesT]
  have key : ∀ k, k ≤ g.rules.length → linesF (linesT g ++ [[]]) (k + 1) = some ⟨g.terms, g.names, g.rules.take k⟩ := fun k => by
    induction k with
    | zero =>
      intro _
      have h1 : linesF (linesT g ++ [[]]) 0 = some ⟨0, 0, []⟩ := rfl
      rw [linesF_next h1 (l := headL g) rfl]
      unfold lineF
      rw [if_pos rfl, headF_headL (by omega) (by omega) (by omega) (by omega)]
      rfl
    | succ k ih =>
      intro hk
      obtain ⟨r, hr⟩ := get_of_lt (show k < g.rules.length by omega)
      have hx : (linesT g ++ [[]])[k + 1]? = some (ruleL r) := by
        rw [List.getElem?_append_left (by omega)]
        show (g.rules.map ruleL)[k]? = _
        rw [List.getElem?_map, hr]; rfl
      rw [linesF_next (ih (by omega)) hx]
      unfold lineF
      rw [if_neg (by omega), ruleF_ruleL (may_smallR hm r (List.mem_of_getElem? hr))]
      show some (Gram.mk _ _ (g.rules.take k ++ [r])) = _
      rw [take_nx hr]
  have h1 := key g.rules.length (Nat.le_refl _)
  rw [List.take_of_length_le (Nat.le_refl _)] at h1
  refine .inr ⟨g, ?_, .inl ⟨⟨?_, ?_, hm⟩, rfl, rfl, rfl⟩⟩
  · rw [hp, List.length_append, hl]; exact h1
  · rw [hp, List.length_append, List.length_singleton, Nat.add_sub_cancel, List.getElem?_append_right (Nat.le_refl _), Nat.sub_self]; rfl
  · rw [hp, List.length_append, hl]; simp
theorem lines_text {L : List (List UInt8)} : ∀ {k : Nat} {h : Gram}, linesF L (k + 1) = some h → textT h = (L.take (k + 1)).flatMap (· ++ [10])
  | 0, h, e => by
    cases hl : L[0]? with
    | none =>
      have e2 : linesF L (0 + 1) = (match linesF L 0, L[0]? with | some g, some l => lineF 0 l g | _, _ => none) := rfl
      rw [e2, hl] at e
      cases e
    | some l =>
      rw [linesF_next (h := ⟨0, 0, []⟩) rfl hl] at e
      unfold lineF at e
      rw [if_pos rfl] at e
      cases hh : headF l with
      | none => rw [hh] at e; cases e
      | some x =>
        rw [hh] at e
        injection e with e
        obtain ⟨m, n⟩ := x
        have h1 := headF_some hh
        rw [← e, take_nx hl, h1]
        simp [textT, headT, headL, rulesT]
  | k + 1, h, e => by
    cases hg : linesF L (k + 1) with
    | none =>
      have e2 : linesF L (k + 1 + 1) = (match linesF L (k + 1), L[k + 1]? with | some g, some l => lineF (k + 1) l g | _, _ => none) := rfl
      rw [e2, hg] at e
      cases e
    | some g =>
      cases hl : L[k + 1]? with
      | none =>
        have e2 : linesF L (k + 1 + 1) = (match linesF L (k + 1), L[k + 1]? with | some g, some l => lineF (k + 1) l g | _, _ => none) := rfl
        rw [e2, hg, hl] at e
        cases e
      | some l =>
        rw [linesF_next hg hl] at e
        unfold lineF at e
        rw [if_neg (by omega)] at e
        cases hr : ruleF l with
        | none => rw [hr] at e; cases e
        | some r =>
          rw [hr] at e
          injection e with e
          have ih := lines_text hg
          have h1 := ruleF_some hr
          rw [take_nx hl, List.flatMap_append, ← ih, ← e, h1]
          simp [textT, rulesT, headT, ruleL, ruleT]
/-- What is read is a text of it. -/
theorem text_parse {s : List UInt8} {g : Gram} {a : Int} (h : ParseR s g 0 a) : textT g = s ∧ mayB g = true := by
  rcases h with ⟨_, _, _, _, _, _, _, _, h, _⟩ | ⟨h, h1, ⟨⟨h2, h3, h4⟩, rfl, _⟩ | ⟨_, _, h5, _⟩⟩
  · cases h
  · refine ⟨?_, h4⟩
    obtain ⟨k, hk⟩ : ∃ k, (parts 10 s).length - 1 = k + 1 := ⟨(parts 10 s).length - 2, by omega⟩
    rw [hk] at h1 h2
    rw [lines_text h1, ← joinC_lines]
    have e : (parts 10 s).take (k + 1) ++ [[]] = parts 10 s := by
      have h6 := take_nx h2
      rw [← h6]
      exact List.take_of_length_le (by omega)
    rw [e, joinC_parts]
  · cases h5
end Go.Sy
