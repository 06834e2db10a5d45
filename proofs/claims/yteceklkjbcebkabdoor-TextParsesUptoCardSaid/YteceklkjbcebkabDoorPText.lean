/- Numbers and grammars as text, in plain terms. No condition. -/
import Derived.Test.YteceklkjbcebkabDoorPlain
import Derived.Lib.SplitLaws
import Derived.Lib.ItoaNum
import Derived.Lib.AtoiAll
import Derived.Lib.AtoiTie
namespace Go.Sy
open Go

/-- The parts between the bytes c. -/
def parts (c : UInt8) : List UInt8 → List (List UInt8)
  | [] => [[]]
  | b :: l => if b = c then [] :: parts c l else match parts c l with
    | x :: r => (b :: x) :: r
    | [] => [[b]]
theorem parts_ne (c : UInt8) : ∀ l, parts c l ≠ []
  | [] => by simp [parts]
  | b :: l => by
    unfold parts
    split
    · simp
    · split <;> simp
theorem splitK_parts (c : UInt8) : ∀ s : List UInt8, Lib.splitK [c] 0 (Lib.count s [c]) s = parts c s
  | [] => by rw [Lib.count_one]; rfl
  | b :: l => by
    have ih := splitK_parts c l
    by_cases h : b = c
    · subst h
      rw [Lib.count_cons_eq, Nat.add_comm]
      have hi : Lib.index (b :: l) [b] = 0 := by simp [Lib.index]
      unfold Lib.splitK parts
      rw [hi, if_neg (by decide), if_pos rfl]
      simp [ih]
    · rw [Lib.count_cons_ne b c l h]
      have hp : ([c] : List UInt8).isPrefixOf (b :: l) = false := by simp [List.isPrefixOf]; exact fun e => absurd e.symm h
      have hi : Lib.index (b :: l) [c] = if Lib.index l [c] == -1 then -1 else Lib.index l [c] + 1 := by
        rw [Lib.index, hp]; rfl
      unfold parts
      rw [if_neg h, ← ih]
      cases hk : Lib.count l [c] with
      | zero => simp [Lib.splitK]
      | succ k =>
        unfold Lib.splitK
        rw [hi]
        by_cases e : Lib.index l [c] = -1
        · simp [e]
        · have h1 := Lib.index_ge l [c]
          have e1 : ¬ (Lib.index l [c] == -1) = true := by simpa using e
          rw [if_neg e1, if_neg e1, if_neg (by simp; omega)]
          have e2 : (Lib.index l [c] + 1).toNat = (Lib.index l [c]).toNat + 1 := by omega
          simp [e2, Nat.add_right_comm]

def digB (b : UInt8) : Bool := decide (48 ≤ b.toNat) && decide (b.toNat ≤ 57)
def numV (l : List UInt8) : Nat := l.foldl (fun n b => 10 * n + (b.toNat - 48)) 0
/-- A number of one to four digits, none ahead that could be left out. -/
def numF (l : List UInt8) : Option Nat := if 1 ≤ l.length ∧ l.length ≤ 4 ∧ l.all digB = true ∧ ¬ (l.head? = some 48 ∧ 1 < l.length) then some (numV l) else none
theorem numV_snoc (l : List UInt8) (b : UInt8) : numV (l ++ [b]) = 10 * numV l + (b.toNat - 48) := by simp [numV]
theorem dig_of {d : Nat} (h : d < 10) : digB (UInt8.ofNat (48 + d)) = true ∧ (UInt8.ofNat (48 + d)).toNat - 48 = d := by
  have e : (UInt8.ofNat (48 + d)).toNat = 48 + d := by simp; omega
  unfold digB
  rw [e]
  exact ⟨by simp; omega, by omega⟩
theorem dig_back {b : UInt8} (h : digB b = true) : UInt8.ofNat (48 + (b.toNat - 48)) = b := by
  unfold digB at h
  simp only [Bool.and_eq_true, decide_eq_true_eq] at h
  rw [show 48 + (b.toNat - 48) = b.toNat by omega]
  simp
theorem dec_big {n : Nat} (h : ¬ n < 10) : Lib.decDigits n = Lib.decDigits (n / 10) ++ [UInt8.ofNat (48 + n % 10)] := by rw [Lib.decDigits, dif_neg h]
theorem dec_digs (n : Nat) : (Lib.decDigits n).all digB = true ∧ numV (Lib.decDigits n) = n ∧ Lib.decDigits n ≠ [] ∧ (0 < n → (Lib.decDigits n).head? ≠ some 48) := by
  induction n using Nat.strongRecOn with
  | _ n ih =>
    by_cases h : n < 10
    · rw [Lib.decDigits_one h]
      have := dig_of h
      refine ⟨by rw [List.all_cons, this.1]; rfl, by show 10 * 0 + _ = n; rw [this.2]; omega, by simp, fun h0 e => ?_⟩
      injection e with e
      have e2 := this.2
      rw [e] at e2
      simp at e2
      omega
    · obtain ⟨h1, h2, h3, h4⟩ := ih (n / 10) (by omega)
      have := dig_of (d := n % 10) (by omega)
      rw [dec_big h]
      refine ⟨by rw [List.all_append, h1, List.all_cons, this.1]; rfl, by rw [numV_snoc, h2, this.2]; omega, by simp, fun _ => ?_⟩
      cases hd : Lib.decDigits (n / 10) with
      | nil => exact absurd hd h3
      | cons x l =>
        have := h4 (by omega)
        rw [hd] at this
        simpa using this
theorem dec_le : ∀ (k n : Nat), n < 10 ^ (k + 1) → (Lib.decDigits n).length ≤ k + 1
  | 0, n, h => by rw [Lib.decDigits_one (by simpa using h)]; simp
  | k + 1, n, h => by
    by_cases h1 : n < 10
    · rw [Lib.decDigits_one h1]; simp
    · rw [dec_big h1, List.length_append]
      have := dec_le k (n / 10) (by rw [Nat.pow_succ] at h; omega)
      simp only [List.length_cons, List.length_nil]; omega
theorem numV_lt : ∀ (k : Nat) (l : List UInt8), l.length = k → l.all digB = true → numV l < 10 ^ k
  | 0, l, h, _ => by rw [List.eq_nil_of_length_eq_zero h]; simp [numV]
  | k + 1, l, h, hd => by
    obtain ⟨l', b, rfl⟩ : ∃ l' b, l = l' ++ [b] := ⟨l.dropLast, l.getLast (by intro e; rw [e] at h; simp at h), (List.dropLast_concat_getLast _).symm⟩
    rw [List.all_append] at hd
    simp only [List.all_cons, List.all_nil, Bool.and_true, Bool.and_eq_true] at hd
    have ih := numV_lt k l' (by simpa using h) hd.1
    have hb := hd.2
    unfold digB at hb
    simp only [Bool.and_eq_true, decide_eq_true_eq] at hb
    rw [numV_snoc, Nat.pow_succ]
    omega
theorem dec_of : ∀ (k : Nat) (l : List UInt8), l.length = k → l ≠ [] → l.all digB = true → ¬ (l.head? = some 48 ∧ 1 < l.length) → Lib.decDigits (numV l) = l
  | 0, l, h, hn, _, _ => absurd (List.eq_nil_of_length_eq_zero h) hn
  | k + 1, l, h, hn, hd, hz => by
    obtain ⟨l', b, rfl⟩ : ∃ l' b, l = l' ++ [b] := ⟨l.dropLast, l.getLast hn, (List.dropLast_concat_getLast _).symm⟩
    rw [List.all_append] at hd
    simp only [List.all_cons, List.all_nil, Bool.and_true, Bool.and_eq_true] at hd
    have hb := hd.2
    unfold digB at hb
    simp only [Bool.and_eq_true, decide_eq_true_eq] at hb
    rw [numV_snoc]
    by_cases h0 : l' = []
    · subst h0
      rw [show numV [] = 0 from rfl, Nat.mul_zero, Nat.zero_add, Lib.decDigits_one (by omega), dig_back hd.2]; rfl
    · have hz' : l'.head? ≠ some 48 := fun e => hz ⟨by rw [List.head?_append, e]; rfl, by rw [List.length_append]; have := List.length_pos_iff.2 h0; rw [List.length_singleton]; omega⟩
      have ih := dec_of k l' (by simpa using h) h0 hd.1 (fun e => hz' e.1)
      have hp : 0 < numV l' := by
        rcases Nat.eq_zero_or_pos (numV l') with e | e
        · rw [e, Lib.decDigits_one (by omega)] at ih
          rw [← ih] at hz'
          exact absurd rfl hz'
        · exact e
      rw [dec_big (by omega), show (10 * numV l' + (b.toNat - 48)) / 10 = numV l' by omega, show (10 * numV l' + (b.toNat - 48)) % 10 = b.toNat - 48 by omega, ih, dig_back hd.2]
theorem numF_dec {l : List UInt8} {n : Nat} : numF l = some n ↔ n ≤ 9999 ∧ l = Lib.decDigits n := by
  unfold numF
  constructor
  · intro h
    split at h
    · rename_i hc
      obtain ⟨h1, h2, h3, h4⟩ := hc
      injection h with h
      subst h
      refine ⟨?_, (dec_of _ l rfl (by intro e; rw [e] at h1; simp at h1) h3 h4).symm⟩
      have := numV_lt _ l rfl h3
      have h5 : 10 ^ l.length ≤ 10 ^ 4 := Nat.pow_le_pow_right (by omega) h2
      omega
    · cases h
  · rintro ⟨h1, rfl⟩
    obtain ⟨k1, k2, k3, k4⟩ := dec_digs n
    have k5 := dec_le 3 n (by omega)
    have k6 := List.length_pos_iff.2 k3
    have hz : ¬ ((Lib.decDigits n).head? = some 48 ∧ 1 < (Lib.decDigits n).length) := fun ⟨e1, e2⟩ => by
      rcases Nat.eq_zero_or_pos n with e | e
      · rw [e, Lib.decDigits_one (by omega)] at e2
        simp at e2
      · exact k4 e e1
    rw [if_pos ⟨by omega, k5, k1, hz⟩, k2]
/-- What the library's number is of a number's letters. -/
theorem decFrom_all : ∀ (l : List UInt8) (acc : Nat), l.all digB = true → Lib.decFrom acc l = some (l.foldl (fun n b => 10 * n + (b.toNat - 48)) acc)
  | [], _, _ => rfl
  | b :: l, acc, h => by
    simp only [List.all_cons, Bool.and_eq_true] at h
    have hb := h.1
    unfold digB at hb
    simp only [Bool.and_eq_true, decide_eq_true_eq] at hb
    unfold Lib.decFrom Lib.digitVal
    rw [if_pos hb]
    simp only
    rw [decFrom_all l _ h.2, Nat.mul_comm]
    rfl
theorem atoi_dec {n : Nat} (h : n ≤ 9999) : Lib.atoiAll (Lib.decDigits n) = .ok (n : Int) := by
  obtain ⟨k1, k2, k3, k4⟩ := dec_digs n
  have k5 := dec_le 3 n (by omega)
  rw [Lib.atoiAll_short _ (by omega)]
  have e1 : Lib.decNat (Lib.decDigits n) = some n := by
    unfold Lib.decNat
    rw [if_neg (by simpa using k3), decFrom_all _ _ k1]
    exact congrArg some k2
  have : Lib.atoi (Lib.decDigits n) = some (n : Int) := by
    cases hd : Lib.decDigits n with
    | nil => exact absurd hd k3
    | cons b r =>
      rw [hd] at k1 e1
      simp only [List.all_cons, Bool.and_eq_true] at k1
      have hb := k1.1
      unfold digB at hb
      simp only [Bool.and_eq_true, decide_eq_true_eq] at hb
      have n1 : ¬ (b == 45) = true := fun e => by have := eq_of_beq e; subst this; simp at hb
      have n2 : ¬ (b == 43) = true := fun e => by have := eq_of_beq e; subst this; simp at hb
      show (if (b == 45) = true then _ else if (b == 43) = true then _ else (Lib.decNat (b :: r)).map fun (m : Nat) => (m : Int)) = _
      rw [if_neg n1, if_neg n2, e1]
      rfl
  rw [this]
  rfl
/-- A symbol's letters. -/
def symF : List UInt8 → Option Sym
  | [] => none
  | b :: r => if b = 116 then (numF r).map fun (n : Nat) => (⟨true, (n : Int)⟩ : Sym) else if b = 110 then (numF r).map fun (n : Nat) => (⟨false, (n : Int)⟩ : Sym) else none
def leftF (l : List UInt8) : Option Int := if l.getLast? = some 58 then match symF l.dropLast with
  | some y => if y.term then none else some y.n
  | none => none
  else none
def symsF : List (List UInt8) → Option (List Sym)
  | [] => some []
  | x :: r => match symF x, symsF r with
    | some y, some ys => some (y :: ys)
    | _, _ => none
def ruleF (l : List UInt8) : Option Rule := match parts 32 l with
  | [] => none
  | x :: r => match leftF x, symsF r with
    | some n, some ys => some ⟨n, ys⟩
    | _, _ => none
def headF (l : List UInt8) : Option (Int × Int) := match parts 32 l with
  | [a, b, c, d] => if a = [116, 101, 114, 109, 115] ∧ c = [110, 97, 109, 101, 115] then match numF b, numF d with
    | some m, some n => some ((m : Int), (n : Int))
    | _, _ => none
    else none
  | _ => none
/-- One line more. -/
def lineF (k : Nat) (l : List UInt8) (g : Gram) : Option Gram := if k = 0 then (headF l).map fun x => ⟨x.1, x.2, g.rules⟩ else (ruleF l).map fun r => ⟨g.terms, g.names, g.rules ++ [r]⟩
def linesF (L : List (List UInt8)) : Nat → Option Gram
  | 0 => some ⟨0, 0, []⟩
  | k + 1 => match linesF L k, L[k]? with
    | some g, some l => lineF k l g
    | _, _ => none
/-- How a text is read: the grammar, what is wrong, and where. -/
def ParseR (s : List UInt8) (g : Gram) (c a : Int) : Prop :=
  (∃ (k : Nat) (h : Gram) (l : List UInt8), k < (parts 10 s).length - 1 ∧ linesF (parts 10 s) k = some h ∧ (parts 10 s)[k]? = some l ∧ lineF k l h = none ∧ g = ⟨0, 0, []⟩ ∧ c = 2 ∧ a = k) ∨
  (∃ h, linesF (parts 10 s) ((parts 10 s).length - 1) = some h ∧ ((((parts 10 s)[(parts 10 s).length - 1]? = some [] ∧ (parts 10 s).length - 1 ≠ 0 ∧ mayB h = true) ∧ g = h ∧ c = 0 ∧ a = 0) ∨
    (¬ ((parts 10 s)[(parts 10 s).length - 1]? = some [] ∧ (parts 10 s).length - 1 ≠ 0 ∧ mayB h = true) ∧ g = ⟨0, 0, []⟩ ∧ c = 2 ∧ a = ((parts 10 s).length - 1 : Nat))))
theorem linesF_pre {L : List (List UInt8)} : ∀ {k j : Nat} {h : Gram}, linesF L k = some h → j ≤ k → ∃ h', linesF L j = some h'
  | 0, j, h, e, hj => by rw [Nat.le_zero.1 hj]; exact ⟨h, e⟩
  | k + 1, j, h, e, hj => by
    rcases Nat.lt_or_ge k j with h1 | h1
    · rw [show j = k + 1 by omega]; exact ⟨h, e⟩
    · unfold linesF at e
      split at e
      · rename_i g l hg hl
        exact linesF_pre hg h1
      · cases e
theorem linesF_next {L : List (List UInt8)} {k : Nat} {h : Gram} {l : List UInt8} (e : linesF L k = some h) (hl : L[k]? = some l) : linesF L (k + 1) = lineF k l h := by
  show (match linesF L k, L[k]? with
    | some g, some l => lineF k l g
    | _, _ => none) = _
  rw [e, hl]
/-- There is one way to read a text. -/
theorem ParseR.one {s : List UInt8} {g g' : Gram} {c c' a a' : Int} (h : ParseR s g c a) (h' : ParseR s g' c' a') : g = g' ∧ c = c' ∧ a = a' := by
  rcases h with ⟨k, x, l, k1, k2, k3, k4, rfl, rfl, rfl⟩ | ⟨x, k1, k2⟩ <;> rcases h' with ⟨j, y, m, j1, j2, j3, j4, rfl, rfl, rfl⟩ | ⟨y, j1, j2⟩
  · have : k = j := by
      rcases Nat.lt_trichotomy k j with e | e | e
      · obtain ⟨z, hz⟩ := linesF_pre j2 (show k + 1 ≤ j by omega)
        rw [linesF_next k2 k3, k4] at hz
        cases hz
      · exact e
      · obtain ⟨z, hz⟩ := linesF_pre k2 (show j + 1 ≤ k by omega)
        rw [linesF_next j2 j3, j4] at hz
        cases hz
    exact ⟨rfl, rfl, by rw [this]⟩
  · obtain ⟨z, hz⟩ := linesF_pre j1 (show k + 1 ≤ (parts 10 s).length - 1 by omega)
    rw [linesF_next k2 k3, k4] at hz
    cases hz
  · obtain ⟨z, hz⟩ := linesF_pre k1 (show j + 1 ≤ (parts 10 s).length - 1 by omega)
    rw [linesF_next j2 j3, j4] at hz
    cases hz
  · rw [k1] at j1
    injection j1 with j1
    subst j1
    rcases k2 with ⟨k2, rfl, rfl, rfl⟩ | ⟨k2, rfl, rfl, rfl⟩ <;> rcases j2 with ⟨j2, rfl, rfl, rfl⟩ | ⟨j2, rfl, rfl, rfl⟩
    · exact ⟨rfl, rfl, rfl⟩
    · exact absurd k2 j2
    · exact absurd j2 k2
    · exact ⟨rfl, rfl, rfl⟩
end Go.Sy
