/- What symbols yield, as far as is known of names. No condition. -/
import Derived.Test.YteceklkjbcebkabPRecog
import Derived.Test.YteceklkjbcebkabPSets
namespace Go.Sy
open Go

section
variable {kn kn' : Nat → Nat → Int → Bool} {tk : List Int} {g : Gram}
def Stp (kn : Nat → Nat → Int → Bool) (tk : List Int) (s : Sym) (x y : Nat) : Prop := if s.term = true then y = x + 1 ∧ tk[x]? = some s.n else x ≤ y ∧ kn x y s.n = true
def YK (kn : Nat → Nat → Int → Bool) (tk : List Int) : List Sym → Nat → Nat → Prop
  | [], i, j => i = j
  | s :: l, i, j => ∃ x, Stp kn tk s i x ∧ YK kn tk l x j
theorem yk_snoc (s : Sym) : ∀ {l : List Sym} {i j : Nat}, YK kn tk (l ++ [s]) i j ↔ ∃ x, YK kn tk l i x ∧ Stp kn tk s x j
  | [], i, j => by
    constructor
    · rintro ⟨x, h1, h2⟩
      have h2 : x = j := h2
      exact ⟨i, rfl, h2 ▸ h1⟩
    · rintro ⟨x, h1, h2⟩
      have h1 : i = x := h1
      exact ⟨j, h1 ▸ h2, rfl⟩
  | s' :: l, i, j => by
    constructor
    · rintro ⟨x, h1, h2⟩
      obtain ⟨y, h3, h4⟩ := (yk_snoc s).1 h2
      exact ⟨y, ⟨x, h1, h3⟩, h4⟩
    · rintro ⟨y, ⟨x, h1, h3⟩, h4⟩
      exact ⟨x, h1, (yk_snoc s).2 ⟨y, h3, h4⟩⟩
theorem stp_le {s : Sym} {x y : Nat} (h : Stp kn tk s x y) : x ≤ y := by
  unfold Stp at h
  split at h
  · omega
  · exact h.1
theorem yk_le : ∀ {l : List Sym} {i j : Nat}, YK kn tk l i j → i ≤ j
  | [], i, j, h => Nat.le_of_eq h
  | s :: l, i, j, ⟨x, h1, h2⟩ => Nat.le_trans (stp_le h1) (yk_le h2)
def KnS (g : Gram) (tk : List Int) (kn : Nat → Nat → Int → Bool) : Prop := ∀ i j m, kn i j m = true → Yl g tk [⟨false, m⟩] i j
def KnC (g : Gram) (tk : List Int) (kn : Nat → Nat → Int → Bool) (i j : Nat) : Prop := ∀ m, Yl g tk [⟨false, m⟩] i j → kn i j m = true
theorem yk_yl (h : KnS g tk kn) : ∀ {l : List Sym} {i j : Nat}, YK kn tk l i j → Yl g tk l i j
  | [], i, j, e => by
    have e : i = j := e
    subst e
    exact .nil
  | s :: l, i, j, ⟨x, h1, h2⟩ => by
    have h3 := yk_yl h h2
    unfold Stp at h1
    split at h1
    · rename_i ht
      obtain ⟨e, hk⟩ := h1
      subst e
      exact .term ht hk h3
    · rename_i ht
      obtain ⟨q, e1, e2, e3⟩ := yl_name rfl (h _ _ _ h1.2)
      exact .name (by simpa using ht) e1 e2 e3 h3
/-- What is closed, and whose parts are known, is known. -/
theorem kn_close {i j : Nat} (h : ∀ a b, i ≤ a → a ≤ b → b ≤ j → ¬ (a = i ∧ b = j) → KnC g tk kn a b) (hc : ∀ r ∈ g.rules, YK kn tk r.right i j → kn i j r.left = true) : KnC g tk kn i j := by
  have key : ∀ {l : List Sym} {a b : Nat}, Yl g tk l a b → i ≤ a → b ≤ j → YK kn tk l a b := by
    intro l a b hy
    induction hy with
    | nil => intro _ _; rfl
    | @term s l a b ht hk h2 ih =>
      intro h3 h4
      refine ⟨a + 1, ?_, ih (by omega) h4⟩
      unfold Stp
      rw [if_pos ht]
      exact ⟨rfl, hk⟩
    | @name s l a b c q ht hq hl h1 h2 ih1 ih2 =>
      intro h3 h4
      have e1 := yl_le h1
      have e2 := yl_le h2
      refine ⟨c, ?_, ih2 (by omega) h4⟩
      unfold Stp
      rw [if_neg (by rw [ht]; decide)]
      refine ⟨e1, ?_⟩
      by_cases e : a = i ∧ c = j
      · have := hc q hq (by rw [← e.1, ← e.2]; exact ih1 h3 (by omega))
        rw [e.1, e.2, ← hl]; exact this
      · exact h a c h3 e1 (by omega) e _ (yl_one rfl hq hl h1)
  intro m hm
  obtain ⟨q, h1, h2, h3⟩ := yl_name rfl hm
  have := hc q h1 (key h3 (Nat.le_refl _) (Nat.le_refl _))
  rw [h2] at this
  exact this

/-- What is known, in a flat table. -/
def knF (N : Nat) (tab : List (List Bool)) (i j : Nat) (m : Int) : Bool := decide (i < N) && decide (j < N) && decide (0 ≤ m) && at2 tab ((i * N + j : Nat) : Int) m
theorem knF_in {N : Nat} {tab : List (List Bool)} {i j : Nat} {m : Int} (h1 : i < N) (h2 : j < N) (h3 : 0 ≤ m) : knF N tab i j m = at2 tab ((i * N + j : Nat) : Int) m := by simp [knF, h1, h2, h3]
theorem flat_lt {N i j : Nat} (h1 : i < N) (h2 : j < N) : i * N + j < N * N := by
  have : (i + 1) * N ≤ N * N := Nat.mul_le_mul_right N h1
  rw [Nat.succ_mul] at this
  omega
theorem flat_inj {N i j a b : Nat} (h2 : j < N) (h4 : b < N) (h : i * N + j = a * N + b) : i = a ∧ j = b := by
  have e1 : (i * N + j) / N = i := by rw [Nat.mul_comm, Nat.mul_add_div (by omega), Nat.div_eq_of_lt h2, Nat.add_zero]
  have e2 : (a * N + b) / N = a := by rw [Nat.mul_comm, Nat.mul_add_div (by omega), Nat.div_eq_of_lt h4, Nat.add_zero]
  have : i = a := by rw [← e1, ← e2, h]
  subst this
  exact ⟨rfl, by omega⟩
theorem knF_put {N T : Nat} {tab : List (List Bool)} (hD : Dim tab (N * N) T) {a b : Nat} {m0 : Int} (ha : a < N) (hb : b < N) (h0 : 0 ≤ m0) (h1 : m0 < (T : Int)) (i j : Nat) (m : Int) : knF N (put2 tab ((a * N + b : Nat) : Int) m0) i j m = true ↔ knF N tab i j m = true ∨ (i = a ∧ j = b ∧ m = m0) := by
  have hfl := flat_lt ha hb
  by_cases h : i < N ∧ j < N ∧ 0 ≤ m
  · obtain ⟨e1, e2, e3⟩ := h
    rw [knF_in e1 e2 e3, knF_in e1 e2 e3, at2_put (by omega) (by rw [hD.1]; omega) h0 (by rw [hD.row (by omega) (by omega)]; exact h1) (by omega) e3, Bool.or_eq_true]
    constructor
    · rintro (h | h)
      · exact .inl h
      · simp only [Bool.and_eq_true, decide_eq_true_eq] at h
        obtain ⟨f1, f2⟩ := flat_inj (N := N) (i := i) (a := a) e2 hb (by omega)
        exact .inr ⟨f1, f2, h.2⟩
    · rintro (h | ⟨rfl, rfl, rfl⟩)
      · exact .inl h
      · exact .inr (by simp)
  · constructor
    · intro h2
      unfold knF at h2
      simp only [Bool.and_eq_true, decide_eq_true_eq] at h2
      exact absurd ⟨h2.1.1.1, h2.1.1.2, h2.1.2⟩ h
    · rintro (h2 | ⟨rfl, rfl, rfl⟩)
      · unfold knF at h2
        simp only [Bool.and_eq_true, decide_eq_true_eq] at h2
        exact absurd ⟨h2.1.1.1, h2.1.1.2, h2.1.2⟩ h
      · exact absurd ⟨ha, hb, h0⟩ h
def KnAt (ρ : Addr → Value → Prop) (v : Value) (N k : Nat) (kn : Nat → Nat → Int → Bool) : Prop := ∃ a : Addr, v = .slice (some a) N N ∧ ∀ i, i < N → ∃ a2 : Addr, ρ (a.add (i * 1)) (.slice (some a2) N N) ∧ ∀ j, j < N → ∃ a3 : Addr, ρ (a2.add (j * 1)) (.slice (some a3) k k) ∧ ∀ m : Int, 0 ≤ m → m < (k : Int) → ρ (a3.add (m.toNat * 1)) (.bool (kn i j m))
theorem KnAt.mono {ρ ρ' : Addr → Value → Prop} {v : Value} {N k : Nat} (h : KnAt ρ v N k kn) (f : ∀ a v, ρ a v → ρ' a v) : KnAt ρ' v N k kn := by
  obtain ⟨a, e, h1⟩ := h
  refine ⟨a, e, fun i hi => ?_⟩
  obtain ⟨a2, h2, h3⟩ := h1 i hi
  refine ⟨a2, f _ _ h2, fun j hj => ?_⟩
  obtain ⟨a3, h4, h5⟩ := h3 j hj
  exact ⟨a3, f _ _ h4, fun m hm hm2 => f _ _ (h5 m hm hm2)⟩
end
end Go.Sy
