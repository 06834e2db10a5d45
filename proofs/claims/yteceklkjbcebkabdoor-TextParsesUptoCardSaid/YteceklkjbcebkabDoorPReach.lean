/- Of use, in plain terms: what makes, what comes: least closed sets. No condition. -/
import Derived.Test.YteceklkjbcebkabDoorPShort
namespace Go.Sy
open Go

def atB (is : List Bool) (n : Int) : Bool := is.getD n.toNat false
def allB (is : List Bool) (l : List Sym) : Bool := l.all (fun s => s.term || atB is s.n)
def ClosedM (g : Gram) (is : List Bool) : Prop := ∀ r ∈ g.rules, allB is r.right = true → atB is r.left = true
def LeastM (g : Gram) (is : List Bool) : Prop := ∀ p : Int → Prop, (∀ r ∈ g.rules, (∀ s ∈ r.right, s.term = false → p s.n) → p r.left) → ∀ n : Nat, is[n]? = some true → p n
def ClosedC (g : Gram) (m is : List Bool) : Prop := ∀ r ∈ g.rules, atB is r.left = true → allB m r.right = true → ∀ s ∈ r.right, s.term = false → atB is s.n = true
def LeastC (g : Gram) (m is : List Bool) : Prop := ∀ p : Int → Prop, (atB m 0 = true → p 0) → (∀ r ∈ g.rules, p r.left → allB m r.right = true → ∀ s ∈ r.right, s.term = false → p s.n) → ∀ n : Nat, is[n]? = some true → p n

theorem atB_get {is : List Bool} {n : Int} (h0 : 0 ≤ n) (h1 : n < is.length) : is[n.toNat]? = some (atB is n) := by
  unfold atB
  have : n.toNat < is.length := by omega
  rw [List.getD_eq_getElem?_getD, List.getElem?_eq_getElem this]; rfl
theorem atB_nat {is : List Bool} {m : Nat} {v : Bool} (h : is[m]? = some v) : atB is (m : Int) = v := by
  unfold atB; rw [List.getD_eq_getElem?_getD, Int.toNat_natCast, h]; rfl
theorem atB_true {is : List Bool} {n : Int} (h : atB is n = true) : is[n.toNat]? = some true := by
  unfold atB at h
  rw [List.getD_eq_getElem?_getD] at h
  cases hx : is[n.toNat]? with
  | none => rw [hx] at h; cases h
  | some b => rw [hx] at h; simp at h; rw [h]
theorem atB_set {is : List Bool} {n : Int} (k : Nat) (h : atB is n = true) : atB (is.set k true) n = true := by
  have h1 := atB_true h
  unfold atB
  rw [List.getD_eq_getElem?_getD, List.getElem?_set]
  split
  · split
    · rfl
    · rename_i e _ ; rw [e] at *; rename_i h2; exact absurd (List.getElem?_eq_some_iff.1 h1).1 h2
  · rw [h1]; rfl
theorem allB_cons {is : List Bool} {s : Sym} {l : List Sym} : allB is (s :: l) = ((s.term || atB is s.n) && allB is l) := rfl
theorem allB_iff {is : List Bool} {l : List Sym} : allB is l = true ↔ ∀ s ∈ l, s.term = false → atB is s.n = true := by
  unfold allB
  rw [List.all_eq_true]
  constructor
  · intro h s hs ht; have := h s hs; rw [ht] at this; simpa using this
  · intro h s hs
    cases ht : s.term with
    | true => rfl
    | false => simpa using h s hs ht

/-- How many are not so. -/
def fls : List Bool → Nat
  | [] => 0
  | b :: l => (if b = true then 0 else 1) + fls l
theorem fls_set : ∀ {is : List Bool} {m : Nat}, is[m]? = some false → fls (is.set m true) < fls is
  | [], m, h => by cases h
  | b :: l, 0, h => by
    simp only [List.getElem?_cons_zero, Option.some.injEq] at h
    subst h
    simp [fls]
  | b :: l, m + 1, h => by
    have := fls_set (is := l) (m := m) (by simpa using h)
    simp only [List.set_cons_succ, fls]
    omega

theorem leastM_new (g : Gram) (m : Nat) : LeastM g (List.replicate m false) := by
  intro p _ n hn
  have := (List.mem_replicate.1 (List.mem_of_getElem? hn)).2
  cases this
theorem leastM_set {g : Gram} {is : List Bool} (h : LeastM g is) {r : Rule} (hr : r ∈ g.rules) (h0 : 0 ≤ r.left) (hb : ∀ s ∈ r.right, s.term = false → 0 ≤ s.n) (ha : allB is r.right = true) : LeastM g (is.set r.left.toNat true) := by
  intro p hp n hn
  by_cases e : r.left.toNat = n
  · have : (n : Int) = r.left := by omega
    rw [this]
    refine hp r hr fun s hs ht => ?_
    have h2 := h p hp s.n.toNat (atB_true (allB_iff.1 ha s hs ht))
    rwa [Int.toNat_of_nonneg (hb s hs ht)] at h2
  · rw [List.getElem?_set_ne e] at hn
    exact h p hp n hn
theorem leastC_set {g : Gram} {m is : List Bool} (h : LeastC g m is) {r : Rule} {s : Sym} (hr : r ∈ g.rules) (hs : s ∈ r.right) (ht : s.term = false) (h0 : 0 ≤ r.left) (h1 : 0 ≤ s.n) (hl : atB is r.left = true) (ha : allB m r.right = true) : LeastC g m (is.set s.n.toNat true) := by
  intro p hp0 hp n hn
  by_cases e : s.n.toNat = n
  · have : (n : Int) = s.n := by omega
    rw [this]
    refine hp r hr ?_ ha s hs ht
    have h2 := h p hp0 hp r.left.toNat (atB_true hl)
    rwa [Int.toNat_of_nonneg h0] at h2
  · rw [List.getElem?_set_ne e] at hn
    exact h p hp0 hp n hn
theorem leastC_new (g : Gram) (m : List Bool) (k : Nat) : LeastC g m ((List.replicate k false).set 0 (atB m 0)) := by
  intro p hp0 _ n hn
  by_cases e : 0 = n
  · subst e
    rw [List.getElem?_set] at hn
    simp only [if_true, List.length_replicate] at hn
    split at hn
    · simp only [Option.some.injEq] at hn; exact hp0 hn
    · cases hn
  · rw [List.getElem?_set_ne e] at hn
    have := (List.mem_replicate.1 (List.mem_of_getElem? hn)).2
    cases this

theorem le_makes {g : Gram} {a b : List Bool} (ha : LeastM g a) (hb : ClosedM g b) {n : Nat} (h : a[n]? = some true) : atB b n = true :=
  ha (fun n => atB b n = true) (fun r hr h => hb r hr (allB_iff.2 h)) n h
/-- Two least closed sets are one. -/
theorem bools_ext {a b : List Bool} {m : Nat} (ha : a.length = m) (hb : b.length = m) (h1 : ∀ n : Nat, a[n]? = some true → atB b n = true) (h2 : ∀ n : Nat, b[n]? = some true → atB a n = true) : a = b := by
  apply List.ext_getElem (by omega)
  intro n hn1 hn2
  have e1 : a[n]? = some a[n] := List.getElem?_eq_getElem hn1
  have e2 : b[n]? = some b[n] := List.getElem?_eq_getElem hn2
  cases hx : a[n] with
  | true => rw [hx] at e1; have := h1 n e1; rw [atB_nat e2] at this; rw [this]
  | false =>
    cases hy : b[n] with
    | false => rfl
    | true => rw [hy] at e2; have := h2 n e2; rw [atB_nat e1, hx] at this; cases this
theorem makes_unique {g : Gram} {a b : List Bool} {m : Nat} (hl : a.length = m) (hl' : b.length = m) (ha : LeastM g a) (ha' : ClosedM g a) (hb : LeastM g b) (hb' : ClosedM g b) : a = b :=
  bools_ext hl hl' (fun _ h => le_makes ha hb' h) (fun _ h => le_makes hb ha' h)
theorem comes_unique {g : Gram} {k a b : List Bool} {m : Nat} (hl : a.length = m) (hl' : b.length = m) (ha : LeastC g k a) (ha' : ClosedC g k a) (ha0 : atB k 0 = true → atB a 0 = true) (hb : LeastC g k b) (hb' : ClosedC g k b) (hb0 : atB k 0 = true → atB b 0 = true) : a = b :=
  bools_ext hl hl' (fun n h => ha (fun n => atB b n = true) hb0 (fun r hr => hb' r hr) n h) (fun n h => hb (fun n => atB a n = true) ha0 (fun r hr => ha' r hr) n h)

/-- What derives something makes. -/
theorem ylds_all {g : Gram} {is : List Bool} (hc : ClosedM g is) {l : List Sym} {k : Nat} (h : Ylds g l k) : allB is l = true := by
  induction h with
  | nil => rfl
  | term _ ih => rw [allB_cons, ih]; rfl
  | name hr _ _ ih1 ih2 => rw [allB_cons, ih2, hc _ hr ih1]; rfl
end Go.Sy
