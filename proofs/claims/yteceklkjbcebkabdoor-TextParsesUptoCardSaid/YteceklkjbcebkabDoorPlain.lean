/- What grammars, derivations and their sets are, in plain terms. No condition. -/
import Derived.Test.YteceklkjbcebkabDoorSyr
namespace Go.Sy
open Go

def inB (n below : Int) : Bool := decide (0 ≤ n) && decide (n < below)
def symB (g : Gram) (s : Sym) : Bool := if s.term then inB s.n g.terms else inB s.n g.names
def ruleB (g : Gram) (r : Rule) : Bool := inB r.left g.names && decide (r.right.length ≤ 8) && r.right.all (symB g)
/-- May a grammar be? -/
def mayB (g : Gram) : Bool := inB g.terms 9 && decide (1 ≤ g.names) && decide (g.names ≤ 12) && decide (g.rules.length ≤ 40) && g.rules.all (ruleB g)

theorem all_take_succ {α : Type} (p : α → Bool) {l : List α} {k : Nat} {x : α} (hx : l[k]? = some x) : (l.take (k + 1)).all p = ((l.take k).all p && p x) := by
  rw [List.take_add_one, hx]; simp
theorem all_false {α : Type} (p : α → Bool) {l : List α} {k : Nat} {x : α} (hx : l[k]? = some x) (hp : p x = false) : l.all p = false := by
  rw [List.all_eq_false]
  exact ⟨x, List.mem_of_getElem? hx, by simp [hp]⟩
theorem get_of_lt {α : Type} {l : List α} {k : Nat} (h : k < l.length) : ∃ x, l[k]? = some x := ⟨l[k], List.getElem?_eq_getElem h⟩
theorem take_all {α : Type} {l : List α} {k : Nat} (h : ¬ k < l.length) : l.take k = l := List.take_of_length_le (by omega)

theorem inB_true {n b : Int} : inB n b = true ↔ 0 ≤ n ∧ n < b := by simp [inB]
theorem inB_false {n b : Int} : inB n b = false ↔ n < 0 ∨ b ≤ n := by
  rw [← Bool.not_eq_true, inB_true]; omega
theorem symB_true {g : Gram} {s : Sym} : symB g s = true ↔ 0 ≤ s.n ∧ (s.term = true → s.n < g.terms) ∧ (s.term = false → s.n < g.names) := by
  unfold symB
  cases s.term <;> simp [inB_true]
theorem ruleB_true {g : Gram} {r : Rule} : ruleB g r = true ↔ 0 ≤ r.left ∧ r.left < g.names ∧ r.right.length ≤ 8 ∧ r.right.all (symB g) = true := by
  simp only [ruleB, Bool.and_eq_true, inB_true, decide_eq_true_eq]
  constructor
  · rintro ⟨⟨⟨h1, h2⟩, h3⟩, h4⟩; exact ⟨h1, h2, h3, h4⟩
  · rintro ⟨h1, h2, h3, h4⟩; exact ⟨⟨⟨h1, h2⟩, h3⟩, h4⟩
theorem mayB_true {g : Gram} : mayB g = true ↔ 0 ≤ g.terms ∧ g.terms < 9 ∧ 1 ≤ g.names ∧ g.names ≤ 12 ∧ g.rules.length ≤ 40 ∧ g.rules.all (ruleB g) = true := by
  simp only [mayB, Bool.and_eq_true, inB_true, decide_eq_true_eq]
  constructor
  · rintro ⟨⟨⟨⟨⟨h1, h2⟩, h3⟩, h4⟩, h5⟩, h6⟩; exact ⟨h1, h2, h3, h4, h5, h6⟩
  · rintro ⟨h1, h2, h3, h4, h5, h6⟩; exact ⟨⟨⟨⟨⟨h1, h2⟩, h3⟩, h4⟩, h5⟩, h6⟩
theorem all_get {α : Type} {p : α → Bool} {l : List α} (h : l.all p = true) {k : Nat} {x : α} (hx : l[k]? = some x) : p x = true :=
  List.all_eq_true.1 h x (List.mem_of_getElem? hx)
theorem rt {B : Bool} (h : B = true) : Ending.returned (.bool true) = .returned (.bool B) := by rw [h]
theorem rf {B : Bool} (h : ¬ B = true) : Ending.returned (.bool false) = .returned (.bool B) := by rw [Bool.not_eq_true] at h; rw [h]
/-- In a grammar that may be: what a rule and its symbols are. -/
theorem may_rule {g : Gram} (h : mayB g = true) {k : Nat} {r : Rule} (hx : g.rules[k]? = some r) : 0 ≤ r.left ∧ r.left < g.names ∧ r.right.length ≤ 8 := by
  have := ruleB_true.1 (all_get (mayB_true.1 h).2.2.2.2.2 hx)
  exact ⟨this.1, this.2.1, this.2.2.1⟩
theorem may_sym {g : Gram} (h : mayB g = true) {k j : Nat} {r : Rule} {s : Sym} (hx : g.rules[k]? = some r) (hs : r.right[j]? = some s) : 0 ≤ s.n ∧ (s.term = true → s.n < g.terms) ∧ (s.term = false → s.n < g.names) :=
  symB_true.1 (all_get (ruleB_true.1 (all_get (mayB_true.1 h).2.2.2.2.2 hx)).2.2.2 hs)
end Go.Sy
