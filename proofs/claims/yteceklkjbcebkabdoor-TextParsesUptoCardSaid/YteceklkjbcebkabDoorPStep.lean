/- Steps that change a grammar, in plain terms. No condition. -/
import Derived.Test.YteceklkjbcebkabDoorPReach
import Derived.Test.YteceklkjbcebkabDoorPRecog
namespace Go.Sy
open Go

structure SStep where
  op : Int
  a : Int
  b : Int
  c : Int
  deriving DecidableEq
def inR (n lo hi : Int) : Bool := decide (lo ≤ n) && decide (n < hi)
theorem inR_true {n lo hi : Int} : inR n lo hi = true ↔ lo ≤ n ∧ n < hi := by simp [inR]
def nameS (n : Int) : Sym := ⟨false, n⟩
def loopsB (r : Rule) : Bool := match r.right with
  | [] => false
  | s :: _ => decide (s = nameS r.left)
def ofL (rs : List Rule) (n : Int) : List Nat := (List.range rs.length).filter (fun k => decide ((rs[k]?.map (·.left)) = some n))
def ruleAt (g : Gram) (n : Int) : Rule := g.rules.getD n.toNat ⟨0, []⟩
def leftB (g : Gram) (a : Int) : Bool := g.rules.any (fun r => decide (r.left = a) && loopsB r) && g.rules.all (fun r => !(decide (r.left = a) && loopsB r && decide (r.right.length = 1)))
def inlB (g : Gram) (s : SStep) : Bool := match (ruleAt g s.a).right[s.b.toNat]? with
  | none => false
  | some x => !x.term && decide (x.n ≠ (ruleAt g s.a).left)
def mayS (g : Gram) (s : SStep) : Bool :=
  if s.op = 1 then inR s.a 1 g.names && inR s.b 1 g.names && decide (s.c = 0)
  else if s.op = 2 then inR s.a 0 g.rules.length && inR s.b 0 s.c && decide (s.c ≤ (ruleAt g s.a).right.length)
  else if s.op = 3 then inR s.a 0 g.rules.length && decide (s.c = 0) && inR s.b 0 (ruleAt g s.a).right.length && inlB g s
  else if s.op = 4 then leftB g s.a && decide (s.b = 0) && decide (s.c = 0)
  else if s.op = 5 then decide (s.a = 0) && decide (s.b = 0) && decide (s.c = 0)
  else false
def swapN (a b n : Int) : Int := if n = a then b else if n = b then a else n
def swapY (a b : Int) (s : Sym) : Sym := if s.term = true then s else ⟨false, swapN a b s.n⟩
def swapR (a b : Int) (r : Rule) : Rule := ⟨swapN a b r.left, r.right.map (swapY a b)⟩
def extR (r : Rule) (b c : Nat) (f : Sym) : Rule := ⟨r.left, r.right.take b ++ f :: r.right.drop c⟩
def inlR (r : Rule) (b : Nat) (q : Rule) : Rule := ⟨r.left, r.right.take b ++ q.right ++ r.right.drop (b + 1)⟩
def inlL (g : Gram) (s : SStep) : List Rule := (g.rules.filter (fun q => decide (some q.left = (ruleAt g s.a).right[s.b.toNat]?.map (·.n)))).map (inlR (ruleAt g s.a) s.b.toNat)
def leftR (g : Gram) (a : Int) (r : Rule) : Rule := if r.left = a then (if loopsB r = true then ⟨g.names, r.right.tail ++ [nameS g.names]⟩ else ⟨r.left, r.right ++ [nameS g.names]⟩) else r
def keptB (ms cs : List Bool) (r : Rule) : Bool := atB ms r.left && atB cs r.left && allB ms r.right
/-- What a step makes of a grammar. -/
def stepG (g : Gram) (s : SStep) (ms cs : List Bool) : Gram :=
  if s.op = 1 then ⟨g.terms, g.names, g.rules.map (swapR s.a s.b)⟩
  else if s.op = 2 then ⟨g.terms, g.names + 1, g.rules.set s.a.toNat (extR (ruleAt g s.a) s.b.toNat s.c.toNat (nameS g.names)) ++ [⟨g.names, ((ruleAt g s.a).right.drop s.b.toNat).take (s.c.toNat - s.b.toNat)⟩]⟩
  else if s.op = 3 then ⟨g.terms, g.names, g.rules.take s.a.toNat ++ inlL g s ++ g.rules.drop (s.a.toNat + 1)⟩
  else if s.op = 4 then ⟨g.terms, g.names + 1, g.rules.map (leftR g s.a) ++ [⟨g.names, []⟩]⟩
  else ⟨g.terms, g.names, g.rules.filter (keptB ms cs)⟩

def ofLk (rs : List Rule) (n : Int) (k : Nat) : List Nat := (List.range k).filter (fun k => decide ((rs[k]?.map (·.left)) = some n))
theorem ofLk_yes {rs : List Rule} {n : Int} {k : Nat} {r : Rule} (h : rs[k]? = some r) (hn : r.left = n) : ofLk rs n (k + 1) = ofLk rs n k ++ [k] := by
  unfold ofLk
  rw [List.range_succ, List.filter_append, List.filter_cons_of_pos (by rw [h]; simp [hn])]
  rfl
theorem ofLk_no {rs : List Rule} {n : Int} {k : Nat} {r : Rule} (h : rs[k]? = some r) (hn : r.left ≠ n) : ofLk rs n (k + 1) = ofLk rs n k := by
  unfold ofLk
  rw [List.range_succ, List.filter_append, List.filter_cons_of_neg (by rw [h]; simp [hn])]
  simp
theorem ofLk_len (rs : List Rule) (n : Int) (k : Nat) : (ofLk rs n k).length ≤ k := by
  have := List.length_filter_le (fun k => decide ((rs[k]?.map (·.left)) = some n)) (List.range k)
  rw [List.length_range] at this
  exact this
theorem ofL_mem {rs : List Rule} {n : Int} {k : Nat} (h : k ∈ ofL rs n) : ∃ r, rs[k]? = some r ∧ r.left = n := by
  unfold ofL at h
  obtain ⟨h1, h2⟩ := List.mem_filter.1 h
  have hk : k < rs.length := List.mem_range.1 h1
  rw [List.getElem?_eq_getElem hk] at h2
  exact ⟨rs[k], List.getElem?_eq_getElem hk, by simpa using h2⟩
theorem ofL_get {rs : List Rule} {n : Int} {k : Nat} {r : Rule} (h : rs[k]? = some r) (hn : r.left = n) : k ∈ ofL rs n := by
  unfold ofL
  exact List.mem_filter.2 ⟨List.mem_range.2 (List.getElem?_eq_some_iff.1 h).1, by rw [h]; simp [hn]⟩
theorem ruleAt_get {g : Gram} {n : Int} {r : Rule} (h : g.rules[n.toNat]? = some r) : ruleAt g n = r := by
  unfold ruleAt
  rw [List.getD_eq_getElem?_getD, h]; rfl
end Go.Sy
