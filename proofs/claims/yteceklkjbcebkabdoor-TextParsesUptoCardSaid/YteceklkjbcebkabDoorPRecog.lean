/- What a grammar has, in plain terms: parts that symbols yield, and charts of what is so far read. No condition. -/
import Derived.Test.YteceklkjbcebkabDoorPShort
namespace Go.Sy
open Go

/-- A rule that is so far read, begun at some token. -/
structure Itt where
  rule : Nat
  dot : Nat
  frm : Nat
  deriving DecidableEq

inductive Yl (g : Gram) (tk : List Int) : List Sym → Nat → Nat → Prop
  | nil {i : Nat} : Yl g tk [] i i
  | term {s : Sym} {l : List Sym} {i j : Nat} : s.term = true → tk[i]? = some s.n → Yl g tk l (i + 1) j → Yl g tk (s :: l) i j
  | name {s : Sym} {l : List Sym} {i j k : Nat} {q : Rule} : s.term = false → q ∈ g.rules → q.left = s.n → Yl g tk q.right i k → Yl g tk l k j → Yl g tk (s :: l) i j

theorem yl_le {g : Gram} {tk : List Int} {l : List Sym} {i j : Nat} (h : Yl g tk l i j) : i ≤ j := by
  induction h with
  | nil => exact Nat.le_refl _
  | term _ _ _ ih => omega
  | name _ _ _ _ _ ih1 ih2 => omega
theorem yl_bound {g : Gram} {tk : List Int} {l : List Sym} {i j : Nat} (h : Yl g tk l i j) : i ≤ tk.length → j ≤ tk.length := by
  induction h with
  | nil => exact id
  | term _ h1 _ ih => intro _; exact ih (List.getElem?_eq_some_iff.1 h1).1
  | name _ _ _ _ _ ih1 ih2 => intro h; exact ih2 (ih1 h)
theorem yl_append {g : Gram} {tk : List Int} {l m : List Sym} {i j k : Nat} (h : Yl g tk l i k) (h2 : Yl g tk m k j) : Yl g tk (l ++ m) i j := by
  induction h with
  | nil => exact h2
  | term ht h1 _ ih => exact .term ht h1 (ih h2)
  | name ht hq hl h1 _ _ ih => exact .name ht hq hl h1 (ih h2)
theorem yl_one {g : Gram} {tk : List Int} {s : Sym} {i j : Nat} {q : Rule} (ht : s.term = false) (hq : q ∈ g.rules) (hl : q.left = s.n) (h : Yl g tk q.right i j) : Yl g tk [s] i j := .name ht hq hl h .nil
theorem yl_name {g : Gram} {tk : List Int} {s : Sym} {i j : Nat} (ht : s.term = false) (h : Yl g tk [s] i j) : ∃ q, q ∈ g.rules ∧ q.left = s.n ∧ Yl g tk q.right i j := by
  cases h with
  | term h1 _ _ => rw [ht] at h1; cases h1
  | name _ hq hl h1 h2 => cases h2; exact ⟨_, hq, hl, h1⟩

def rowAt (R : List (List Itt)) (i : Nat) : List Itt := R.getD i []
theorem rowAt_get {R : List (List Itt)} {i : Nat} {l : List Itt} (h : R[i]? = some l) : rowAt R i = l := by
  unfold rowAt; rw [List.getD_eq_getElem?_getD, h]; rfl
def ItOk (g : Gram) (tk : List Int) (x : Itt) (at_ : Nat) : Prop := ∃ q, g.rules[x.rule]? = some q ∧ x.dot ≤ q.right.length ∧ x.frm ≤ at_ ∧ Yl g tk (q.right.take x.dot) x.frm at_
def RowsOk (g : Gram) (tk : List Int) (R : List (List Itt)) : Prop := ∀ i x, x ∈ rowAt R i → ItOk g tk x i
def ClI (g : Gram) (tk : List Int) (R : List (List Itt)) (i : Nat) (x : Itt) : Prop := ∀ q, g.rules[x.rule]? = some q →
  (q.right[x.dot]? = none → ∀ y ∈ rowAt R x.frm, ∀ q2 s, g.rules[y.rule]? = some q2 → q2.right[y.dot]? = some s → s.term = false → s.n = q.left → (⟨y.rule, y.dot + 1, y.frm⟩ : Itt) ∈ rowAt R i) ∧
  ∀ s, q.right[x.dot]? = some s → (s.term = false → ∀ k q2, g.rules[k]? = some q2 → q2.left = s.n → (⟨k, 0, i⟩ : Itt) ∈ rowAt R i) ∧ (s.term = true → tk[i]? = some s.n → (⟨x.rule, x.dot + 1, x.frm⟩ : Itt) ∈ rowAt R (i + 1))
def Clo (g : Gram) (tk : List Int) (R : List (List Itt)) (i : Nat) : Prop := ∀ x ∈ rowAt R i, ClI g tk R i x

theorem ok_pred {g : Gram} {tk : List Int} {k i : Nat} {q : Rule} (h : g.rules[k]? = some q) : ItOk g tk ⟨k, 0, i⟩ i := ⟨q, h, Nat.zero_le _, Nat.le_refl _, .nil⟩
theorem take_next {α : Type} {l : List α} {k : Nat} {x : α} (h : l[k]? = some x) : l.take (k + 1) = l.take k ++ [x] := by rw [List.take_add_one, h]; rfl
theorem ok_scan {g : Gram} {tk : List Int} {x : Itt} {i : Nat} {q : Rule} {s : Sym} (h : ItOk g tk x i) (hq : g.rules[x.rule]? = some q) (hs : q.right[x.dot]? = some s) (ht : s.term = true) (hk : tk[i]? = some s.n) : ItOk g tk ⟨x.rule, x.dot + 1, x.frm⟩ (i + 1) := by
  obtain ⟨q', h1, h2, h3, h4⟩ := h
  rw [hq] at h1
  cases h1
  refine ⟨q, hq, (List.getElem?_eq_some_iff.1 hs).1, by show x.frm ≤ i + 1; omega, ?_⟩
  show Yl g tk (q.right.take (x.dot + 1)) x.frm (i + 1)
  rw [take_next hs]
  exact yl_append h4 (.term ht hk .nil)
theorem ok_comp {g : Gram} {tk : List Int} {x y : Itt} {i : Nat} {q q2 : Rule} {s : Sym} (h : ItOk g tk x i) (hq : g.rules[x.rule]? = some q) (hd : q.right[x.dot]? = none) (h' : ItOk g tk y x.frm) (hq2 : g.rules[y.rule]? = some q2) (hs : q2.right[y.dot]? = some s) (ht : s.term = false) (hn : s.n = q.left) :
    ItOk g tk ⟨y.rule, y.dot + 1, y.frm⟩ i := by
  obtain ⟨q', h1, h2, h3, h4⟩ := h
  rw [hq] at h1
  cases h1
  obtain ⟨q3, k1, k2, k3, k4⟩ := h'
  rw [hq2] at k1
  cases k1
  refine ⟨q2, hq2, (List.getElem?_eq_some_iff.1 hs).1, by show y.frm ≤ i; omega, ?_⟩
  show Yl g tk (q2.right.take (y.dot + 1)) y.frm i
  rw [take_next hs]
  rw [List.take_of_length_le (List.getElem?_eq_none_iff.1 hd)] at h4
  exact yl_append k4 (yl_one ht (List.mem_of_getElem? hq) hn.symm h4)

theorem drop_step {α : Type} {l m n : List α} {k : Nat} {x : α} (h : l.drop k = x :: m ++ n) : l[k]? = some x ∧ l.drop (k + 1) = m ++ n := by
  have h1 : l[k]? = some x := by
    have := List.getElem?_drop (xs := l) (i := k) (j := 0)
    rw [h] at this; simpa using this.symm
  obtain ⟨hlt, e⟩ := List.getElem?_eq_some_iff.1 h1
  rw [List.drop_eq_getElem_cons hlt, List.cons_append] at h
  exact ⟨h1, (List.cons.inj h).2⟩
/-- A chart that is closed has all. -/
theorem chart_complete {g : Gram} {tk : List Int} {R : List (List Itt)} {n : Nat} (hc : ∀ i, i ≤ n → Clo g tk R i) {l : List Sym} {i j : Nat} (h : Yl g tk l i j) : j ≤ n → ∀ x q m, x ∈ rowAt R i → g.rules[x.rule]? = some q → q.right.drop x.dot = l ++ m → (⟨x.rule, x.dot + l.length, x.frm⟩ : Itt) ∈ rowAt R j := by
  induction h with
  | nil => intro _ x q m hx _ _; exact hx
  | @term s l i j ht hk h1 ih =>
    intro hj x q m hx hq hd
    obtain ⟨e1, e2⟩ := drop_step hd
    have hi := yl_le h1
    have h2 := ((hc i (by omega) x hx q hq).2 s e1).2 ht hk
    have h3 := ih hj _ q m h2 hq e2
    rw [List.length_cons, show x.dot + (l.length + 1) = x.dot + 1 + l.length by omega]
    exact h3
  | @name s l i j k q2 ht hq2 hl h1 h2 ih1 ih2 =>
    intro hj x q m hx hq hd
    obtain ⟨e1, e2⟩ := drop_step hd
    have hik := yl_le h1
    have hkj := yl_le h2
    obtain ⟨kk, hkk⟩ := List.getElem?_of_mem hq2
    have h3 := ((hc i (by omega) x hx q hq).2 s e1).1 ht kk q2 hkk hl
    have h4 := ih1 (by omega) _ q2 [] h3 hkk (by show q2.right.drop 0 = q2.right ++ []; simp)
    have h5 := (hc k (by omega) _ h4 q2 hkk).1 (by show q2.right[0 + q2.right.length]? = none; rw [List.getElem?_eq_none]; omega) x hx q s hq e1 ht hl.symm
    have h6 := ih2 hj _ q m h5 hq e2
    rw [List.length_cons, show x.dot + (l.length + 1) = x.dot + 1 + l.length by omega]
    exact h6

/-- So many as there can be. -/
theorem nodup_bound : ∀ (n : Nat) (l : List Nat), l.Nodup → (∀ x ∈ l, x < n) → l.length ≤ n
  | 0, l, _, h => by
    cases l with
    | nil => exact Nat.le_refl _
    | cons x l => exact absurd (h x (by simp)) (Nat.not_lt_zero _)
  | n + 1, l, hn, h => by
    have := nodup_bound n (l.erase n) (hn.erase n) (fun x hx => by
      have h1 := h x (List.mem_of_mem_erase hx)
      have h2 : x ≠ n := fun e => by subst e; exact (List.Nodup.not_mem_erase hn) hx
      omega)
    have h3 := List.length_erase (a := n) (l := l)
    split at h3 <;> omega
def codeI (x : Itt) : Nat := (x.rule * 9 + x.dot) * 31 + x.frm
theorem row_bound {g : Gram} {tk : List Int} (hm : mayB g = true) (ht : tk.length ≤ 30) {l : List Itt} {i : Nat} (hi : i ≤ tk.length) (hn : l.Nodup) (h : ∀ x ∈ l, ItOk g tk x i) : l.length ≤ 11160 := by
  have hb : ∀ x ∈ l, x.rule < 40 ∧ x.dot ≤ 8 ∧ x.frm ≤ 30 := fun x hx => by
    obtain ⟨q, h1, h2, h3, _⟩ := h x hx
    have := (may_rule hm h1).2.2
    have h4 := (List.getElem?_eq_some_iff.1 h1).1
    have h5 := (mayB_true.1 hm).2.2.2.2.1
    omega
  have hinj : ∀ x ∈ l, ∀ y ∈ l, codeI x = codeI y → x = y := fun x hx y hy e => by
    have h1 := hb x hx
    have h2 := hb y hy
    unfold codeI at e
    obtain ⟨r, d, f⟩ := x
    obtain ⟨r', d', f'⟩ := y
    simp only at *
    have : f = f' ∧ d = d' ∧ r = r' := by omega
    rw [this.1, this.2.1, this.2.2]
  have hnd : (l.map codeI).Nodup := List.pairwise_map.2 (List.Pairwise.imp_of_mem (fun {a b} ha hb' hab e => hab (hinj a ha b hb' e)) hn)
  have := nodup_bound 11160 (l.map codeI) hnd (fun x hx => by
    obtain ⟨y, hy, rfl⟩ := List.mem_map.1 hx
    have := hb y hy
    unfold codeI
    omega)
  rwa [List.length_map] at this
end Go.Sy
