/- What may be nothing, what begins, what follows, in plain terms. No condition. -/
import Derived.Test.YteceklkjbcebkabPReach
namespace Go.Sy
open Go

def nullB (nl : List Bool) (l : List Sym) : Bool := l.all (fun s => !s.term && atB nl s.n)
def row2 (tab : List (List Bool)) (n : Int) : List Bool := tab.getD n.toNat []
def at2 (tab : List (List Bool)) (n t : Int) : Bool := atB (row2 tab n) t
/-- May symbols begin with a term? -/
def begB (nl : List Bool) (fs : List (List Bool)) : List Sym → Int → Bool
  | [], _ => false
  | s :: l, t => if s.term = true then decide (s.n = t) else at2 fs s.n t || (atB nl s.n && begB nl fs l t)

inductive NullI (g : Gram) : List Sym → Prop
  | nil : NullI g []
  | cons {r : Rule} {l : List Sym} : r ∈ g.rules → NullI g r.right → NullI g l → NullI g (⟨false, r.left⟩ :: l)
inductive FirstI (g : Gram) : List Sym → Int → Prop
  | term {t : Int} {l : List Sym} : FirstI g (⟨true, t⟩ :: l) t
  | name {r : Rule} {l : List Sym} {t : Int} : r ∈ g.rules → FirstI g r.right t → FirstI g (⟨false, r.left⟩ :: l) t
  | skip {n t : Int} {l : List Sym} : NullI g [⟨false, n⟩] → FirstI g l t → FirstI g (⟨false, n⟩ :: l) t
inductive FollowI (g : Gram) : Int → Int → Prop
  | top : FollowI g 0 g.terms
  | fst {r : Rule} {k : Nat} {s : Sym} {t : Int} : r ∈ g.rules → r.right[k]? = some s → s.term = false → FirstI g (r.right.drop (k + 1)) t → FollowI g s.n t
  | fol {r : Rule} {k : Nat} {s : Sym} {t : Int} : r ∈ g.rules → r.right[k]? = some s → s.term = false → NullI g (r.right.drop (k + 1)) → FollowI g r.left t → FollowI g s.n t

def NS (g : Gram) (nl : List Bool) : Prop := ∀ n : Int, 0 ≤ n → atB nl n = true → NullI g [⟨false, n⟩]
def FS (g : Gram) (fs : List (List Bool)) : Prop := ∀ n t : Int, 0 ≤ n → 0 ≤ t → at2 fs n t = true → FirstI g [⟨false, n⟩] t
def OS (g : Gram) (fo : List (List Bool)) : Prop := ∀ n t : Int, 0 ≤ n → 0 ≤ t → at2 fo n t = true → FollowI g n t
def NC (g : Gram) (nl : List Bool) : Prop := ∀ r ∈ g.rules, nullB nl r.right = true → atB nl r.left = true
def FC (g : Gram) (nl : List Bool) (fs : List (List Bool)) : Prop := ∀ r ∈ g.rules, ∀ t : Int, 0 ≤ t → t < g.terms → begB nl fs r.right t = true → at2 fs r.left t = true
def OC1 (g : Gram) (nl : List Bool) (fs fo : List (List Bool)) (r : Rule) (k : Nat) (s : Sym) : Prop :=
  ∀ t : Int, 0 ≤ t → ((t < g.terms → begB nl fs (r.right.drop (k + 1)) t = true → at2 fo s.n t = true) ∧ (t ≤ g.terms → nullB nl (r.right.drop (k + 1)) = true → at2 fo r.left t = true → at2 fo s.n t = true))
def OC (g : Gram) (nl : List Bool) (fs fo : List (List Bool)) : Prop := ∀ r ∈ g.rules, ∀ k s, r.right[k]? = some s → s.term = false → OC1 g nl fs fo r k s

theorem nullB_nil {nl : List Bool} : nullB nl [] = true := rfl
theorem nullB_cons {nl : List Bool} {s : Sym} {l : List Sym} : nullB nl (s :: l) = ((!s.term && atB nl s.n) && nullB nl l) := rfl
theorem nullB_append {nl : List Bool} {a b : List Sym} : nullB nl (a ++ b) = (nullB nl a && nullB nl b) := by unfold nullB; rw [List.all_append]
theorem begB_cons {nl : List Bool} {fs : List (List Bool)} {s : Sym} {l : List Sym} {t : Int} : begB nl fs (s :: l) t = if s.term = true then decide (s.n = t) else at2 fs s.n t || (atB nl s.n && begB nl fs l t) := rfl
theorem begB_append {nl : List Bool} {fs : List (List Bool)} {b : List Sym} {t : Int} : ∀ {a : List Sym}, begB nl fs (a ++ b) t = (begB nl fs a t || (nullB nl a && begB nl fs b t))
  | [] => by simp [begB, nullB]
  | s :: a => by
    rw [List.cons_append, begB_cons, begB_cons, begB_append (a := a), nullB_cons]
    cases s.term <;> simp [Bool.or_assoc, Bool.and_or_distrib_left, Bool.and_assoc]

/-- All of a list's names lie from 0 on. -/
abbrev Pos (l : List Sym) : Prop := ∀ s ∈ l, s.term = false → 0 ≤ s.n
theorem nullI_cons {g : Gram} {n : Int} {l : List Sym} (h : NullI g [⟨false, n⟩]) (h2 : NullI g l) : NullI g (⟨false, n⟩ :: l) := by
  cases h with
  | cons hr h1 _ => exact .cons hr h1 h2
theorem nullB_sound {g : Gram} {nl : List Bool} (h : NS g nl) : ∀ {l : List Sym}, Pos l → nullB nl l = true → NullI g l
  | [], _, _ => .nil
  | ⟨t, n⟩ :: l, hp, hn => by
    rw [nullB_cons] at hn
    cases t with
    | true => simp at hn
    | false =>
      simp only [Bool.not_false, Bool.true_and, Bool.and_eq_true] at hn
      exact nullI_cons (h n (hp ⟨false, n⟩ (by simp) rfl) hn.1) (nullB_sound h (fun s hs => hp s (List.mem_cons_of_mem _ hs)) hn.2)
theorem nullB_complete {g : Gram} {nl : List Bool} (h : NC g nl) {l : List Sym} (hn : NullI g l) : nullB nl l = true := by
  induction hn with
  | nil => rfl
  | cons hr _ _ ih1 ih2 => rw [nullB_cons, ih2, h _ hr ih1]; rfl
theorem firstI_one {g : Gram} {n t : Int} {l : List Sym} (h : FirstI g [⟨false, n⟩] t) : FirstI g (⟨false, n⟩ :: l) t := by
  cases h with
  | name hr h1 => exact .name hr h1
  | skip _ h2 => cases h2
theorem begB_sound {g : Gram} {nl : List Bool} {fs : List (List Bool)} (h : NS g nl) (h2 : FS g fs) {t : Int} (ht : 0 ≤ t) : ∀ {l : List Sym}, Pos l → begB nl fs l t = true → FirstI g l t
  | [], _, hb => by simp [begB] at hb
  | ⟨tm, n⟩ :: l, hp, hb => by
    unfold begB at hb
    cases tm with
    | true =>
      simp only [if_true, decide_eq_true_eq] at hb
      subst hb
      exact .term
    | false =>
      have h0 := hp ⟨false, n⟩ (by simp) rfl
      simp only [Bool.false_eq_true, if_false, Bool.or_eq_true, Bool.and_eq_true] at hb
      rcases hb with hb | ⟨hb, hb2⟩
      · exact firstI_one (h2 n t h0 ht hb)
      · exact .skip (h n h0 hb) (begB_sound h h2 ht (fun s hs => hp s (List.mem_cons_of_mem _ hs)) hb2)
theorem begB_complete {g : Gram} {nl : List Bool} {fs : List (List Bool)} (h : NC g nl) (h2 : FC g nl fs) {l : List Sym} {t : Int} (hf : FirstI g l t) (h0 : 0 ≤ t) (h1 : t < g.terms) : begB nl fs l t = true := by
  induction hf with
  | term => simp [begB]
  | name hr _ ih => unfold begB; simp [h2 _ hr _ h0 h1 (ih h0 h1)]
  | skip hn _ ih =>
    have := nullB_complete h hn
    rw [nullB_cons] at this
    simp only [Bool.not_false, Bool.true_and, nullB_nil, Bool.and_true] at this
    unfold begB; simp [this, ih h0 h1]
theorem firstI_rng {g : Gram} (hm : ∀ r ∈ g.rules, ∀ s ∈ r.right, s.term = true → 0 ≤ s.n ∧ s.n < g.terms) {l : List Sym} {t : Int} (hf : FirstI g l t) : (∀ s ∈ l, s.term = true → 0 ≤ s.n ∧ s.n < g.terms) → 0 ≤ t ∧ t < g.terms := by
  induction hf with
  | @term t l => intro h; exact h ⟨true, t⟩ (by simp) rfl
  | name hr _ ih => intro _; exact ih (hm _ hr)
  | skip _ _ ih => intro h; exact ih fun s hs => h s (List.mem_cons_of_mem _ hs)
theorem follow_complete {g : Gram} {nl : List Bool} {fs fo : List (List Bool)} (hm : ∀ r ∈ g.rules, ∀ s ∈ r.right, s.term = true → 0 ≤ s.n ∧ s.n < g.terms) (hg : 0 ≤ g.terms) (h : NC g nl) (h2 : FC g nl fs) (h3 : OC g nl fs fo) (h4 : at2 fo 0 g.terms = true) {n t : Int} (hf : FollowI g n t) :
    (0 ≤ t ∧ t ≤ g.terms) ∧ at2 fo n t = true := by
  induction hf with
  | top => exact ⟨by omega, h4⟩
  | @fst r k s t hr hk ht hfi =>
    have hr1 := firstI_rng hm hfi fun s hs => hm r hr s (List.mem_of_mem_drop hs)
    exact ⟨by omega, (h3 r hr k s hk ht t hr1.1).1 hr1.2 (begB_complete h h2 hfi hr1.1 hr1.2)⟩
  | fol hr hk ht hn _ ih => exact ⟨ih.1, (h3 _ hr _ _ hk ht _ ih.1.1).2 ih.1.2 (nullB_complete h hn) ih.2⟩

theorem may_term {g : Gram} (h : mayB g = true) {r : Rule} (hr : r ∈ g.rules) {s : Sym} (hs : s ∈ r.right) (ht : s.term = true) : 0 ≤ s.n ∧ s.n < g.terms := by
  obtain ⟨k, hk⟩ := List.getElem?_of_mem hr
  obtain ⟨j, hj⟩ := List.getElem?_of_mem hs
  have := may_sym h hk hj
  exact ⟨this.1, this.2.1 ht⟩

/-! ### Cells -/
theorem row2_get {tab : List (List Bool)} {n : Int} (h0 : 0 ≤ n) (h1 : n < tab.length) : tab[n.toNat]? = some (row2 tab n) := by
  unfold row2
  have : n.toNat < tab.length := by omega
  rw [List.getD_eq_getElem?_getD, List.getElem?_eq_getElem this]; rfl
theorem row2_set {tab : List (List Bool)} {n m : Int} {x : List Bool} (h0 : 0 ≤ n) (h1 : n < tab.length) (hm : 0 ≤ m) : row2 (tab.set n.toNat x) m = if m = n then x else row2 tab m := by
  unfold row2
  rw [List.getD_eq_getElem?_getD, List.getD_eq_getElem?_getD]
  split
  · rename_i e
    rw [e, List.getElem?_set_self (by omega)]; rfl
  · rename_i e
    rw [List.getElem?_set_ne (by omega)]
theorem atB_set' {l : List Bool} {t u : Int} (h0 : 0 ≤ t) (h1 : t < l.length) (hu : 0 ≤ u) (b : Bool) : atB (l.set t.toNat b) u = if u = t then b else atB l u := by
  unfold atB
  rw [List.getD_eq_getElem?_getD, List.getD_eq_getElem?_getD]
  split
  · rename_i e
    rw [e, List.getElem?_set_self (by omega)]; rfl
  · rename_i e
    rw [List.getElem?_set_ne (by omega)]
/-- One cell of a table is set. -/
def put2 (tab : List (List Bool)) (n t : Int) : List (List Bool) := tab.set n.toNat ((row2 tab n).set t.toNat true)
theorem at2_put {tab : List (List Bool)} {n t m u : Int} (h0 : 0 ≤ n) (h1 : n < tab.length) (ht : 0 ≤ t) (ht1 : t < (row2 tab n).length) (hm : 0 ≤ m) (hu : 0 ≤ u) : at2 (put2 tab n t) m u = (at2 tab m u || (decide (m = n) && decide (u = t))) := by
  unfold at2 put2
  rw [row2_set h0 h1 hm]
  split
  · rename_i e
    subst e
    rw [atB_set' ht ht1 hu]
    split
    · rename_i e; simp [e]
    · rename_i e; simp [e]
  · rename_i e; simp [e]
def fls2 : List (List Bool) → Nat
  | [] => 0
  | l :: tab => fls l + fls2 tab
theorem fls2_set : ∀ {tab : List (List Bool)} {i : Nat} {l x : List Bool}, tab[i]? = some l → fls x < fls l → fls2 (tab.set i x) < fls2 tab
  | [], _, _, _, h, _ => by cases h
  | y :: tab, 0, l, x, h, hx => by
    simp only [List.getElem?_cons_zero, Option.some.injEq] at h
    subst h
    show fls x + fls2 tab < fls y + fls2 tab
    omega
  | y :: tab, i + 1, l, x, h, hx => by
    have := fls2_set (tab := tab) (i := i) (by simpa using h) hx
    show fls y + fls2 (tab.set i x) < fls y + fls2 tab
    omega
theorem put2_less {tab : List (List Bool)} {n t : Int} (h0 : 0 ≤ n) (h1 : n < tab.length) (ht : 0 ≤ t) (ht1 : t < (row2 tab n).length) (hf : at2 tab n t = false) : fls2 (put2 tab n t) < fls2 tab := by
  refine fls2_set (row2_get h0 h1) (fls_set ?_)
  rw [atB_get ht ht1]
  exact congrArg some hf
theorem put2_same {tab : List (List Bool)} {n t : Int} (h0 : 0 ≤ n) (h1 : n < tab.length) (ht : 0 ≤ t) (ht1 : t < (row2 tab n).length) (hf : at2 tab n t = true) : put2 tab n t = tab := by
  have e : (row2 tab n).set t.toNat true = row2 tab n := by
    have hg := atB_get ht ht1
    have hf' : atB (row2 tab n) t = true := hf
    rw [hf'] at hg
    apply List.ext_getElem?
    intro i
    rw [List.getElem?_set]
    split
    · rename_i e; subst e; rw [if_pos (by omega), hg]
    · rfl
  unfold put2
  rw [e]
  have hg := row2_get h0 h1
  apply List.ext_getElem?
  intro i
  rw [List.getElem?_set]
  split
  · rename_i e; subst e; rw [if_pos (by omega), hg]
  · rfl
/-- A table's shape. -/
def Dim (tab : List (List Bool)) (a b : Nat) : Prop := tab.length = a ∧ ∀ l ∈ tab, l.length = b
theorem Dim.row {tab : List (List Bool)} {a b : Nat} (h : Dim tab a b) {n : Int} (h0 : 0 ≤ n) (h1 : n < (a : Int)) : (row2 tab n).length = b :=
  h.2 _ (List.mem_of_getElem? (row2_get h0 (by rw [h.1]; exact h1)))
theorem Dim.put {tab : List (List Bool)} {a b : Nat} (h : Dim tab a b) {n t : Int} (h0 : 0 ≤ n) (h1 : n < (a : Int)) : Dim (put2 tab n t) a b := by
  refine ⟨by unfold put2; rw [List.length_set]; exact h.1, fun l hl => ?_⟩
  rcases List.mem_or_eq_of_mem_set hl with hl | rfl
  · exact h.2 l hl
  · rw [List.length_set]; exact h.row h0 h1
theorem tab_ext {x y : List (List Bool)} {a b : Nat} (hx : Dim x a b) (hy : Dim y a b) (h : ∀ n t : Int, 0 ≤ n → n < (a : Int) → 0 ≤ t → t < (b : Int) → at2 x n t = at2 y n t) : x = y := by
  apply List.ext_getElem (by rw [hx.1, hy.1])
  intro i h1 h2
  have ex : x[i] = row2 x (i : Int) := by
    have := row2_get (tab := x) (n := (i : Int)) (by omega) (by omega)
    rw [Int.toNat_natCast, List.getElem?_eq_getElem h1] at this
    exact Option.some.inj this
  have ey : y[i] = row2 y (i : Int) := by
    have := row2_get (tab := y) (n := (i : Int)) (by omega) (by omega)
    rw [Int.toNat_natCast, List.getElem?_eq_getElem h2] at this
    exact Option.some.inj this
  have lx := hx.row (n := (i : Int)) (by omega) (by have := hx.1; omega)
  have ly := hy.row (n := (i : Int)) (by omega) (by have := hx.1; omega)
  rw [ex, ey]
  apply List.ext_getElem (by rw [lx, ly])
  intro j h3 h4
  have := h (i : Int) (j : Int) (by omega) (by have := hx.1; omega) (by omega) (by omega)
  unfold at2 at this
  have gx := atB_get (is := row2 x (i : Int)) (n := (j : Int)) (by omega) (by omega)
  have gy := atB_get (is := row2 y (i : Int)) (n := (j : Int)) (by omega) (by omega)
  rw [Int.toNat_natCast, List.getElem?_eq_getElem h3] at gx
  rw [Int.toNat_natCast, List.getElem?_eq_getElem h4] at gy
  rw [Option.some.inj gx, Option.some.inj gy, this]
end Go.Sy
