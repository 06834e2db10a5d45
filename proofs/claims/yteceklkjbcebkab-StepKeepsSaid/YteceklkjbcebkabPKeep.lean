/- What a grammar has stays, whatever step is done: in plain terms. No condition. -/
import Derived.Test.YteceklkjbcebkabPStep
namespace Go.Sy
open Go

theorem yl_cut {g : Gram} {tk : List Int} : ∀ {l m : List Sym} {i j : Nat}, Yl g tk (l ++ m) i j → ∃ k, Yl g tk l i k ∧ Yl g tk m k j
  | [], m, i, j, h => ⟨i, .nil, h⟩
  | s :: l, m, i, j, h => by
    rw [List.cons_append] at h
    cases h with
    | term ht hk h =>
      obtain ⟨k, h1, h2⟩ := yl_cut h
      exact ⟨k, .term ht hk h1, h2⟩
    | name ht hq hl h1 h2 =>
      obtain ⟨k, h3, h4⟩ := yl_cut h2
      exact ⟨k, .name ht hq hl h1 h3, h4⟩
theorem yl_cons {g : Gram} {tk : List Int} {s : Sym} {l : List Sym} {i k j : Nat} (h : Yl g tk [s] i k) (h2 : Yl g tk l k j) : Yl g tk (s :: l) i j := yl_append h h2
theorem yl_sub {g h : Gram} {tk : List Int} (hs : ∀ r ∈ g.rules, r ∈ h.rules) {l : List Sym} {i j : Nat} (hy : Yl g tk l i j) : Yl h tk l i j := by
  induction hy with
  | nil => exact .nil
  | term ht hk _ ih => exact .term ht hk ih
  | name ht hq hl _ _ ih1 ih2 => exact .name ht (hs _ hq) hl ih1 ih2

/-! ### Swaps -/
theorem yl_swap {t k : Int} {rs : List Rule} {a b : Int} {tk : List Int} {l : List Sym} {i j : Nat} (h : Yl ⟨t, k, rs⟩ tk l i j) : Yl ⟨t, k, rs.map (swapR a b)⟩ tk (l.map (swapY a b)) i j := by
  induction h with
  | nil => exact .nil
  | @term s l i j ht hk _ ih =>
    have e : swapY a b s = s := by unfold swapY; rw [if_pos ht]
    rw [List.map_cons, e]
    exact .term ht hk ih
  | @name s l i j k q ht hq hl _ _ ih1 ih2 =>
    have e : swapY a b s = ⟨false, swapN a b s.n⟩ := by unfold swapY; rw [if_neg (by rw [ht]; decide)]
    rw [List.map_cons, e]
    exact .name rfl (List.mem_map_of_mem hq) (by show swapN a b q.left = _; rw [hl]) ih1 ih2

/-! ### Prunes -/
theorem yl_makes {g : Gram} {ms : List Bool} (hc : ClosedM g ms) {tk : List Int} {l : List Sym} {i j : Nat} (h : Yl g tk l i j) : allB ms l = true := by
  induction h with
  | nil => rfl
  | term ht _ _ ih =>
    refine allB_iff.2 fun s hs h0 => ?_
    · rcases List.mem_cons.1 hs with rfl | hs
      · rw [ht] at h0; cases h0
      · exact allB_iff.1 ih s hs h0
  | @name s l i j k q ht hq hl _ _ ih1 ih2 =>
    refine allB_iff.2 fun s' hs h0 => ?_
    · rcases List.mem_cons.1 hs with rfl | hs
      · rw [← hl]; exact hc q hq ih1
      · exact allB_iff.1 ih2 s' hs h0
theorem yl_prune {g : Gram} {ms cs : List Bool} (hm : ClosedM g ms) (hc : ClosedC g ms cs) {tk : List Int} {l : List Sym} {i j : Nat} (h : Yl g tk l i j) : (∀ s ∈ l, s.term = false → atB cs s.n = true) → Yl ⟨g.terms, g.names, g.rules.filter (keptB ms cs)⟩ tk l i j := by
  induction h with
  | nil => exact fun _ => .nil
  | term ht hk _ ih => exact fun hl => .term ht hk (ih fun s hs => hl s (List.mem_cons_of_mem _ hs))
  | @name s l i j k q ht hq hl h1 _ ih1 ih2 =>
    intro hall
    have ha := yl_makes hm h1
    have hs := hall s (List.mem_cons_self ..) ht
    rw [← hl] at hs
    have hk : q ∈ g.rules.filter (keptB ms cs) := List.mem_filter.2 ⟨hq, by unfold keptB; rw [hm q hq ha, hs, ha]; rfl⟩
    exact .name ht hk hl (ih1 (hc q hq hs ha)) (ih2 fun s' hs' => hall s' (List.mem_cons_of_mem _ hs'))

/-! ### A part taken out -/
section
variable {t n : Int} {rs : List Rule} {tk : List Int} {a b c : Nat} {q : Rule}
def partR (q : Rule) (b c : Nat) : List Sym := (q.right.take c).drop b
def unF (n : Int) (pt : List Sym) (l : List Sym) : List Sym := l.flatMap fun s => if s = nameS n then pt else [s]
theorem part_join (hbc : b ≤ c) : q.right = q.right.take b ++ (partR q b c ++ q.right.drop c) := by
  unfold partR
  have e1 : q.right.take b = (q.right.take c).take b := by rw [List.take_take, Nat.min_eq_left hbc]
  rw [e1, ← List.append_assoc, List.take_append_drop, List.take_append_drop]
theorem unF_id {pt l : List Sym} (h : ∀ s ∈ l, s.term = false → s.n < n) : unF n pt l = l := by
  unfold unF
  induction l with
  | nil => rfl
  | cons s l ih =>
    rw [List.flatMap_cons, ih fun s' hs' => h s' (List.mem_cons_of_mem _ hs')]
    have : s ≠ nameS n := fun e => by
      have := h s (List.mem_cons_self ..) (by rw [e]; rfl)
      rw [e] at this
      exact absurd this (Int.lt_irrefl n)
    rw [if_neg this]; rfl
theorem unF_append {pt l m : List Sym} : unF n pt (l ++ m) = unF n pt l ++ unF n pt m := by unfold unF; rw [List.flatMap_append]
theorem yl_extract (hq : rs[a]? = some q) (hbc : b ≤ c) {l : List Sym} {i j : Nat} (h : Yl ⟨t, n, rs⟩ tk l i j) : Yl ⟨t, n + 1, rs.set a (extR q b c (nameS n)) ++ [⟨n, partR q b c⟩]⟩ tk l i j := by
  have ha := (List.getElem?_eq_some_iff.1 hq).1
  induction h with
  | nil => exact .nil
  | term ht hk _ ih => exact .term ht hk ih
  | @name s l i j k r ht hr hl _ _ ih1 ih2 =>
    obtain ⟨z, hz⟩ := List.getElem?_of_mem hr
    by_cases e : a = z
    · subst e
      have hqr : q = r := Option.some.inj (hq.symm.trans hz)
      subst hqr
      rw [part_join (q := q) hbc] at ih1
      obtain ⟨m1, h1, h2⟩ := yl_cut ih1
      obtain ⟨m2, h3, h4⟩ := yl_cut h2
      refine .name ht (q := extR q b c (nameS n)) ?_ hl ?_ ih2
      · exact List.mem_append_left _ (List.mem_of_getElem? (List.getElem?_set_self ha))
      · exact yl_append h1 (.name (q := ⟨n, partR q b c⟩) rfl (by simp) rfl h3 h4)
    · exact .name ht (List.mem_append_left _ (List.mem_of_getElem? (by rw [List.getElem?_set_ne e]; exact hz))) hl ih1 ih2
theorem yl_unextract (hq : rs[a]? = some q) (hbc : b ≤ c) (hrng : ∀ r ∈ rs, r.left < n ∧ ∀ s ∈ r.right, s.term = false → s.n < n) {l : List Sym} {i j : Nat}
    (h : Yl ⟨t, n + 1, rs.set a (extR q b c (nameS n)) ++ [⟨n, partR q b c⟩]⟩ tk l i j) : Yl ⟨t, n, rs⟩ tk (unF n (partR q b c) l) i j := by
  have hqm := List.mem_of_getElem? hq
  have hpt : ∀ s ∈ partR q b c, s ∈ q.right := fun s hs => List.mem_of_mem_take (List.mem_of_mem_drop hs)
  induction h with
  | nil => exact .nil
  | @term s l i j ht hk _ ih =>
    have e : s ≠ nameS n := fun e => by rw [e] at ht; cases ht
    have : unF n (partR q b c) (s :: l) = s :: unF n (partR q b c) l := by unfold unF; rw [List.flatMap_cons, if_neg e]; rfl
    rw [this]
    exact .term ht hk ih
  | @name s l i j k r ht hr hl _ _ ih1 ih2 =>
    have hsplit : unF n (partR q b c) (s :: l) = (if s = nameS n then partR q b c else [s]) ++ unF n (partR q b c) l := by unfold unF; rw [List.flatMap_cons]
    rw [hsplit]
    refine yl_append ?_ ih2
    have old : ∀ r' ∈ rs, r'.left = s.n → Yl ⟨t, n, rs⟩ tk r'.right i k → Yl ⟨t, n, rs⟩ tk (if s = nameS n then partR q b c else [s]) i k := fun r' hr' hl' hy => by
      have : s ≠ nameS n := fun e => by
        have := (hrng r' hr').1
        rw [hl', e] at this
        exact absurd this (Int.lt_irrefl n)
      rw [if_neg this]
      exact yl_one ht hr' hl' hy
    rcases List.mem_append.1 hr with hr | hr
    · rcases List.mem_or_eq_of_mem_set hr with hr | rfl
      · rw [unF_id (hrng r hr).2] at ih1
        exact old r hr hl ih1
      · refine old q hqm hl ?_
        have e1 : unF n (partR q b c) (extR q b c (nameS n)).right = q.right := by
          show unF n (partR q b c) (q.right.take b ++ nameS n :: q.right.drop c) = _
          rw [unF_append, unF_id fun s hs => (hrng q hqm).2 s (List.mem_of_mem_take hs)]
          have e2 : unF n (partR q b c) (nameS n :: q.right.drop c) = partR q b c ++ q.right.drop c := by
            have e3 := unF_id (n := n) (pt := partR q b c) (l := q.right.drop c) fun s hs => (hrng q hqm).2 s (List.mem_of_mem_drop hs)
            unfold unF at e3 ⊢
            rw [List.flatMap_cons, if_pos rfl, e3]
          rw [e2]
          exact (part_join hbc).symm
        rw [e1] at ih1
        exact ih1
    · rw [List.mem_singleton.1 hr] at hl ih1
      have e : s = nameS n := by
        obtain ⟨st, sn⟩ := s
        have ht : st = false := ht
        have hl : n = sn := hl
        rw [ht, ← hl]; rfl
      rw [if_pos e]
      rw [show (⟨n, partR q b c⟩ : Rule).right = partR q b c from rfl, unF_id fun s hs => (hrng q hqm).2 s (hpt s hs)] at ih1
      exact ih1
end

/-! ### A name put in -/
section
variable {t n : Int} {rs : List Rule} {tk : List Int} {a b : Nat} {q : Rule} {y : Sym}
def inlS (rs : List Rule) (q : Rule) (b : Nat) (y : Sym) : List Rule := (rs.filter (fun r => decide (r.left = y.n))).map (inlR q b)
theorem inl_join (hy : q.right[b]? = some y) : q.right = q.right.take b ++ y :: q.right.drop (b + 1) := by
  obtain ⟨h, e⟩ := List.getElem?_eq_some_iff.1 hy
  conv => lhs; rw [← List.take_append_drop b q.right, List.drop_eq_getElem_cons h, e]
theorem yl_inline (hq : rs[a]? = some q) (hy : q.right[b]? = some y) (hyt : y.term = false) (hyn : y.n ≠ q.left) {l : List Sym} {i j : Nat} (h : Yl ⟨t, n, rs⟩ tk l i j) : Yl ⟨t, n, rs.take a ++ inlS rs q b y ++ rs.drop (a + 1)⟩ tk l i j := by
  have ha := (List.getElem?_eq_some_iff.1 hq).1
  have other : ∀ z r, rs[z]? = some r → z ≠ a → r ∈ rs.take a ++ inlS rs q b y ++ rs.drop (a + 1) := fun z r hz e => by
    rw [List.mem_append, List.mem_append]
    by_cases h1 : z < a
    · exact .inl (.inl (List.mem_of_getElem? (i := z) (by rw [List.getElem?_take, if_pos h1]; exact hz)))
    · exact .inr (List.mem_of_getElem? (i := z - (a + 1)) (by rw [List.getElem?_drop, show a + 1 + (z - (a + 1)) = z by omega]; exact hz))
  induction h with
  | nil => exact .nil
  | term ht hk _ ih => exact .term ht hk ih
  | @name s l i j k r ht hr hl _ _ ih1 ih2 =>
    obtain ⟨z, hz⟩ := List.getElem?_of_mem hr
    by_cases e : z = a
    · subst e
      have hqr : q = r := Option.some.inj (hq.symm.trans hz)
      subst hqr
      rw [inl_join hy] at ih1
      obtain ⟨m1, h1, h2⟩ := yl_cut ih1
      obtain ⟨m2, h3, h4⟩ := yl_cut (l := [y]) h2
      obtain ⟨r2, h5, h6, h7⟩ := yl_name hyt h3
      have h8 : r2 ∈ rs := by
        rcases List.mem_append.1 h5 with h5 | h5
        · rcases List.mem_append.1 h5 with h5 | h5
          · exact List.mem_of_mem_take h5
          · exfalso
            obtain ⟨r3, _, rfl⟩ := List.mem_map.1 h5
            exact hyn h6.symm
        · exact List.mem_of_mem_drop h5
      refine .name ht (q := inlR q b r2) ?_ hl ?_ ih2
      · exact List.mem_append_left _ (List.mem_append_right _ (List.mem_map_of_mem (List.mem_filter.2 ⟨h8, by simpa using h6⟩)))
      · show Yl _ tk (q.right.take b ++ r2.right ++ q.right.drop (b + 1)) i k
        exact yl_append (yl_append h1 h7) h4
    · exact .name ht (other z r hz e) hl ih1 ih2
theorem yl_uninline (hq : rs[a]? = some q) (hy : q.right[b]? = some y) (hyt : y.term = false) {l : List Sym} {i j : Nat} (h : Yl ⟨t, n, rs.take a ++ inlS rs q b y ++ rs.drop (a + 1)⟩ tk l i j) : Yl ⟨t, n, rs⟩ tk l i j := by
  induction h with
  | nil => exact .nil
  | term ht hk _ ih => exact .term ht hk ih
  | @name s l i j k r ht hr hl _ _ ih1 ih2 =>
    rcases List.mem_append.1 hr with hr | hr
    · rcases List.mem_append.1 hr with hr | hr
      · exact .name ht (List.mem_of_mem_take hr) hl ih1 ih2
      · obtain ⟨r3, h3, rfl⟩ := List.mem_map.1 hr
        obtain ⟨h3, h4⟩ := List.mem_filter.1 h3
        have h4 : r3.left = y.n := by simpa using h4
        refine .name ht (q := q) (List.mem_of_getElem? hq) hl ?_ ih2
        have ih1 : Yl ⟨t, n, rs⟩ tk (q.right.take b ++ r3.right ++ q.right.drop (b + 1)) i k := ih1
        obtain ⟨m2, h5, h6⟩ := yl_cut ih1
        obtain ⟨m1, h7, h8⟩ := yl_cut h5
        rw [inl_join hy]
        exact yl_append h7 (yl_cons (yl_one hyt h3 h4 h8) h6)
    · exact .name ht (List.mem_of_mem_drop hr) hl ih1 ih2
end

/-! ### A name that begins with itself -/
section
variable {t n : Int} {rs : List Rule} {tk : List Int} {a : Int}
def leftS (rs : List Rule) (n a : Int) : List Rule := rs.map (leftR ⟨0, n, []⟩ a) ++ [⟨n, []⟩]
/-- What stands behind a name that begins with itself, again and again. -/
inductive FT (g : Gram) (tk : List Int) (rs : List Rule) (a : Int) : Nat → Nat → Prop
  | nil {i : Nat} : FT g tk rs a i i
  | step {r : Rule} {i m k : Nat} : r ∈ rs → r.left = a → loopsB r = true → Yl g tk r.right.tail i m → FT g tk rs a m k → FT g tk rs a i k
theorem ft_snoc {g : Gram} {r : Rule} {i m k : Nat} (h : FT g tk rs a i m) (hr : r ∈ rs) (hl : r.left = a) (ho : loopsB r = true) (hy : Yl g tk r.right.tail m k) : FT g tk rs a i k := by
  induction h with
  | nil => exact .step hr hl ho hy .nil
  | step h1 h2 h3 h4 _ ih => exact .step h1 h2 h3 h4 (ih hy)
theorem loops_cons {r : Rule} (h : loopsB r = true) : r.right = nameS r.left :: r.right.tail := by
  unfold loopsB at h
  cases hr : r.right with
  | nil => rw [hr] at h; cases h
  | cons s l => rw [hr] at h; simp at h; rw [h]; rfl
theorem leftR_loop {r : Rule} (hl : r.left = a) (ho : loopsB r = true) : leftR ⟨0, n, []⟩ a r = ⟨n, r.right.tail ++ [nameS n]⟩ := by unfold leftR; rw [if_pos hl, if_pos ho]
theorem leftR_end {r : Rule} (hl : r.left = a) (ho : loopsB r = false) : leftR ⟨0, n, []⟩ a r = ⟨r.left, r.right ++ [nameS n]⟩ := by unfold leftR; rw [if_pos hl, if_neg (by rw [ho]; decide)]
theorem leftR_else {r : Rule} (hl : r.left ≠ a) : leftR ⟨0, n, []⟩ a r = r := by unfold leftR; rw [if_neg hl]
theorem ft_yl {i k : Nat} (h : FT ⟨t, n + 1, leftS rs n a⟩ tk rs a i k) : Yl ⟨t, n + 1, leftS rs n a⟩ tk [nameS n] i k := by
  induction h with
  | nil => exact yl_one (q := ⟨n, []⟩) rfl (List.mem_append_right _ (List.mem_singleton.2 rfl)) rfl .nil
  | @step r i m k h1 h2 h3 h4 _ ih =>
    refine yl_one (q := ⟨n, r.right.tail ++ [nameS n]⟩) rfl (List.mem_append_left _ ?_) rfl (yl_append h4 ih)
    rw [← leftR_loop h2 h3]
    exact List.mem_map_of_mem h1
theorem snoc_split {s x : Sym} {l p : List Sym} (h : s :: l = p ++ [x]) : (p = [] ∧ s = x ∧ l = []) ∨ ∃ p', p = s :: p' ∧ l = p' ++ [x] := by
  cases p with
  | nil => simp at h; exact .inl ⟨rfl, h.1, h.2⟩
  | cons y p => simp at h; exact .inr ⟨p, by rw [h.1], h.2⟩
theorem yl_ft (hrng : ∀ r ∈ rs, r.left < n) {l : List Sym} {i j : Nat} (h : Yl ⟨t, n + 1, leftS rs n a⟩ tk l i j) : ∀ p, l = p ++ [nameS n] → ∃ m, Yl ⟨t, n + 1, leftS rs n a⟩ tk p i m ∧ FT ⟨t, n + 1, leftS rs n a⟩ tk rs a m j := by
  induction h with
  | nil => intro p h; simp at h
  | @term s l i j ht hk _ ih =>
    intro p h
    rcases snoc_split h with ⟨_, e, _⟩ | ⟨p', rfl, h2⟩
    · rw [e] at ht; cases ht
    · obtain ⟨m, h3, h4⟩ := ih p' h2
      exact ⟨m, .term ht hk h3, h4⟩
  | @name s l i j k q ht hq hl h1 h2 ih1 ih2 =>
    intro p h
    rcases snoc_split h with ⟨rfl, e, rfl⟩ | ⟨p', rfl, h3⟩
    · cases h2
      rw [e] at hl
      have hl : q.left = n := hl
      rcases List.mem_append.1 hq with hq | hq
      · obtain ⟨r, hr, rfl⟩ := List.mem_map.1 hq
        by_cases hla : r.left = a
        · cases ho : loopsB r with
          | true =>
            rw [leftR_loop hla ho] at ih1
            obtain ⟨m, h4, h5⟩ := ih1 r.right.tail rfl
            exact ⟨i, .nil, .step hr hla ho h4 h5⟩
          | false =>
            rw [leftR_end hla ho] at hl
            exact absurd (hrng r hr) (by rw [show r.left = n from hl]; exact Int.lt_irrefl n)
        · rw [leftR_else hla] at hl
          exact absurd (hrng r hr) (by rw [hl]; exact Int.lt_irrefl n)
      · rw [List.mem_singleton.1 hq] at h1
        cases h1
        exact ⟨i, .nil, .nil⟩
    · obtain ⟨m, h4, h5⟩ := ih2 p' h3
      exact ⟨m, .name ht hq hl h1 h4, h5⟩
theorem yl_left (hrng : ∀ r ∈ rs, r.left < n) {l : List Sym} {i j : Nat} (h : Yl ⟨t, n, rs⟩ tk l i j) : Yl ⟨t, n + 1, leftS rs n a⟩ tk l i j := by
  induction h with
  | nil => exact .nil
  | term ht hk _ ih => exact .term ht hk ih
  | @name s l i j k r ht hr hl _ _ ih1 ih2 =>
    refine yl_cons ?_ ih2
    by_cases hla : r.left = a
    · cases ho : loopsB r with
      | true =>
        rw [loops_cons ho] at ih1
        obtain ⟨m, h1, h2⟩ := yl_cut (l := [nameS r.left]) ih1
        obtain ⟨q, h3, h4, h5⟩ := yl_name rfl h1
        have h4 : q.left = r.left := h4
        rcases List.mem_append.1 h3 with h3 | h3
        · obtain ⟨r2, hr2, rfl⟩ := List.mem_map.1 h3
          by_cases hla2 : r2.left = a
          · cases ho2 : loopsB r2 with
            | true =>
              rw [leftR_loop hla2 ho2] at h4
              exact absurd (hrng r hr) (by rw [← h4]; exact Int.lt_irrefl n)
            | false =>
              rw [leftR_end hla2 ho2] at h5
              obtain ⟨m2, h6, h7⟩ := yl_ft hrng h5 r2.right rfl
              have h8 := ft_yl (ft_snoc h7 hr hla ho h2)
              refine yl_one (q := ⟨r2.left, r2.right ++ [nameS n]⟩) ht (List.mem_append_left _ ?_) (by show r2.left = _; rw [hla2, ← hla, hl]) (yl_append h6 h8)
              rw [← leftR_end hla2 ho2]
              exact List.mem_map_of_mem hr2
          · rw [leftR_else hla2] at h4
            exact absurd (h4.trans hla) hla2
        · rw [List.mem_singleton.1 h3] at h4
          exact absurd (hrng r hr) (by rw [← h4]; exact Int.lt_irrefl n)
      | false =>
        refine yl_one (q := ⟨r.left, r.right ++ [nameS n]⟩) ht (List.mem_append_left _ ?_) hl (yl_append ih1 (ft_yl .nil))
        rw [← leftR_end hla ho]
        exact List.mem_map_of_mem hr
    · refine yl_one (q := r) ht (List.mem_append_left _ ?_) hl ih1
      rw [← leftR_else (n := n) hla]
      exact List.mem_map_of_mem hr
theorem ft_wind {i m k : Nat} (h : FT ⟨t, n, rs⟩ tk rs a m k) (hA : Yl ⟨t, n, rs⟩ tk [nameS a] i m) : Yl ⟨t, n, rs⟩ tk [nameS a] i k := by
  induction h with
  | nil => exact hA
  | @step r m m2 k h1 h2 h3 h4 _ ih =>
    refine ih (yl_one (q := r) rfl h1 h2 ?_)
    rw [loops_cons h3, h2]
    exact yl_cons hA h4
def noF (n : Int) (l : List Sym) : Prop := ∀ s ∈ l, s.term = false → s.n < n
theorem yl_unleft (hrng : ∀ r ∈ rs, r.left < n ∧ noF n r.right) {l : List Sym} {i j : Nat} (h : Yl ⟨t, n + 1, leftS rs n a⟩ tk l i j) :
    (noF n l → Yl ⟨t, n, rs⟩ tk l i j) ∧ ∀ p, l = p ++ [nameS n] → noF n p → ∃ m, Yl ⟨t, n, rs⟩ tk p i m ∧ FT ⟨t, n, rs⟩ tk rs a m j := by
  induction h with
  | nil => exact ⟨fun _ => .nil, fun p h => by simp at h⟩
  | @term s l i j ht hk _ ih =>
    refine ⟨fun hn => .term ht hk (ih.1 fun s' hs' => hn s' (List.mem_cons_of_mem _ hs')), fun p h hn => ?_⟩
    rcases snoc_split h with ⟨_, e, _⟩ | ⟨p', rfl, h2⟩
    · rw [e] at ht; cases ht
    · obtain ⟨m, h3, h4⟩ := ih.2 p' h2 fun s' hs' => hn s' (List.mem_cons_of_mem _ hs')
      exact ⟨m, .term ht hk h3, h4⟩
  | @name s l i j k q ht hq hl h1 h2 ih1 ih2 =>
    have one : s.n < n → Yl ⟨t, n, rs⟩ tk [s] i k := fun hs => by
      rcases List.mem_append.1 hq with hq | hq
      · obtain ⟨r, hr, rfl⟩ := List.mem_map.1 hq
        by_cases hla : r.left = a
        · cases ho : loopsB r with
          | true =>
            rw [leftR_loop hla ho] at hl
            exact absurd hs (by rw [← hl]; exact Int.lt_irrefl n)
          | false =>
            rw [leftR_end hla ho] at ih1 hl
            obtain ⟨m, h3, h4⟩ := ih1.2 r.right rfl (hrng r hr).2
            have e : s = nameS a := by
              obtain ⟨st, sn⟩ := s
              have ht : st = false := ht
              have hl : r.left = sn := hl
              rw [ht, ← hl, hla]; rfl
            rw [e]
            exact ft_wind h4 (yl_one (q := r) rfl hr hla h3)
        · rw [leftR_else hla] at ih1 hl
          exact yl_one ht hr hl (ih1.1 (hrng r hr).2)
      · rw [List.mem_singleton.1 hq] at hl
        exact absurd hs (by rw [← hl]; exact Int.lt_irrefl n)
    refine ⟨fun hn => yl_cons (one (hn s (List.mem_cons_self ..) ht)) (ih2.1 fun s' hs' => hn s' (List.mem_cons_of_mem _ hs')), fun p h hn => ?_⟩
    rcases snoc_split h with ⟨rfl, e, rfl⟩ | ⟨p', rfl, h3⟩
    · cases h2
      rw [e] at hl
      have hl : q.left = n := hl
      rcases List.mem_append.1 hq with hq | hq
      · obtain ⟨r, hr, rfl⟩ := List.mem_map.1 hq
        by_cases hla : r.left = a
        · cases ho : loopsB r with
          | true =>
            rw [leftR_loop hla ho] at ih1
            obtain ⟨m, h4, h5⟩ := ih1.2 r.right.tail rfl fun s' hs' => (hrng r hr).2 s' (List.mem_of_mem_tail hs')
            exact ⟨i, .nil, .step hr hla ho h4 h5⟩
          | false =>
            rw [leftR_end hla ho] at hl
            exact absurd (hrng r hr).1 (by rw [show r.left = n from hl]; exact Int.lt_irrefl n)
        · rw [leftR_else hla] at hl
          exact absurd (hrng r hr).1 (by rw [hl]; exact Int.lt_irrefl n)
      · rw [List.mem_singleton.1 hq] at h1
        cases h1
        exact ⟨i, .nil, .nil⟩
    · obtain ⟨m, h4, h5⟩ := ih2.2 p' h3 fun s' hs' => hn s' (List.mem_cons_of_mem _ hs')
      exact ⟨m, yl_cons (one (hn s (List.mem_cons_self ..) ht)) h4, h5⟩
end
end Go.Sy
