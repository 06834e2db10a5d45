/- Rounds over constraints: so many rounds as there are cells close a column. No condition. -/
import Derived.Test.YteceklkjbcebkabPSets
namespace Go.Sy
open Go

structure Con where
  cond : List Bool → Bool
  tgt : Int
def ClosedK (ks : List Con) (c : List Bool) : Prop := ∀ k ∈ ks, k.cond c = true → atB c k.tgt = true
structure RI (all done : List Con) (c0 c1 : List Bool) : Prop where
  len : c1.length = c0.length
  le : fls c1 ≤ fls c0
  keep : ClosedK all c0 → c1 = c0
  same : fls c1 = fls c0 → c1 = c0 ∧ ClosedK done c0

theorem RI.start (all : List Con) (c : List Bool) : RI all [] c c := ⟨rfl, Nat.le_refl _, fun _ => rfl, fun _ => ⟨rfl, fun k hk => by cases hk⟩⟩
theorem RI.step {all done : List Con} {c0 c1 : List Bool} (h : RI all done c0 c1) {k : Con} (hk : k ∈ all) (h0 : 0 ≤ k.tgt) (h1 : k.tgt < c0.length) : RI all (done ++ [k]) c0 (if k.cond c1 = true then c1.set k.tgt.toNat true else c1) := by
  have hl : k.tgt < (c1.length : Int) := by rw [h.len]; exact h1
  split
  · rename_i hc
    cases hb : atB c1 k.tgt with
    | true =>
      rw [show c1.set k.tgt.toNat true = c1 by
        have hg := atB_get h0 hl
        rw [hb] at hg
        apply List.ext_getElem?
        intro i
        rw [List.getElem?_set]
        split
        · rename_i e; subst e; rw [if_pos (by omega), hg]
        · rfl]
      refine ⟨h.len, h.le, h.keep, fun e => ⟨(h.same e).1, fun q hq hqc => ?_⟩⟩
      rcases List.mem_append.1 hq with hq | hq
      · exact (h.same e).2 q hq hqc
      · rw [List.mem_singleton.1 hq, ← (h.same e).1]; exact hb
    | false =>
      have hlt := fls_set (is := c1) (m := k.tgt.toNat) (by rw [atB_get h0 hl, hb])
      have hle := h.le
      refine ⟨by rw [List.length_set]; exact h.len, by omega, fun hcl => ?_, fun e => by omega⟩
      have e := h.keep hcl
      rw [e] at hc hb
      rw [hcl k hk hc] at hb
      cases hb
  · rename_i hc
    refine ⟨h.len, h.le, h.keep, fun e => ⟨(h.same e).1, fun q hq hqc => ?_⟩⟩
    rcases List.mem_append.1 hq with hq | hq
    · exact (h.same e).2 q hq hqc
    · rw [List.mem_singleton.1 hq, ← (h.same e).1] at hqc; exact absurd hqc hc
theorem RI.skip {all done : List Con} {c0 c1 : List Bool} (h : RI all done c0 c1) : RI all (done ++ []) c0 c1 := by rw [List.append_nil]; exact h
/-- A round's end. -/
theorem RI.round {all : List Con} {c0 c1 : List Bool} {j N : Nat} (h : RI all all c0 c1) (hj : ClosedK all c0 ∨ fls c0 + j ≤ N) : ClosedK all c1 ∨ fls c1 + (j + 1) ≤ N := by
  rcases hj with hj | hj
  · rw [h.keep hj]; exact .inl hj
  · by_cases e : fls c1 = fls c0
    · have := h.same e
      rw [this.1]; exact .inl this.2
    · have := h.le
      exact .inr (by omega)
theorem fls_le : ∀ c : List Bool, fls c ≤ c.length
  | [] => Nat.le_refl _
  | b :: c => by
    have := fls_le c
    simp only [fls, List.length_cons]
    split <;> omega

/-- A table's column. -/
def colL (f : List (List Bool)) (t : Int) : List Bool := f.map (fun l => atB l t)
theorem colL_len (f : List (List Bool)) (t : Int) : (colL f t).length = f.length := by unfold colL; rw [List.length_map]
theorem colL_at {f : List (List Bool)} {n t : Int} (h0 : 0 ≤ n) (h1 : n < f.length) : atB (colL f t) n = at2 f n t := by
  have h2 := atB_get (is := colL f t) h0 (by rw [colL_len]; exact h1)
  have h3 := row2_get (tab := f) h0 h1
  unfold colL at h2
  rw [List.getElem?_map, h3] at h2
  exact (Option.some.inj h2).symm
theorem colL_put {f : List (List Bool)} {n t u : Int} (h0 : 0 ≤ n) (h1 : n < f.length) (ht : 0 ≤ t) (ht1 : t < (row2 f n).length) (hu : 0 ≤ u) : colL (put2 f n t) u = if u = t then (colL f u).set n.toNat true else colL f u := by
  unfold put2 colL
  rw [List.map_set, atB_set' ht ht1 hu]
  split
  · rfl
  · have h3 := row2_get (tab := f) h0 h1
    apply List.ext_getElem?
    intro i
    rw [List.getElem?_set]
    split
    · rename_i e
      subst e
      rw [List.getElem?_map, h3, if_pos (by rw [List.length_map]; omega)]; rfl
    · rfl

/-! ### The constraints of a grammar -/
def nullK (r : Rule) : Con := ⟨fun c => nullB c r.right, r.left⟩
def begC (nl c : List Bool) : List Sym → Int → Bool
  | [], _ => false
  | s :: l, t => if s.term = true then decide (s.n = t) else atB c s.n || (atB nl s.n && begC nl c l t)
theorem begC_eq {nl : List Bool} {f : List (List Bool)} {t : Int} : ∀ {l : List Sym}, (∀ s ∈ l, s.term = false → 0 ≤ s.n ∧ s.n < f.length) → begC nl (colL f t) l t = begB nl f l t
  | [], _ => rfl
  | s :: l, h => by
    rw [begB_cons]
    unfold begC
    rw [begC_eq (l := l) (fun q hq => h q (List.mem_cons_of_mem _ hq))]
    split
    · rfl
    · rename_i ht
      have := h s (by simp) (by simpa using ht)
      rw [colL_at this.1 this.2]
def firstK (nl : List Bool) (t : Int) (r : Rule) : Con := ⟨fun c => begC nl c r.right t, r.left⟩
def followK (g : Gram) (nl : List Bool) (fs : List (List Bool)) (t : Int) (r : Rule) (k : Nat) (s : Sym) : Con :=
  ⟨fun c => (decide (t < g.terms) && begB nl fs (r.right.drop (k + 1)) t) || (nullB nl (r.right.drop (k + 1)) && atB c r.left), s.n⟩
/-- Of a rule's first symbols. -/
def folKs (g : Gram) (nl : List Bool) (fs : List (List Bool)) (t : Int) (r : Rule) : Nat → List Con
  | 0 => []
  | m + 1 => folKs g nl fs t r m ++ (match r.right[m]? with | some s => if s.term = true then [] else [followK g nl fs t r m s] | none => [])
theorem folKs_mem {g : Gram} {nl : List Bool} {fs : List (List Bool)} {t : Int} {r : Rule} {k : Nat} {s : Sym} (hs : r.right[k]? = some s) (ht : s.term = false) : ∀ {m : Nat}, k < m → followK g nl fs t r k s ∈ folKs g nl fs t r m
  | 0, h => absurd h (Nat.not_lt_zero _)
  | m + 1, h => by
    unfold folKs
    by_cases e : k = m
    · subst e
      rw [hs]
      simp [ht]
    · exact List.mem_append_left _ (folKs_mem hs ht (by omega))
def KN (g : Gram) : List Con := g.rules.map nullK
def KF (g : Gram) (nl : List Bool) (t : Int) : List Con := g.rules.map (firstK nl t)
def KO (g : Gram) (nl : List Bool) (fs : List (List Bool)) (t : Int) : List Con := g.rules.flatMap fun r => folKs g nl fs t r r.right.length

theorem nc_of {g : Gram} {n : List Bool} (h : ClosedK (KN g) n) : NC g n := fun r hr hn => h (nullK r) (List.mem_map.2 ⟨r, hr, rfl⟩) hn
theorem fc_of {g : Gram} {nl : List Bool} {f : List (List Bool)} (hb : ∀ r ∈ g.rules, (0 ≤ r.left ∧ r.left < f.length) ∧ ∀ s ∈ r.right, s.term = false → 0 ≤ s.n ∧ s.n < f.length) (h : ∀ u : Int, 0 ≤ u → u < g.terms → ClosedK (KF g nl u) (colL f u)) : FC g nl f := by
  intro r hr t h0 h1 hbeg
  have := h t h0 h1 (firstK nl t r) (List.mem_map.2 ⟨r, hr, rfl⟩) (by show begC nl (colL f t) r.right t = true; rw [begC_eq (hb r hr).2]; exact hbeg)
  rwa [show atB (colL f t) (firstK nl t r).tgt = at2 f r.left t from colL_at (hb r hr).1.1 (hb r hr).1.2] at this
theorem oc_of {g : Gram} {nl : List Bool} {fs f : List (List Bool)} (hb : ∀ r ∈ g.rules, (0 ≤ r.left ∧ r.left < f.length) ∧ ∀ s ∈ r.right, s.term = false → 0 ≤ s.n ∧ s.n < f.length) (h : ∀ u : Int, 0 ≤ u → u ≤ g.terms → ClosedK (KO g nl fs u) (colL f u)) : OC g nl fs f := by
  intro r hr k s hs ht t h0
  have hsb := (hb r hr).2 s (List.mem_of_getElem? hs) ht
  have hm : ∀ u, followK g nl fs u r k s ∈ KO g nl fs u := fun u => List.mem_flatMap.2 ⟨r, hr, folKs_mem hs ht (List.getElem?_eq_some_iff.1 hs).1⟩
  have key : t ≤ g.terms → (followK g nl fs t r k s).cond (colL f t) = true → at2 f s.n t = true := fun h1 hc => by
    have := h t h0 h1 _ (hm t) hc
    rwa [show atB (colL f t) (followK g nl fs t r k s).tgt = at2 f s.n t from colL_at hsb.1 hsb.2] at this
  refine ⟨fun h1 hbeg => key (by omega) ?_, fun h1 hn hl => key h1 ?_⟩
  · simp [followK, hbeg, h1]
  · have e := colL_at (f := f) (t := t) (hb r hr).1.1 (hb r hr).1.2
    simp [followK, hn, e, hl]
end Go.Sy
