/- A derivation, gone through in plain terms: what is still to come, the next one first. No condition. -/
import Derived.Test.YteceklkjbcebkabPShort
namespace Go.Sy
open Go

structure Itm where
  s : Sym
  close : Bool
  span : Int
structure Spn where
  rule : Int
  frm : Int
  to : Int
  deriving DecidableEq

abbrev mkS (s : Sym) : Itm := ⟨s, false, 0⟩
abbrev mkC (k : Int) : Itm := ⟨⟨false, 0⟩, true, k⟩

/-- What comes of it, or nothing: it is no derivation. -/
inductive Thru (g : Gram) (d : List Int) : List Itm → Nat → List Int → List Spn → Option (List Int × List Spn) → Prop
  | done {used : Nat} {out : List Int} {sp : List Spn} : used = d.length → Thru g d [] used out sp (some (out, sp))
  | short {used : Nat} {out : List Int} {sp : List Spn} : used ≠ d.length → Thru g d [] used out sp none
  | close {it : Itm} {st : List Itm} {used : Nat} {out : List Int} {sp : List Spn} {x : Spn} {r : Option (List Int × List Spn)} : it.close = true → sp[it.span.toNat]? = some x →
      Thru g d st used out (sp.set it.span.toNat ⟨x.rule, x.frm, out.length⟩) r → Thru g d (it :: st) used out sp r
  | term {it : Itm} {st : List Itm} {used : Nat} {out : List Int} {sp : List Spn} {r : Option (List Int × List Spn)} : it.close = false → it.s.term = true →
      Thru g d st used (out ++ [it.s.n]) sp r → Thru g d (it :: st) used out sp r
  | bad {it : Itm} {st : List Itm} {used : Nat} {out : List Int} {sp : List Spn} : it.close = false → it.s.term = false →
      (∀ x q, d[used]? = some x → 0 ≤ x → g.rules[x.toNat]? = some q → q.left ≠ it.s.n) → Thru g d (it :: st) used out sp none
  | rule {it : Itm} {st : List Itm} {used : Nat} {out : List Int} {sp : List Spn} {x : Int} {q : Rule} {r : Option (List Int × List Spn)} : it.close = false → it.s.term = false →
      d[used]? = some x → 0 ≤ x → g.rules[x.toNat]? = some q → q.left = it.s.n →
      Thru g d (q.right.map mkS ++ mkC used :: st) (used + 1) out (sp ++ [⟨x, out.length, 0⟩]) r → Thru g d (it :: st) used out sp r

abbrev open0 : List Itm := [⟨⟨false, 0⟩, false, 0⟩]

/-- What must still be yielded. -/
def syms (st : List Itm) : List Sym := (st.filter (fun i => !i.close)).map (·.s)
theorem syms_rule (l : List Sym) (k : Int) (st : List Itm) : syms (l.map mkS ++ mkC k :: st) = l ++ syms st := by
  unfold syms
  rw [List.filter_append, List.map_append, List.filter_cons, if_neg (by simp)]
  congr 1
  induction l with
  | nil => rfl
  | cons s l ih => simp only [List.map_cons, List.filter_cons, Bool.not_false, if_true]; rw [ih]

theorem ylds_append {g : Gram} : ∀ {l m : List Sym} {k : Nat}, Ylds g (l ++ m) k → ∃ i j, Ylds g l i ∧ Ylds g m j ∧ k = i + j
  | [], m, k, h => ⟨0, k, .nil, h, by omega⟩
  | s :: l, m, k, h => by
    rw [List.cons_append] at h
    cases h with
    | term h =>
      obtain ⟨i, j, h1, h2, h3⟩ := ylds_append h
      exact ⟨_, j, .term h1, h2, by omega⟩
    | name hr h1 h2 =>
      obtain ⟨i, j, h3, h4, h5⟩ := ylds_append h2
      exact ⟨_, j, .name hr h1 h3, h4, by omega⟩

theorem thru_ylds {g : Gram} {d : List Int} {st : List Itm} {used : Nat} {out : List Int} {sp : List Spn} {r : Option (List Int × List Spn)} (h : Thru g d st used out sp r) : ∀ o s, r = some (o, s) → ∃ k, Ylds g (syms st) k ∧ o.length = out.length + k := by
  induction h with
  | done _ => intro o s h; simp only [Option.some.injEq, Prod.mk.injEq] at h; obtain ⟨rfl, rfl⟩ := h; exact ⟨0, .nil, rfl⟩
  | short _ => intro o s h; cases h
  | @close it st used out sp x r hc _ _ ih =>
    intro o s h
    obtain ⟨k, h1, h2⟩ := ih o s h
    refine ⟨k, ?_, h2⟩
    unfold syms
    rw [List.filter_cons, if_neg (by simp [hc])]
    exact h1
  | @term it st used out sp r hc ht _ ih =>
    intro o s h
    obtain ⟨k, h1, h2⟩ := ih o s h
    refine ⟨k + 1, ?_, by rw [h2, List.length_append, List.length_singleton]; omega⟩
    unfold syms
    rw [List.filter_cons, if_pos (by simp [hc]), List.map_cons]
    obtain ⟨⟨t, n⟩, c, s⟩ := it
    simp only at ht
    subst ht
    exact .term h1
  | bad _ _ _ => intro o s h; cases h
  | @rule it st used out sp x q r hc ht hd h0 hq hl _ ih =>
    intro o s h
    obtain ⟨k, h1, h2⟩ := ih o s h
    rw [syms_rule] at h1
    obtain ⟨i, j, h3, h4, h5⟩ := ylds_append h1
    refine ⟨i + j, ?_, by omega⟩
    unfold syms
    rw [List.filter_cons, if_pos (by simp [hc]), List.map_cons]
    obtain ⟨⟨t, n⟩, c, s⟩ := it
    simp only at ht hl
    subst ht
    subst hl
    exact .name (List.mem_of_getElem? hq) h3 h4

abbrev encO : Itm → List Value := fun i => [vb i.s.term, vi i.s.n, vb i.close, vi i.span]
abbrev encS : Spn → List Value := fun s => [vi s.rule, vi s.frm, vi s.to]
/-- What 'Through' tells. -/
structure TR where
  v1 : Value
  v2 : Value
  out : List Int
  sp : List Spn
  ok : Bool
def ThruOk (g : Gram) (d : List Int) (x : TR) : Prop :=
  (x.ok = true → mayB g = true ∧ d.length ≤ 400 ∧ Thru g d open0 0 [] [] (some (x.out, x.sp))) ∧ (x.ok = false → mayB g = true → d.length ≤ 400 → Thru g d open0 0 [] [] none)

theorem thru_det {g : Gram} {d : List Int} {st : List Itm} {used : Nat} {out : List Int} {sp : List Spn} {r : Option (List Int × List Spn)} (h : Thru g d st used out sp r) : ∀ r', Thru g d st used out sp r' → r = r' := by
  induction h with
  | done h => intro r' h'; cases h' with | done => rfl | short h2 => exact absurd h h2
  | short h => intro r' h'; cases h' with | done h2 => exact absurd h2 h | short => rfl
  | close hc hx _ ih =>
    intro r' h'
    cases h' with
    | close _ hx' h2 => rw [hx] at hx'; cases hx'; exact ih _ h2
    | term h1 _ _ => rw [hc] at h1; cases h1
    | bad h1 _ _ => rw [hc] at h1; cases h1
    | rule h1 _ _ _ _ _ _ => rw [hc] at h1; cases h1
  | term hc ht _ ih =>
    intro r' h'
    cases h' with
    | close h1 _ _ => rw [hc] at h1; cases h1
    | term _ _ h2 => exact ih _ h2
    | bad _ h1 _ => rw [ht] at h1; cases h1
    | rule _ h1 _ _ _ _ _ => rw [ht] at h1; cases h1
  | bad hc ht hb =>
    intro r' h'
    cases h' with
    | close h1 _ _ => rw [hc] at h1; cases h1
    | term _ h1 _ => rw [ht] at h1; cases h1
    | bad _ _ _ => rfl
    | rule _ _ h1 h2 h3 h4 _ => exact absurd h4 (hb _ _ h1 h2 h3)
  | rule hc ht hd h0 hq hl _ ih =>
    intro r' h'
    cases h' with
    | close h1 _ _ => rw [hc] at h1; cases h1
    | term _ h1 _ => rw [ht] at h1; cases h1
    | bad _ _ hb => exact absurd hl (hb _ _ hd h0 hq)
    | rule _ _ h1 h2 h3 h4 h5 =>
      rw [hd] at h1; cases h1
      rw [hq] at h3; cases h3
      exact ih _ h5
end Go.Sy
