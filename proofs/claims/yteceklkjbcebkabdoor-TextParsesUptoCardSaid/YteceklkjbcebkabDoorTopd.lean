/- From a law's walk to its row: a grammar, a derivation and tokens, opened out of what an argument reads as. No condition. -/
import Derived.Test.YteceklkjbcebkabDoorRows
import Derived.Test.YteceklkjbcebkabDoorPlain
import Derived.ProofKit
import Derived.Lib.SmallJoins
import Derived.Deep.Slices
import Derived.RowKit3
namespace Go.Sy
open Go Go.RowKit Go.Proofs Go.ChangeShapes Go.WideShapes Go.ChangeAt Go.Deep Go.Joins

section
variable {H : Type} {enc : TypeId × Value → H} {P : Program} {w : World} {base : Nat} {spare : Nat → Bool} {held : Bool}

theorem postB {f : Func} {s : ChangeSpec} {apart fresh handsOn again : Bool} {W W' : World} {args : Array Value} {v : Value} {ds gs : List (DataW H)} {before pa pv : List MemPlace}
    (hW : DataW.Whole enc P f.params.toList s.vars apart W args.toList ds gs before)
    (hres : ∀ (b : Nat) (sp : Nat → Bool) (hd : Bool), DataW.TrodAll enc P W' b sp hd f.resultTypes.toList (v.resultList f.resultTypes.size) (s.fn H (ds ++ gs)).results [])
    (hargs : ∀ sp : Nat → Bool, (∀ p ∈ before, sp p.block = true) → DataW.TrodAll enc P W' 0 sp true f.params.toList args.toList (s.fn H (ds ++ gs)).args pa)
    (hvars : ∀ sp : Nat → Bool, (∀ p ∈ before, sp p.block = true) → DataW.TrodVars enc P W' sp s.vars (s.fn H (ds ++ gs)).vars pv)
    (hps : before = pa ++ pv) (hb : Below W.heap.size W W')
    (hok : ∀ (j : Nat) (t : TypeId) (r : Value), f.resultTypes[j]? = some t → (v.resultList f.resultTypes.size)[j]? = some r → Value.okWide P W' .any 0 t r) :
    s.post enc P f apart fresh handsOn again W args v W' := by
  have hlt : ∀ p ∈ before, p.block < W.heap.size := fun p hp => hW.lt p hp
  have hold : ∀ p ∈ before, (fun b => decide (b < W.heap.size)) p.block = true := fun p hp => by simpa using hlt p hp
  refine ⟨ds, gs, before, [], pa, pv, hW, hres _ _ _, hargs _ hold, hvars _ hold, World.keptBut_mono (fun p hp => ⟨hp, ?_⟩) (hb.frame (· ∈ before)), fun _ => ?_⟩
  · rw [hps, List.mem_append] at hp
    exact Or.inr hp
  · obtain ⟨_, _, _, _, _, hz, hn⟩ := hW
    refine ⟨hok, _, _, ([] ++ pa) ++ pv, ⟨[] ++ pa, pv, trodAll_append (hargs _ (fun _ _ => rfl)) (hres _ _ _), hvars _ (fun _ _ => rfl), rfl, ?_, ?_⟩, ?_⟩
    · intro b off hp
      have hin : MemPlace.cell b off ∈ before := by rw [hps]; simpa using hp
      rw [hb.frozen (hlt _ hin)]
      exact hz b off hin
    · intro ha
      have := hn ha
      rw [hps] at this
      simpa using this
    · intro p hp _
      rw [hps]
      simpa using hp

/-- A list out of what holds of each index. -/
theorem list_of {α : Type} {n : Nat} {p : Nat → α → Prop} (h : ∀ i, i < n → ∃ x, p i x) : ∃ l : List α, l.length = n ∧ ∀ i x, l[i]? = some x → p i x := by
  induction n with
  | zero => exact ⟨[], rfl, fun i x hx => by cases hx⟩
  | succ n ih =>
    obtain ⟨l, hl, hp⟩ := ih fun i hi => h i (by omega)
    obtain ⟨x, hx⟩ := h n (by omega)
    refine ⟨l ++ [x], by simp [hl], fun i y hy => ?_⟩
    by_cases hi : i < l.length
    · rw [List.getElem?_append_left hi] at hy
      exact hp i y hy
    · rw [List.getElem?_append_right (by omega)] at hy
      have : i - l.length = 0 := by
        rcases Nat.eq_zero_or_pos (i - l.length) with h0 | h0
        · exact h0
        · rw [List.getElem?_eq_none (by simp; omega)] at hy; cases hy
      rw [this] at hy
      simp only [List.getElem?_cons_zero, Option.some.injEq] at hy
      subst hy
      have : i = n := by omega
      subst this
      exact hx

/-- A slice out of what it reads as. -/
theorem open_sl {t e sz : Nat} {fuel : Nat} {v : Value} {x : DataW H × List MemPlace} {α : Type} {at_ : Addr → α → Prop} (ht : P.underlying t = some (.slice e)) (hs : P.cellsOf e = sz) (h : DataW.trod enc P w base spare held fuel t [v] = some x)
    (he : ∀ (p : Addr) (cs : List Value) (n : Nat) (y : DataW H × List MemPlace), (∀ j u, cs[j]? = some u → w.cell? (p.add j) = some u) → DataW.trod enc P w base spare held n e cs = some y → ∃ x, at_ p x) : ∃ l : List α, SlAt (Cl w) sz v at_ l := by
  rcases open_slice ht h with ⟨hcs, _⟩ | ⟨a, len, cap, m, n, D, Pl, hcs, _, hl, hm, hmm, _, hx⟩
  · simp only [List.cons.injEq, and_true] at hcs
    subst hcs
    exact ⟨[], none, 0, rfl, Nat.le_refl _, by omega, fun k x hx => by cases hx⟩
  · simp only [List.cons.injEq, and_true] at hcs
    subst hcs
    have hlm : len ≤ m := by rw [hmm]; split <;> omega
    obtain ⟨l, hll, hp⟩ := list_of (n := len) (p := fun i x => at_ (a.add (i * sz)) x) fun i hi => by
      obtain ⟨cs', hc, ht'⟩ := hx i (by omega)
      obtain ⟨_, hlen, hat⟩ := World.cells?_some hc
      rw [hs] at hc hat hlen
      exact he _ cs' n _ (fun j u hj => by
        have hj' : j < cs'.length := (List.getElem?_eq_some_iff.1 hj).1
        have := hat j (by omega)
        rw [this]; exact hj) ht'
    refine ⟨l, some a, cap, by rw [hll], by omega, by simp only [maxLen] at hm; omega, fun k x hx => ⟨a, rfl, hp k x hx⟩⟩

theorem open_syms {t e : Nat} {f0 f1 : Field} {fuel : Nat} {v : Value} {x : DataW H × List MemPlace} (ht : P.underlying t = some (.slice e)) (hs : P.cellsOf e = 2) (he : P.underlying e = some (.struct #[f0, f1]))
    (h0 : P.underlying f0.type = some .bool) (o0 : f0.offset = 0) (h1 : P.underlying f1.type = some (.int .i64)) (o1 : f1.offset = 1) (c0 : P.cellsOf f0.type = 1) (c1 : P.cellsOf f1.type = 1)
    (h : DataW.trod enc P w base spare held fuel t [v] = some x) : ∃ l, SymsAt (Cl w) v l := by
  refine open_sl ht hs h fun p cs n y hat hy => ?_
  obtain ⟨xs, m, _, _, hlen, hxl, hf⟩ := DataW.trod_struct he hy
  rw [hs] at hlen
  match cs, hlen with
  | [u0, u1], _ =>
    match xs, hxl with
    | [y0, y1], _ =>
      have g0 := hf 0 f0 rfl
      have g1 := hf 1 f1 rfl
      simp only [o0, o1, c0, c1, List.drop, List.take] at g0 g1
      obtain ⟨b, e0, _⟩ := DataW.trod_bool h0 g0
      obtain ⟨i, e1, _, _⟩ := DataW.trod_int h1 g1
      simp only [List.cons.injEq, and_true] at e0 e1
      subst e0; subst e1
      exact ⟨⟨b, i⟩, fun j u hj => hat j u hj⟩

theorem open_rules {t e es : Nat} {g0 g1 f0 f1 : Field} {fuel : Nat} {v : Value} {x : DataW H × List MemPlace} (ht : P.underlying t = some (.slice e)) (hs : P.cellsOf e = 2) (he : P.underlying e = some (.struct #[g0, g1]))
    (k0 : P.underlying g0.type = some (.int .i64)) (q0 : g0.offset = 0) (k1 : P.underlying g1.type = some (.slice es)) (q1 : g1.offset = 1) (d0 : P.cellsOf g0.type = 1) (d1 : P.cellsOf g1.type = 1)
    (hs2 : P.cellsOf es = 2) (he2 : P.underlying es = some (.struct #[f0, f1]))
    (h0 : P.underlying f0.type = some .bool) (o0 : f0.offset = 0) (h1 : P.underlying f1.type = some (.int .i64)) (o1 : f1.offset = 1) (c0 : P.cellsOf f0.type = 1) (c1 : P.cellsOf f1.type = 1)
    (h : DataW.trod enc P w base spare held fuel t [v] = some x) : ∃ l, RulesAt (Cl w) v l := by
  refine open_sl ht hs h fun p cs n y hat hy => ?_
  obtain ⟨xs, m, _, _, hlen, hxl, hf⟩ := DataW.trod_struct he hy
  rw [hs] at hlen
  match cs, hlen with
  | [u0, u1], _ =>
    match xs, hxl with
    | [y0, y1], _ =>
      have a0 := hf 0 g0 rfl
      have a1 := hf 1 g1 rfl
      simp only [q0, q1, d0, d1, List.drop, List.take] at a0 a1
      obtain ⟨i, e0, _, _⟩ := DataW.trod_int k0 a0
      simp only [List.cons.injEq, and_true] at e0
      subst e0
      obtain ⟨l, hl⟩ := open_syms k1 hs2 he2 h0 o0 h1 o1 c0 c1 a1
      exact ⟨⟨i, l⟩, u1, hl, fun j u hj => hat j u hj⟩

theorem open_intsl {t e : Nat} {v : Value} {d : DataW H} {p : List MemPlace} (ht : P.underlying t = some (.slice e)) (he : P.underlying e = some (.int .i64)) (hs : P.cellsOf e = 1) (hv : ∃ a n c, v = .slice a n c)
    (h : DataW.Trod enc P w base spare held t v d p) : ∃ l, IntsAt (Cl w) v l := by
  obtain ⟨a, n, c, rfl⟩ := hv
  obtain ⟨fuel, hf⟩ := h
  refine open_sl ht hs (by simpa [Value.cells] using hf) fun p cs n y hat hy => ?_
  obtain ⟨i, e0, _, _⟩ := DataW.trod_int he hy
  subst e0
  refine ⟨i, ?_⟩
  have := hat 0 _ rfl
  rwa [Addr.add_zero'] at this
end

theorem Tryd.own : ownKnob Tryd.prog.godebug = none := by kernel_rfl
theorem Tryd.laidOut : laidOutB Tryd.prog = true := by kernel_rfl
theorem Tryd.cG : Tryd.prog.cellsOf 24 = 3 := by kernel_rfl
theorem Tryd.cR : Tryd.prog.cellsOf 50 = 2 := by kernel_rfl
theorem Tryd.cS : Tryd.prog.cellsOf 53 = 2 := by kernel_rfl
theorem Tryd.cI : Tryd.prog.cellsOf 3 = 1 := by kernel_rfl
theorem Tryd.cB : Tryd.prog.cellsOf 4 = 1 := by kernel_rfl
theorem Tryd.cRs : Tryd.prog.cellsOf 22 = 1 := by kernel_rfl
theorem Tryd.cSs : Tryd.prog.cellsOf 48 = 1 := by kernel_rfl
theorem Tryd.oneG : oneCellFields Tryd.prog #[⟨"Terms", 3, 0, false, "", "", 0⟩, ⟨"Names", 3, 1, false, "", "", 8⟩, ⟨"Rules", 22, 2, false, "", "", 16⟩] = true := by kernel_rfl
theorem Tryd.readG : Tryd.prog.readableRec 24 = true := by kernel_rfl
theorem Tryd.ltG : 24 < Tryd.prog.types.size := by rw [Tryd.types_size]; decide

section
variable {H : Type} {enc : TypeId × Value → H}
set_option maxRecDepth 100000 in
/-- A grammar that comes in. -/
theorem open_gram {W : World} {base b0 : Nat} {spare : Nat → Bool} {held : Bool} {v : Value} {d : DataW H} {p : List MemPlace} (hv : Value.okWide Tryd.prog W .any b0 24 v) (h : DataW.Trod enc Tryd.prog W base spare held 24 v d p) :
    ∃ g : Gram, GramAt (Cl W) v g := by
  obtain ⟨v0, v1, v2, y0, y1, y2, n, rfl, _, _, h0, h1, h2⟩ := open_agg3 Tryd.underlying24 Tryd.oneG Tryd.cG hv h
  obtain ⟨i0, e0, _, _⟩ := DataW.trod_int Tryd.underlying3 h0
  obtain ⟨i1, e1, _, _⟩ := DataW.trod_int Tryd.underlying3 h1
  simp only [List.cons.injEq, and_true] at e0 e1
  subst e0; subst e1
  obtain ⟨l, hl⟩ := open_rules Tryd.underlying22 Tryd.cR Tryd.underlying50 Tryd.underlying3 rfl Tryd.underlying48 rfl Tryd.cI Tryd.cSs Tryd.cS Tryd.underlying53 Tryd.underlying4 rfl Tryd.underlying3 rfl Tryd.cB Tryd.cI h2
  exact ⟨⟨i0, i1, l⟩, v2, rfl, hl⟩
end
end Go.Sy
