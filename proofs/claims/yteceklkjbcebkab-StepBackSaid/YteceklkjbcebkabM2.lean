/- Walks and plain laws, part 2. No condition. -/
import Derived.Test.YteceklkjbcebkabRows
import Derived.ProofKit
import Derived.Lib.SmallJoins
import Derived.Deep.Slices
import Derived.RowKit3
import Derived.Test.YteceklkjbcebkabProg
import Derived.Test.YteceklkjbcebkabM1
/- From a law's walk to its row: a grammar, a derivation and tokens, opened out of what an argument reads as. No condition. -/
namespace Go.Sy
open Go Go.RowKit Go.Proofs Go.ChangeShapes Go.WideShapes Go.ChangeAt Go.Deep Go.Joins

section
variable {H : Type} {enc : TypeId × Value → H} {P : Program} {w : World} {base : Nat} {spare : Nat → Bool} {held : Bool}

theorem postB {f : Func} {s : ChangeSpec} {apart fresh handsOn again : Bool} {W W' : World} {args : Array Value} {v : Value} {ds gs : List (DataW H)} {before pa pv : List MemPlace}
    (hW : DataW.Whole enc P f.params.toList s.vars apart W args.toList ds gs before)
    (hres : ∀ (b : Nat) (sp : Nat → Bool) (hd : Bool), DataW.TrodAll enc P W' b sp hd f.resultTypes.toList (v.resultList f.resultTypes.size) (s.fn H (ds ++ gs)).results [])
    (hargs : ∀ sp : Nat → Bool, (∀ p ∈ before, sp p.block = true) → DataW.TrodAll enc P W' 0 sp true f.params.toList args.toList (s.fn H (ds ++ gs)).args pa)
    (hvars : ∀ sp : Nat → Bool, (∀ p ∈ before, sp p.block = true) → DataW.TrodVars enc P W' sp s.vars (s.fn H (ds ++ gs)).vars pv)
    (hps : before = pa ++ pv) (hb : Below W.heap.size W W')
    (hok : ∀ (j : Nat) (t : TypeId) (r : Value), f.resultTypes[j]? = some t → (v.resultList f.resultTypes.size)[j]? = some r → Value.okWide P W' .any 0 t r) :
    s.post enc P f apart fresh handsOn again W args v W' := by
  have hlt : ∀ p ∈ before, p.block < W.heap.size := fun p hp => hW.lt p hp
  have hold : ∀ p ∈ before, (fun b => decide (b < W.heap.size)) p.block = true := fun p hp => by simpa using hlt p hp
  refine ⟨ds, gs, before, [], pa, pv, hW, hres _ _ _, hargs _ hold, hvars _ hold, World.keptBut_mono (fun p hp => ⟨hp, ?_⟩) (hb.frame (· ∈ before)), fun _ => ?_⟩
  · rw [hps, List.mem_append] at hp
    exact Or.inr hp
  · obtain ⟨_, _, _, _, _, hz, hn⟩ := hW
    refine ⟨hok, _, _, ([] ++ pa) ++ pv, ⟨[] ++ pa, pv, trodAll_append (hargs _ (fun _ _ => rfl)) (hres _ _ _), hvars _ (fun _ _ => rfl), rfl, ?_, ?_⟩, ?_⟩
    · intro b off hp
      have hin : MemPlace.cell b off ∈ before := by rw [hps]; simpa using hp
      rw [hb.frozen (hlt _ hin)]
      exact hz b off hin
    · intro ha
      have := hn ha
      rw [hps] at this
      simpa using this
    · intro p hp _
      rw [hps]
      simpa using hp

/-- A list out of what holds of each index. -/
theorem list_of {α : Type} {n : Nat} {p : Nat → α → Prop} (h : ∀ i, i < n → ∃ x, p i x) : ∃ l : List α, l.length = n ∧ ∀ i x, l[i]? = some x → p i x := by
  induction n with
  | zero => exact ⟨[], rfl, fun i x hx => by cases hx⟩
  | succ n ih =>
    obtain ⟨l, hl, hp⟩ := ih fun i hi => h i (by omega)
    obtain ⟨x, hx⟩ := h n (by omega)
    refine ⟨l ++ [x], by simp [hl], fun i y hy => ?_⟩
    by_cases hi : i < l.length
    · rw [List.getElem?_append_left hi] at hy
      exact hp i y hy
    · rw [List.getElem?_append_right (by omega)] at hy
      have : i - l.length = 0 := by
        rcases Nat.eq_zero_or_pos (i - l.length) with h0 | h0
        · exact h0
        · rw [List.getElem?_eq_none (by simp; omega)] at hy; cases hy
      rw [this] at hy
      simp only [List.getElem?_cons_zero, Option.some.injEq] at hy
      subst hy
      have : i = n := by omega
      subst this
      exact hx

/-- A slice out of what it reads as. -/
theorem open_sl {t e sz : Nat} {fuel : Nat} {v : Value} {x : DataW H × List MemPlace} {α : Type} {at_ : Addr → α → Prop} (ht : P.underlying t = some (.slice e)) (hs : P.cellsOf e = sz) (h : DataW.trod enc P w base spare held fuel t [v] = some x)
    (he : ∀ (p : Addr) (cs : List Value) (n : Nat) (y : DataW H × List MemPlace), (∀ j u, cs[j]? = some u → w.cell? (p.add j) = some u) → DataW.trod enc P w base spare held n e cs = some y → ∃ x, at_ p x) : ∃ l : List α, SlAt (Cl w) sz v at_ l := by
  rcases open_slice ht h with ⟨hcs, _⟩ | ⟨a, len, cap, m, n, D, Pl, hcs, _, hl, hm, hmm, _, hx⟩
  · simp only [List.cons.injEq, and_true] at hcs
    subst hcs
    exact ⟨[], none, 0, rfl, Nat.le_refl _, by omega, fun k x hx => by cases hx⟩
  · simp only [List.cons.injEq, and_true] at hcs
    subst hcs
    have hlm : len ≤ m := by rw [hmm]; split <;> omega
    obtain ⟨l, hll, hp⟩ := list_of (n := len) (p := fun i x => at_ (a.add (i * sz)) x) fun i hi => by
      obtain ⟨cs', hc, ht'⟩ := hx i (by omega)
      obtain ⟨_, hlen, hat⟩ := World.cells?_some hc
      rw [hs] at hc hat hlen
      exact he _ cs' n _ (fun j u hj => by
        have hj' : j < cs'.length := (List.getElem?_eq_some_iff.1 hj).1
        have := hat j (by omega)
        rw [this]; exact hj) ht'
    refine ⟨l, some a, cap, by rw [hll], by omega, by simp only [maxLen] at hm; omega, fun k x hx => ⟨a, rfl, hp k x hx⟩⟩

theorem open_syms {t e : Nat} {f0 f1 : Field} {fuel : Nat} {v : Value} {x : DataW H × List MemPlace} (ht : P.underlying t = some (.slice e)) (hs : P.cellsOf e = 2) (he : P.underlying e = some (.struct #[f0, f1]))
    (h0 : P.underlying f0.type = some .bool) (o0 : f0.offset = 0) (h1 : P.underlying f1.type = some (.int .i64)) (o1 : f1.offset = 1) (c0 : P.cellsOf f0.type = 1) (c1 : P.cellsOf f1.type = 1)
    (h : DataW.trod enc P w base spare held fuel t [v] = some x) : ∃ l, SymsAt (Cl w) v l := by
  refine open_sl ht hs h fun p cs n y hat hy => ?_
  obtain ⟨xs, m, _, _, hlen, hxl, hf⟩ := DataW.trod_struct he hy
  rw [hs] at hlen
  match cs, hlen with
  | [u0, u1], _ =>
    match xs, hxl with
    | [y0, y1], _ =>
      have g0 := hf 0 f0 rfl
      have g1 := hf 1 f1 rfl
      simp only [o0, o1, c0, c1, List.drop, List.take] at g0 g1
      obtain ⟨b, e0, _⟩ := DataW.trod_bool h0 g0
      obtain ⟨i, e1, _, _⟩ := DataW.trod_int h1 g1
      simp only [List.cons.injEq, and_true] at e0 e1
      subst e0; subst e1
      exact ⟨⟨b, i⟩, fun j u hj => hat j u hj⟩

theorem open_rules {t e es : Nat} {g0 g1 f0 f1 : Field} {fuel : Nat} {v : Value} {x : DataW H × List MemPlace} (ht : P.underlying t = some (.slice e)) (hs : P.cellsOf e = 2) (he : P.underlying e = some (.struct #[g0, g1]))
    (k0 : P.underlying g0.type = some (.int .i64)) (q0 : g0.offset = 0) (k1 : P.underlying g1.type = some (.slice es)) (q1 : g1.offset = 1) (d0 : P.cellsOf g0.type = 1) (d1 : P.cellsOf g1.type = 1)
    (hs2 : P.cellsOf es = 2) (he2 : P.underlying es = some (.struct #[f0, f1]))
    (h0 : P.underlying f0.type = some .bool) (o0 : f0.offset = 0) (h1 : P.underlying f1.type = some (.int .i64)) (o1 : f1.offset = 1) (c0 : P.cellsOf f0.type = 1) (c1 : P.cellsOf f1.type = 1)
    (h : DataW.trod enc P w base spare held fuel t [v] = some x) : ∃ l, RulesAt (Cl w) v l := by
  refine open_sl ht hs h fun p cs n y hat hy => ?_
  obtain ⟨xs, m, _, _, hlen, hxl, hf⟩ := DataW.trod_struct he hy
  rw [hs] at hlen
  match cs, hlen with
  | [u0, u1], _ =>
    match xs, hxl with
    | [y0, y1], _ =>
      have a0 := hf 0 g0 rfl
      have a1 := hf 1 g1 rfl
      simp only [q0, q1, d0, d1, List.drop, List.take] at a0 a1
      obtain ⟨i, e0, _, _⟩ := DataW.trod_int k0 a0
      simp only [List.cons.injEq, and_true] at e0
      subst e0
      obtain ⟨l, hl⟩ := open_syms k1 hs2 he2 h0 o0 h1 o1 c0 c1 a1
      exact ⟨⟨i, l⟩, u1, hl, fun j u hj => hat j u hj⟩

theorem open_intsl {t e : Nat} {v : Value} {d : DataW H} {p : List MemPlace} (ht : P.underlying t = some (.slice e)) (he : P.underlying e = some (.int .i64)) (hs : P.cellsOf e = 1) (hv : ∃ a n c, v = .slice a n c)
    (h : DataW.Trod enc P w base spare held t v d p) : ∃ l, IntsAt (Cl w) v l := by
  obtain ⟨a, n, c, rfl⟩ := hv
  obtain ⟨fuel, hf⟩ := h
  refine open_sl ht hs (by simpa [Value.cells] using hf) fun p cs n y hat hy => ?_
  obtain ⟨i, e0, _, _⟩ := DataW.trod_int he hy
  subst e0
  refine ⟨i, ?_⟩
  have := hat 0 _ rfl
  rwa [Addr.add_zero'] at this
end

theorem Try.own : ownKnob Try.prog.godebug = none := by kernel_rfl
theorem Try.laidOut : laidOutB Try.prog = true := by kernel_rfl
theorem Try.cG : Try.prog.cellsOf 24 = 3 := by kernel_rfl
theorem Try.cR : Try.prog.cellsOf 49 = 2 := by kernel_rfl
theorem Try.cS : Try.prog.cellsOf 51 = 2 := by kernel_rfl
theorem Try.cI : Try.prog.cellsOf 3 = 1 := by kernel_rfl
theorem Try.cB : Try.prog.cellsOf 4 = 1 := by kernel_rfl
theorem Try.cSs : Try.prog.cellsOf 46 = 1 := by kernel_rfl
theorem Try.oneG : oneCellFields Try.prog #[⟨"Terms", 3, 0, false, "", "", 0⟩, ⟨"Names", 3, 1, false, "", "", 8⟩, ⟨"Rules", 22, 2, false, "", "", 16⟩] = true := by kernel_rfl
theorem Try.readG : Try.prog.readableRec 24 = true := by kernel_rfl
theorem Try.ltG : 24 < Try.prog.types.size := by rw [Try.types_size]; decide
section
variable {H : Type} {enc : TypeId × Value → H}
set_option maxRecDepth 100000 in
/-- A grammar that comes in. -/
theorem open_gram {W : World} {base b0 : Nat} {spare : Nat → Bool} {held : Bool} {v : Value} {d : DataW H} {p : List MemPlace} (hv : Value.okWide Try.prog W .any b0 24 v) (h : DataW.Trod enc Try.prog W base spare held 24 v d p) :
    ∃ g : Gram, GramAt (Cl W) v g := by
  obtain ⟨v0, v1, v2, y0, y1, y2, n, rfl, _, _, h0, h1, h2⟩ := open_agg3 Try.underlying24 Try.oneG Try.cG hv h
  obtain ⟨i0, e0, _, _⟩ := DataW.trod_int Try.underlying3 h0
  obtain ⟨i1, e1, _, _⟩ := DataW.trod_int Try.underlying3 h1
  simp only [List.cons.injEq, and_true] at e0 e1
  subst e0; subst e1
  obtain ⟨l, hl⟩ := open_rules Try.underlying22 Try.cR Try.underlying49 Try.underlying3 rfl Try.underlying46 rfl Try.cI Try.cSs Try.cS Try.underlying51 Try.underlying4 rfl Try.underlying3 rfl Try.cB Try.cI h2
  exact ⟨⟨i0, i1, l⟩, v2, rfl, hl⟩
end
end Go.Sy
/- Shortest yields in plain terms: two tables that are closed and sound are one. No condition. -/
namespace Go.Sy
open Go

def at0 (of : List Int) (n : Int) : Int := of.getD n.toNat 0
/-- What a rule's symbols yield at least, from 'n' tokens on; -1: nothing yet. -/
def srule (of : List Int) : List Sym → Int → Int
  | [], n => n
  | s :: l, n => if s.term = true then srule of l (min (n + 1) 1000000000)
    else if at0 of s.n < 0 then -1 else srule of l (min (n + at0 of s.n) 1000000000)
/-- The same, capped at the end alone. -/
def rrule (of : List Int) : List Sym → Int → Int
  | [], n => min n 1000000000
  | s :: l, n => if s.term = true then rrule of l (n + 1)
    else if at0 of s.n < 0 then -1 else rrule of l (n + at0 of s.n)

/-- Symbols yield some tokens. -/
inductive Ylds (g : Gram) : List Sym → Nat → Prop
  | nil : Ylds g [] 0
  | term {t : Int} {l : List Sym} {k : Nat} : Ylds g l k → Ylds g (⟨true, t⟩ :: l) (k + 1)
  | name {r : Rule} {l : List Sym} {i k : Nat} : r ∈ g.rules → Ylds g r.right i → Ylds g l k → Ylds g (⟨false, r.left⟩ :: l) (i + k)

def Sound (g : Gram) (of : List Int) : Prop := ∀ (m : Nat) (v : Int), of[m]? = some v → 0 ≤ v → ∃ k : Nat, Ylds g [⟨false, (m : Int)⟩] k ∧ v = min (k : Int) 1000000000
def Closed (g : Gram) (of : List Int) : Prop := ∀ r ∈ g.rules, 0 ≤ srule of r.right 0 → 0 ≤ at0 of r.left ∧ at0 of r.left ≤ srule of r.right 0
def Rng (of : List Int) : Prop := ∀ x ∈ of, -1 ≤ x ∧ x ≤ 1000000000

theorem Rng.at0 {of : List Int} (h : Rng of) (n : Int) : -1 ≤ at0 of n ∧ at0 of n ≤ 1000000000 := by
  unfold Sy.at0
  rw [List.getD_eq_getElem?_getD]
  cases hx : of[n.toNat]? with
  | none => simp
  | some x => exact h x (List.mem_of_getElem? hx)

/-- How much may still sink. -/
def weigh : List Int → Nat
  | [] => 0
  | x :: l => (if x < 0 then 1000000001 else x.toNat) + weigh l
/-! ### The other way: the shortest first -/
/-- What stands while names are settled one by one. -/
structure Settled (g : Gram) (of : List Int) (B : Int) : Prop where
  sound : Sound g of
  rng : Rng of
  top : ∀ x ∈ of, x ≤ B
  low : ∀ r ∈ g.rules, at0 of r.left < 0 → 0 ≤ srule of r.right 0 → B ≤ srule of r.right 0
  clo : ∀ r ∈ g.rules, 0 ≤ at0 of r.left → 0 ≤ srule of r.right 0 → at0 of r.left ≤ srule of r.right 0

/-- How many are not settled. -/
def negs : List Int → Nat
  | [] => 0
  | x :: l => (if x < 0 then 1 else 0) + negs l
theorem drop_cons {α : Type} {l : List α} {k : Nat} {x : α} (h : l[k]? = some x) : l.drop k = x :: l.drop (k + 1) := by
  obtain ⟨hlt, rfl⟩ := List.getElem?_eq_some_iff.1 h
  exact List.drop_eq_getElem_cons hlt
theorem may_all {g : Gram} (h : mayB g = true) : ∀ r ∈ g.rules, 0 ≤ r.left ∧ r.left < g.names ∧ ∀ s ∈ r.right, s.term = false → 0 ≤ s.n ∧ s.n < g.names := by
  intro r hr
  obtain ⟨k, hk⟩ := List.getElem?_of_mem hr
  refine ⟨(may_rule h hk).1, (may_rule h hk).2.1, fun s hs ht => ?_⟩
  obtain ⟨j, hj⟩ := List.getElem?_of_mem hs
  have := may_sym h hk hj
  exact ⟨this.1, this.2.2 ht⟩
end Go.Sy
/- Walks over package gram and the first reference: whether a grammar may be. No condition. -/
namespace Go.Sy
open Go Go.RowKit Go.Proofs

set_option maxRecDepth 20000 in
theorem in_any (n b : Int) (w : World) : Calls Try.prog 25 #[.int .i64 n, .int .i64 b] w (fun e w' => e = .returned (.bool (inB n b)) ∧ w' = w) := by
 refine calls_CW (S := (fun w' => w' = w)) Try.func25 rfl Try.ntmps25 rfl (rfl) ?_
 refine nx3 ?_
 refine aO ?_
 refine nx4 ?_
 refine mO ?_
 refine OW_q (q_geq rfl rfl) rfl ?_
 refine mO ?_
 refine OW_part (t := 7) rfl (fun hg7 => ?_) (fun hg7 => ?_)
 · skip
   refine wO ?_
   refine mO ?_
   refine wO ?_
   refine mO ?_
   refine wO ?_
   refine OW_q (q_lss rfl rfl) rfl ?_
   refine OW_q (q_pick_t rfl rfl) rfl ?_
   refine aO ?_
   refine nx2 ?_
   refine CW_ret ?_
   refine ret1 Try.results25 rfl (fun w hw => ?_)
   exact ⟨by first | (simp_all [inB]; done) | (simp_all [inB]; omega), hw⟩
 refine kO ?_
 refine kO ?_
 refine kO ?_
 refine OW_q (q_pick_f rfl rfl) rfl ?_
 refine aO ?_
 refine nx2 ?_
 refine CW_ret ?_
 refine ret1 Try.results25 rfl (fun w hw => ?_)
 exact ⟨by first | (simp_all [inB]; done) | (simp_all [inB]; omega), hw⟩

set_option maxRecDepth 20000 in
theorem may_any (gv : Value) (g : Gram) (w : World) (hg : GramAt (Cl w) gv g) : Calls Try.prog 14 #[gv] w (fun e w' => e = .returned (.bool (mayB g)) ∧ Sat (Old w) w [] w') := by
 obtain ⟨rv, rfl, hr⟩ := hg.mono old_rd
 obtain ⟨a, c, rfl, hc1, hc2, hrs⟩ := hr
 clear hg
 refine calls_CW Try.func14 rfl Try.ntmps14 rfl (Sat.start w) ?_
 refine nx3 ?_
 refine OW_e (e_box rfl rfl) rfl (fun b1 => ?_)
 refine aO ?_
 refine nx2 ?_
 refine CW_seq ?_
 refine nx3 ?_
 refine OW_q (q_fieldAddr Try.underlying24 rfl rfl Try.sizeOf3 rfl rfl) rfl ?_
 refine OW_q (q_load1_own Try.isAgg3 rfl rfl swt (by rfl)) rfl ?_
 refine OW_e (e_call Try.call25 rfl (fun w hw => lift_same (in_any _ _ w) hw)) rfl (fun _ => ?_)
 refine OW_q (q_not rfl) rfl ?_
 refine mO ?_
 refine OW_part (t := 11) rfl (fun hg11 => ?_) (fun hg11 => ?_)
 · skip
   refine kO ?_
   refine kO ?_
   refine kO ?_
   refine OW_q (q_pick_t rfl rfl) rfl ?_
   refine mO ?_
   refine kO ?_
   refine kO ?_
   refine kO ?_
   refine OW_q (q_pick_t rfl rfl) rfl ?_
   refine mO ?_
   refine kO ?_
   refine kO ?_
   refine kO ?_
   refine kO ?_
   refine OW_q (q_pick_t rfl rfl) rfl ?_
   refine nx2 ?_
   refine CW_true rfl rfl ?_
   refine nx3 ?_
   refine aO ?_
   refine nx2 ?_
   refine CW_ret ?_
   refine EW_then_ret ?_
   refine ret1 Try.results14 rfl (fun w hw => ?_)
   refine ⟨rf fun hm => ?_, hw.sub .nil⟩; have h1 := mayB_true.1 hm; clear hm; ((try simp only [Bool.not_eq_eq_eq_not, Bool.not_true, inB_false] at *); first | omega | (simp_all; done) | (simp_all; omega))
 refine wO ?_
 refine OW_q (q_fieldAddr Try.underlying24 rfl rfl Try.sizeOf3 rfl rfl) rfl ?_
 refine wO ?_
 refine OW_q (q_load1_own Try.isAgg3 rfl rfl swt (by rfl)) rfl ?_
 refine wO ?_
 refine OW_q (q_lss rfl rfl) rfl ?_
 refine OW_q (q_pick_f rfl rfl) rfl ?_
 refine mO ?_
 refine OW_part (t := 16) rfl (fun hg16 => ?_) (fun hg16 => ?_)
 · skip
   refine kO ?_
   refine kO ?_
   refine kO ?_
   refine OW_q (q_pick_t rfl rfl) rfl ?_
   refine mO ?_
   refine kO ?_
   refine kO ?_
   refine kO ?_
   refine kO ?_
   refine OW_q (q_pick_t rfl rfl) rfl ?_
   refine nx2 ?_
   refine CW_true rfl rfl ?_
   refine nx3 ?_
   refine aO ?_
   refine nx2 ?_
   refine CW_ret ?_
   refine EW_then_ret ?_
   refine ret1 Try.results14 rfl (fun w hw => ?_)
   refine ⟨rf fun hm => ?_, hw.sub .nil⟩; have h1 := mayB_true.1 hm; clear hm; ((try simp only [decide_eq_true_eq, Bool.not_eq_eq_eq_not, Bool.not_false, inB_true] at *); first | omega | (simp_all; done) | (simp_all; omega))
 refine wO ?_
 refine OW_q (q_fieldAddr Try.underlying24 rfl rfl Try.sizeOf3 rfl rfl) rfl ?_
 refine wO ?_
 refine OW_q (q_load1_own Try.isAgg3 rfl rfl swt (by rfl)) rfl ?_
 refine wO ?_
 refine OW_q (q_gtr rfl rfl) rfl ?_
 refine OW_q (q_pick_f rfl rfl) rfl ?_
 refine mO ?_
 refine OW_part (t := 21) rfl (fun hg21 => ?_) (fun hg21 => ?_)
 · skip
   refine kO ?_
   refine kO ?_
   refine kO ?_
   refine kO ?_
   refine OW_q (q_pick_t rfl rfl) rfl ?_
   refine nx2 ?_
   refine CW_true rfl rfl ?_
   refine nx3 ?_
   refine aO ?_
   refine nx2 ?_
   refine CW_ret ?_
   refine EW_then_ret ?_
   refine ret1 Try.results14 rfl (fun w hw => ?_)
   refine ⟨rf fun hm => ?_, hw.sub .nil⟩; have h1 := mayB_true.1 hm; clear hm; ((try simp only [decide_eq_true_eq, decide_eq_false_iff_not, Bool.not_eq_eq_eq_not, Bool.not_false, inB_true] at *); first | omega | (simp_all; done) | (simp_all; omega))
 refine wO ?_
 refine OW_q (q_fieldAddr Try.underlying24 rfl rfl Try.sizeOf22 rfl rfl) rfl ?_
 refine wO ?_
 refine OW_q (q_load1_own Try.isAgg22 rfl rfl swt (by rfl)) rfl ?_
 refine wO ?_
 refine OW_q (q_len Try.underlying22 rfl) rfl ?_
 refine wO ?_
 refine OW_q (q_gtr rfl rfl) rfl ?_
 refine OW_q (q_pick_f rfl rfl) rfl ?_
 refine nx2 ?_
 refine CW_cond rfl (fun h26 => ?_) (fun h26 => ?_)
 · skip
   refine nx3 ?_
   refine aO ?_
   refine nx2 ?_
   refine CW_ret ?_
   refine EW_then_ret ?_
   refine ret1 Try.results14 rfl (fun w hw => ?_)
   refine ⟨rf fun hm => ?_, hw.sub .nil⟩; have h1 := mayB_true.1 hm; clear hm; ((try simp only [decide_eq_true_eq, decide_eq_false_iff_not, Bool.not_eq_eq_eq_not, Bool.not_false, inB_true] at *); first | omega | (simp_all; done) | (simp_all; omega))
 refine CW_skip ?_
 refine EW_then ?_
 refine CW_seq ?_
 refine nx3 ?_
 refine OW_q (q_fieldAddr Try.underlying24 rfl rfl Try.sizeOf22 rfl rfl) rfl ?_
 refine OW_q (q_load1_own Try.isAgg22 rfl rfl swt (by rfl)) rfl ?_
 refine OW_q (q_len Try.underlying22 rfl) rfl ?_
 refine mO ?_
 refine nx2 ?_
 refine CW_block ?_
 refine CW_loopP (ι := Nat) (fun k => k ≤ g.rules.length ∧ (g.rules.take k).all (ruleB g) = true) (fun k => [(1, .pointer (some ⟨b1, 0, none⟩)), (28, .slice a g.rules.length c), (29, .int .i64 (g.rules.length : Int)), (30, .int .i64 (k : Int))]) (fun k => Sat (Old w) w [cel b1 24 [.int .i64 g.terms, .int .i64 g.names, .slice a g.rules.length c]]) (fun k => g.rules.length - k) 0 ?_ ⟨rfl, rfl, rfl, rfl, trivial⟩ sft ?_
 · exact ⟨Nat.zero_le _, rfl⟩
 intro k hpre
 change CW _ _ _ _ [(1, .pointer (some ⟨b1, 0, none⟩)), (28, .slice a g.rules.length c), (29, .int .i64 (g.rules.length : Int)), (30, .int .i64 (k : Int))] (Sat (Old w) w [cel b1 24 [.int .i64 g.terms, .int .i64 g.names, .slice a g.rules.length c]])
 obtain ⟨hk, hok⟩ := hpre
 refine nx3 ?_
 refine OW_q (q_lss rfl rfl) rfl ?_
 refine nx2 ?_
 refine CW_seq ?_
 refine CW_cond rfl (fun h31 => ?_) (fun h31 => ?_)
 · skip
   have hlt : k < g.rules.length := by simpa using h31
   obtain ⟨r, hx⟩ := get_of_lt hlt
   obtain ⟨p, rfl, rv2, hsy, hrow⟩ := hrs k r hx
   obtain ⟨a2, c2, rfl, hd1, hd2, hss⟩ := hsy
   refine CW_skip ?_
   refine EW_then ?_
   refine CW_seq ?_
   refine CW_block ?_
   refine nx3 ?_
   refine OW_q (q_indexAddr Try.underlying22 Try.sizeOf49 rfl rfl (by omega)) rfl ?_
   refine OW_q (q_loadN_ro Try.isAgg49 Try.sizeOf49 rfl (by assumption) (by rfl)) rfl ?_
   refine OW_e (e_alloc Try.zeroValue49 rfl) rfl (fun b4 => ?_)
   refine OW_e0 (e_storeN Try.sizeOf49 rfl rfl rfl rfl (by simp [Value.oneCell']) swt (by rfl)) (fun _ => ?_)
   refine nx2 ?_
   refine CW_seq ?_
   refine nx3 ?_
   refine OW_q (q_fieldAddr Try.underlying49 rfl rfl Try.sizeOf3 rfl rfl) rfl ?_
   refine OW_q (q_load1_own Try.isAgg3 rfl rfl swt (by rfl)) rfl ?_
   refine OW_q (q_fieldAddr Try.underlying24 rfl rfl Try.sizeOf3 rfl rfl) rfl ?_
   refine OW_q (q_load1_own Try.isAgg3 rfl rfl swt (by rfl)) rfl ?_
   refine OW_e (e_call Try.call25 rfl (fun w hw => lift_same (in_any _ _ w) hw)) rfl (fun _ => ?_)
   refine OW_q (q_not rfl) rfl ?_
   refine mO ?_
   refine OW_part (t := 40) rfl (fun hg40 => ?_) (fun hg40 => ?_)
   · skip
     refine kO ?_
     refine kO ?_
     refine kO ?_
     refine kO ?_
     refine OW_q (q_pick_t rfl rfl) rfl ?_
     refine nx2 ?_
     refine CW_true rfl rfl ?_
     refine nx3 ?_
     refine aO ?_
     refine nx2 ?_
     refine CW_ret ?_
     refine EW_then_ret ?_
     refine EW_block_ret ?_
     refine EW_then_ret ?_
     refine EW_out_ret ?_
     refine EW_block_ret ?_
     refine EW_then_ret ?_
     refine ret1 Try.results14 rfl (fun w hw => ?_)
     refine ⟨rf fun hm => ?_, hw.sub .nil⟩; have h1 := may_rule hm hx; clear hm; ((try simp only [decide_eq_true_eq, decide_eq_false_iff_not, Bool.not_eq_eq_eq_not, Bool.not_true, Bool.not_false, inB_true, inB_false] at *); first | omega | (simp_all; done) | (simp_all; omega))
   refine wO ?_
   refine OW_q (q_fieldAddr Try.underlying49 rfl rfl Try.sizeOf46 rfl rfl) rfl ?_
   refine wO ?_
   refine OW_q (q_load1_own Try.isAgg46 rfl rfl swt (by rfl)) rfl ?_
   refine wO ?_
   refine OW_q (q_len Try.underlying46 rfl) rfl ?_
   refine wO ?_
   refine OW_q (q_gtr rfl rfl) rfl ?_
   refine OW_q (q_pick_f rfl rfl) rfl ?_
   refine nx2 ?_
   refine CW_cond rfl (fun h45 => ?_) (fun h45 => ?_)
   · skip
     refine nx3 ?_
     refine aO ?_
     refine nx2 ?_
     refine CW_ret ?_
     refine EW_then_ret ?_
     refine EW_block_ret ?_
     refine EW_then_ret ?_
     refine EW_out_ret ?_
     refine EW_block_ret ?_
     refine EW_then_ret ?_
     refine ret1 Try.results14 rfl (fun w hw => ?_)
     refine ⟨rf fun hm => ?_, hw.sub .nil⟩; have h1 := may_rule hm hx; clear hm; ((try simp only [decide_eq_true_eq, decide_eq_false_iff_not, Bool.not_eq_eq_eq_not, Bool.not_false, inB_true] at *); first | omega | (simp_all; done) | (simp_all; omega))
   refine CW_skip ?_
   refine EW_then ?_
   refine nx3 ?_
   refine OW_q (q_fieldAddr Try.underlying49 rfl rfl Try.sizeOf46 rfl rfl) rfl ?_
   refine OW_q (q_load1_own Try.isAgg46 rfl rfl swt (by rfl)) rfl ?_
   refine OW_q (q_len Try.underlying46 rfl) rfl ?_
   refine mO ?_
   refine nx2 ?_
   refine CW_block ?_
   refine CW_loopP (ι := Nat) (fun j => j ≤ r.right.length ∧ (r.right.take j).all (symB g) = true) (fun j => [(1, .pointer (some ⟨b1, 0, none⟩)), (28, .slice (some p) g.rules.length c), (29, .int .i64 (g.rules.length : Int)), (30, .int .i64 (k : Int)), (47, .slice a2 r.right.length c2), (48, .int .i64 (r.right.length : Int)), (49, .int .i64 (j : Int))]) (fun j => Sat (Old w) w [cel b1 24 [.int .i64 g.terms, .int .i64 g.names, .slice (some p) g.rules.length c]]) (fun j => r.right.length - j) 0 ?_ ⟨rfl, rfl, rfl, rfl, rfl, rfl, rfl, trivial⟩ sft ?_
   · exact ⟨Nat.zero_le _, rfl⟩
   intro j hpre
   change CW _ _ _ _ [(1, .pointer (some ⟨b1, 0, none⟩)), (28, .slice (some p) g.rules.length c), (29, .int .i64 (g.rules.length : Int)), (30, .int .i64 (k : Int)), (47, .slice a2 r.right.length c2), (48, .int .i64 (r.right.length : Int)), (49, .int .i64 (j : Int))] (Sat (Old w) w [cel b1 24 [.int .i64 g.terms, .int .i64 g.names, .slice (some p) g.rules.length c]])
   obtain ⟨hj, hokj⟩ := hpre
   refine nx3 ?_
   refine OW_q (q_lss rfl rfl) rfl ?_
   refine nx2 ?_
   refine CW_seq ?_
   refine CW_cond rfl (fun h50 => ?_) (fun h50 => ?_)
   · skip
     have hltj : j < r.right.length := by simpa using h50
     obtain ⟨s, hs⟩ := get_of_lt hltj
     obtain ⟨p2, rfl, hrow2⟩ := hss j s hs
     refine CW_skip ?_
     refine EW_then ?_
     refine CW_seq ?_
     refine CW_block ?_
     refine nx3 ?_
     refine OW_q (q_indexAddr Try.underlying46 Try.sizeOf51 rfl rfl (by omega)) rfl ?_
     refine OW_q (q_loadN_ro Try.isAgg51 Try.sizeOf51 rfl (by assumption) (by rfl)) rfl ?_
     refine OW_e (e_alloc Try.zeroValue51 rfl) rfl (fun b6 => ?_)
     refine OW_e0 (e_storeN Try.sizeOf51 rfl rfl rfl rfl (by simp [Value.oneCell']) swt (by rfl)) (fun _ => ?_)
     refine nx4 ?_
     refine OW_q (q_fieldAddr Try.underlying51 rfl rfl Try.sizeOf4 rfl rfl) rfl ?_
     refine OW_q (q_load1_own Try.isAgg4 rfl rfl swt (by rfl)) rfl ?_
     refine mO ?_
     refine OW_part (t := 55) rfl (fun hg55 => ?_) (fun hg55 => ?_)
     · skip
       refine wO ?_
       refine OW_q (q_fieldAddr Try.underlying51 rfl rfl Try.sizeOf3 rfl rfl) rfl ?_
       refine wO ?_
       refine OW_q (q_load1_own Try.isAgg3 rfl rfl swt (by rfl)) rfl ?_
       refine wO ?_
       refine OW_q (q_fieldAddr Try.underlying24 rfl rfl Try.sizeOf3 rfl rfl) rfl ?_
       refine wO ?_
       refine OW_q (q_load1_own Try.isAgg3 rfl rfl swt (by rfl)) rfl ?_
       refine wO ?_
       refine OW_e (e_call Try.call25 rfl (fun w hw => lift_same (in_any _ _ w) hw)) rfl (fun _ => ?_)
       refine wO ?_
       refine OW_q (q_not rfl) rfl ?_
       refine OW_q (q_pick_t rfl rfl) rfl ?_
       refine mO ?_
       refine OW_part (t := 63) rfl (fun hg63 => ?_) (fun hg63 => ?_)
       · skip
         refine kO ?_
         refine kO ?_
         refine kO ?_
         refine kO ?_
         refine OW_skipU rfl rfl rfl ?_
         refine OW_skipU rfl rfl rfl ?_
         refine OW_skipU rfl rfl rfl ?_
         refine OW_skipU rfl rfl rfl ?_
         refine OW_skipU rfl rfl rfl ?_
         refine OW_skipU rfl rfl rfl ?_
         refine kO ?_
         refine OW_q (q_pick_t rfl rfl) rfl ?_
         refine nx2 ?_
         refine CW_true rfl rfl ?_
         refine nx3 ?_
         refine aO ?_
         refine nx2 ?_
         refine CW_ret ?_
         refine EW_block_ret ?_
         refine EW_then_ret ?_
         refine EW_out_ret ?_
         refine EW_block_ret ?_
         refine EW_block_ret ?_
         refine EW_then_ret ?_
         refine EW_out_ret ?_
         refine EW_block_ret ?_
         refine EW_then_ret ?_
         refine ret1 Try.results14 rfl (fun w hw => ?_)
         refine ⟨rf fun hm => ?_, hw.sub .nil⟩; have h1 := may_sym hm hx hs; clear hm; ((try simp only [decide_eq_true_eq, decide_eq_false_iff_not, Bool.not_eq_eq_eq_not, Bool.not_true, Bool.not_false, inB_true, inB_false] at *); first | omega | (simp_all; done) | (simp_all; omega))
       refine wO ?_
       refine OW_q (q_fieldAddr Try.underlying51 rfl rfl Try.sizeOf4 rfl rfl) rfl ?_
       refine wO ?_
       refine OW_q (q_load1_own Try.isAgg4 rfl rfl swt (by rfl)) rfl ?_
       refine wO ?_
       refine OW_q (q_not rfl) rfl ?_
       refine wO ?_
       refine mO ?_
       refine OW_part (t := 67) rfl (fun hg67 => ?_) (fun hg67 => ?_)
       · skip
         refine wO ?_
         refine OW_q (q_fieldAddr Try.underlying51 rfl rfl Try.sizeOf3 rfl rfl) rfl ?_
         refine wO ?_
         refine OW_q (q_load1_own Try.isAgg3 rfl rfl swt (by rfl)) rfl ?_
         refine wO ?_
         refine OW_q (q_fieldAddr Try.underlying24 rfl rfl Try.sizeOf3 rfl rfl) rfl ?_
         refine wO ?_
         refine OW_q (q_load1_own Try.isAgg3 rfl rfl swt (by rfl)) rfl ?_
         refine wO ?_
         refine OW_e (e_call Try.call25 rfl (fun w hw => lift_same (in_any _ _ w) hw)) rfl (fun _ => ?_)
         refine wO ?_
         refine OW_q (q_not rfl) rfl ?_
         refine wO ?_
         refine OW_q (q_pick_t rfl rfl) rfl ?_
         refine OW_q (q_pick_f rfl rfl) rfl ?_
         refine nx2 ?_
         refine CW_cond rfl (fun h75 => ?_) (fun h75 => ?_)
         · skip
           refine nx3 ?_
           refine aO ?_
           refine nx2 ?_
           refine CW_ret ?_
           refine EW_block_ret ?_
           refine EW_then_ret ?_
           refine EW_out_ret ?_
           refine EW_block_ret ?_
           refine EW_block_ret ?_
           refine EW_then_ret ?_
           refine EW_out_ret ?_
           refine EW_block_ret ?_
           refine EW_then_ret ?_
           refine ret1 Try.results14 rfl (fun w hw => ?_)
           refine ⟨rf fun hm => ?_, hw.sub .nil⟩; have h1 := mayB_true.1 hm; clear hm; ((try simp only [decide_eq_true_eq, decide_eq_false_iff_not, Bool.not_eq_eq_eq_not, Bool.not_true, Bool.not_false, inB_true, inB_false] at *); first | omega | (simp_all; done) | (simp_all; omega))
         refine CW_skip ?_
         refine EW_block_normal ?_
         refine EW_then ?_
         refine CW_region ?_
         refine OW_q (q_add rfl rfl (by omega) (by omega)) rfl ?_
         refine mO ?_
         refine OW_nil ?_
         refine EW_again (j + 1) ⟨?_, ?_⟩ ⟨rfl, rfl, rfl, rfl, rfl, rfl, rfl, trivial⟩ sft
         · show r.right.length - (j + 1) < r.right.length - j; omega
         · refine ⟨by omega, ?_⟩
           have hR : symB g s = true := by
             refine symB_true.2 ?_
             ((try simp only [decide_eq_true_eq, decide_eq_false_iff_not, Bool.not_eq_eq_eq_not, Bool.not_true, Bool.not_false, inB_true] at *); first | omega | (simp_all; done) | (simp_all; omega))
           rw [all_take_succ _ hs, hokj, hR]; rfl
       refine kO ?_
       refine kO ?_
       refine kO ?_
       refine kO ?_
       refine kO ?_
       refine kO ?_
       refine wO ?_
       refine OW_q (q_pick_f rfl rfl) rfl ?_
       refine OW_q (q_pick_f rfl rfl) rfl ?_
       refine nx2 ?_
       refine CW_false rfl rfl ?_
       refine CW_skip ?_
       refine EW_block_normal ?_
       refine EW_then ?_
       refine CW_region ?_
       refine OW_q (q_add rfl rfl (by omega) (by omega)) rfl ?_
       refine mO ?_
       refine OW_nil ?_
       refine EW_again (j + 1) ⟨?_, ?_⟩ ⟨rfl, rfl, rfl, rfl, rfl, rfl, rfl, trivial⟩ sft
       · show r.right.length - (j + 1) < r.right.length - j; omega
       · refine ⟨by omega, ?_⟩
         have hR : symB g s = true := by
           refine symB_true.2 ?_
           ((try simp only [decide_eq_true_eq, decide_eq_false_iff_not, Bool.not_eq_eq_eq_not, Bool.not_false, inB_true] at *); first | omega | (simp_all; done) | (simp_all; omega))
         rw [all_take_succ _ hs, hokj, hR]; rfl
     refine kO ?_
     refine kO ?_
     refine kO ?_
     refine kO ?_
     refine kO ?_
     refine kO ?_
     refine OW_q (q_pick_f rfl rfl) rfl ?_
     refine mO ?_
     refine wO ?_
     refine OW_q (q_fieldAddr Try.underlying51 rfl rfl Try.sizeOf4 rfl rfl) rfl ?_
     refine wO ?_
     refine OW_q (q_load1_own Try.isAgg4 rfl rfl swt (by rfl)) rfl ?_
     refine wO ?_
     refine OW_q (q_not rfl) rfl ?_
     refine wO ?_
     refine mO ?_
     refine OW_part (t := 67) rfl (fun hg67 => ?_) (fun hg67 => ?_)
     · skip
       refine wO ?_
       refine OW_q (q_fieldAddr Try.underlying51 rfl rfl Try.sizeOf3 rfl rfl) rfl ?_
       refine wO ?_
       refine OW_q (q_load1_own Try.isAgg3 rfl rfl swt (by rfl)) rfl ?_
       refine wO ?_
       refine OW_q (q_fieldAddr Try.underlying24 rfl rfl Try.sizeOf3 rfl rfl) rfl ?_
       refine wO ?_
       refine OW_q (q_load1_own Try.isAgg3 rfl rfl swt (by rfl)) rfl ?_
       refine wO ?_
       refine OW_e (e_call Try.call25 rfl (fun w hw => lift_same (in_any _ _ w) hw)) rfl (fun _ => ?_)
       refine wO ?_
       refine OW_q (q_not rfl) rfl ?_
       refine wO ?_
       refine OW_q (q_pick_t rfl rfl) rfl ?_
       refine OW_q (q_pick_f rfl rfl) rfl ?_
       refine nx2 ?_
       refine CW_cond rfl (fun h75 => ?_) (fun h75 => ?_)
       · skip
         refine nx3 ?_
         refine aO ?_
         refine nx2 ?_
         refine CW_ret ?_
         refine EW_block_ret ?_
         refine EW_then_ret ?_
         refine EW_out_ret ?_
         refine EW_block_ret ?_
         refine EW_block_ret ?_
         refine EW_then_ret ?_
         refine EW_out_ret ?_
         refine EW_block_ret ?_
         refine EW_then_ret ?_
         refine ret1 Try.results14 rfl (fun w hw => ?_)
         refine ⟨rf fun hm => ?_, hw.sub .nil⟩; have h1 := may_sym hm hx hs; clear hm; ((try simp only [decide_eq_true_eq, decide_eq_false_iff_not, Bool.not_eq_eq_eq_not, Bool.not_true, Bool.not_false, inB_true, inB_false] at *); first | omega | (simp_all; done) | (simp_all; omega))
       refine CW_skip ?_
       refine EW_block_normal ?_
       refine EW_then ?_
       refine CW_region ?_
       refine OW_q (q_add rfl rfl (by omega) (by omega)) rfl ?_
       refine mO ?_
       refine OW_nil ?_
       refine EW_again (j + 1) ⟨?_, ?_⟩ ⟨rfl, rfl, rfl, rfl, rfl, rfl, rfl, trivial⟩ sft
       · show r.right.length - (j + 1) < r.right.length - j; omega
       · refine ⟨by omega, ?_⟩
         have hR : symB g s = true := by
           refine symB_true.2 ?_
           ((try simp only [decide_eq_true_eq, decide_eq_false_iff_not, Bool.not_eq_eq_eq_not, Bool.not_true, Bool.not_false, inB_true] at *); first | omega | (simp_all; done) | (simp_all; omega))
         rw [all_take_succ _ hs, hokj, hR]; rfl
     refine kO ?_
     refine kO ?_
     refine kO ?_
     refine kO ?_
     refine kO ?_
     refine kO ?_
     refine wO ?_
     refine OW_q (q_pick_f rfl rfl) rfl ?_
     refine OW_q (q_pick_f rfl rfl) rfl ?_
     refine nx2 ?_
     refine CW_false rfl rfl ?_
     refine CW_skip ?_
     refine EW_block_normal ?_
     refine EW_then ?_
     refine CW_region ?_
     refine OW_q (q_add rfl rfl (by omega) (by omega)) rfl ?_
     refine mO ?_
     refine OW_nil ?_
     refine EW_again (j + 1) ⟨?_, ?_⟩ ⟨rfl, rfl, rfl, rfl, rfl, rfl, rfl, trivial⟩ sft
     · show r.right.length - (j + 1) < r.right.length - j; omega
     · refine ⟨by omega, ?_⟩
       have hR : symB g s = true := by
         refine symB_true.2 ?_
         ((try simp only [decide_eq_true_eq, decide_eq_false_iff_not, Bool.not_eq_eq_eq_not, Bool.not_false, inB_true] at *); first | omega | (simp_all; done) | (simp_all; omega))
       rw [all_take_succ _ hs, hokj, hR]; rfl
   have hend2 := take_all (l := r.right) (k := j) (by simpa using h50)
   rw [hend2] at hokj
   refine CW_exit ?_
   refine EW_then_exit ?_
   refine EW_out ?_
   refine EW_block_exit ?_
   refine EW_block_normal ?_
   refine EW_then ?_
   refine CW_region ?_
   refine OW_q (q_add rfl rfl (by omega) (by omega)) rfl ?_
   refine mO ?_
   refine OW_nil ?_
   refine EW_again (k + 1) ⟨?_, ?_⟩ ⟨rfl, rfl, rfl, rfl, trivial⟩ sft
   · show g.rules.length - (k + 1) < g.rules.length - k; omega
   · refine ⟨by omega, ?_⟩
     have hR : ruleB g r = true := by
       refine ruleB_true.2 ?_
       simp only [hokj]
       ((try simp only [decide_eq_true_eq, decide_eq_false_iff_not, Bool.not_eq_eq_eq_not, Bool.not_false, inB_true] at *); first | omega | (simp_all; done) | (simp_all; omega))
     rw [all_take_succ _ hx, hok, hR]; rfl
 have hend := take_all (l := g.rules) (k := k) (by simpa using h31)
 rw [hend] at hok
 refine CW_exit ?_
 refine EW_then_exit ?_
 refine EW_out ?_
 refine EW_block_exit ?_
 refine EW_then ?_
 refine nx3 ?_
 refine aO ?_
 refine nx2 ?_
 refine CW_ret ?_
 refine ret1 Try.results14 rfl (fun w hw => ?_)
 refine ⟨rt (mayB_true.2 ?_), hw.sub .nil⟩; simp only [hok]; ((try simp only [decide_eq_false_iff_not, Bool.not_eq_eq_eq_not, Bool.not_false, inB_true] at *); first | omega | (simp_all; done) | (simp_all; omega))

set_option maxRecDepth 20000 in
theorem may1_any (gv : Value) (g : Gram) (w : World) (hg : GramAt (Cl w) gv g) : Calls Try.prog 12 #[gv] w (fun e w' => e = .returned (.bool (mayB g)) ∧ Sat (Old w) w [] w') := by
 obtain ⟨rv, rfl, hr⟩ := hg.mono old_rd
 obtain ⟨a, c, rfl, hc1, hc2, hrs⟩ := hr
 clear hg
 refine calls_CW Try.func12 rfl Try.ntmps12 rfl (Sat.start w) ?_
 refine nx3 ?_
 refine OW_e (e_box rfl rfl) rfl (fun b1 => ?_)
 refine aO ?_
 refine nx2 ?_
 refine CW_seq ?_
 refine nx3 ?_
 refine OW_q (q_fieldAddr Try.underlying24 rfl rfl Try.sizeOf3 rfl rfl) rfl ?_
 refine OW_q (q_load1_own Try.isAgg3 rfl rfl swt (by rfl)) rfl ?_
 refine OW_q (q_lss rfl rfl) rfl ?_
 refine mO ?_
 refine OW_part (t := 10) rfl (fun hg10 => ?_) (fun hg10 => ?_)
 · skip
   refine kO ?_
   refine kO ?_
   refine kO ?_
   refine OW_q (q_pick_t rfl rfl) rfl ?_
   refine mO ?_
   refine kO ?_
   refine kO ?_
   refine kO ?_
   refine OW_q (q_pick_t rfl rfl) rfl ?_
   refine mO ?_
   refine kO ?_
   refine kO ?_
   refine kO ?_
   refine OW_q (q_pick_t rfl rfl) rfl ?_
   refine mO ?_
   refine kO ?_
   refine kO ?_
   refine kO ?_
   refine kO ?_
   refine OW_q (q_pick_t rfl rfl) rfl ?_
   refine nx2 ?_
   refine CW_true rfl rfl ?_
   refine nx3 ?_
   refine aO ?_
   refine nx2 ?_
   refine CW_ret ?_
   refine EW_then_ret ?_
   refine ret1 Try.results12 rfl (fun w hw => ?_)
   refine ⟨rf fun hm => ?_, hw.sub .nil⟩; have h1 := mayB_true.1 hm; clear hm; ((try simp only [decide_eq_true_eq] at *); first | omega | (simp_all; done) | (simp_all; omega))
 refine wO ?_
 refine OW_q (q_fieldAddr Try.underlying24 rfl rfl Try.sizeOf3 rfl rfl) rfl ?_
 refine wO ?_
 refine OW_q (q_load1_own Try.isAgg3 rfl rfl swt (by rfl)) rfl ?_
 refine wO ?_
 refine OW_q (q_gtr rfl rfl) rfl ?_
 refine OW_q (q_pick_f rfl rfl) rfl ?_
 refine mO ?_
 refine OW_part (t := 15) rfl (fun hg15 => ?_) (fun hg15 => ?_)
 · skip
   refine kO ?_
   refine kO ?_
   refine kO ?_
   refine OW_q (q_pick_t rfl rfl) rfl ?_
   refine mO ?_
   refine kO ?_
   refine kO ?_
   refine kO ?_
   refine OW_q (q_pick_t rfl rfl) rfl ?_
   refine mO ?_
   refine kO ?_
   refine kO ?_
   refine kO ?_
   refine kO ?_
   refine OW_q (q_pick_t rfl rfl) rfl ?_
   refine nx2 ?_
   refine CW_true rfl rfl ?_
   refine nx3 ?_
   refine aO ?_
   refine nx2 ?_
   refine CW_ret ?_
   refine EW_then_ret ?_
   refine ret1 Try.results12 rfl (fun w hw => ?_)
   refine ⟨rf fun hm => ?_, hw.sub .nil⟩; have h1 := mayB_true.1 hm; clear hm; ((try simp only [decide_eq_true_eq, decide_eq_false_iff_not] at *); first | omega | (simp_all; done) | (simp_all; omega))
 refine wO ?_
 refine OW_q (q_fieldAddr Try.underlying24 rfl rfl Try.sizeOf3 rfl rfl) rfl ?_
 refine wO ?_
 refine OW_q (q_load1_own Try.isAgg3 rfl rfl swt (by rfl)) rfl ?_
 refine wO ?_
 refine OW_q (q_lss rfl rfl) rfl ?_
 refine OW_q (q_pick_f rfl rfl) rfl ?_
 refine mO ?_
 refine OW_part (t := 20) rfl (fun hg20 => ?_) (fun hg20 => ?_)
 · skip
   refine kO ?_
   refine kO ?_
   refine kO ?_
   refine OW_q (q_pick_t rfl rfl) rfl ?_
   refine mO ?_
   refine kO ?_
   refine kO ?_
   refine kO ?_
   refine kO ?_
   refine OW_q (q_pick_t rfl rfl) rfl ?_
   refine nx2 ?_
   refine CW_true rfl rfl ?_
   refine nx3 ?_
   refine aO ?_
   refine nx2 ?_
   refine CW_ret ?_
   refine EW_then_ret ?_
   refine ret1 Try.results12 rfl (fun w hw => ?_)
   refine ⟨rf fun hm => ?_, hw.sub .nil⟩; have h1 := mayB_true.1 hm; clear hm; ((try simp only [decide_eq_true_eq, decide_eq_false_iff_not] at *); first | omega | (simp_all; done) | (simp_all; omega))
 refine wO ?_
 refine OW_q (q_fieldAddr Try.underlying24 rfl rfl Try.sizeOf3 rfl rfl) rfl ?_
 refine wO ?_
 refine OW_q (q_load1_own Try.isAgg3 rfl rfl swt (by rfl)) rfl ?_
 refine wO ?_
 refine OW_q (q_gtr rfl rfl) rfl ?_
 refine OW_q (q_pick_f rfl rfl) rfl ?_
 refine mO ?_
 refine OW_part (t := 25) rfl (fun hg25 => ?_) (fun hg25 => ?_)
 · skip
   refine kO ?_
   refine kO ?_
   refine kO ?_
   refine kO ?_
   refine OW_q (q_pick_t rfl rfl) rfl ?_
   refine nx2 ?_
   refine CW_true rfl rfl ?_
   refine nx3 ?_
   refine aO ?_
   refine nx2 ?_
   refine CW_ret ?_
   refine EW_then_ret ?_
   refine ret1 Try.results12 rfl (fun w hw => ?_)
   refine ⟨rf fun hm => ?_, hw.sub .nil⟩; have h1 := mayB_true.1 hm; clear hm; ((try simp only [decide_eq_true_eq, decide_eq_false_iff_not] at *); first | omega | (simp_all; done) | (simp_all; omega))
 refine wO ?_
 refine OW_q (q_fieldAddr Try.underlying24 rfl rfl Try.sizeOf22 rfl rfl) rfl ?_
 refine wO ?_
 refine OW_q (q_load1_own Try.isAgg22 rfl rfl swt (by rfl)) rfl ?_
 refine wO ?_
 refine OW_q (q_len Try.underlying22 rfl) rfl ?_
 refine wO ?_
 refine OW_q (q_gtr rfl rfl) rfl ?_
 refine OW_q (q_pick_f rfl rfl) rfl ?_
 refine nx2 ?_
 refine CW_cond rfl (fun h30 => ?_) (fun h30 => ?_)
 · skip
   refine nx3 ?_
   refine aO ?_
   refine nx2 ?_
   refine CW_ret ?_
   refine EW_then_ret ?_
   refine ret1 Try.results12 rfl (fun w hw => ?_)
   refine ⟨rf fun hm => ?_, hw.sub .nil⟩; have h1 := mayB_true.1 hm; clear hm; ((try simp only [decide_eq_true_eq, decide_eq_false_iff_not] at *); first | omega | (simp_all; done) | (simp_all; omega))
 refine CW_skip ?_
 refine EW_then ?_
 refine CW_seq ?_
 refine nx3 ?_
 refine aO ?_
 refine nx2 ?_
 refine CW_block ?_
 refine CW_loopP (ι := Nat) (fun k => k ≤ g.rules.length ∧ (g.rules.take k).all (ruleB g) = true) (fun k => [(1, .pointer (some ⟨b1, 0, none⟩)), (3, .int .i64 (k : Int))]) (fun k => Sat (Old w) w [cel b1 24 [.int .i64 g.terms, .int .i64 g.names, .slice a g.rules.length c]]) (fun k => g.rules.length - k) 0 ?_ ⟨rfl, rfl, trivial⟩ sft ?_
 · exact ⟨Nat.zero_le _, rfl⟩
 intro k hpre
 change CW _ _ _ _ [(1, .pointer (some ⟨b1, 0, none⟩)), (3, .int .i64 (k : Int))] (Sat (Old w) w [cel b1 24 [.int .i64 g.terms, .int .i64 g.names, .slice a g.rules.length c]])
 obtain ⟨hk, hok⟩ := hpre
 refine CW_seq ?_
 refine nx3 ?_
 refine mO ?_
 refine OW_q (q_fieldAddr Try.underlying24 rfl rfl Try.sizeOf22 rfl rfl) rfl ?_
 refine OW_q (q_load1_own Try.isAgg22 rfl rfl swt (by rfl)) rfl ?_
 refine OW_q (q_len Try.underlying22 rfl) rfl ?_
 refine OW_q (q_lss rfl rfl) rfl ?_
 refine nx2 ?_
 refine CW_cond rfl (fun h35 => ?_) (fun h35 => ?_)
 · skip
   have hlt : k < g.rules.length := by simpa using h35
   obtain ⟨r, hx⟩ := get_of_lt hlt
   obtain ⟨p, rfl, rv2, hsy, hrow⟩ := hrs k r hx
   obtain ⟨a2, c2, rfl, hd1, hd2, hss⟩ := hsy
   refine CW_skip ?_
   refine EW_then ?_
   refine CW_seq ?_
   refine CW_block ?_
   refine nx3 ?_
   refine OW_q (q_fieldAddr Try.underlying24 rfl rfl Try.sizeOf22 rfl rfl) rfl ?_
   refine OW_q (q_load1_own Try.isAgg22 rfl rfl swt (by rfl)) rfl ?_
   refine mO ?_
   refine OW_q (q_indexAddr Try.underlying22 Try.sizeOf49 rfl rfl (by omega)) rfl ?_
   refine OW_q (q_loadN_ro Try.isAgg49 Try.sizeOf49 rfl (by assumption) (by rfl)) rfl ?_
   refine OW_e (e_alloc Try.zeroValue49 rfl) rfl (fun b4 => ?_)
   refine OW_e0 (e_storeN Try.sizeOf49 rfl rfl rfl rfl (by simp [Value.oneCell']) swt (by rfl)) (fun _ => ?_)
   refine nx2 ?_
   refine CW_seq ?_
   refine nx3 ?_
   refine OW_q (q_fieldAddr Try.underlying49 rfl rfl Try.sizeOf3 rfl rfl) rfl ?_
   refine OW_q (q_load1_own Try.isAgg3 rfl rfl swt (by rfl)) rfl ?_
   refine OW_q (q_lss rfl rfl) rfl ?_
   refine mO ?_
   refine OW_part (t := 46) rfl (fun hg46 => ?_) (fun hg46 => ?_)
   · skip
     refine kO ?_
     refine kO ?_
     refine kO ?_
     refine kO ?_
     refine kO ?_
     refine OW_q (q_pick_t rfl rfl) rfl ?_
     refine mO ?_
     refine kO ?_
     refine kO ?_
     refine kO ?_
     refine kO ?_
     refine OW_q (q_pick_t rfl rfl) rfl ?_
     refine nx2 ?_
     refine CW_true rfl rfl ?_
     refine nx3 ?_
     refine aO ?_
     refine nx2 ?_
     refine CW_ret ?_
     refine EW_then_ret ?_
     refine EW_block_ret ?_
     refine EW_then_ret ?_
     refine EW_out_ret ?_
     refine EW_block_ret ?_
     refine EW_then_ret ?_
     refine ret1 Try.results12 rfl (fun w hw => ?_)
     refine ⟨rf fun hm => ?_, hw.sub .nil⟩; have h1 := may_rule hm hx; clear hm; ((try simp only [decide_eq_true_eq, decide_eq_false_iff_not] at *); first | omega | (simp_all; done) | (simp_all; omega))
   refine wO ?_
   refine OW_q (q_fieldAddr Try.underlying49 rfl rfl Try.sizeOf3 rfl rfl) rfl ?_
   refine wO ?_
   refine OW_q (q_load1_own Try.isAgg3 rfl rfl swt (by rfl)) rfl ?_
   refine wO ?_
   refine OW_q (q_fieldAddr Try.underlying24 rfl rfl Try.sizeOf3 rfl rfl) rfl ?_
   refine wO ?_
   refine OW_q (q_load1_own Try.isAgg3 rfl rfl swt (by rfl)) rfl ?_
   refine wO ?_
   refine OW_q (q_geq rfl rfl) rfl ?_
   refine OW_q (q_pick_f rfl rfl) rfl ?_
   refine mO ?_
   refine OW_part (t := 53) rfl (fun hg53 => ?_) (fun hg53 => ?_)
   · skip
     refine kO ?_
     refine kO ?_
     refine kO ?_
     refine kO ?_
     refine OW_q (q_pick_t rfl rfl) rfl ?_
     refine nx2 ?_
     refine CW_true rfl rfl ?_
     refine nx3 ?_
     refine aO ?_
     refine nx2 ?_
     refine CW_ret ?_
     refine EW_then_ret ?_
     refine EW_block_ret ?_
     refine EW_then_ret ?_
     refine EW_out_ret ?_
     refine EW_block_ret ?_
     refine EW_then_ret ?_
     refine ret1 Try.results12 rfl (fun w hw => ?_)
     refine ⟨rf fun hm => ?_, hw.sub .nil⟩; have h1 := may_rule hm hx; clear hm; ((try simp only [decide_eq_true_eq, decide_eq_false_iff_not] at *); first | omega | (simp_all; done) | (simp_all; omega))
   refine wO ?_
   refine OW_q (q_fieldAddr Try.underlying49 rfl rfl Try.sizeOf46 rfl rfl) rfl ?_
   refine wO ?_
   refine OW_q (q_load1_own Try.isAgg46 rfl rfl swt (by rfl)) rfl ?_
   refine wO ?_
   refine OW_q (q_len Try.underlying46 rfl) rfl ?_
   refine wO ?_
   refine OW_q (q_gtr rfl rfl) rfl ?_
   refine OW_q (q_pick_f rfl rfl) rfl ?_
   refine nx2 ?_
   refine CW_cond rfl (fun h58 => ?_) (fun h58 => ?_)
   · skip
     refine nx3 ?_
     refine aO ?_
     refine nx2 ?_
     refine CW_ret ?_
     refine EW_then_ret ?_
     refine EW_block_ret ?_
     refine EW_then_ret ?_
     refine EW_out_ret ?_
     refine EW_block_ret ?_
     refine EW_then_ret ?_
     refine ret1 Try.results12 rfl (fun w hw => ?_)
     refine ⟨rf fun hm => ?_, hw.sub .nil⟩; have h1 := may_rule hm hx; clear hm; ((try simp only [decide_eq_true_eq, decide_eq_false_iff_not] at *); first | omega | (simp_all; done) | (simp_all; omega))
   refine CW_skip ?_
   refine EW_then ?_
   refine nx3 ?_
   refine aO ?_
   refine nx2 ?_
   refine CW_block ?_
   refine CW_loopP (ι := Nat) (fun j => j ≤ r.right.length ∧ (r.right.take j).all (symB g) = true) (fun j => [(1, .pointer (some ⟨b1, 0, none⟩)), (3, .int .i64 (k : Int)), (4, .pointer (some ⟨b4, 0, none⟩)), (5, .int .i64 (j : Int))]) (fun j => Sat (Old w) w [cel b4 49 [.int .i64 r.left, .slice a2 r.right.length c2], cel b1 24 [.int .i64 g.terms, .int .i64 g.names, .slice (some p) g.rules.length c]]) (fun j => r.right.length - j) 0 ?_ ⟨rfl, rfl, rfl, rfl, trivial⟩ sft ?_
   · exact ⟨Nat.zero_le _, rfl⟩
   intro j hpre
   change CW _ _ _ _ [(1, .pointer (some ⟨b1, 0, none⟩)), (3, .int .i64 (k : Int)), (4, .pointer (some ⟨b4, 0, none⟩)), (5, .int .i64 (j : Int))] (Sat (Old w) w [cel b4 49 [.int .i64 r.left, .slice a2 r.right.length c2], cel b1 24 [.int .i64 g.terms, .int .i64 g.names, .slice (some p) g.rules.length c]])
   obtain ⟨hj, hokj⟩ := hpre
   refine CW_seq ?_
   refine nx3 ?_
   refine mO ?_
   refine OW_q (q_fieldAddr Try.underlying49 rfl rfl Try.sizeOf46 rfl rfl) rfl ?_
   refine OW_q (q_load1_own Try.isAgg46 rfl rfl swt (by rfl)) rfl ?_
   refine OW_q (q_len Try.underlying46 rfl) rfl ?_
   refine OW_q (q_lss rfl rfl) rfl ?_
   refine nx2 ?_
   refine CW_cond rfl (fun h63 => ?_) (fun h63 => ?_)
   · skip
     have hltj : j < r.right.length := by simpa using h63
     obtain ⟨s, hs⟩ := get_of_lt hltj
     obtain ⟨p2, rfl, hrow2⟩ := hss j s hs
     refine CW_skip ?_
     refine EW_then ?_
     refine CW_seq ?_
     refine CW_block ?_
     refine nx3 ?_
     refine OW_q (q_fieldAddr Try.underlying24 rfl rfl Try.sizeOf3 rfl rfl) rfl ?_
     refine OW_q (q_load1_own Try.isAgg3 rfl rfl swt (by rfl)) rfl ?_
     refine aO ?_
     refine nx2 ?_
     refine CW_seq ?_
     refine nx3 ?_
     refine OW_q (q_fieldAddr Try.underlying49 rfl rfl Try.sizeOf46 rfl rfl) rfl ?_
     refine OW_q (q_load1_own Try.isAgg46 rfl rfl swt (by rfl)) rfl ?_
     refine mO ?_
     refine OW_q (q_indexAddr Try.underlying46 Try.sizeOf51 rfl rfl (by omega)) rfl ?_
     refine OW_q (q_fieldAddr Try.underlying51 rfl rfl Try.sizeOf4 rfl rfl) rfl ?_
     refine OW_q (q_load1_ro Try.isAgg4 rfl (by exact Row.at_ (by assumption) rfl)) rfl ?_
     refine nx2 ?_
     refine CW_cond rfl (fun h73 => ?_) (fun h73 => ?_)
     · skip
       refine CW_region ?_
       refine OW_q (q_fieldAddr Try.underlying24 rfl rfl Try.sizeOf3 rfl rfl) rfl ?_
       refine OW_q (q_load1_own Try.isAgg3 rfl rfl swt (by rfl)) rfl ?_
       refine aO ?_
       refine nx4 ?_
       refine OW_q (q_fieldAddr Try.underlying49 rfl rfl Try.sizeOf46 rfl rfl) rfl ?_
       refine OW_q (q_load1_own Try.isAgg46 rfl rfl swt (by rfl)) rfl ?_
       refine mO ?_
       refine OW_q (q_indexAddr Try.underlying46 Try.sizeOf51 rfl rfl (by omega)) rfl ?_
       refine OW_q (q_fieldAddr Try.underlying51 rfl rfl Try.sizeOf3 rfl rfl) rfl ?_
       refine OW_q (q_load1_ro Try.isAgg3 rfl (by exact Row.at_ (by assumption) rfl)) rfl ?_
       refine OW_q (q_lss rfl rfl) rfl ?_
       refine mO ?_
       refine OW_part (t := 83) rfl (fun hg83 => ?_) (fun hg83 => ?_)
       · skip
         refine kO ?_
         refine kO ?_
         refine kO ?_
         refine kO ?_
         refine kO ?_
         refine kO ?_
         refine kO ?_
         refine kO ?_
         refine OW_q (q_pick_t rfl rfl) rfl ?_
         refine nx2 ?_
         refine CW_true rfl rfl ?_
         refine nx3 ?_
         refine aO ?_
         refine nx2 ?_
         refine CW_ret ?_
         refine EW_block_ret ?_
         refine EW_then_ret ?_
         refine EW_out_ret ?_
         refine EW_block_ret ?_
         refine EW_block_ret ?_
         refine EW_then_ret ?_
         refine EW_out_ret ?_
         refine EW_block_ret ?_
         refine EW_then_ret ?_
         refine ret1 Try.results12 rfl (fun w hw => ?_)
         refine ⟨rf fun hm => ?_, hw.sub .nil⟩; have h1 := may_sym hm hx hs; clear hm; ((try simp only [decide_eq_true_eq, decide_eq_false_iff_not] at *); first | omega | (simp_all; done) | (simp_all; omega))
       refine wO ?_
       refine OW_q (q_fieldAddr Try.underlying49 rfl rfl Try.sizeOf46 rfl rfl) rfl ?_
       refine wO ?_
       refine OW_q (q_load1_own Try.isAgg46 rfl rfl swt (by rfl)) rfl ?_
       refine wO ?_
       refine mO ?_
       refine wO ?_
       refine OW_q (q_indexAddr Try.underlying46 Try.sizeOf51 rfl rfl (by omega)) rfl ?_
       refine wO ?_
       refine OW_q (q_fieldAddr Try.underlying51 rfl rfl Try.sizeOf3 rfl rfl) rfl ?_
       refine wO ?_
       refine OW_q (q_load1_ro Try.isAgg3 rfl (by exact Row.at_ (by assumption) rfl)) rfl ?_
       refine wO ?_
       refine mO ?_
       refine wO ?_
       refine OW_q (q_geq rfl rfl) rfl ?_
       refine OW_q (q_pick_f rfl rfl) rfl ?_
       refine nx2 ?_
       refine CW_cond rfl (fun h92 => ?_) (fun h92 => ?_)
       · skip
         refine nx3 ?_
         refine aO ?_
         refine nx2 ?_
         refine CW_ret ?_
         refine EW_block_ret ?_
         refine EW_then_ret ?_
         refine EW_out_ret ?_
         refine EW_block_ret ?_
         refine EW_block_ret ?_
         refine EW_then_ret ?_
         refine EW_out_ret ?_
         refine EW_block_ret ?_
         refine EW_then_ret ?_
         refine ret1 Try.results12 rfl (fun w hw => ?_)
         refine ⟨rf fun hm => ?_, hw.sub .nil⟩; have h1 := may_sym hm hx hs; clear hm; ((try simp only [decide_eq_true_eq, decide_eq_false_iff_not] at *); first | omega | (simp_all; done) | (simp_all; omega))
       refine CW_skip ?_
       refine EW_block_normal ?_
       refine EW_then ?_
       refine CW_region ?_
       refine mO ?_
       refine OW_q (q_add rfl rfl (by omega) (by omega)) rfl ?_
       refine aO ?_
       refine OW_nil ?_
       refine EW_again (j + 1) ⟨?_, ?_⟩ ⟨rfl, rfl, rfl, rfl, trivial⟩ sft
       · show r.right.length - (j + 1) < r.right.length - j; omega
       · refine ⟨by omega, ?_⟩
         have hR : symB g s = true := by
           refine symB_true.2 ?_
           ((try simp only [decide_eq_true_eq, decide_eq_false_iff_not] at *); first | omega | (simp_all; done) | (simp_all; omega))
         rw [all_take_succ _ hs, hokj, hR]; rfl
     refine CW_skip ?_
     refine EW_then ?_
     refine nx3 ?_
     refine OW_q (q_fieldAddr Try.underlying49 rfl rfl Try.sizeOf46 rfl rfl) rfl ?_
     refine OW_q (q_load1_own Try.isAgg46 rfl rfl swt (by rfl)) rfl ?_
     refine mO ?_
     refine OW_q (q_indexAddr Try.underlying46 Try.sizeOf51 rfl rfl (by omega)) rfl ?_
     refine OW_q (q_fieldAddr Try.underlying51 rfl rfl Try.sizeOf3 rfl rfl) rfl ?_
     refine OW_q (q_load1_ro Try.isAgg3 rfl (by exact Row.at_ (by assumption) rfl)) rfl ?_
     refine OW_q (q_lss rfl rfl) rfl ?_
     refine mO ?_
     refine OW_part (t := 83) rfl (fun hg83 => ?_) (fun hg83 => ?_)
     · skip
       refine kO ?_
       refine kO ?_
       refine kO ?_
       refine kO ?_
       refine kO ?_
       refine kO ?_
       refine kO ?_
       refine kO ?_
       refine OW_q (q_pick_t rfl rfl) rfl ?_
       refine nx2 ?_
       refine CW_true rfl rfl ?_
       refine nx3 ?_
       refine aO ?_
       refine nx2 ?_
       refine CW_ret ?_
       refine EW_block_ret ?_
       refine EW_then_ret ?_
       refine EW_out_ret ?_
       refine EW_block_ret ?_
       refine EW_block_ret ?_
       refine EW_then_ret ?_
       refine EW_out_ret ?_
       refine EW_block_ret ?_
       refine EW_then_ret ?_
       refine ret1 Try.results12 rfl (fun w hw => ?_)
       refine ⟨rf fun hm => ?_, hw.sub .nil⟩; have h1 := may_sym hm hx hs; clear hm; ((try simp only [decide_eq_true_eq, decide_eq_false_iff_not] at *); first | omega | (simp_all; done) | (simp_all; omega))
     refine wO ?_
     refine OW_q (q_fieldAddr Try.underlying49 rfl rfl Try.sizeOf46 rfl rfl) rfl ?_
     refine wO ?_
     refine OW_q (q_load1_own Try.isAgg46 rfl rfl swt (by rfl)) rfl ?_
     refine wO ?_
     refine mO ?_
     refine wO ?_
     refine OW_q (q_indexAddr Try.underlying46 Try.sizeOf51 rfl rfl (by omega)) rfl ?_
     refine wO ?_
     refine OW_q (q_fieldAddr Try.underlying51 rfl rfl Try.sizeOf3 rfl rfl) rfl ?_
     refine wO ?_
     refine OW_q (q_load1_ro Try.isAgg3 rfl (by exact Row.at_ (by assumption) rfl)) rfl ?_
     refine wO ?_
     refine mO ?_
     refine wO ?_
     refine OW_q (q_geq rfl rfl) rfl ?_
     refine OW_q (q_pick_f rfl rfl) rfl ?_
     refine nx2 ?_
     refine CW_cond rfl (fun h92 => ?_) (fun h92 => ?_)
     · skip
       refine nx3 ?_
       refine aO ?_
       refine nx2 ?_
       refine CW_ret ?_
       refine EW_block_ret ?_
       refine EW_then_ret ?_
       refine EW_out_ret ?_
       refine EW_block_ret ?_
       refine EW_block_ret ?_
       refine EW_then_ret ?_
       refine EW_out_ret ?_
       refine EW_block_ret ?_
       refine EW_then_ret ?_
       refine ret1 Try.results12 rfl (fun w hw => ?_)
       refine ⟨rf fun hm => ?_, hw.sub .nil⟩; have h1 := may_sym hm hx hs; clear hm; ((try simp only [decide_eq_true_eq, decide_eq_false_iff_not] at *); first | omega | (simp_all; done) | (simp_all; omega))
     refine CW_skip ?_
     refine EW_block_normal ?_
     refine EW_then ?_
     refine CW_region ?_
     refine mO ?_
     refine OW_q (q_add rfl rfl (by omega) (by omega)) rfl ?_
     refine aO ?_
     refine OW_nil ?_
     refine EW_again (j + 1) ⟨?_, ?_⟩ ⟨rfl, rfl, rfl, rfl, trivial⟩ sft
     · show r.right.length - (j + 1) < r.right.length - j; omega
     · refine ⟨by omega, ?_⟩
       have hR : symB g s = true := by
         refine symB_true.2 ?_
         ((try simp only [decide_eq_true_eq, decide_eq_false_iff_not] at *); first | omega | (simp_all; done) | (simp_all; omega))
       rw [all_take_succ _ hs, hokj, hR]; rfl
   have hend2 := take_all (l := r.right) (k := j) (by simpa using h63)
   rw [hend2] at hokj
   refine CW_exit ?_
   refine EW_then_exit ?_
   refine EW_out ?_
   refine EW_block_exit ?_
   refine EW_block_normal ?_
   refine EW_then ?_
   refine CW_region ?_
   refine mO ?_
   refine OW_q (q_add rfl rfl (by omega) (by omega)) rfl ?_
   refine aO ?_
   refine OW_nil ?_
   refine EW_again (k + 1) ⟨?_, ?_⟩ ⟨rfl, rfl, trivial⟩ sft
   · show g.rules.length - (k + 1) < g.rules.length - k; omega
   · refine ⟨by omega, ?_⟩
     have hR : ruleB g r = true := by
       refine ruleB_true.2 ?_
       simp only [hokj]
       ((try simp only [decide_eq_true_eq, decide_eq_false_iff_not] at *); first | omega | (simp_all; done) | (simp_all; omega))
     rw [all_take_succ _ hx, hok, hR]; rfl
 have hend := take_all (l := g.rules) (k := k) (by simpa using h35)
 rw [hend] at hok
 refine CW_exit ?_
 refine EW_then_exit ?_
 refine EW_out ?_
 refine EW_block_exit ?_
 refine EW_then ?_
 refine nx3 ?_
 refine aO ?_
 refine nx2 ?_
 refine CW_ret ?_
 refine ret1 Try.results12 rfl (fun w hw => ?_)
 refine ⟨rt (mayB_true.2 ?_), hw.sub .nil⟩; simp only [hok]; ((try simp only [decide_eq_false_iff_not] at *); first | omega | (simp_all; done) | (simp_all; omega))

end Go.Sy
/- Walks over package short and its reference. No condition. -/
namespace Go.Sy
open Go Go.RowKit Go.Proofs

set_option maxRecDepth 20000 in
theorem ints_any (av bv : Value) (xs ys : List Int) (w : World) (ha : IntsAt (Cl w) av xs) (hb : IntsAt (Cl w) bv ys) : Calls Try.prog 18 #[av, bv] w (fun e w' => e = .returned (.bool (decide (xs = ys))) ∧ Sat (Old w) w [] w') := by
 obtain ⟨a, c, rfl, hc1, hc2, hx⟩ := ha.mono old_rd
 obtain ⟨a2, c2, rfl, hd1, hd2, hy⟩ := hb.mono old_rd
 clear ha hb
 refine calls_CW Try.func18 rfl Try.ntmps18 rfl (Sat.start w) ?_
 refine nx3 ?_
 refine aO ?_
 refine nx2 ?_
 refine CW_seq ?_
 refine nx3 ?_
 refine mO ?_
 refine OW_q (q_len Try.underlying32 rfl) rfl ?_
 refine mO ?_
 refine OW_q (q_len Try.underlying32 rfl) rfl ?_
 refine OW_q (q_nei rfl rfl) rfl ?_
 refine nx2 ?_
 refine CW_cond rfl (fun h10 => ?_) (fun h10 => ?_)
 · skip
   refine nx3 ?_
   refine aO ?_
   refine nx2 ?_
   refine CW_ret ?_
   refine EW_then_ret ?_
   refine ret1 Try.results18 rfl (fun w hw => ?_)
   refine ⟨rf fun hm => ?_, hw⟩
   simp only [decide_eq_true_eq] at hm
   subst hm
   simp at h10
 have hlen : xs.length = ys.length := by have := h10; simp only [bne_eq_false_iff_eq] at this; omega
 refine CW_skip ?_
 refine EW_then ?_
 refine CW_seq ?_
 refine nx3 ?_
 refine aO ?_
 refine nx2 ?_
 refine CW_block ?_
 refine CW_loopP (ι := Nat) (fun k => k ≤ xs.length ∧ xs.take k = ys.take k) (fun k => [(0, .slice a xs.length c), (1, .slice a2 ys.length c2), (5, .int .i64 (k : Int))]) (fun k => Sat (Old w) w []) (fun k => xs.length - k) 0 ?_ ⟨rfl, rfl, rfl, trivial⟩ sft ?_
 · exact ⟨Nat.zero_le _, rfl⟩
 intro k hpre
 change CW _ _ _ _ [(0, .slice a xs.length c), (1, .slice a2 ys.length c2), (5, .int .i64 (k : Int))] (Sat (Old w) w [])
 obtain ⟨hk, hok⟩ := hpre
 refine CW_seq ?_
 refine nx3 ?_
 refine mO ?_
 refine mO ?_
 refine OW_q (q_len Try.underlying32 rfl) rfl ?_
 refine OW_q (q_lss rfl rfl) rfl ?_
 refine nx2 ?_
 refine CW_cond rfl (fun h14 => ?_) (fun h14 => ?_)
 · skip
   have hlt : k < xs.length := by simpa using h14
   obtain ⟨x, hxk⟩ := get_of_lt hlt
   obtain ⟨p, rfl, hc⟩ := hx k x hxk
   obtain ⟨y, hyk⟩ := get_of_lt (l := ys) (k := k) (by omega)
   obtain ⟨q, rfl, hd⟩ := hy k y hyk
   refine CW_skip ?_
   refine EW_then ?_
   refine CW_seq ?_
   refine CW_block ?_
   refine CW_seq ?_
   refine CW_drawS 9 [(0, false), (1, false), (2, false), (3, false), (4, false), (5, false), (6, false), (7, false), (8, false)] (by kernel_rfl) (Blind.then (Blind.block (Blind.then (Blind.again (Blind.block (Blind.then (Blind.body (by intro c w h; simp at h)))))))) (by kernel_rfl) (fun w hw => hw.drew) ?_
   refine mD ?_
   refine mD ?_
   refine DW_q rfl sft (q_indexAddr Try.underlying32 Try.sizeOf3 rfl rfl (by omega)) rfl ?_
   refine DW_q rfl sft (q_load1_ro Try.isAgg3 rfl (by assumption)) rfl ?_
   refine mD ?_
   refine mD ?_
   refine DW_q rfl sft (q_indexAddr Try.underlying32 Try.sizeOf3 rfl rfl (by omega)) rfl ?_
   refine DW_q rfl sft (q_load1_ro Try.isAgg3 rfl (by assumption)) rfl ?_
   refine DW_q rfl sft (q_nei rfl rfl) rfl ?_
   refine DW_nil ?_
   refine EW_then ?_
   refine CW_cond rfl (fun h25 => ?_) (fun h25 => ?_)
   · skip
     refine nx3 ?_
     refine aO ?_
     refine nx2 ?_
     refine CW_ret ?_
     refine EW_block_ret ?_
     refine EW_then_ret ?_
     refine EW_out_ret ?_
     refine EW_block_ret ?_
     refine EW_then_ret ?_
     refine ret1 Try.results18 rfl (fun w hw => ?_)
     refine ⟨rf fun hm => ?_, hw⟩
     simp only [decide_eq_true_eq] at hm
     subst hm
     rw [hxk] at hyk
     simp only [Option.some.injEq] at hyk
     subst hyk
     simp at h25
   refine CW_skip ?_
   refine EW_block_normal ?_
   refine EW_then ?_
   refine CW_region ?_
   refine mO ?_
   refine OW_q (q_add rfl rfl (by omega) (by omega)) rfl ?_
   refine aO ?_
   refine OW_nil ?_
   refine EW_again (k + 1) ⟨?_, ?_⟩ ⟨rfl, rfl, rfl, trivial⟩ sft
   · show xs.length - (k + 1) < xs.length - k; omega
   · refine ⟨by omega, ?_⟩
     have e : x = y := by simpa using h25
     rw [List.take_add_one, List.take_add_one, hxk, hyk, hok, e]
 refine CW_exit ?_
 refine EW_then_exit ?_
 refine EW_out ?_
 refine EW_block_exit ?_
 refine EW_then ?_
 refine nx3 ?_
 refine aO ?_
 refine nx2 ?_
 refine CW_ret ?_
 refine ret1 Try.results18 rfl (fun w hw => ?_)
 refine ⟨rt ?_, hw⟩
 have h1 := take_all (l := xs) (k := k) (by simpa using h14)
 have h2 := take_all (l := ys) (k := k) (by have := (show ¬ k < xs.length by simpa using h14); omega)
 rw [h1, h2] at hok
 simpa using hok

end Go.Sy
/- A derivation, gone through in plain terms: what is still to come, the next one first. No condition. -/
namespace Go.Sy
open Go

structure Itm where
  s : Sym
  close : Bool
  span : Int
structure Spn where
  rule : Int
  frm : Int
  to : Int
  deriving DecidableEq

abbrev mkS (s : Sym) : Itm := ⟨s, false, 0⟩
abbrev mkC (k : Int) : Itm := ⟨⟨false, 0⟩, true, k⟩

/-- What comes of it, or nothing: it is no derivation. -/
inductive Thru (g : Gram) (d : List Int) : List Itm → Nat → List Int → List Spn → Option (List Int × List Spn) → Prop
  | done {used : Nat} {out : List Int} {sp : List Spn} : used = d.length → Thru g d [] used out sp (some (out, sp))
  | short {used : Nat} {out : List Int} {sp : List Spn} : used ≠ d.length → Thru g d [] used out sp none
  | close {it : Itm} {st : List Itm} {used : Nat} {out : List Int} {sp : List Spn} {x : Spn} {r : Option (List Int × List Spn)} : it.close = true → sp[it.span.toNat]? = some x →
      Thru g d st used out (sp.set it.span.toNat ⟨x.rule, x.frm, out.length⟩) r → Thru g d (it :: st) used out sp r
  | term {it : Itm} {st : List Itm} {used : Nat} {out : List Int} {sp : List Spn} {r : Option (List Int × List Spn)} : it.close = false → it.s.term = true →
      Thru g d st used (out ++ [it.s.n]) sp r → Thru g d (it :: st) used out sp r
  | bad {it : Itm} {st : List Itm} {used : Nat} {out : List Int} {sp : List Spn} : it.close = false → it.s.term = false →
      (∀ x q, d[used]? = some x → 0 ≤ x → g.rules[x.toNat]? = some q → q.left ≠ it.s.n) → Thru g d (it :: st) used out sp none
  | rule {it : Itm} {st : List Itm} {used : Nat} {out : List Int} {sp : List Spn} {x : Int} {q : Rule} {r : Option (List Int × List Spn)} : it.close = false → it.s.term = false →
      d[used]? = some x → 0 ≤ x → g.rules[x.toNat]? = some q → q.left = it.s.n →
      Thru g d (q.right.map mkS ++ mkC used :: st) (used + 1) out (sp ++ [⟨x, out.length, 0⟩]) r → Thru g d (it :: st) used out sp r

abbrev open0 : List Itm := [⟨⟨false, 0⟩, false, 0⟩]

/-- What must still be yielded. -/
def syms (st : List Itm) : List Sym := (st.filter (fun i => !i.close)).map (·.s)
abbrev encO : Itm → List Value := fun i => [vb i.s.term, vi i.s.n, vb i.close, vi i.span]
abbrev encS : Spn → List Value := fun s => [vi s.rule, vi s.frm, vi s.to]
/-- What 'Through' tells. -/
structure TR where
  v1 : Value
  v2 : Value
  out : List Int
  sp : List Spn
  ok : Bool
def ThruOk (g : Gram) (d : List Int) (x : TR) : Prop :=
  (x.ok = true → mayB g = true ∧ d.length ≤ 400 ∧ Thru g d open0 0 [] [] (some (x.out, x.sp))) ∧ (x.ok = false → mayB g = true → d.length ≤ 400 → Thru g d open0 0 [] [] none)

theorem thru_det {g : Gram} {d : List Int} {st : List Itm} {used : Nat} {out : List Int} {sp : List Spn} {r : Option (List Int × List Spn)} (h : Thru g d st used out sp r) : ∀ r', Thru g d st used out sp r' → r = r' := by
  induction h with
  | done h => intro r' h'; cases h' with | done => rfl | short h2 => exact absurd h h2
  | short h => intro r' h'; cases h' with | done h2 => exact absurd h2 h | short => rfl
  | close hc hx _ ih =>
    intro r' h'
    cases h' with
    | close _ hx' h2 => rw [hx] at hx'; cases hx'; exact ih _ h2
    | term h1 _ _ => rw [hc] at h1; cases h1
    | bad h1 _ _ => rw [hc] at h1; cases h1
    | rule h1 _ _ _ _ _ _ => rw [hc] at h1; cases h1
  | term hc ht _ ih =>
    intro r' h'
    cases h' with
    | close h1 _ _ => rw [hc] at h1; cases h1
    | term _ _ h2 => exact ih _ h2
    | bad _ h1 _ => rw [ht] at h1; cases h1
    | rule _ h1 _ _ _ _ _ => rw [ht] at h1; cases h1
  | bad hc ht hb =>
    intro r' h'
    cases h' with
    | close h1 _ _ => rw [hc] at h1; cases h1
    | term _ h1 _ => rw [ht] at h1; cases h1
    | bad _ _ _ => rfl
    | rule _ _ h1 h2 h3 h4 _ => exact absurd h4 (hb _ _ h1 h2 h3)
  | rule hc ht hd h0 hq hl _ ih =>
    intro r' h'
    cases h' with
    | close h1 _ _ => rw [hc] at h1; cases h1
    | term _ h1 _ => rw [ht] at h1; cases h1
    | bad _ _ hb => exact absurd hl (hb _ _ hd h0 hq)
    | rule _ _ h1 h2 h3 h4 h5 =>
      rw [hd] at h1; cases h1
      rw [hq] at h3; cases h3
      exact ih _ h5
end Go.Sy
/- Rows whose elements are structs: what is read, written and appended, element by element. No condition. -/
namespace Go.Sy
open Go Go.RowKit

/-- A row of a function's own, its elements spelled by 'enc'. -/
def trow {α : Type} (e : TypeId) (size : Nat) (enc : α → List Value) (v : Value) (l : List α) : HP := row e size v l.length (l.flatMap enc)

section
variable {α : Type} {enc : α → List Value} {size : Nat}
theorem flat_length (he : ∀ x, (enc x).length = size) : ∀ l : List α, (l.flatMap enc).length = l.length * size
  | [] => by simp
  | x :: l => by rw [List.flatMap_cons, List.length_append, flat_length he l, he, List.length_cons, Nat.add_mul, Nat.one_mul, Nat.add_comm]
theorem flat_get (he : ∀ x, (enc x).length = size) : ∀ {l : List α} {k j : Nat} {x : α}, l[k]? = some x → j < size → (l.flatMap enc)[k * size + j]? = (enc x)[j]?
  | [], k, j, x, h, _ => by cases h
  | y :: l, 0, j, x, h, hj => by
    simp only [List.getElem?_cons_zero, Option.some.injEq] at h
    subst h
    rw [List.flatMap_cons, Nat.zero_mul, Nat.zero_add, List.getElem?_append_left (by rw [he]; exact hj)]
  | y :: l, k + 1, j, x, h, hj => by
    rw [List.flatMap_cons, List.getElem?_append_right (by rw [he, Nat.add_mul]; omega), he, show (k + 1) * size + j - size = k * size + j by rw [Nat.add_mul]; omega]
    exact flat_get he (by simpa using h) hj
theorem flat_set (he : ∀ x, (enc x).length = size) : ∀ {l : List α} {k j : Nat} {x y : α} {u : Value}, l[k]? = some x → j < size → enc y = (enc x).set j u → (l.set k y).flatMap enc = (l.flatMap enc).set (k * size + j) u
  | [], k, j, x, y, u, h, _, _ => by cases h
  | z :: l, 0, j, x, y, u, h, hj, hy => by
    simp only [List.getElem?_cons_zero, Option.some.injEq] at h
    subst h
    rw [List.set_cons_zero, List.flatMap_cons, List.flatMap_cons, Nat.zero_mul, Nat.zero_add, List.set_append_left _ _ (by rw [he]; exact hj), hy]
  | z :: l, k + 1, j, x, y, u, h, hj, hy => by
    rw [List.set_cons_succ, List.flatMap_cons, List.flatMap_cons, List.set_append_right _ _ (by rw [he, Nat.add_mul]; omega), he, show (k + 1) * size + j - size = k * size + j by rw [Nat.add_mul]; omega,
      flat_set he (by simpa using h) hj hy]
end

section
variable {P : Program} {n : Nat} {K : Env} {dst : Option Nat} {T : TypeId} {pos : String} {af : Array Edge} {g : Option (Nat × Bool)} {R : Nat → Prop} {w0 w : World} {L L' L1 : List HP} {Q : Exit → Act → World → Prop} {S S' : World → Prop}

theorem CW_fact {c : Code} {p : Prop} (hp : ∀ w, S w → p) (h : p → CW P c Q n K S) : CW P c Q n K S := fun a w ha hw => h (hp w hw) a w ha hw
theorem OW_fact {ops : Array Oper} {l : List Oper} {p : Prop} (hp : ∀ w, S w → p) (h : p → OW P ops Q l n K S) : OW P ops Q l n K S := fun a w ha hw => h (hp w hw) a w ha hw
theorem CW_weak {c : Code} (hp : ∀ w, S w → S' w) (h : CW P c Q n K S') : CW P c Q n K S := fun a w ha hw => h a w ha (hp w hw)
theorem OW_weak {ops : Array Oper} {l : List Oper} (hp : ∀ w, S w → S' w) (h : OW P ops Q l n K S') : OW P ops Q l n K S := fun a w ha hw => h a w ha (hp w hw)
theorem EW_weak {e : Exit} (hp : ∀ w, S w → S' w) (h : EW e Q n K S') : EW e Q n K S := fun a w ha hw => h a w ha (hp w hw)

theorem rev_get {α : Type} (l : List α) (x : α) : (l.reverse ++ [x])[l.length]? = some x := by
  rw [← List.length_reverse]; exact List.getElem?_concat_length

variable {α : Type} {enc : α → List Value} {size : Nat} {e : TypeId} {v : Value} {l : List α}
theorem Sat.tnil (e : TypeId) (size : Nat) (enc : α → List Value) (h : Sat R w0 L w) : Sat R w0 (trow e size enc (.slice none 0 0) [] :: L) w := h.rowNil e size

theorem Sat.tform (s : Swap L (trow e size enc v l) (trow e size enc v l) L') (h : Sat R w0 L w) : ∃ a c, v = .slice a l.length c ∧ l.length ≤ c ∧ c ≤ 9223372036854775807 ∧ (0 < l.length → ∃ g, a = some ⟨g, 0, none⟩) := by
  rcases h.rowForm s with ⟨rfl, h0, _⟩ | ⟨g, c, rfl, h1, h2, _⟩
  · exact ⟨none, 0, by rw [h0], by omega, by omega, fun h => by omega⟩
  · exact ⟨some ⟨g, 0, none⟩, c, rfl, h1, by simpa [maxLen] using h2, fun _ => ⟨g, rfl⟩⟩

theorem Sat.tget {A' : HP} (he : ∀ x, (enc x).length = size) {b len cap k : Nat} {y : α} (s : Swap L (trow e size enc v l) A' L') (h : Sat R w0 L w) (hv : v = .slice (some ⟨b, 0, none⟩) len cap) (hk : l[k]? = some y) :
    ∀ j u, (enc y)[j]? = some u → w.cell? (((⟨b, 0, none⟩ : Addr).add (k * size)).add j) = some u := fun j u hj => by
  have hlt : j < size := by rw [← he y]; exact (List.getElem?_eq_some_iff.1 hj).1
  have := h.cells_row s hv (k * size + j) u (by rw [flat_get he hk hlt]; exact hj)
  rw [Addr.add_lit, Addr.add_lit, Nat.zero_add]; exact this

/-- An element, read whole; one cell of an element. -/
theorem q_loadN_t {t : TypeId} {x : Operand} {b len cap k : Nat} {y : α} (hA : ∀ w, (isAgg t).run P w = .ok true w) (hs : ∀ w, (sizeOf t).run P w = .ok size w) (he : ∀ x, (enc x).length = size)
    (hx : ev K x = some (.pointer (some ((⟨b, 0, none⟩ : Addr).add (k * size))))) (s : Swap L (trow e size enc v l) (trow e size enc v l) L') (hv : v = .slice (some ⟨b, 0, none⟩) len cap) (hk : l[k]? = some y) :
    Qt P n K (Sat R w0 L) ⟨dst, .load t x, T, pos, af, g⟩ (.agg (enc y).toArray) :=
  q_loadN hA hs hx (he y) fun w hw => hw.tget he s hv hk
theorem q_load1_t {t : TypeId} {x : Operand} {b len cap k off : Nat} {y : α} {u : Value} (hA : ∀ w, (isAgg t).run P w = .ok false w) (he : ∀ x, (enc x).length = size)
    (hx : ev K x = some (.pointer (some (((⟨b, 0, none⟩ : Addr).add (k * size)).add off)))) (s : Swap L (trow e size enc v l) (trow e size enc v l) L') (hv : v = .slice (some ⟨b, 0, none⟩) len cap) (hk : l[k]? = some y) (hj : (enc y)[off]? = some u) :
    Qt P n K (Sat R w0 L) ⟨dst, .load t x, T, pos, af, g⟩ u :=
  q_load1 hA hx fun w hw => hw.tget he s hv hk off u hj

theorem e_store_t {t : TypeId} {x z : Operand} {b len cap k off : Nat} {y y' : α} {u : Value} (hs : ∀ w, (sizeOf t).run P w = .ok 1 w) (he : ∀ x, (enc x).length = size)
    (hx : ev K x = some (.pointer (some (((⟨b, 0, none⟩ : Addr).add (k * size)).add off)))) (hz : ev K z = some u) (hu : u.oneCell' = true) (hv : v = .slice (some ⟨b, 0, none⟩) len cap) (hk : l[k]? = some y) (hset : setL (enc y) off u = some (enc y'))
    (s : Swap L (trow e size enc v l) (trow e size enc v (l.set k y')) L') :
    Ef P n K (Sat R w0 L) ⟨dst, .store t x z, T, pos, af, g⟩ (fun _ : Unit => undef) (fun _ => Sat R w0 L') := by
  obtain ⟨hlt, hy⟩ := setL_spec hset
  rw [he] at hlt
  rw [Addr.add_lit, Addr.add_lit, Nat.zero_add] at hx
  have hkl : k < l.length := (List.getElem?_eq_some_iff.1 hk).1
  have hj : k * size + off < (l.flatMap enc).length := by
    rw [flat_length he]
    have : (k + 1) * size ≤ l.length * size := Nat.mul_le_mul_right _ hkl
    rw [Nat.add_mul] at this
    omega
  have s' : Swap L (row e size v l.length (l.flatMap enc)) (row e size v l.length ((l.flatMap enc).set (k * size + off) u)) L' := by
    have := s
    unfold trow at this
    rw [List.length_set, flat_set he hk hlt hy] at this
    exact this
  exact e_store_any hs hx hz hu fun w hw => ⟨⟨_, hw.cells_row s' hv _ _ (List.getElem?_eq_getElem hj)⟩, hw.rowUnfrozen s' hv _, hw.setRow_ s' hv hj⟩

theorem fold_put : ∀ (xs ys zs : List Value) (k : Nat), k = zs.length → xs.length = ys.length → (xs.zipIdx k).foldl (fun (cs : Array Value) (x : Value × Nat) => cs.setIfInBounds x.2 x.1) (zs ++ ys).toArray = (zs ++ xs).toArray
  | [], [], zs, k, _, _ => rfl
  | x :: xs, y :: ys, zs, k, hk, hl => by
    have := fold_put xs ys (zs ++ [x]) (k + 1) (by simp [hk]) (by simpa using hl)
    rw [List.zipIdx_cons, List.foldl_cons]
    have e : (zs ++ y :: ys).toArray.setIfInBounds k x = ((zs ++ [x]) ++ ys).toArray := by
      rw [List.setIfInBounds_toArray, hk, List.set_append_right _ _ (Nat.le_refl _), Nat.sub_self, List.set_cons_zero, List.append_assoc]; rfl
    rw [e, this, List.append_assoc]; rfl
/-- A new row of one element. -/
theorem e_single {t : TypeId} {m : Nat} {x : Operand} {v z : Value} {cs : List Value} (hu : P.underlying t = some (.slice e)) (hs : ∀ w, (sizeOf e).run P w = .ok m w) (hz : ∀ w, (zeroValue e).run P w = .ok z w)
    (hx : ev K x = some v) (hc : v.cells = cs.toArray) (hl : cs.length = m) (hzl : z.cells.size = m) (hm : 1 * m ≠ 0) (hm2 : 1 * m ≤ 1000) :
    Ef P n K (Sat R w0 L) ⟨dst, .buildSlice t 1 #[(0, x)], T, pos, af, g⟩ (fun b : Nat => .slice (some ⟨b, 0, none⟩) 1 1) (fun b => Sat R w0 (cel b e cs :: L)) := by
  have key := e_buildSlice (P := P) (n := n) (K := K) (dst := dst) (T := T) (pos := pos) (af := af) (g := g) (R := R) (w0 := w0) (L := L) (parts := #[(0, x)]) (ps := [(0, v)]) (cs := cs.toArray) hu hs hz
    (fun a ha => by simp [ha.ev hx]) hm hm2 (by
      have e1 : (Array.map (fun i => z.cells[i % z.cells.size]!) (Array.range (1 * m))) = ([] ++ (List.range m).map (fun i => z.cells[i % z.cells.size]!)).toArray := Array.ext (by simp) (fun i h1 h2 => by simp)
      have e2 := fold_put cs ((List.range m).map (fun i => z.cells[i % z.cells.size]!)) [] 0 rfl (by simp [hl])
      simp only [Instr.fill, hc, e1]
      rw [if_neg (by simp [hl])]
      have e3 : cs.toArray.zipIdx = (cs.zipIdx 0).toArray := by simp
      rw [e3]
      simpa using e2)
  exact key

/-- append of one element. -/
theorem e_append_t {t : TypeId} {s x : Operand} {i : TypeInfo} {z : Value} {bytes c : Nat} {ad : Addr} (x0 : α) (hu : P.underlying t = some (.slice e)) (hi : ∀ w, (typeInfo e).run P w = .ok i w) (hz : i.zero = some z)
    (hsize : i.size = size) (hby : i.bytes = bytes) (hzs : z.cells.size = size) (hsz : Nat.beq size 0 = false)
    (hs : ev K s = some v) (hx : ev K x = some (.slice (some ad) 1 c)) (hp : Pick L (trow e size enc v l) L1)
    (hl : (enc x0).length = size) (hnews : ∀ w, Sat R w0 L w → ∀ j u, (enc x0)[j]? = some u → w.cell? (ad.add j) = some u) (h1 : ∀ u ∈ enc x0, u.oneCell' = true)
    (hroom : l.length + 1 ≤ 1000000000000) (hbyt : bytes ≤ 64) :
    Ef P n K (Sat R w0 L) ⟨dst, .call { callee := .builtin .append, args := #[s, x], argTypes := #[t, t] }, T, pos, af, g⟩ (fun v' : Value => v') (fun v' => Sat R w0 (trow e size enc v' (l ++ [x0]) :: L1)) := by
  have := e_append (P := P) (n := n) (K := K) (dst := dst) (T := T) (pos := pos) (af := af) (g := g) (R := R) (w0 := w0) hu hi hz hsize hby hzs hsz hs hx (hp : Pick L (row e size v l.length (l.flatMap enc)) L1) (by rw [hl, Nat.one_mul]) hnews h1 hroom hbyt
  unfold trow
  rw [List.flatMap_append, List.length_append, List.flatMap_cons, List.flatMap_nil, List.append_nil, List.length_singleton]
  exact this

/-- The last element is let go. -/
theorem Sat.tpop (he : ∀ x, (enc x).length = size) {b c m : Nat} {y : α} (hm : l.length = m) (s : Swap L (trow e size enc (.slice (some ⟨b, 0, none⟩) (m + 1) c) (l ++ [y])) (trow e size enc (.slice (some ⟨b, 0, none⟩) m c) l) L') (h : Sat R w0 L w) : Sat R w0 L' w :=
  h.swap s fun hp ⟨h1, h2, h3⟩ => by
    subst hm
    rw [List.length_append, List.length_singleton] at h2 h3
    refine ⟨flat_length he l, by omega, ?_⟩
    rcases h3 with ⟨h, _⟩ | ⟨b', cap, rest, hv, h4, h5, h6, h7⟩
    · cases h
    · injection hv with e1 _ e2
      refine .inr ⟨b', cap, enc y ++ rest, by rw [e1, e2], by omega, h5, ?_, ?_⟩
      · rw [← List.append_assoc]
        rw [List.flatMap_append, List.flatMap_cons, List.flatMap_nil, List.append_nil] at h6
        exact h6
      · rw [← List.append_assoc]
        rw [List.flatMap_append, List.flatMap_cons, List.flatMap_nil, List.append_nil] at h7
        exact h7

abbrev encN : Int → List Value := fun x => [vi x]
theorem Sat.tints {l : List Int} (s : Swap L (trow e 1 encN v l) (trow e 1 encN v l) L') (h : Sat R w0 L w) : IntsAt (Cl w) v l := by
  obtain ⟨a, c, rfl, h1, h2, h3⟩ := h.tform s
  refine ⟨a, c, rfl, h1, h2, fun k x hx => ?_⟩
  obtain ⟨b, rfl⟩ := h3 (by have := (List.getElem?_eq_some_iff.1 hx).1; omega)
  refine ⟨_, rfl, ?_⟩
  have := h.tget (enc := encN) (fun _ => rfl) s rfl hx 0 (vi x) rfl
  rwa [Addr.add_zero'] at this
end
end Go.Sy
/- pollardingref1.Through: the walk. No condition. -/
namespace Go.Sy
open Go Go.RowKit Go.Proofs

set_option maxRecDepth 20000 in
theorem through2_any (gv dv : Value) (g : Gram) (d : List Int) (w : World) (hg : GramAt (Cl w) gv g) (hd : IntsAt (Cl w) dv d) : Calls Try.prog 15 #[gv, dv] w (fun e w' => ∃ x : TR, e = .returned (.tuple #[x.v1, x.v2, .bool x.ok]) ∧ (ThruOk g d x ∧ (x.ok = false → x.out = [] ∧ x.sp = [])) ∧ Sat (Old w) w [trow 3 1 encN x.v1 x.out, trow 61 3 encS x.v2 x.sp] w') := by
 have hg0 := hg
 obtain ⟨rv, rfl, hr⟩ := hg.mono old_rd
 obtain ⟨a, c, rfl, hc1, hc2, hrs⟩ := hr
 clear hg
 obtain ⟨a2, c2, rfl, hd1, hd2, hds⟩ := hd.mono old_rd
 clear hd
 refine calls_CW Try.func15 rfl Try.ntmps15 rfl (Sat.start w) ?_
 refine nx3 ?_
 refine OW_e (e_box rfl rfl) rfl (fun b2 => ?_)
 refine aO ?_
 refine aO ?_
 refine aO ?_
 refine nx2 ?_
 refine CW_seq ?_
 refine nx3 ?_
 refine OW_q (q_loadN_own Try.isAgg24 Try.sizeOf24 rfl rfl swt (by rfl)) rfl ?_
 refine OW_e (e_call Try.call12 rfl (fun w hw => lift_ro (may1_any _ g w (hg0.mono (fun _ _ h => hw.rd (Rd.old h)))) hw)) rfl (fun x15 => ?_)
 refine OW_q (q_not rfl) rfl ?_
 refine mO ?_
 refine OW_part (t := 17) rfl (fun hg17 => ?_) (fun hg17 => ?_)
 · skip
   refine kO ?_
   refine kO ?_
   refine kO ?_
   refine OW_q (q_pick_t rfl rfl) rfl ?_
   refine nx2 ?_
   refine CW_true rfl rfl ?_
   refine nx3 ?_
   refine aO ?_
   refine aO ?_
   refine aO ?_
   refine nx2 ?_
   refine CW_ret ?_
   refine EW_then_ret ?_
   refine ret3 Try.results15 rfl rfl rfl (fun w hw => ?_)
   exact ⟨⟨_, _, [], [], false⟩, rfl, ⟨⟨(fun h => by cases h), (fun _ hm1 hm2 => by simp [hm1] at hg17)⟩, (fun _ => ⟨rfl, rfl⟩)⟩, ((hw.sub .nil).tnil 61 3 encS).tnil 3 1 encN⟩
 have hm : mayB g = true := by simpa using hg17
 refine wO ?_
 refine mO ?_
 refine wO ?_
 refine OW_q (q_len Try.underlying32 rfl) rfl ?_
 refine wO ?_
 refine OW_q (q_gtr rfl rfl) rfl ?_
 refine OW_q (q_pick_f rfl rfl) rfl ?_
 refine nx2 ?_
 refine CW_cond rfl (fun h21 => ?_) (fun h21 => ?_)
 · skip
   refine nx3 ?_
   refine aO ?_
   refine aO ?_
   refine aO ?_
   refine nx2 ?_
   refine CW_ret ?_
   refine EW_then_ret ?_
   refine ret3 Try.results15 rfl rfl rfl (fun w hw => ?_)
   exact ⟨⟨_, _, [], [], false⟩, rfl, ⟨⟨(fun h => by cases h), (fun _ hm1 hm2 => by have := of_decide_eq_true h21; omega)⟩, (fun _ => ⟨rfl, rfl⟩)⟩, ((hw.sub .nil).tnil 61 3 encS).tnil 3 1 encN⟩
 have hdl : d.length ≤ 400 := by have := of_decide_eq_false h21; omega
 have hM := mayB_true.1 hm
 refine CW_skip ?_
 refine EW_then ?_
 refine nx3 ?_
 refine aO ?_
 refine nx4 ?_
 refine aO ?_
 refine nx4 ?_
 refine OW_q (q_build (ps := #[]) (v := .agg #[vb false, vi 0, vb false, vi 0]) rfl (fun w => by kernel_rfl)) rfl ?_
 refine OW_e (e_single Try.underlying59 Try.sizeOf58 Try.zeroValue58 (e := 58) (v := .agg #[vb false, vi 0, vb false, vi 0]) (cs := [vb false, vi 0, vb false, vi 0]) rfl rfl rfl rfl (by decide) (by decide)) rfl (fun b23 => ?_)
 refine aO ?_
 refine nx4 ?_
 refine aO ?_
 refine nx2 ?_
 refine CW_seq ?_
 refine CW_block ?_
 refine CW_loopP (ι := List Itm × Nat × List Int × List Spn × Value × Value × Value) (fun i_ => i_.2.1 ≤ d.length ∧ i_.2.2.2.1.length = i_.2.1 ∧ (∀ i ∈ i_.1, i.close = true → 0 ≤ i.span ∧ i.span < (i_.2.1 : Int)) ∧ i_.2.2.1.length + i_.1.length ≤ 1 + 9 * i_.2.1 ∧ (∀ r, Thru g d i_.1 i_.2.1 i_.2.2.1 i_.2.2.2.1 r → Thru g d open0 0 [] [] r)) (fun i_ => [(1, .slice a2 d.length c2), (2, .pointer (some ⟨b2, 0, none⟩)), (7, i_.2.2.2.2.1), (8, i_.2.2.2.2.2.1), (9, i_.2.2.2.2.2.2), (10, .int .i64 (i_.2.1 : Int))]) (fun i_ => Sat (Old w) w [trow 3 1 encN i_.2.2.2.2.1 i_.2.2.1, trow 61 3 encS i_.2.2.2.2.2.1 i_.2.2.2.1, trow 58 4 encO i_.2.2.2.2.2.2 i_.1.reverse, cel b2 24 [.int .i64 g.terms, .int .i64 g.names, .slice a g.rules.length c]]) (fun i_ => (d.length - i_.2.1) * 10 + i_.1.length) (open0, 0, [], [], .slice none 0 0, .slice none 0 0, .slice (some ⟨b23, 0, none⟩) 1 1) ?_ ⟨rfl, rfl, rfl, rfl, rfl, rfl, trivial⟩ (fun w hw => ((Sat.swap .head (row_of_cel (size := 4) (n := 1) rfl (by decide)) hw).tnil 61 3 encS).tnil 3 1 encN) ?_
 · exact ⟨Nat.zero_le _, rfl, (fun i hi hc => by rw [List.mem_singleton.1 hi] at hc; cases hc), Nat.le_refl 1, fun r hr => hr⟩
 intro i_ hpre
 obtain ⟨st, used, out, sp, v7, v8, v9⟩ := i_
 replace hpre : used ≤ d.length ∧ sp.length = used ∧ (∀ i ∈ st, i.close = true → 0 ≤ i.span ∧ i.span < (used : Int)) ∧ out.length + st.length ≤ 1 + 9 * used ∧ (∀ r, Thru g d st used out sp r → Thru g d open0 0 [] [] r) := hpre
 change CW _ _ _ _ [(1, .slice a2 d.length c2), (2, .pointer (some ⟨b2, 0, none⟩)), (7, v7), (8, v8), (9, v9), (10, .int .i64 (used : Int))] (Sat (Old w) w [trow 3 1 encN v7 out, trow 61 3 encS v8 sp, trow 58 4 encO v9 st.reverse, cel b2 24 [.int .i64 g.terms, .int .i64 g.names, .slice a g.rules.length c]])
 obtain ⟨hu1, hspl, hcl, hout, hcont⟩ := hpre
 refine CW_fact (fun w hw => hw.tform (v := v7) swt) (fun hf => ?_)
 obtain ⟨a7, c7, rfl, h7a, h7b, h7c⟩ := hf
 refine CW_fact (fun w hw => hw.tform (v := v8) swt) (fun hf => ?_)
 obtain ⟨a8, c8, rfl, h8a, h8b, h8c⟩ := hf
 refine CW_fact (fun w hw => hw.tform (v := v9) swt) (fun hf => ?_)
 rw [List.length_reverse] at hf
 obtain ⟨a9, c9, rfl, h9a, h9b, h9c⟩ := hf
 refine CW_seq ?_
 refine nx3 ?_
 refine mO ?_
 refine OW_q (q_len Try.underlying59 rfl) rfl ?_
 refine OW_q (q_gtr rfl rfl) rfl ?_
 refine nx2 ?_
 refine CW_cond rfl (fun h26 => ?_) (fun h26 => ?_)
 · skip
   obtain ⟨it, st, rfl⟩ : ∃ it s, st = it :: s := by
     cases st with
     | nil => simp at h26
     | cons it s => exact ⟨it, s, rfl⟩
   obtain ⟨b9, rfl⟩ := h9c (by simp)
   have hlen9 : (it :: st).length = st.length + 1 := rfl
   rw [List.reverse_cons]
   refine CW_skip ?_
   refine EW_then ?_
   refine CW_block ?_
   refine nx3 ?_
   refine mO ?_
   refine mO ?_
   refine OW_q (q_len Try.underlying59 rfl) rfl ?_
   refine OW_q (q_sub rfl rfl (by omega) (by omega)) rfl ?_
   refine OW_spell 30 (.int .i64 (st.length : Int)) rfl (by simp) ?_
   refine OW_q (q_indexAddr Try.underlying59 Try.sizeOf58 rfl rfl (by omega)) rfl ?_
   refine OW_q (q_loadN_t Try.isAgg58 Try.sizeOf58 (fun _ => rfl) rfl swt rfl (rev_get st it)) rfl ?_
   refine OW_spell 32 (.agg #[vb it.s.term, vi it.s.n, vb it.close, vi it.span]) rfl rfl ?_
   refine OW_e (e_alloc Try.zeroValue58 rfl) rfl (fun b11 => ?_)
   refine OW_e0 (e_storeN Try.sizeOf58 rfl rfl rfl rfl (by simp [Value.oneCell']) swt (by rfl)) (fun _ => ?_)
   refine nx4 ?_
   refine mO ?_
   refine mO ?_
   refine OW_q (q_len Try.underlying59 rfl) rfl ?_
   refine OW_q (q_sub rfl rfl (by omega) (by omega)) rfl ?_
   refine OW_spell 36 (.int .i64 (st.length : Int)) rfl (by simp) ?_
   refine OW_q (q_slice Try.underlying59 Try.sizeOf58 rfl (.inl ⟨rfl, rfl⟩) (.inr ⟨_, rfl, rfl⟩) (by omega) (by omega) (by omega)) rfl ?_
   refine OW_spell 37 (.slice (some ⟨b9, 0, none⟩) st.length c9) rfl (by rw [if_neg (by omega)]; rfl) ?_
   refine aO ?_
   refine nx2 ?_
   refine CW_seq ?_
   refine nx3 ?_
   refine OW_weak (fun w hw => hw.tpop (enc := encO) (l := st.reverse) (m := st.length) (y := it) (fun _ => rfl) List.length_reverse swt) ?_
   refine OW_q (q_fieldAddr Try.underlying58 rfl rfl Try.sizeOf4 rfl rfl) rfl ?_
   refine OW_q (q_load1_own Try.isAgg4 rfl rfl swt (by rfl)) rfl ?_
   refine nx2 ?_
   refine CW_cond rfl (fun h39 => ?_) (fun h39 => ?_)
   · skip
     have hcl1 := hcl it (by simp) h39
     obtain ⟨b8, rfl⟩ := h8c (by omega)
     obtain ⟨sx, hsx⟩ := get_of_lt (l := sp) (k := it.span.toNat) (by omega)
     refine nx3 ?_
     refine mO ?_
     refine OW_q (q_fieldAddr Try.underlying58 rfl rfl Try.sizeOf3 rfl rfl) rfl ?_
     refine OW_q (q_load1_own Try.isAgg3 rfl rfl swt (by rfl)) rfl ?_
     refine mO ?_
     refine OW_q (q_len Try.underlying32 rfl) rfl ?_
     refine OW_q (q_indexAddrI Try.underlying38 Try.sizeOf61 rfl rfl (by omega) (by omega)) rfl ?_
     refine OW_q (q_fieldAddr Try.underlying61 rfl rfl Try.sizeOf3 rfl rfl) rfl ?_
     refine OW_e0 (e_store_t (enc := encS) (y' := ⟨sx.rule, sx.frm, out.length⟩) Try.sizeOf3 (fun _ => rfl) rfl rfl rfl rfl hsx rfl swt) (fun _ => ?_)
     refine nx2 ?_
     refine CW_exit ?_
     refine EW_then_exit ?_
     refine EW_block_exit ?_
     refine EW_again ((st, used, out, sp.set it.span.toNat ⟨sx.rule, sx.frm, out.length⟩, .slice a7 out.length c7, .slice (some ⟨b8, 0, none⟩) sp.length c8, .slice (some ⟨b9, 0, none⟩) st.length c9)) ⟨?_, ?_⟩ ⟨rfl, rfl, rfl, rfl, rfl, rfl, trivial⟩ sft
     · show (d.length - used) * 10 + st.length < (d.length - used) * 10 + (st.length + 1); omega
     · refine ⟨hu1, by show (List.set _ _ _).length = _; rw [List.length_set]; exact hspl, fun i hi => hcl i (List.mem_cons_of_mem _ hi), by show out.length + st.length ≤ 1 + 9 * used; omega, fun r hr => hcont r (.close h39 hsx hr)⟩
   refine CW_skip ?_
   refine EW_then ?_
   refine CW_seq ?_
   refine nx3 ?_
   refine OW_q (q_fieldAddr Try.underlying58 rfl rfl Try.sizeOf51 rfl rfl) rfl ?_
   refine OW_q (q_fieldAddr Try.underlying51 rfl rfl Try.sizeOf4 rfl rfl) rfl ?_
   refine OW_q (q_load1_own Try.isAgg4 rfl rfl swt (by rfl)) rfl ?_
   refine nx2 ?_
   refine CW_cond rfl (fun h49 => ?_) (fun h49 => ?_)
   · skip
     refine nx3 ?_
     refine mO ?_
     refine OW_q (q_fieldAddr Try.underlying58 rfl rfl Try.sizeOf51 rfl rfl) rfl ?_
     refine OW_q (q_fieldAddr Try.underlying51 rfl rfl Try.sizeOf3 rfl rfl) rfl ?_
     refine OW_q (q_load1_own Try.isAgg3 rfl rfl swt (by rfl)) rfl ?_
     refine OW_e (e_single Try.underlying32 Try.sizeOf3 Try.zeroValue3 (e := 3) (v := vi it.s.n) (cs := [vi it.s.n]) rfl rfl rfl rfl (by decide) (by decide)) rfl (fun b54 => ?_)
     refine OW_e (e_append_t (x0 := it.s.n) (enc := encN) Try.underlying32 Try.typeInfo3 rfl rfl rfl rfl rfl rfl rfl pkt rfl (by exact fun w hw => hw.news swt) (by simp [Value.oneCell']) (by omega) (by decide)) rfl (fun v55 => ?_)
     refine aO ?_
     refine nx2 ?_
     refine CW_exit ?_
     refine EW_then_exit ?_
     refine EW_block_exit ?_
     refine EW_again ((st, used, out ++ [it.s.n], sp, v55, .slice a8 sp.length c8, .slice (some ⟨b9, 0, none⟩) st.length c9)) ⟨?_, ?_⟩ ⟨rfl, rfl, rfl, rfl, rfl, rfl, trivial⟩ sft
     · show (d.length - used) * 10 + st.length < (d.length - used) * 10 + (st.length + 1); omega
     · refine ⟨hu1, hspl, fun i hi => hcl i (List.mem_cons_of_mem _ hi), by show (out ++ [it.s.n]).length + st.length ≤ 1 + 9 * used; rw [List.length_append, List.length_singleton]; omega, fun r hr => hcont r (.term (by simpa using h39) (by simpa using h49) hr)⟩
   refine CW_skip ?_
   refine EW_then ?_
   refine CW_seq ?_
   refine CW_seq ?_
   refine CW_drawS 36 [(0, false), (1, false), (2, false), (3, false), (4, false), (5, false), (6, false), (7, false), (8, false), (9, false), (10, false), (11, false), (12, false), (13, false), (14, false), (15, false), (16, false), (17, false), (18, false), (19, false), (20, false), (21, false), (22, false), (23, false), (24, false), (25, false), (26, false), (27, false), (28, false), (29, false), (30, false), (31, false), (32, false), (33, false), (34, false), (35, false)] (by kernel_rfl) (Blind.then (Blind.then (Blind.block (Blind.again (Blind.block (Blind.then (Blind.body (by intro c w h; simp at h)))))))) (by kernel_rfl) (fun w hw => hw.drew) ?_
   refine mD ?_
   refine mD ?_
   refine DW_q rfl sft (q_len Try.underlying32 rfl) rfl ?_
   refine DW_q rfl sft (q_geq rfl rfl) rfl ?_
   refine mD ?_
   refine DW_part (t := 60) rfl (fun hg60 => ?_) (fun hg60 => ?_)
   · skip
     have hge : d.length ≤ used := by simpa using hg60
     refine kD ?_
     refine kD ?_
     refine kD ?_
     refine kD ?_
     refine kD ?_
     refine DW_q rfl sft (q_pick_t rfl rfl) rfl ?_
     refine mD ?_
     refine kD ?_
     refine kD ?_
     refine kD ?_
     refine kD ?_
     refine kD ?_
     refine kD ?_
     refine kD ?_
     refine kD ?_
     refine DW_q rfl sft (q_pick_t rfl rfl) rfl ?_
     refine mD ?_
     refine kD ?_
     refine kD ?_
     refine kD ?_
     refine kD ?_
     refine kD ?_
     refine kD ?_
     refine kD ?_
     refine kD ?_
     refine kD ?_
     refine kD ?_
     refine kD ?_
     refine kD ?_
     refine kD ?_
     refine DW_q rfl sft (q_pick_t rfl rfl) rfl ?_
     refine DW_nil ?_
     refine EW_then ?_
     refine CW_true rfl rfl ?_
     refine nx3 ?_
     refine aO ?_
     refine aO ?_
     refine aO ?_
     refine nx2 ?_
     refine CW_ret ?_
     refine EW_then_ret ?_
     refine EW_block_ret ?_
     refine EW_out_ret ?_
     refine EW_block_ret ?_
     refine EW_then_ret ?_
     refine ret3 Try.results15 rfl rfl rfl (fun w hw => ?_)
     exact ⟨⟨_, _, [], [], false⟩, rfl, ⟨⟨(fun h => by cases h), (fun _ hm1 hm2 => hcont _ (.bad (by simpa using h39) (by simpa using h49) (fun x q h1 _ _ => by rw [List.getElem?_eq_none hge] at h1; cases h1)))⟩, (fun _ => ⟨rfl, rfl⟩)⟩, ((hw.sub .nil).tnil 61 3 encS).tnil 3 1 encN⟩
   have hul : used < d.length := by simpa using hg60
   obtain ⟨x, hdx⟩ := get_of_lt hul
   obtain ⟨pd, rfl, hrd⟩ := hds used x hdx
   refine DW_qg rfl sft rfl rfl rfl (q_move rfl) rfl ?_
   refine DW_qg rfl sft rfl rfl rfl (q_move rfl) rfl ?_
   refine DW_qg rfl sft rfl rfl rfl (q_indexAddr Try.underlying32 Try.sizeOf3 rfl rfl (by omega)) rfl ?_
   refine DW_qg rfl sft rfl rfl rfl (q_load1_ro Try.isAgg3 rfl (by assumption)) rfl ?_
   refine DW_qg rfl sft rfl rfl rfl (q_lss rfl rfl) rfl ?_
   refine DW_q rfl sft (q_pick_f rfl rfl) rfl ?_
   refine mD ?_
   refine DW_part (t := 67) rfl (fun hg67 => ?_) (fun hg67 => ?_)
   · skip
     have hx0 : x < 0 := by simpa using hg67
     refine kD ?_
     refine kD ?_
     refine kD ?_
     refine kD ?_
     refine kD ?_
     refine kD ?_
     refine kD ?_
     refine kD ?_
     refine DW_q rfl sft (q_pick_t rfl rfl) rfl ?_
     refine mD ?_
     refine kD ?_
     refine kD ?_
     refine kD ?_
     refine kD ?_
     refine kD ?_
     refine kD ?_
     refine kD ?_
     refine kD ?_
     refine kD ?_
     refine kD ?_
     refine kD ?_
     refine kD ?_
     refine kD ?_
     refine DW_q rfl sft (q_pick_t rfl rfl) rfl ?_
     refine DW_nil ?_
     refine EW_then ?_
     refine CW_true rfl rfl ?_
     refine nx3 ?_
     refine aO ?_
     refine aO ?_
     refine aO ?_
     refine nx2 ?_
     refine CW_ret ?_
     refine EW_then_ret ?_
     refine EW_block_ret ?_
     refine EW_out_ret ?_
     refine EW_block_ret ?_
     refine EW_then_ret ?_
     refine ret3 Try.results15 rfl rfl rfl (fun w hw => ?_)
     exact ⟨⟨_, _, [], [], false⟩, rfl, ⟨⟨(fun h => by cases h), (fun _ hm1 hm2 => hcont _ (.bad (by simpa using h39) (by simpa using h49) (fun y q h1 h2 _ => by rw [hdx] at h1; cases h1; omega)))⟩, (fun _ => ⟨rfl, rfl⟩)⟩, ((hw.sub .nil).tnil 61 3 encS).tnil 3 1 encN⟩
   have hx0 : 0 ≤ x := by simpa using hg67
   refine DW_qg rfl sft rfl rfl rfl (q_move rfl) rfl ?_
   refine DW_qg rfl sft rfl rfl rfl (q_move rfl) rfl ?_
   refine DW_qg rfl sft rfl rfl rfl (q_indexAddr Try.underlying32 Try.sizeOf3 rfl rfl (by omega)) rfl ?_
   refine DW_qg rfl sft rfl rfl rfl (q_load1_ro Try.isAgg3 rfl (by assumption)) rfl ?_
   refine DW_qg rfl sft rfl rfl rfl (q_fieldAddr Try.underlying24 rfl rfl Try.sizeOf22 rfl rfl) rfl ?_
   refine DW_qg rfl sft rfl rfl rfl (q_load1_own Try.isAgg22 rfl rfl swt (by rfl)) rfl ?_
   refine DW_qg rfl sft rfl rfl rfl (q_len Try.underlying22 rfl) rfl ?_
   refine DW_qg rfl sft rfl rfl rfl (q_geq rfl rfl) rfl ?_
   refine DW_q rfl sft (q_pick_f rfl rfl) rfl ?_
   refine mD ?_
   refine DW_part (t := 77) rfl (fun hg77 => ?_) (fun hg77 => ?_)
   · skip
     have hxl : (g.rules.length : Int) ≤ x := by simpa using hg77
     refine kD ?_
     refine kD ?_
     refine kD ?_
     refine kD ?_
     refine kD ?_
     refine kD ?_
     refine kD ?_
     refine kD ?_
     refine kD ?_
     refine kD ?_
     refine kD ?_
     refine kD ?_
     refine kD ?_
     refine DW_q rfl sft (q_pick_t rfl rfl) rfl ?_
     refine DW_nil ?_
     refine EW_then ?_
     refine CW_true rfl rfl ?_
     refine nx3 ?_
     refine aO ?_
     refine aO ?_
     refine aO ?_
     refine nx2 ?_
     refine CW_ret ?_
     refine EW_then_ret ?_
     refine EW_block_ret ?_
     refine EW_out_ret ?_
     refine EW_block_ret ?_
     refine EW_then_ret ?_
     refine ret3 Try.results15 rfl rfl rfl (fun w hw => ?_)
     exact ⟨⟨_, _, [], [], false⟩, rfl, ⟨⟨(fun h => by cases h), (fun _ hm1 hm2 => hcont _ (.bad (by simpa using h39) (by simpa using h49) (fun y q h1 h2 h3 => by rw [hdx] at h1; cases h1; have := (List.getElem?_eq_some_iff.1 h3).1; omega)))⟩, (fun _ => ⟨rfl, rfl⟩)⟩, ((hw.sub .nil).tnil 61 3 encS).tnil 3 1 encN⟩
   have hxl : x < (g.rules.length : Int) := by simpa using hg77
   obtain ⟨q, hq⟩ := get_of_lt (l := g.rules) (k := x.toNat) (by omega)
   obtain ⟨p, rfl, rv2, hsy, hrow⟩ := hrs x.toNat q hq
   obtain ⟨a12, c12, rfl, hl1, hl2, hss⟩ := hsy
   refine DW_qg rfl sft rfl rfl rfl (q_fieldAddr Try.underlying24 rfl rfl Try.sizeOf22 rfl rfl) rfl ?_
   refine DW_qg rfl sft rfl rfl rfl (q_load1_own Try.isAgg22 rfl rfl swt (by rfl)) rfl ?_
   refine DW_qg rfl sft rfl rfl rfl (q_move rfl) rfl ?_
   refine DW_qg rfl sft rfl rfl rfl (q_move rfl) rfl ?_
   refine DW_qg rfl sft rfl rfl rfl (q_indexAddr Try.underlying32 Try.sizeOf3 rfl rfl (by omega)) rfl ?_
   refine DW_qg rfl sft rfl rfl rfl (q_load1_ro Try.isAgg3 rfl (by assumption)) rfl ?_
   refine DW_qg rfl sft rfl rfl rfl (q_indexAddrI Try.underlying22 Try.sizeOf49 rfl rfl (by omega) (by omega)) rfl ?_
   refine DW_qg rfl sft rfl rfl rfl (q_fieldAddr Try.underlying49 rfl rfl Try.sizeOf3 rfl rfl) rfl ?_
   refine DW_qg rfl sft rfl rfl rfl (q_load1_ro Try.isAgg3 rfl (by exact Row.at_ (by assumption) rfl)) rfl ?_
   refine DW_qg rfl sft rfl rfl rfl (q_fieldAddr Try.underlying58 rfl rfl Try.sizeOf51 rfl rfl) rfl ?_
   refine DW_qg rfl sft rfl rfl rfl (q_fieldAddr Try.underlying51 rfl rfl Try.sizeOf3 rfl rfl) rfl ?_
   refine DW_qg rfl sft rfl rfl rfl (q_load1_own Try.isAgg3 rfl rfl swt (by rfl)) rfl ?_
   refine DW_qg rfl sft rfl rfl rfl (q_nei rfl rfl) rfl ?_
   refine DW_q rfl sft (q_pick_f rfl rfl) rfl ?_
   refine DW_nil ?_
   refine EW_then ?_
   refine CW_cond rfl (fun h91 => ?_) (fun h91 => ?_)
   · skip
     refine nx3 ?_
     refine aO ?_
     refine aO ?_
     refine aO ?_
     refine nx2 ?_
     refine CW_ret ?_
     refine EW_then_ret ?_
     refine EW_block_ret ?_
     refine EW_out_ret ?_
     refine EW_block_ret ?_
     refine EW_then_ret ?_
     refine ret3 Try.results15 rfl rfl rfl (fun w hw => ?_)
     exact ⟨⟨_, _, [], [], false⟩, rfl, ⟨⟨(fun h => by cases h), (fun _ hm1 hm2 => hcont _ (.bad (by simpa using h39) (by simpa using h49) (fun y q' h1 h2 h3 => by rw [hdx] at h1; cases h1; rw [hq] at h3; cases h3; simpa using h91)))⟩, (fun _ => ⟨rfl, rfl⟩)⟩, ((hw.sub .nil).tnil 61 3 encS).tnil 3 1 encN⟩
   have hql : q.left = it.s.n := by simpa using h91
   have hr8 := (may_rule hm hq).2.2
   refine CW_skip ?_
   refine EW_then ?_
   refine CW_seq ?_
   refine CW_drawS 10 [(0, false), (1, false), (2, false), (3, false), (4, false), (5, false), (6, false), (7, false), (8, false), (9, false)] (by kernel_rfl) (Blind.then (Blind.block (Blind.again (Blind.block (Blind.then (Blind.body (by intro c w h; simp at h))))))) (by kernel_rfl) (fun w hw => hw.drew) ?_
   refine DW_q rfl sft (q_fieldAddr Try.underlying24 rfl rfl Try.sizeOf22 rfl rfl) rfl ?_
   refine DW_q rfl sft (q_load1_own Try.isAgg22 rfl rfl swt (by rfl)) rfl ?_
   refine mD ?_
   refine mD ?_
   refine DW_q rfl sft (q_indexAddr Try.underlying32 Try.sizeOf3 rfl rfl (by omega)) rfl ?_
   refine DW_q rfl sft (q_load1_ro Try.isAgg3 rfl (by assumption)) rfl ?_
   refine DW_q rfl sft (q_indexAddrI Try.underlying22 Try.sizeOf49 rfl rfl (by omega) (by omega)) rfl ?_
   refine DW_q rfl sft (q_fieldAddr Try.underlying49 rfl rfl Try.sizeOf46 rfl rfl) rfl ?_
   refine DW_q rfl sft (q_load1_ro Try.isAgg46 rfl (by exact Row.at_ (by assumption) rfl)) rfl ?_
   refine DW_q rfl sft (q_assign rfl) rfl ?_
   refine DW_nil ?_
   refine EW_then ?_
   refine nx3 ?_
   refine mO ?_
   refine mO ?_
   refine mO ?_
   refine OW_q (q_indexAddr Try.underlying32 Try.sizeOf3 rfl rfl (by omega)) rfl ?_
   refine OW_q (q_load1_ro Try.isAgg3 rfl (by assumption)) rfl ?_
   refine mO ?_
   refine OW_q (q_len Try.underlying32 rfl) rfl ?_
   refine OW_q (q_build (ps := #[(0, vi x), (1, vi out.length)]) (v := .agg #[vi x, vi out.length, vi 0]) rfl (fun w => by kernel_rfl)) rfl ?_
   refine OW_e (e_single Try.underlying38 Try.sizeOf61 Try.zeroValue61 (e := 61) (v := .agg #[vi x, vi out.length, vi 0]) (cs := [vi x, vi out.length, vi 0]) rfl rfl rfl rfl (by decide) (by decide)) rfl (fun b109 => ?_)
   refine OW_e (e_append_t (x0 := ⟨x, out.length, 0⟩) (enc := encS) Try.underlying38 Try.typeInfo61 rfl rfl rfl rfl rfl rfl rfl pkt rfl (by exact fun w hw => hw.news swt) (by simp [Value.oneCell']) (by omega) (by decide)) rfl (fun v110 => ?_)
   refine aO ?_
   refine nx4 ?_
   refine mO ?_
   refine mO ?_
   refine OW_q (q_build (ps := #[(1, vb true), (2, vi used)]) (v := .agg #[vb false, vi 0, vb true, vi used]) rfl (fun w => by kernel_rfl)) rfl ?_
   refine OW_e (e_single Try.underlying59 Try.sizeOf58 Try.zeroValue58 (e := 58) (v := .agg #[vb false, vi 0, vb true, vi used]) (cs := [vb false, vi 0, vb true, vi used]) rfl rfl rfl rfl (by decide) (by decide)) rfl (fun b114 => ?_)
   refine OW_e (e_append_t (x0 := mkC used) (enc := encO) Try.underlying59 Try.typeInfo58 rfl rfl rfl rfl rfl rfl rfl pkt rfl (by exact fun w hw => hw.news swt) (by simp [Value.oneCell']) (by simp only [List.length_append, List.length_reverse, List.length_cons, List.length_map, List.length_drop, List.length_singleton]; omega) (by decide)) rfl (fun v115 => ?_)
   refine aO ?_
   refine nx2 ?_
   refine CW_seq ?_
   refine nx3 ?_
   refine mO ?_
   refine OW_q (q_len Try.underlying46 rfl) rfl ?_
   refine OW_q (q_sub rfl rfl (by omega) (by omega)) rfl ?_
   refine aO ?_
   refine nx2 ?_
   refine CW_block ?_
   refine CW_loopP (ι := Nat × Value) (fun i_ => i_.1 ≤ q.right.length) (fun i_ => [(1, .slice (some pd) d.length c2), (2, .pointer (some ⟨b2, 0, none⟩)), (7, .slice a7 out.length c7), (8, v110), (9, i_.2), (10, .int .i64 (used : Int)), (12, .slice a12 q.right.length c12), (13, .int .i64 ((i_.1 : Int) - 1))]) (fun i_ => Sat (Old w) w [trow 58 4 encO i_.2 ((q.right.drop i_.1).map mkS ++ mkC used :: st).reverse, trow 61 3 encS v110 (sp ++ [⟨x, out.length, 0⟩]), trow 3 1 encN (.slice a7 out.length c7) out, cel b2 24 [.int .i64 g.terms, .int .i64 g.names, .slice (some p) g.rules.length c]]) (fun i_ => i_.1) (q.right.length, v115) ?_ ⟨rfl, rfl, rfl, rfl, rfl, rfl, rfl, rfl, trivial⟩ (fun w hw => by rw [List.drop_length, List.map_nil, List.nil_append, List.reverse_cons]; exact hw.sub sbt) ?_
   · exact Nat.le_refl _
   intro i_ hpre
   obtain ⟨k, v9⟩ := i_
   replace hpre : k ≤ q.right.length := hpre
   change CW _ _ _ _ [(1, .slice (some pd) d.length c2), (2, .pointer (some ⟨b2, 0, none⟩)), (7, .slice a7 out.length c7), (8, v110), (9, v9), (10, .int .i64 (used : Int)), (12, .slice a12 q.right.length c12), (13, .int .i64 ((k : Int) - 1))] (Sat (Old w) w [trow 58 4 encO v9 ((q.right.drop k).map mkS ++ mkC used :: st).reverse, trow 61 3 encS v110 (sp ++ [⟨x, out.length, 0⟩]), trow 3 1 encN (.slice a7 out.length c7) out, cel b2 24 [.int .i64 g.terms, .int .i64 g.names, .slice (some p) g.rules.length c]])
   refine CW_seq ?_
   refine nx3 ?_
   refine mO ?_
   refine OW_q (q_geq rfl rfl) rfl ?_
   refine nx2 ?_
   refine CW_cond rfl (fun h120 => ?_) (fun h120 => ?_)
   · skip
     obtain ⟨k, rfl⟩ : ∃ j, k = j + 1 := by
       cases k with
       | zero => simp at h120
       | succ k => exact ⟨k, rfl⟩
     obtain ⟨s, hs⟩ := get_of_lt (l := q.right) (k := k) (by omega)
     obtain ⟨p12, rfl, hrow2⟩ := hss k s hs
     refine CW_spell 13 (.int .i64 (k : Int)) rfl (by simp) ?_
     refine CW_skip ?_
     refine EW_then ?_
     refine CW_seq ?_
     refine CW_block ?_
     refine CW_region ?_
     refine mO ?_
     refine mO ?_
     refine mO ?_
     refine OW_q (q_indexAddr Try.underlying46 Try.sizeOf51 rfl rfl (by omega)) rfl ?_
     refine OW_q (q_loadN_ro Try.isAgg51 Try.sizeOf51 rfl (by assumption) (by rfl)) rfl ?_
     refine OW_q (q_build (ps := #[(0, .agg #[vb s.term, vi s.n])]) (v := .agg #[vb s.term, vi s.n, vb false, vi 0]) rfl (fun w => by kernel_rfl)) rfl ?_
     refine OW_e (e_single Try.underlying59 Try.sizeOf58 Try.zeroValue58 (e := 58) (v := .agg #[vb s.term, vi s.n, vb false, vi 0]) (cs := [vb s.term, vi s.n, vb false, vi 0]) rfl rfl rfl rfl (by decide) (by decide)) rfl (fun b129 => ?_)
     refine OW_e (e_append_t (x0 := mkS s) (enc := encO) Try.underlying59 Try.typeInfo58 rfl rfl rfl rfl rfl rfl rfl pkt rfl (by exact fun w hw => hw.news swt) (by simp [Value.oneCell']) (by simp only [List.length_append, List.length_reverse, List.length_cons, List.length_map, List.length_drop, List.length_singleton]; omega) (by decide)) rfl (fun v130 => ?_)
     refine aO ?_
     refine OW_nil ?_
     refine EW_block_normal ?_
     refine EW_then ?_
     refine CW_region ?_
     refine mO ?_
     refine OW_q (q_sub rfl rfl (by omega) (by omega)) rfl ?_
     refine aO ?_
     refine OW_nil ?_
     refine EW_again ((k, v130)) ⟨?_, ?_⟩ ⟨rfl, rfl, rfl, rfl, rfl, rfl, rfl, rfl, trivial⟩ (fun w hw => by dsimp only; rw [drop_cons hs, List.map_cons, List.cons_append, List.reverse_cons]; exact hw.sub sbt)
     · show k < k + 1; omega
     · show k ≤ _; omega
   obtain rfl : k = 0 := by
     cases k with
     | zero => rfl
     | succ k => exfalso; have := of_decide_eq_false h120; omega
   refine CW_weak (fun w hw => by rw [List.drop_zero] at hw; exact hw) ?_
   refine CW_exit ?_
   refine EW_then_exit ?_
   refine EW_out ?_
   refine EW_block_exit ?_
   refine EW_then ?_
   refine CW_region ?_
   refine mO ?_
   refine OW_q (q_add rfl rfl (by omega) (by omega)) rfl ?_
   refine aO ?_
   refine OW_nil ?_
   refine EW_block_normal ?_
   refine EW_again ((q.right.map mkS ++ mkC used :: st, used + 1, out, sp ++ [⟨x, out.length, 0⟩], .slice a7 out.length c7, v110, v9)) ⟨?_, ?_⟩ ⟨rfl, rfl, rfl, rfl, rfl, rfl, trivial⟩ sft
   · show (d.length - (used + 1)) * 10 + (q.right.map mkS ++ mkC used :: st).length < (d.length - used) * 10 + (st.length + 1); rw [List.length_append, List.length_map, List.length_cons]; omega
   · refine ⟨hul, by show (sp ++ [_]).length = _; rw [List.length_append, List.length_singleton, hspl], fun i hi hc => ?_, by show out.length + (q.right.map mkS ++ mkC used :: st).length ≤ 1 + 9 * (used + 1); rw [List.length_append, List.length_map, List.length_cons]; omega, fun r hr => hcont r (.rule (by simpa using h39) (by simpa using h49) hdx hx0 hq hql hr)⟩
     rcases List.mem_append.1 hi with hi | hi
     · obtain ⟨s, _, rfl⟩ := List.mem_map.1 hi
       cases hc
     · rcases List.mem_cons.1 hi with rfl | hi
       · show 0 ≤ (used : Int) ∧ (used : Int) < ((used + 1 : Nat) : Int)
         omega
       · have := hcl i (List.mem_cons_of_mem _ hi) hc
         show 0 ≤ i.span ∧ i.span < ((used + 1 : Nat) : Int)
         omega
 obtain rfl : st = [] := by
   cases st with
   | nil => rfl
   | cons it s => exfalso; have := of_decide_eq_false h26; simp only [List.length_cons] at this; omega
 refine CW_exit ?_
 refine EW_then_exit ?_
 refine EW_out ?_
 refine EW_block_exit ?_
 refine EW_then ?_
 refine CW_seq ?_
 refine nx3 ?_
 refine mO ?_
 refine mO ?_
 refine OW_q (q_len Try.underlying32 rfl) rfl ?_
 refine OW_q (q_nei rfl rfl) rfl ?_
 refine nx2 ?_
 refine CW_cond rfl (fun h136 => ?_) (fun h136 => ?_)
 · skip
   have hne : used ≠ d.length := by simp at h136; omega
   refine nx3 ?_
   refine aO ?_
   refine aO ?_
   refine aO ?_
   refine nx2 ?_
   refine CW_ret ?_
   refine EW_then_ret ?_
   refine ret3 Try.results15 rfl rfl rfl (fun w hw => ?_)
   exact ⟨⟨_, _, [], [], false⟩, rfl, ⟨⟨(fun h => by cases h), (fun _ hm1 hm2 => hcont _ (.short hne))⟩, (fun _ => ⟨rfl, rfl⟩)⟩, ((hw.sub .nil).tnil 61 3 encS).tnil 3 1 encN⟩
 have heq : used = d.length := by simp at h136; omega
 refine CW_skip ?_
 refine EW_then ?_
 refine nx3 ?_
 refine mO ?_
 refine mO ?_
 refine aO ?_
 refine aO ?_
 refine aO ?_
 refine nx2 ?_
 refine CW_ret ?_
 refine ret3 Try.results15 rfl rfl rfl (fun w hw => ?_)
 exact ⟨⟨_, _, out, sp, true⟩, rfl, ⟨⟨(fun _ => ⟨hm, hdl, hcont _ (.done heq)⟩), (fun h => by cases h)⟩, (fun h => by cases h)⟩, hw.sub sbt⟩


end Go.Sy
/- Contracts of functions that turn what the caller owns. No condition. -/
namespace Go.Sy
open Go Go.RowKit

section
variable {P : Program} {R : Nat → Prop} {w0 w : World} {L L' L1 M : List HP} {A : HP}
theorem Sat.join (h : Sat R w0 (M ++ L) w) : Sat R w0 (stars M :: L) w := h.imp_ fun x hx => (stars_append M L x).1 hx
theorem Sat.unjoin (h : Sat R w0 (stars M :: L) w) : Sat R w0 (M ++ L) w := h.imp_ fun x hx => (stars_append M L x).2 hx
theorem Sat.pack (h : Sat R w0 (A :: L) w) : Sat R w0 [A, stars L] w := h.imp_ fun x ⟨h1, h2, hd, e, hA, hL⟩ => ⟨h1, h2, hd, e, hA, h2, emp0, dis_emp h2, (uni_emp h2).symm, hL, rfl⟩
theorem Sat.unpack (h : Sat R w0 [A, stars L] w) : Sat R w0 (A :: L) w := h.imp_ fun x ⟨h1, h2, hd, e, hA, h3, h4, hd', e', hL, e4⟩ => by
  have e5 : h4 = emp0 := e4
  subst e5
  rw [uni_emp] at e'
  subst e'
  exact ⟨h1, h2, hd, e, hA, hL⟩

theorem lift_mut {f : FuncId} {vs : Array Value} {ι : Type} {V : ι → Value} {p : ι → Prop} {A' : ι → HP} (pk : Pick L A L1) (hS : Sat R w0 L w)
    (h : ∀ F, Sat R w0 [A, F] w → Calls P f vs w (fun e w' => ∃ x, e = .returned (V x) ∧ p x ∧ Sat R w0 [A' x, F] w')) :
    Calls P f vs w (fun e w' => ∃ x, e = .returned (V x) ∧ (p x ∧ Sat R w0 (A' x :: L1) w')) :=
  (h _ (hS.pick pk).pack).mono fun _ _ ⟨x, he, hp, hw⟩ => ⟨x, he, hp, hw.unpack⟩

theorem q_makeFuncL {n : Nat} {K : Env} {dst : Option Nat} {T : TypeId} {pos : String} {af : Array Edge} {g : Option (Nat × Bool)} {C : World → Prop} {f : FuncId} {captured : List Operand} {us : List Value} (h : evs K captured = some us) :
    Qt P n K C ⟨dst, .makeFunc (.func f) #[] captured.toArray, T, pos, af, g⟩ (.func (.func f) #[] us.toArray) := fun a ha w _ => by
  have e1 := ha.evs h
  simp [execOp, Instr.makeFunc, e1]
end
end Go.Sy
