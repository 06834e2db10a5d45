/- Walks and plain laws, part 3. No condition. -/
import Derived.Recover
import Derived.Lib.Overlaps
import Derived.Lib.SliceRun
import Derived.Laws.CopyRow
import Derived.Test.YteceklkjbcebkabM2
/- One assertion of many, turned by a call; tables of truths. No condition. -/
namespace Go.Sy
open Go Go.RowKit

/-- Where one assertion stands, and what the list is with another one there. -/
inductive Hole : List HP → HP → (HP → List HP) → Prop
  | head {A : HP} {L : List HP} : Hole (A :: L) A (fun X => X :: L)
  | tail {A B : HP} {L : List HP} {K : HP → List HP} : Hole L A K → Hole (B :: L) A (fun X => B :: K X)
  | big {A : HP} {M L : List HP} {K : HP → List HP} : Hole M A K → Hole (stars M :: L) A (fun X => stars (K X) :: L)

theorem Hole.swap {L : List HP} {A : HP} {K : HP → List HP} (o : Hole L A K) (X : HP) : Swap L A X (K X) := by
  induction o with
  | head => exact .head
  | tail _ ih => exact .tail ih
  | big _ ih => exact .big ih
theorem Hole.idx {M : List HP} {A : HP} : ∀ {i : Nat}, M[i]? = some A → Hole M A (fun X => M.set i X) := by
  induction M with
  | nil => intro i h; simp at h
  | cons B M ih =>
    intro i h
    cases i with
    | zero => simp at h; subst h; exact .head
    | succ i => exact .tail (ih (by simpa using h))
theorem Hole.focus {L : List HP} {A : HP} {K : HP → List HP} (o : Hole L A K) : ∀ h, stars L h → ∃ h1 h2, Dis h1 h2 ∧ h = uni h1 h2 ∧ A h1 ∧ ∀ (X : HP) h3, Dis h3 h2 → X h3 → stars (K X) (uni h3 h2) := by
  induction o with
  | head =>
    rintro h ⟨h1, h2, hd, rfl, hA, hL⟩
    exact ⟨h1, h2, hd, rfl, hA, fun X h3 hd3 hA' => ⟨h3, h2, hd3, rfl, hA', hL⟩⟩
  | tail s ih =>
    rintro h ⟨h1, h2, hd, rfl, hB, hL⟩
    obtain ⟨h3, h4, hd', rfl, hA, hk⟩ := ih h2 hL
    refine ⟨h3, uni h1 h4, (Dis.join hd.symm.left.symm hd'.symm).symm, ?_, hA, fun X h5 hd5 hA' => ?_⟩
    · rw [← uni_assoc, uni_comm hd.symm.left.symm, uni_assoc]
    · refine ⟨h1, uni h5 h4, (Dis.join hd5.symm.left.symm (hd.symm.right)).symm, ?_, hB, hk X h5 hd5.symm.right.symm hA'⟩
      rw [← uni_assoc, uni_comm hd5.symm.left.symm, uni_assoc]
  | big s ih =>
    rintro h ⟨h1, h2, hd, rfl, hM, hL⟩
    obtain ⟨h3, h4, hd', rfl, hA, hk⟩ := ih h1 hM
    refine ⟨h3, uni h4 h2, (Dis.join hd'.symm hd.left.symm).symm, uni_assoc _ _ _, hA, fun X h5 hd5 hA' => ?_⟩
    rw [← uni_assoc]
    exact ⟨uni h5 h4, h2, Dis.join hd5.symm.right.symm hd.right, rfl, hk X h5 hd5.symm.left.symm hA', hL⟩

section
variable {P : Program} {R : Nat → Prop} {w0 w : World} {L L' L1 M : List HP} {A : HP} {K' : HP → List HP}
end

/-- A table: its rows' blocks, each a made slice of 'm' truths. -/
abbrev encR (m : Nat) : Nat → List Value := fun b => [.slice (some ⟨b, 0, none⟩) m m]
def tabL (T : TypeId) (bl : List Nat) (tab : List (List Bool)) : List HP := List.zipWith (fun b l => bools b T l) bl tab
def tabA (T : TypeId) (bl : List Nat) (tab : List (List Bool)) : HP := stars (tabL T bl tab)
theorem tabL_get {T : TypeId} : ∀ {bl : List Nat} {tab : List (List Bool)} {i b : Nat} {l : List Bool}, bl[i]? = some b → tab[i]? = some l → (tabL T bl tab)[i]? = some (bools b T l)
  | [], _, _, _, _, h, _ => by cases h
  | _ :: _, [], _, _, _, _, h => by cases h
  | b' :: bl, l' :: tab, 0, b, l, h, h' => by
    simp only [List.getElem?_cons_zero, Option.some.injEq] at h h'
    subst h; subst h'; rfl
  | b' :: bl, l' :: tab, i + 1, b, l, h, h' => by
    show (tabL T bl tab)[i]? = _
    exact tabL_get (by simpa using h) (by simpa using h')
theorem Hole.tab {T : TypeId} {bl : List Nat} {tab : List (List Bool)} {i b : Nat} {l : List Bool} {L : List HP} (h : bl[i]? = some b) (h' : tab[i]? = some l) : Hole (tabA T bl tab :: L) (bools b T l) (fun X => stars ((tabL T bl tab).set i X) :: L) :=
  .big (.idx (tabL_get h h'))

theorem add_twice (p : Addr) (i j : Nat) : (p.add i).add j = p.add (i + j) := by
  by_cases h1 : i = 0
  · subst h1; rw [Addr.add_zero', Nat.zero_add]
  · by_cases h2 : j = 0
    · subst h2; rw [Addr.add_zero', Nat.add_zero]
    · unfold Addr.add
      rw [if_neg h1, if_neg h2, if_neg (by omega)]
      simp only [Nat.add_assoc]
/-- A part of what reads as a list. -/
theorem SlAt.sub {ρ : Addr → Value → Prop} {sz : Nat} {α : Type} {at_ : Addr → α → Prop} {l : List α} {a : Option Addr} {c lo hi : Nat} (h : SlAt ρ sz (.slice a l.length c) at_ l) (h1 : lo ≤ hi) (h2 : hi ≤ l.length) :
    SlAt ρ sz (.slice (if c = lo then a else a.map (·.add (lo * sz))) (hi - lo) (c - lo)) at_ ((l.take hi).drop lo) := by
  obtain ⟨a', c', hv, h3, h4, hk⟩ := h
  injection hv with e1 _ e2
  subst e1
  subst e2
  have hlen : ((l.take hi).drop lo).length = hi - lo := by rw [List.length_drop, List.length_take]; omega
  refine ⟨_, _, by rw [hlen], by rw [hlen]; omega, by omega, fun k x hx => ?_⟩
  have hlt := (List.getElem?_eq_some_iff.1 hx).1
  rw [hlen] at hlt
  rw [List.getElem?_drop, List.getElem?_take, if_pos (by omega)] at hx
  obtain ⟨p, rfl, hp⟩ := hk (lo + k) x hx
  refine ⟨p.add (lo * sz), by rw [if_neg (by omega)]; rfl, ?_⟩
  rw [add_twice, ← Nat.add_mul]
  exact hp

/-- What a table reads as. -/
def TabAt (ρ : Addr → Value → Prop) (v : Value) (tab : List (List Bool)) : Prop := SlAt ρ 1 v (fun p l => ∃ rv, ρ p rv ∧ BoolsAt ρ rv l) tab
theorem TabAt.mono {ρ ρ' : Addr → Value → Prop} {v : Value} {tab : List (List Bool)} (h : TabAt ρ v tab) (f : ∀ a v, ρ a v → ρ' a v) : TabAt ρ' v tab := SlAt.mono h fun _ _ ⟨rv, h1, h2⟩ => ⟨rv, f _ _ h1, h2.mono f⟩

section
variable {P : Program} {n : Nat} {K : Env} {dst : Option Nat} {T : TypeId} {pos : String} {af : Array Edge} {g : Option (Nat × Bool)} {R : Nat → Prop} {w0 w : World} {L L' L1 : List HP} {Q : Exit → Act → World → Prop} {S S' : World → Prop}
variable {α : Type} {enc : α → List Value} {e : TypeId} {v : Value} {l : List α}
/-- Ways that part meet again behind a piece of code. -/
theorem CW_seqJ {ι : Type} (pre : ι → Prop) (KI : ι → Env) (SI : ι → World → Prop) {x y : Code} (h1 : CW P x (Exit.then (Again n KI SI pre) Q) n K S) (h2 : ∀ i, pre i → CW P y Q n (KI i) (SI i)) : CW P (.seq x y) Q n K S := by
  refine CW_seq fun a w ha hw => wp_mono (h1 a w ha hw) fun e a w h => ?_
  cases e <;> first
    | (obtain ⟨j, h3, h4, h5⟩ := h; exact h2 j h3 a w h4 h5)
    | exact h
theorem retc2 {fn : Func} {X : Ending → World → Prop} {c u m : Nat} {t : TypeId} {p : Addr} {vs : List Value} {x : Value} (hr : fn.results = #[.cell c t, .tmp u]) (hA : ∀ w, (isAgg t).run P w = .ok true w) (hs : ∀ w, (sizeOf t).run P w = .ok m w) (hp : look K c = some (.pointer (some p))) (hl : vs.length = m)
    (hc : ∀ w, S w → ∀ j v, vs[j]? = some v → w.cell? (p.add j) = some v) (hx : look K u = some x) (h : ∀ w, S w → X (.returned (.tuple #[.agg vs.toArray, x])) w) : EW .ret (bodyPost P fn X) n K S := fun a w ha hw =>
  ⟨ha.2.1, .tuple #[.agg vs.toArray, x], by
    subst hl
    have h1 := ha.2.2 c _ hp
    have h2 := ha.2.2 u x hx
    have h3 := run_loadCells_list (P := P) w p vs (hc w hw)
    simp only [Array.getD_eq_getD_getElem?] at h1 h2
    simp [results, hr, h1, h2, loadVar, hA, hs, h3, asAddr], h w hw⟩
theorem retc1a {fn : Func} {X : Ending → World → Prop} {c m : Nat} {t : TypeId} {p : Addr} {vs : List Value} (hr : fn.results = #[.cell c t]) (hA : ∀ w, (isAgg t).run P w = .ok true w) (hs : ∀ w, (sizeOf t).run P w = .ok m w) (hp : look K c = some (.pointer (some p))) (hl : vs.length = m)
    (hc : ∀ w, S w → ∀ j v, vs[j]? = some v → w.cell? (p.add j) = some v) (h : ∀ w, S w → X (.returned (.agg vs.toArray)) w) : EW .ret (bodyPost P fn X) n K S := fun a w ha hw =>
  ⟨ha.2.1, .agg vs.toArray, by
    subst hl
    have h1 := ha.2.2 c _ hp
    have h3 := run_loadCells_list (P := P) w p vs (hc w hw)
    simp only [Array.getD_eq_getD_getElem?] at h1
    simp [results, hr, h1, loadVar, hA, hs, h3, asAddr], h w hw⟩
theorem DW_fact {ops : Array Oper} {C : World → Prop} {z : Nat} {l : List (Nat × Bool)} {p : Prop} (hp : ∀ w, S w → p) (h : p → DW P ops Q C z l n K S) : DW P ops Q C z l n K S := fun a w ha hw => h (hp w hw) a w ha hw
theorem q_load_t1 {t : TypeId} {x : Operand} {b len cap k : Nat} {y : α} {u : Value} (hA : ∀ w, (isAgg t).run P w = .ok false w) (he : ∀ x, (enc x).length = 1)
    (hx : ev K x = some (.pointer (some ((⟨b, 0, none⟩ : Addr).add (k * 1))))) (s : Swap L (trow e 1 enc v l) (trow e 1 enc v l) L') (hv : v = .slice (some ⟨b, 0, none⟩) len cap) (hk : l[k]? = some y) (hj : enc y = [u]) :
    Qt P n K (Sat R w0 L) ⟨dst, .load t x, T, pos, af, g⟩ u :=
  q_load1 hA hx fun w hw => by have := hw.tget he s hv hk 0 u (by rw [hj]; rfl); rwa [Addr.add_zero'] at this

end
end Go.Sy
/- Guarded operations that turn the world, in a region that draws its order. No condition. -/
namespace Go.Sy
open Go Go.RowKit

section
variable {P : Program} {Q : Exit → Act → World → Prop} {n : Nat} {K : Env} {S C : World → Prop} {ops : Array Oper} {z : Nat} {l : List (Nat × Bool)}

theorem DW_eg {i d : Nat} {op : Op} {T : TypeId} {pos : String} {af : Array Edge} {ι : Type} {V : ι → Value} {S' : ι → World → Prop} {j t : Nat} {want b : Bool} (hi : ops[i]? = some ⟨some d, op, T, pos, af, some (j, want)⟩)
    (hj : ((ops[j]?).bind (·.dst)) = some t) (hb : look K t = some (.bool b)) (hw : (b == want) = true)
    (he : Ef P n K S ⟨some d, op, T, pos, af, some (j, want)⟩ V S') (hd : Nat.blt d n = true) (hC : ∀ x w, S' x w → C w) (h : ∀ x, DW P ops Q C z l n ((d, V x) :: K) (S' x)) :
    DW P ops Q C z ((i, true) :: l) n K S := fun a w ha hs => by
  show wpOp P ops Q i _ a w
  unfold wpOp
  rw [hi]
  have e : Region.wanted (⟨some d, op, T, pos, af, some (j, want)⟩ : Oper) (yielded ops a.tmps) = true := by
    simp only [Region.wanted, yielded_known ha hj hb]; simpa using hw
  simp only [e, if_true]
  exact .inl (he a w ha hs _ _ fun x w' hx => ⟨.inr (hC x w' hx), h x _ w' (ha.put hd _) hx⟩)

theorem DW_eskip {i d : Nat} {op : Op} {T : TypeId} {pos : String} {af : Array Edge} {j t : Nat} {want b : Bool} (hi : ops[i]? = some ⟨some d, op, T, pos, af, some (j, want)⟩) (hC : ∀ w, S w → C w)
    (hj : ((ops[j]?).bind (·.dst)) = some t) (hb : look K t = some (.bool b)) (hw : (b == want) = false) (hd : Nat.blt d n = true) (h : DW P ops Q C z l n ((d, undef) :: K) S) :
    DW P ops Q C z ((i, true) :: l) n K S := fun a w ha hs => by
  show wpOp P ops Q i _ a w
  unfold wpOp
  rw [hi]
  have e : Region.wanted (⟨some d, op, T, pos, af, some (j, want)⟩ : Oper) (yielded ops a.tmps) = false := by
    simp only [Region.wanted, yielded_known ha hj hb]; simpa using hw
  simp only [e, Bool.false_eq_true, if_false]
  exact ⟨.inr (hC w hs), h _ w (ha.put hd _) hs⟩
end
end Go.Sy
/- Panics, deferred calls, blocks that are frozen for a while. No condition. -/
namespace Go.Sy
open Go Go.RowKit

/-- An operation that turns the world, or panics. -/
def Ef2 [Inhabited (List Deferred)] (P : Program) (n : Nat) (K : Env) (S : World → Prop) (o : Oper) {ι : Type} (V : ι → Value) (S' : ι → World → Prop) (Z : List PanicEntry → World → Prop) : Prop :=
  ∀ a w, Kn n K a → S w → ∀ (next : Act → World → Prop) (Q : Exit → Act → World → Prop),
    (∀ x w', S' x w' → next (a.put o.dst (V x)) w') → (∀ ch w', Z ch w' → Q (.panic ch) a w') → o.wp P a w next Q

section
variable {P : Program} {Q : Exit → Act → World → Prop} {n : Nat} {K : Env} {S C : World → Prop} {ops : Array Oper} {z : Nat} {l : List (Nat × Bool)}

theorem OW_e2 [Inhabited (List Deferred)] {d : Nat} {op : Op} {T : TypeId} {pos : String} {af : Array Edge} {rest : List Oper} {ι : Type} {V : ι → Value} {S' : ι → World → Prop} {Z : List PanicEntry → World → Prop}
    (he : Ef2 P n K S ⟨some d, op, T, pos, af, none⟩ V S' Z) (hd : Nat.blt d n = true) (hz : ∀ ch, EW (.panic ch) Q n K (Z ch)) (h : ∀ x, OW P ops Q rest n ((d, V x) :: K) (S' x)) :
    OW P ops Q (⟨some d, op, T, pos, af, none⟩ :: rest) n K S := by
  intro a w ha hw
  unfold wpList
  rw [if_pos (by simp [Region.wanted])]
  exact .inl (he a w ha hw _ _ (fun x w' hx => h x _ w' (ha.put hd _) hx) (fun ch w' hc => hz ch a w' ha hc))

theorem DW_e2 {i d : Nat} {op : Op} {T : TypeId} {pos : String} {af : Array Edge} {ι : Type} {V : ι → Value} {S' : ι → World → Prop} {Z : List PanicEntry → World → Prop} (hi : ops[i]? = some ⟨some d, op, T, pos, af, none⟩)
    (he : Ef2 P n K S ⟨some d, op, T, pos, af, none⟩ V S' Z) (hd : Nat.blt d n = true) (hC : ∀ x w, S' x w → C w) (hz : ∀ ch, EW (.panic ch) Q n K (Z ch)) (h : ∀ x, DW P ops Q C z l n ((d, V x) :: K) (S' x)) :
    DW P ops Q C z ((i, true) :: l) n K S := fun a w ha hw => by
  show wpOp P ops Q i _ a w
  unfold wpOp
  rw [hi]
  simp only [Region.wanted, if_true]
  exact .inl (he a w ha hw _ _ (fun x w' hx => ⟨.inr (hC x w' hx), h x _ w' (ha.put hd _) hx⟩) (fun ch w' hc => hz ch a w' ha hc))

theorem e_call2 [Inhabited (List Deferred)] {dst : Option Nat} {T : TypeId} {pos : String} {af : Array Edge} {g : Option (Nat × Bool)} {ι : Type} {V : ι → Value} {S' : ι → World → Prop} {Z : List PanicEntry → World → Prop} {f : FuncId} {args : List Operand} {tys : Array TypeId} {vs : List Value} (hc : ∀ args w, (callFunc f args).run P w = .ok (.enter f args) w) (hargs : evs K args = some vs)
    (h : ∀ w, S w → Calls P f vs.toArray w (fun e w' => (∃ x, e = .returned (V x) ∧ S' x w') ∨ ∃ ch, e = .panicked ch ∧ Z ch w')) :
    Ef2 P n K S ⟨dst, .call { callee := .value (.func f), args := args.toArray, argTypes := tys }, T, pos, af, g⟩ V S' Z := by
  intro a w ha hw next Q hn hp
  have e1 := ha.evs hargs
  simp only [Oper.wp, execOp, resolve, Act.eval, Deferred.ofValue, invoke, Sem.run_bind, Sem.run_pure, Result.andThen_ok, Array.append_empty, Array.empty_append]
  have e2 : args.toArray.map a.eval = vs.toArray := by rw [List.map_toArray, e1]
  rw [e2, hc]
  simp only [Oper.upon]
  refine (h w hw).mono fun e w' hpost => ?_
  rcases hpost with ⟨x, he, hs⟩ | ⟨ch, he, hs⟩
  · subst he; exact hn x w' hs
  · subst he; exact hp ch w' hs

/-- The program's own panic. -/
theorem OW_panic [Inhabited (List Deferred)] {T : TypeId} {pos : String} {af : Array Edge} {rest : List Oper} {x : Operand} {t : TypeId} {v : Value} (hx : ev K x = some (.iface t v)) (h : EW (.panic [{ v := .iface t v, recovered := false }]) Q n K S) :
    OW P ops Q (⟨none, .panic x, T, pos, af, none⟩ :: rest) n K S := by
  intro a w ha hw
  unfold wpList
  rw [if_pos (by simp [Region.wanted])]
  refine .inl ?_
  have := h a w ha hw
  have hp : (Instr.panic (.iface t v)).run P w = .halt (.panic (.iface t v)) w := rfl
  simpa [Oper.wp, execOp, ha.ev hx, hp, Result.andThen, Oper.upon] using this
theorem retP {fn : Func} {X : Ending → World → Prop} {ch : List PanicEntry} (h : ∀ w, S w → X (.panicked ch) w) : EW (.panic ch) (bodyPost P fn X) n K S := fun _ w ha hw => ⟨ha.2.1, h w hw⟩

/-! ### A function that defers one call -/
theorem OW_defer {d : Deferred} {op : Op} {T : TypeId} {pos : String} {af : Array Edge} {rest : List Oper} (hd : ∀ a, Kn n K a → ∀ w, (execOp a.eval ⟨none, op, T, pos, af, none⟩).run P w = .ok (.defer d) w)
    (h : @OW ⟨[d]⟩ P ops Q rest n K S) : OW P ops Q (⟨none, op, T, pos, af, none⟩ :: rest) n K S := by
  intro a w ha hw
  unfold wpList
  rw [if_pos (by simp [Region.wanted])]
  refine .inl ?_
  unfold Oper.wp
  rw [hd a ha w]
  simp only [Oper.upon]
  refine h _ w ⟨ha.1, ?_, ha.2.2⟩ hw
  show d :: a.defers = [d]
  rw [show a.defers = [] from ha.2.1]
theorem retD [Inhabited (List Deferred)] {fn : Func} {X : Ending → World → Prop} (h : ∀ a w, Kn n K a → S w → Leaves P fn a.tmps X default .returning w) : EW .ret (bodyPostD P fn X) n K S := fun a w ha hw => by
  show Leaves P fn a.tmps X a.defers .returning w
  rw [ha.2.1]; exact h a w ha hw
theorem panicD [Inhabited (List Deferred)] {fn : Func} {X : Ending → World → Prop} {ch : List PanicEntry} (h : ∀ a w, Kn n K a → S w → Leaves P fn a.tmps X default (.panicking ch) w) : EW (.panic ch) (bodyPostD P fn X) n K S := fun a w ha hw => by
  show Leaves P fn a.tmps X a.defers (.panicking ch) w
  rw [ha.2.1]; exact h a w ha hw
theorem calls_CWD {f : FuncId} {fn : Func} {c : Code} {vs : List Value} {w : World} {X : Ending → World → Prop} (hf : P.funcs[f]? = some fn) (hb : fn.body = some c) (hn : fn.ntmps = n) (hl : Nat.ble vs.length n = true) (hS : S w)
    (h : CW P c (bodyPostD P fn X) n (argEnv 0 vs) S) : Calls P f vs.toArray w X := by
  refine calls_of_wp_defers hf hb (h _ w ⟨?_, rfl, fun i v hi => ?_⟩ hS)
  · have := Nat.le_of_ble_eq_true hl
    simp [hn]
    omega
  · obtain ⟨_, h2⟩ := look_argEnv vs 0 i v hi
    have hlt : i < vs.length := (List.getElem?_eq_some_iff.1 h2).1
    simp only [Nat.sub_zero] at h2
    simp [Array.getElem?_append_left, hlt]
    exact (List.getElem?_eq_some_iff.1 h2).2

/-! ### Small rules -/
variable {dst : Option Nat} {T : TypeId} {pos : String} {af : Array Edge} {g : Option (Nat × Bool)}
theorem q_makeIface [Inhabited (List Deferred)] {t : TypeId} {x : Operand} {v : Value} {fs : Array Field} (hu : P.underlying t = some (.struct fs)) (hx : ev K x = some v) : Qt P n K C ⟨dst, .makeInterface t x, T, pos, af, g⟩ (.iface t v) := fun a ha w _ => by
  simp [execOp, ha.ev hx, Instr.makeInterface, run_underlying hu]
theorem q_eqAgg [Inhabited (List Deferred)] {t t' : TypeId} {x y : Operand} {xs ys : Array Value} {b : Bool} (hg : P.eqGuardType P.depth t = false) (hx : ev K x = some (.agg xs)) (hy : ev K y = some (.agg ys)) (he : ∀ w, (Op.equalIn 10000 t (.agg xs) (.agg ys)).run P w = .ok b w) : Qt P n K C ⟨dst, .binOp .eql t x y t', T, pos, af, g⟩ (.bool b) := fun a ha w _ => by
  simp only [execOp, ha.ev hx, ha.ev hy]
  simp [run_eqGuard_agg w .eql t x y xs ys hg, run_eql_struct, he]
end

/-! ### What is frozen for a while -/
section
variable {R R' : Nat → Prop} {w0 w w1 w' : World} {L L1 : List HP}
/-- What is held of a heap is held of the world's cells. -/
theorem rd_cel {h : Heap} {b : Nat} {t : TypeId} {cs : List Value} (hc : cel b t cs h) (hh : ∀ k o, h k = some o → R' k ∧ w.heap[k]? = some o) : Row (Rd R' w) ⟨b, 0, none⟩ cs := fun j u hj => by
  have hc' : h = one b (.cells cs.toArray t (0, 0)) := hc
  obtain ⟨h1, h2⟩ := hh b _ (by rw [hc', one_same])
  rw [Addr.add_lit, Nat.zero_add]
  exact ⟨h1, by simp [World.cell?, h2, hj]⟩
theorem rd_row {h : Heap} {e : TypeId} {size n : Nat} {v : Value} {xs : List Value} (hr : row e size v n xs h) (hh : ∀ k o, h k = some o → R' k ∧ w.heap[k]? = some o) : ∃ a c, v = .slice a n c ∧ n ≤ c ∧ c ≤ 9223372036854775807 ∧ (0 < n → ∃ b, a = some ⟨b, 0, none⟩ ∧ ∀ j u, xs[j]? = some u → Rd R' w ⟨b, j, none⟩ u) := by
  obtain ⟨hl, hm, ⟨rfl, rfl, _⟩ | ⟨b, cap, rest, rfl, h3, h4, h5, h6⟩⟩ := hr
  · exact ⟨none, 0, rfl, Nat.le_refl _, by omega, fun h => absurd h (Nat.lt_irrefl _)⟩
  · refine ⟨_, cap, rfl, h3, by simpa [maxLen] using h4, fun _ => ⟨b, rfl, fun j u hj => ?_⟩⟩
    obtain ⟨h1, h2⟩ := hh b _ (by rw [h6, one_same])
    have hlt : j < xs.length := (List.getElem?_eq_some_iff.1 hj).1
    exact ⟨h1, by simp [World.cell?, h2, List.getElem?_append_left hlt, hj]⟩
end
end Go.Sy
/- Derivations as trees, in plain terms: read off a list of rules, gone through, and what the list's other reading says. No condition. -/
namespace Go.Sy
open Go

/-- Trees in a row: the first one's rule, what it has become, the others. -/
inductive For
  | nil
  | cons (rule : Int) (kids rest : For)
def For.app : For → For → For
  | .nil, f => f
  | .cons x k r, f => .cons x k (r.app f)
theorem For.app_nil : ∀ f : For, f.app .nil = f
  | .nil => rfl
  | .cons x k r => by show For.cons x k (r.app .nil) = _; rw [For.app_nil r]
theorem For.app_assoc : ∀ a b c : For, (a.app b).app c = a.app (b.app c)
  | .nil, _, _ => rfl
  | .cons x k r, b, c => by show For.cons x k ((r.app b).app c) = For.cons x k (r.app (b.app c)); rw [For.app_assoc r]
def For.flat : For → List Int
  | .nil => []
  | .cons x k r => x :: (k.flat ++ r.flat)

/-- Symbols, read off a list of rules: the trees of their names, and what is left; or nothing. -/
inductive PS (g : Gram) : List Sym → List Int → Option (For × List Int) → Prop
  | nil {d : List Int} : PS g [] d (some (.nil, d))
  | term {s : Sym} {l : List Sym} {d : List Int} {r : Option (For × List Int)} : s.term = true → PS g l d r → PS g (s :: l) d r
  | bad {s : Sym} {l : List Sym} {d : List Int} : s.term = false → (∀ x d' q, d = x :: d' → 0 ≤ x → g.rules[x.toNat]? = some q → q.left ≠ s.n) → PS g (s :: l) d none
  | deep {s : Sym} {l : List Sym} {x : Int} {d : List Int} {q : Rule} : s.term = false → 0 ≤ x → g.rules[x.toNat]? = some q → q.left = s.n → PS g q.right d none → PS g (s :: l) (x :: d) none
  | late {s : Sym} {l : List Sym} {x : Int} {d d1 : List Int} {q : Rule} {ks : For} : s.term = false → 0 ≤ x → g.rules[x.toNat]? = some q → q.left = s.n → PS g q.right d (some (ks, d1)) → PS g l d1 none → PS g (s :: l) (x :: d) none
  | ok {s : Sym} {l : List Sym} {x : Int} {d d1 d2 : List Int} {q : Rule} {ks fs : For} : s.term = false → 0 ≤ x → g.rules[x.toNat]? = some q → q.left = s.n → PS g q.right d (some (ks, d1)) → PS g l d1 (some (fs, d2)) → PS g (s :: l) (x :: d) (some (.cons x ks fs, d2))

theorem ps_join {g : Gram} {s : Sym} {d d2 : List Int} {f : For} (h : PS g [s] d (some (f, d2))) (ht : s.term = false) {l : List Sym} {r : Option (For × List Int)} (h2 : PS g l d2 r) : PS g (s :: l) d (r.map fun p => (f.app p.1, p.2)) := by
  cases h with
  | term h1 _ => rw [ht] at h1; cases h1
  | ok _ h0 hq hl hk he =>
    cases he
    cases r with
    | none => exact .late ht h0 hq hl hk h2
    | some p => exact .ok ht h0 hq hl hk h2
theorem ps_none {g : Gram} {s : Sym} {d : List Int} (h : PS g [s] d none) (ht : s.term = false) (l : List Sym) : PS g (s :: l) d none := by
  cases h with
  | term h1 _ => rw [ht] at h1; cases h1
  | bad _ h1 => exact .bad ht h1
  | deep _ h0 hq hl hk => exact .deep ht h0 hq hl hk
  | late _ _ _ _ _ h1 => cases h1
theorem ps_flat {g : Gram} {l : List Sym} {d : List Int} {r : Option (For × List Int)} (h : PS g l d r) : ∀ f d2, r = some (f, d2) → d = f.flat ++ d2 := by
  induction h with
  | nil => intro f d2 h; cases h; rfl
  | term _ _ ih => exact ih
  | bad _ _ => intro f d2 h; cases h
  | deep _ _ _ _ _ _ => intro f d2 h; cases h
  | late _ _ _ _ _ _ _ _ => intro f d2 h; cases h
  | ok _ _ _ _ _ _ ih1 ih2 =>
    intro f d2 h
    cases h
    rw [ih1 _ _ rfl, ih2 _ _ rfl]
    simp [For.flat]

/-- Symbols and their trees, gone through. -/
inductive WS (g : Gram) : List Sym → For → List Int → List Spn → List Int → List Spn → Prop
  | nil {o : List Int} {s : List Spn} : WS g [] .nil o s o s
  | term {y : Sym} {l : List Sym} {f : For} {o o2 : List Int} {s s2 : List Spn} : y.term = true → WS g l f (o ++ [y.n]) s o2 s2 → WS g (y :: l) f o s o2 s2
  | name {y : Sym} {l : List Sym} {x : Int} {q : Rule} {ks fs : For} {o o1 o2 : List Int} {s s1 s2 : List Spn} {z : Spn} : y.term = false → 0 ≤ x → g.rules[x.toNat]? = some q → WS g q.right ks o (s ++ [⟨x, o.length, 0⟩]) o1 s1 → s1[s.length]? = some z →
      WS g l fs o1 (s1.set s.length ⟨z.rule, z.frm, o1.length⟩) o2 s2 → WS g (y :: l) (.cons x ks fs) o s o2 s2

theorem ws_det {g : Gram} {l : List Sym} {f : For} {o o2 : List Int} {s s2 : List Spn} (h : WS g l f o s o2 s2) : ∀ o3 s3, WS g l f o s o3 s3 → o2 = o3 ∧ s2 = s3 := by
  induction h with
  | nil => intro o3 s3 h'; cases h'; exact ⟨rfl, rfl⟩
  | term ht _ ih =>
    intro o3 s3 h'
    cases h' with
    | term _ h2 => exact ih _ _ h2
    | name h1 _ _ _ _ _ => rw [ht] at h1; cases h1
  | name ht h0 hq _ hz _ ih1 ih2 =>
    intro o3 s3 h'
    cases h' with
    | term h1 _ => rw [ht] at h1; cases h1
    | name _ _ hq' h3 hz' h4 =>
      rw [hq] at hq'
      cases hq'
      obtain ⟨rfl, rfl⟩ := ih1 _ _ h3
      rw [hz] at hz'
      cases hz'
      exact ih2 _ _ h4

theorem ps_thru {g : Gram} {D : List Int} {l : List Sym} {d : List Int} {r : Option (For × List Int)} (h : PS g l d r) : ∀ used : Nat, d = D.drop used → used ≤ D.length →
    (r = none → ∀ st out sp, sp.length = used → Thru g D (l.map mkS ++ st) used out sp none) ∧
    (∀ f d2, r = some (f, d2) → ∃ used2 : Nat, d2 = D.drop used2 ∧ used ≤ used2 ∧ used2 ≤ D.length ∧ ∀ out sp, sp.length = used → ∃ out2 sp2, WS g l f out sp out2 sp2 ∧ sp2.length = used2 ∧ ∀ st R, Thru g D st used2 out2 sp2 R → Thru g D (l.map mkS ++ st) used out sp R) := by
  have step : ∀ {x : Int} {d : List Int} {used : Nat}, x :: d = D.drop used → D[used]? = some x ∧ d = D.drop (used + 1) ∧ used + 1 ≤ D.length := by
    intro x d used h
    have h1 : D[used]? = some x := by
      have := List.getElem?_drop (xs := D) (i := used) (j := 0)
      rw [← h] at this; simpa using this.symm
    have hlt := (List.getElem?_eq_some_iff.1 h1).1
    refine ⟨h1, ?_, hlt⟩
    rw [List.drop_eq_getElem_cons hlt] at h
    exact (List.cons.inj h).2
  induction h with
  | nil =>
    intro used hd hu
    refine ⟨(fun h => by cases h), fun f d2 h => ?_⟩
    cases h
    exact ⟨used, hd, Nat.le_refl _, hu, fun out sp hs => ⟨out, sp, .nil, hs, fun st R h => h⟩⟩
  | term ht _ ih =>
    intro used hd hu
    obtain ⟨h1, h2⟩ := ih used hd hu
    refine ⟨fun h st out sp hs => .term rfl ht (h1 h st _ sp hs), fun f d2 h => ?_⟩
    obtain ⟨u2, a1, a2, a3, a4⟩ := h2 f d2 h
    refine ⟨u2, a1, a2, a3, fun out sp hs => ?_⟩
    obtain ⟨o2, s2, b1, b2, b3⟩ := a4 _ sp hs
    exact ⟨o2, s2, .term ht b1, b2, fun st R h => .term rfl ht (b3 st R h)⟩
  | @bad s l d ht hb =>
    intro used hd hu
    refine ⟨fun _ st out sp _ => .bad rfl ht fun x q hx h0 hq => ?_, fun f d2 h => by cases h⟩
    have hlt := (List.getElem?_eq_some_iff.1 hx).1
    refine hb x (D.drop (used + 1)) q ?_ h0 hq
    rw [hd, List.drop_eq_getElem_cons hlt]
    rw [List.getElem?_eq_getElem hlt] at hx
    rw [Option.some.inj hx]
  | deep ht h0 hq hl _ ih =>
    intro used hd hu
    obtain ⟨e1, e2, e3⟩ := step hd
    obtain ⟨h1, _⟩ := ih (used + 1) e2 e3
    refine ⟨fun _ st out sp hs => .rule rfl ht e1 h0 hq hl (h1 rfl _ _ _ (by rw [List.length_append, hs]; rfl)), fun f d2 h => by cases h⟩
  | @late s l x d d1 q ks ht h0 hq hl _ _ ih1 ih2 =>
    intro used hd hu
    obtain ⟨e1, e2, e3⟩ := step hd
    obtain ⟨_, h1⟩ := ih1 (used + 1) e2 e3
    obtain ⟨u1, a1, a2, a3, a4⟩ := h1 _ _ rfl
    obtain ⟨h2, _⟩ := ih2 u1 a1 a3
    refine ⟨fun _ st out sp hs => ?_, fun f d2 h => by cases h⟩
    obtain ⟨o1, s1, b1, b2, b3⟩ := a4 out (sp ++ [⟨x, out.length, 0⟩]) (by rw [List.length_append, hs]; rfl)
    obtain ⟨z, hz⟩ : ∃ z, s1[used]? = some z := ⟨s1[used]'(by omega), List.getElem?_eq_getElem _⟩
    exact .rule rfl ht e1 h0 hq hl (b3 _ _ (.close rfl hz (h2 rfl st _ _ (by rw [List.length_set]; exact b2))))
  | @ok s l x d d1 d2 q ks fs ht h0 hq hl _ _ ih1 ih2 =>
    intro used hd hu
    obtain ⟨e1, e2, e3⟩ := step hd
    obtain ⟨_, h1⟩ := ih1 (used + 1) e2 e3
    obtain ⟨u1, a1, a2, a3, a4⟩ := h1 _ _ rfl
    obtain ⟨_, h2⟩ := ih2 u1 a1 a3
    obtain ⟨u2, c1, c2, c3, c4⟩ := h2 _ _ rfl
    refine ⟨(fun h => by cases h), fun f d3 h => ?_⟩
    cases h
    refine ⟨u2, c1, by omega, c3, fun out sp hs => ?_⟩
    obtain ⟨o1, s1, b1, b2, b3⟩ := a4 out (sp ++ [⟨x, out.length, 0⟩]) (by rw [List.length_append, hs]; rfl)
    obtain ⟨z, hz⟩ : ∃ z, s1[used]? = some z := ⟨s1[used]'(by omega), List.getElem?_eq_getElem _⟩
    obtain ⟨o2, s2, p1, p2, p3⟩ := c4 o1 (s1.set used ⟨z.rule, z.frm, o1.length⟩) (by rw [List.length_set]; exact b2)
    subst hs
    exact ⟨o2, s2, .name ht h0 hq b1 hz p1, p2, fun st R h => .rule rfl ht e1 h0 hq hl (b3 _ _ (.close rfl hz (p3 st R h)))⟩

abbrev top0 : List Sym := [⟨false, 0⟩]
theorem ps_top_ok {g : Gram} {d : List Int} {f : For} {o : List Int} {s : List Spn} (h : PS g top0 d (some (f, []))) (hw : WS g top0 f [] [] o s) : Thru g d open0 0 [] [] (some (o, s)) := by
  obtain ⟨_, h2⟩ := ps_thru (D := d) h 0 rfl (Nat.zero_le _)
  obtain ⟨u, h3, _, h5, h6⟩ := h2 _ _ rfl
  obtain ⟨o2, s2, h7, _, h9⟩ := h6 [] [] rfl
  obtain ⟨rfl, rfl⟩ := ws_det hw _ _ h7
  have hu : u = d.length := by
    have := congrArg List.length h3
    simp only [List.length_nil, List.length_drop] at this
    omega
  exact h9 [] _ (.done hu)
theorem ps_top_no {g : Gram} {d : List Int} {r : Option (For × List Int)} (h : PS g top0 d r) (hr : ∀ f, r ≠ some (f, [])) : Thru g d open0 0 [] [] none := by
  obtain ⟨h1, h2⟩ := ps_thru (D := d) h 0 rfl (Nat.zero_le _)
  cases r with
  | none => exact h1 rfl [] [] [] rfl
  | some p =>
    obtain ⟨f, d2⟩ := p
    obtain ⟨u, h3, _, h5, h6⟩ := h2 _ _ rfl
    obtain ⟨o2, s2, h7, _, h9⟩ := h6 [] [] rfl
    refine h9 [] _ (.short fun e => hr f ?_)
    rw [h3, e, List.drop_length]
theorem ps_ws {g : Gram} {d d2 : List Int} {l : List Sym} {f : For} (h : PS g l d (some (f, d2))) : ∃ o s, WS g l f [] [] o s := by
  obtain ⟨_, h2⟩ := ps_thru (D := d) h 0 rfl (Nat.zero_le _)
  obtain ⟨u, h3, _, h5, h6⟩ := h2 _ _ rfl
  obtain ⟨o2, s2, h7, _⟩ := h6 [] [] rfl
  exact ⟨o2, s2, h7⟩

/-! ### What stands where -/
end Go.Sy
/- Trees as they lie in memory. No condition. -/
namespace Go.Sy
open Go Go.RowKit

abbrev encP : Nat → List Value := fun b => [.pointer (some ⟨b, 0, none⟩)]
/-- Trees that are a function's own. -/
def kidsA : For → List Nat → HP
  | .nil, bs => fun h => bs = [] ∧ h = emp0
  | .cons x ks r, bs => fun h => ∃ b bs' v kb, bs = b :: bs' ∧ stars [cel b 99 [vi x, v], trow 80 1 encP v kb, kidsA ks kb, kidsA r bs'] h
/-- Trees that are there. -/
def KidsAt (ρ : Addr → Value → Prop) : For → List Nat → Prop
  | .nil, bs => bs = []
  | .cons x ks r, bs => ∃ b bs' v kb, bs = b :: bs' ∧ Row ρ ⟨b, 0, none⟩ [vi x, v] ∧ SlAt ρ 1 v (fun p b => ρ p (.pointer (some ⟨b, 0, none⟩))) kb ∧ KidsAt ρ ks kb ∧ KidsAt ρ r bs'

theorem kids_app : ∀ {f f' : For} {bs bs' : List Nat} {h1 h2 : Heap}, Dis h1 h2 → kidsA f bs h1 → kidsA f' bs' h2 → kidsA (f.app f') (bs ++ bs') (uni h1 h2)
  | .nil, f', bs, bs', h1, h2, _, ⟨e1, e2⟩, hb => by subst e1; subst e2; rw [emp_uni]; exact hb
  | .cons x ks r, f', bs, bs', h1, h2, hd, ⟨b, cs, v, kb, e, hs⟩, hb => by
    subst e
    obtain ⟨g1, g2, hd1, rfl, hc, g3, g4, hd2, rfl, ht, g5, g6, hd3, rfl, hk, g7, g8, hd4, rfl, hr, he⟩ := hs
    have e8 : g8 = emp0 := he
    subst e8
    rw [uni_emp] at *
    have h7 : Dis g7 h2 := hd.right.right.right
    have hr' := kids_app h7 hr hb
    refine ⟨b, cs ++ bs', v, kb, rfl, g1, uni g3 (uni g5 (uni g7 h2)), ?_, ?_, hc, g3, uni g5 (uni g7 h2), ?_, rfl, ht, g5, uni g7 h2, ?_, rfl, hk, uni g7 h2, emp0, dis_emp _, (uni_emp _).symm, hr', rfl⟩
    · have := Dis.join hd1.symm hd.left.symm
      simp only [uni_assoc] at this
      exact this.symm
    · simp only [uni_assoc]
    · have := Dis.join hd2.symm hd.right.left.symm
      simp only [uni_assoc] at this
      exact this.symm
    · exact (Dis.join hd3.symm hd.right.right.left.symm).symm

theorem kids_at {R' : Nat → Prop} {w : World} : ∀ {f : For} {bs : List Nat} {h : Heap}, kidsA f bs h → (∀ k o, h k = some o → R' k ∧ w.heap[k]? = some o) → KidsAt (Rd R' w) f bs
  | .nil, bs, h, ⟨e, _⟩, _ => e
  | .cons x ks r, bs, h, ⟨b, cs, v, kb, e, hs⟩, hh => by
    obtain ⟨g1, g2, hd1, rfl, hc, g3, g4, hd2, rfl, ht, g5, g6, hd3, rfl, hk, g7, g8, hd4, rfl, hr, he⟩ := hs
    have e8 : g8 = emp0 := he
    subst e8
    rw [uni_emp] at *
    have up : ∀ {a c : Heap}, Dis a c → (∀ k o, uni a c k = some o → R' k ∧ w.heap[k]? = some o) → (∀ k o, a k = some o → R' k ∧ w.heap[k]? = some o) ∧ (∀ k o, c k = some o → R' k ∧ w.heap[k]? = some o) := by
      intro a c hd h
      refine ⟨fun k o hk => h k o (by simp [uni, hk]), fun k o hk => h k o ?_⟩
      rw [uni_comm hd]; simp [uni, hk]
    obtain ⟨h1, h2⟩ := up hd1 hh
    obtain ⟨h3, h4⟩ := up hd2 h2
    obtain ⟨h5, h6⟩ := up hd3 h4
    obtain ⟨a, c, rfl, hc1, hc2, hcc⟩ := rd_row ht h3
    refine ⟨b, cs, _, kb, e, rd_cel hc h1, ⟨a, c, rfl, hc1, hc2, fun j y hj => ?_⟩, kids_at hk h5, kids_at hr h6⟩
    have hlt := (List.getElem?_eq_some_iff.1 hj).1
    obtain ⟨b', rfl, hb'⟩ := hcc (by omega)
    refine ⟨_, rfl, ?_⟩
    rw [Addr.add_lit, Nat.zero_add]
    have := hb' (j * 1 + 0) (.pointer (some ⟨y, 0, none⟩)) (by rw [flat_get (enc := encP) (size := 1) (fun _ => rfl) hj (by omega)]; rfl)
    exact this

section
variable {R : Nat → Prop} {w0 w : World} {L L1 : List HP}
theorem Sat.kidsNil (h : Sat R w0 L w) : Sat R w0 (kidsA .nil [] :: L) w := h.addEmp ⟨rfl, rfl⟩
theorem Sat.kidNew {b : Nat} {x : Int} {v : Value} {kb : List Nat} {ks : For} (h : Sat R w0 (cel b 99 [vi x, v] :: trow 80 1 encP v kb :: kidsA ks kb :: L) w) : Sat R w0 (kidsA (.cons x ks .nil) [b] :: L) w :=
  h.imp_ fun y hy => by
    obtain ⟨h1, h2, hd, e, ha, hb⟩ := (stars_append [cel b 99 [vi x, v], trow 80 1 encP v kb, kidsA ks kb] L y).1 hy
    refine ⟨h1, h2, hd, e, ⟨b, [], v, kb, rfl, ?_⟩, hb⟩
    exact (stars_append [cel b 99 [vi x, v], trow 80 1 encP v kb, kidsA ks kb] [kidsA .nil []] h1).2 ⟨h1, emp0, dis_emp h1, (uni_emp h1).symm, ha, emp0, emp0, dis_emp _, (uni_emp _).symm, ⟨rfl, rfl⟩, rfl⟩
theorem Sat.kidsApp {f f' : For} {bs bs' : List Nat} (h : Sat R w0 (kidsA f bs :: kidsA f' bs' :: L) w) : Sat R w0 (kidsA (f.app f') (bs ++ bs') :: L) w :=
  h.imp_ fun y ⟨h1, h2, hd, e, ha, h3, h4, hd', e', hb, hL⟩ => by
    subst e'
    refine ⟨uni h1 h3, h4, Dis.join hd.symm.right.symm hd', by rw [e, uni_assoc], kids_app hd.symm.left.symm ha hb, hL⟩

theorem lift_mut2 {P : Program} {f : FuncId} {vs : Array Value} {ι : Type} {V : ι → Value} {p : ι → Prop} {Zp : List PanicEntry → Prop} {A : HP} {M : ι → List HP} (pk : Pick L A L1) (hS : Sat R w0 L w)
    (h : ∀ F, Sat R w0 [A, F] w → Calls P f vs w (fun e w' => (∃ x, e = .returned (V x) ∧ p x ∧ Sat R w0 (M x ++ [F]) w') ∨ ∃ ch, e = .panicked ch ∧ Zp ch ∧ Sat R w0 [F] w')) :
    Calls P f vs w (fun e w' => (∃ x, e = .returned (V x) ∧ (p x ∧ Sat R w0 (M x ++ L1) w')) ∨ ∃ ch, e = .panicked ch ∧ (Zp ch ∧ Sat R w0 L1 w')) := by
  have one : ∀ y, stars [stars L1] y → stars L1 y := fun y ⟨h3, h4, _, e5, hL, e4⟩ => by
    have e6 : h4 = emp0 := e4
    subst e6
    rw [uni_emp] at e5
    subst e5
    exact hL
  refine (h _ (hS.pick pk).pack).mono fun e w' hp => ?_
  rcases hp with ⟨x, he, hp, hw⟩ | ⟨ch, he, hz, hw⟩
  · refine .inl ⟨x, he, hp, hw.imp_ fun y hy => ?_⟩
    obtain ⟨h1, h2, hd, e, ha, hb⟩ := (stars_append (M x) [stars L1] y).1 hy
    exact (stars_append (M x) L1 y).2 ⟨h1, h2, hd, e, ha, one _ hb⟩
  · exact .inr ⟨ch, he, hz, hw.imp_ one⟩
theorem lift_mutL {P : Program} {f : FuncId} {vs : Array Value} {ι : Type} {V : ι → Value} {p : ι → Prop} {M0 : List HP} {M : ι → List HP} (hS : Sat R w0 (M0 ++ L1) w)
    (h : ∀ F, Sat R w0 (M0 ++ [F]) w → Calls P f vs w (fun e w' => ∃ x, e = .returned (V x) ∧ p x ∧ Sat R w0 (M x ++ [F]) w')) :
    Calls P f vs w (fun e w' => ∃ x, e = .returned (V x) ∧ (p x ∧ Sat R w0 (M x ++ L1) w')) := by
  have hS' : Sat R w0 (M0 ++ [stars L1]) w := hS.imp_ fun y hy => by
    obtain ⟨h1, h2, hd, e, ha, hb⟩ := (stars_append M0 L1 y).1 hy
    exact (stars_append M0 [stars L1] y).2 ⟨h1, h2, hd, e, ha, h2, emp0, dis_emp h2, (uni_emp h2).symm, hb, rfl⟩
  refine (h _ hS').mono fun e w' ⟨x, he, hp, hw⟩ => ⟨x, he, hp, hw.imp_ fun y hy => ?_⟩
  obtain ⟨h1, h2, hd, e, ha, h3, h4, _, e5, hL, e4⟩ := (stars_append (M x) [stars L1] y).1 hy
  have e6 : h4 = emp0 := e4
  subst e6
  rw [uni_emp] at e5
  subst e5
  exact (stars_append (M x) L1 y).2 ⟨h1, h2, hd, e, ha, hL⟩
end

end Go.Sy
/- Package gram: a derivation, read. No condition. -/
namespace Go.Sy
open Go Go.RowKit Go.Proofs

/-- What is thrown where a list is no derivation. -/
abbrev badP : List PanicEntry := [{ v := .iface 106 (.agg #[]), recovered := false }]
structure NR where
 b : Nat
 f : For
 dv : Value
 dc : List Int

set_option maxRecDepth 20000 in
theorem rname_any (g : Gram) (hm : mayB g = true) (a : Option Addr) (c br : Nat) (R : Nat → Prop) (w0 : World) (hr : RulesAt (Rd R w0) (.slice a g.rules.length c) g.rules) : ∀ (m : Nat) (dc : List Int) (dv : Value) (n : Int) (w : World) (F : HP), dc.length = m → dc.length ≤ 400 → IntsAt (Rd R w0) dv dc → Sat R w0 [cel br 110 [.int .i64 g.terms, .int .i64 g.names, .slice a g.rules.length c, dv], F] w →
   Calls Try.prog 67 #[.pointer (some ⟨br, 0, none⟩), .int .i64 n] w (fun e w' => (∃ y : NR, e = .returned (.pointer (some ⟨y.b, 0, none⟩)) ∧ (PS g [⟨false, n⟩] dc (some (y.f, y.dc)) ∧ IntsAt (Rd R w0) y.dv y.dc ∧ y.dc.length < dc.length) ∧ Sat R w0 ([kidsA y.f [y.b], cel br 110 [.int .i64 g.terms, .int .i64 g.names, .slice a g.rules.length c, y.dv]] ++ [F]) w') ∨ ∃ ch, e = .panicked ch ∧ (ch = badP ∧ PS g [⟨false, n⟩] dc none) ∧ Sat R w0 [F] w') := by
 intro m
 refine Nat.strongRecOn m ?_
 clear m
 intro m ih dc dv n w F hlen h400 hd hw
 obtain ⟨a', c', hv, hc1, hc2, hrs⟩ := id hr
 injection hv with e1 _ e2
 subst e1
 subst e2
 have hM := mayB_true.1 hm
 obtain ⟨da, dcap, rfl, hd1, hd2, hds⟩ := id hd
 refine calls_CW (S := Sat R w0 [cel br 110 [.int .i64 g.terms, .int .i64 g.names, .slice a g.rules.length c, (.slice da dc.length dcap)], F]) Try.func67 rfl Try.ntmps67 rfl (hw) ?_
 refine nx3 ?_
 refine aO ?_
 refine nx2 ?_
 refine CW_seq ?_
 refine CW_seq ?_
 refine CW_drawS 40 [(0, false), (1, false), (2, false), (3, false), (4, false), (5, false), (6, false), (7, false), (8, false), (9, false), (10, false), (11, false), (12, false), (13, false), (14, false), (15, false), (16, false), (17, false), (18, false), (19, true), (20, false), (21, false), (22, false), (23, false), (24, false), (25, false), (26, false), (27, false), (28, false), (29, false), (30, false), (31, false), (32, false), (33, false), (34, false), (35, false), (36, false), (37, false), (38, false), (39, false)] (by kernel_rfl) (Blind.then (Blind.then Blind.bodyP)) (by kernel_rfl) (fun w hw => hw.drew) ?_
 refine mD ?_
 refine DW_q rfl sft (q_nilCheck rfl) rfl ?_
 refine DW_q rfl sft (q_fieldAddr Try.underlying110 rfl rfl Try.sizeOf32 rfl rfl) rfl ?_
 refine DW_q rfl sft (q_load1_own Try.isAgg32 rfl rfl swt (by rfl)) rfl ?_
 refine DW_q rfl sft (q_len Try.underlying32 rfl) rfl ?_
 refine DW_q rfl sft (q_eqi rfl rfl) rfl ?_
 refine mD ?_
 refine DW_part (t := 14) rfl (fun hg14 => ?_) (fun hg14 => ?_)
 · skip
   have hnil : dc = [] := by
     cases dc with
     | nil => rfl
     | cons x t => simp at hg14; omega
   refine kD ?_
   refine kD ?_
   refine kD ?_
   refine kD ?_
   refine kD ?_
   refine kD ?_
   refine kD ?_
   refine kD ?_
   refine kD ?_
   refine kD ?_
   refine kD ?_
   refine kD ?_
   refine DW_eskip rfl sft rfl rfl rfl rfl ?_
   refine kD ?_
   refine DW_q rfl sft (q_pick_t rfl rfl) rfl ?_
   refine mD ?_
   refine kD ?_
   refine kD ?_
   refine kD ?_
   refine kD ?_
   refine kD ?_
   refine kD ?_
   refine kD ?_
   refine kD ?_
   refine kD ?_
   refine kD ?_
   refine kD ?_
   refine kD ?_
   refine kD ?_
   refine kD ?_
   refine kD ?_
   refine kD ?_
   refine DW_q rfl sft (q_pick_t rfl rfl) rfl ?_
   refine DW_nil ?_
   refine EW_then ?_
   refine CW_true rfl rfl ?_
   refine CW_region ?_
   refine OW_q (q_build (ps := #[]) (v := .agg #[]) rfl (fun w => by kernel_rfl)) rfl ?_
   refine OW_q (q_makeIface Try.underlying106 rfl) rfl ?_
   refine OW_panic rfl ?_
   refine EW_then_panic ?_; refine retP (fun w hw => ?_)
   exact .inr ⟨_, rfl, ⟨rfl, .bad rfl (fun x d q h => by rw [hnil] at h; cases h)⟩, hw.sub sbt⟩
 obtain ⟨x, dt, rfl⟩ : ∃ x dt, dc = x :: dt := by
   cases dc with
   | nil => simp at hg14
   | cons x t => exact ⟨x, t, rfl⟩
 have hlc : (x :: dt).length = dt.length + 1 := rfl
 obtain ⟨pd, rfl, hrx0⟩ := hds 0 x rfl
 have hrx : Rd R w0 (pd.add ((0 : Int).toNat * 1)) (.int .i64 x) := hrx0
 refine DW_qg rfl sft rfl rfl rfl (q_move rfl) rfl ?_
 refine DW_qg rfl sft rfl rfl rfl (q_nilCheck rfl) rfl ?_
 refine DW_qg rfl sft rfl rfl rfl (q_fieldAddr Try.underlying110 rfl rfl Try.sizeOf32 rfl rfl) rfl ?_
 refine DW_qg rfl sft rfl rfl rfl (q_load1_own Try.isAgg32 rfl rfl swt (by rfl)) rfl ?_
 refine DW_qg rfl sft rfl rfl rfl (q_indexAddrI Try.underlying32 Try.sizeOf3 rfl rfl (by omega) (by omega)) rfl ?_
 refine DW_qg rfl sft rfl rfl rfl (q_load1_ro Try.isAgg3 rfl (by exact hrx)) rfl ?_
 refine DW_qg rfl sft rfl rfl rfl (q_move rfl) rfl ?_
 refine DW_qg rfl sft rfl rfl rfl (q_nilCheck rfl) rfl ?_
 refine DW_qg rfl sft rfl rfl rfl (q_fieldAddr Try.underlying110 rfl rfl Try.sizeOf24 rfl rfl) rfl ?_
 refine DW_qg rfl sft rfl rfl rfl (q_fieldAddr Try.underlying24 rfl rfl Try.sizeOf22 rfl rfl) rfl ?_
 refine DW_qg rfl sft rfl rfl rfl (q_load1_own Try.isAgg22 rfl rfl swt (by rfl)) rfl ?_
 refine DW_qg rfl sft rfl rfl rfl (q_len Try.underlying22 rfl) rfl ?_
 refine DW_eg rfl rfl rfl rfl (e_call Try.call25 rfl (fun w hw => lift_same (in_any x (g.rules.length : Int) w) hw)) rfl (fun _ w hw => by first | exact hw.sub sbt | exact hw.2.sub sbt) (fun x27 => ?_)
 refine DW_qg rfl sft rfl rfl rfl (q_not rfl) rfl ?_
 refine DW_q rfl sft (q_pick_f rfl rfl) rfl ?_
 refine mD ?_
 refine DW_part (t := 30) rfl (fun hg30 => ?_) (fun hg30 => ?_)
 · skip
   have hout : inB x g.rules.length = false := by simpa using hg30
   refine kD ?_
   refine kD ?_
   refine kD ?_
   refine kD ?_
   refine kD ?_
   refine kD ?_
   refine kD ?_
   refine kD ?_
   refine kD ?_
   refine kD ?_
   refine kD ?_
   refine kD ?_
   refine kD ?_
   refine kD ?_
   refine kD ?_
   refine kD ?_
   refine DW_q rfl sft (q_pick_t rfl rfl) rfl ?_
   refine DW_nil ?_
   refine EW_then ?_
   refine CW_true rfl rfl ?_
   refine CW_region ?_
   refine OW_q (q_build (ps := #[]) (v := .agg #[]) rfl (fun w => by kernel_rfl)) rfl ?_
   refine OW_q (q_makeIface Try.underlying106 rfl) rfl ?_
   refine OW_panic rfl ?_
   refine EW_then_panic ?_; refine retP (fun w hw => ?_)
   exact .inr ⟨_, rfl, ⟨rfl, .bad rfl (fun x' d q h h0 hq => by
     cases h
     have := (List.getElem?_eq_some_iff.1 hq).1
     rw [inB_true.2 ⟨h0, by omega⟩] at hout
     cases hout)⟩, hw.sub sbt⟩
 have hin : inB x g.rules.length = true := by simpa using hg30
 obtain ⟨hx0, hx1⟩ := inB_true.1 hin
 obtain ⟨q, hq⟩ := get_of_lt (l := g.rules) (k := x.toNat) (by omega)
 obtain ⟨p, rfl, rv2, hsy, hrow⟩ := hrs x.toNat q hq
 obtain ⟨a2, c2, rfl, hl1, hl2, hss⟩ := hsy
 have hr8 := (may_rule hm hq).2.2
 refine DW_qg rfl sft rfl rfl rfl (q_move rfl) rfl ?_
 refine DW_qg rfl sft rfl rfl rfl (q_nilCheck rfl) rfl ?_
 refine DW_qg rfl sft rfl rfl rfl (q_fieldAddr Try.underlying110 rfl rfl Try.sizeOf24 rfl rfl) rfl ?_
 refine DW_qg rfl sft rfl rfl rfl (q_fieldAddr Try.underlying24 rfl rfl Try.sizeOf22 rfl rfl) rfl ?_
 refine DW_qg rfl sft rfl rfl rfl (q_load1_own Try.isAgg22 rfl rfl swt (by rfl)) rfl ?_
 refine DW_qg rfl sft rfl rfl rfl (q_move rfl) rfl ?_
 refine DW_qg rfl sft rfl rfl rfl (q_nilCheck rfl) rfl ?_
 refine DW_qg rfl sft rfl rfl rfl (q_fieldAddr Try.underlying110 rfl rfl Try.sizeOf32 rfl rfl) rfl ?_
 refine DW_qg rfl sft rfl rfl rfl (q_load1_own Try.isAgg32 rfl rfl swt (by rfl)) rfl ?_
 refine DW_qg rfl sft rfl rfl rfl (q_indexAddrI Try.underlying32 Try.sizeOf3 rfl rfl (by omega) (by omega)) rfl ?_
 refine DW_qg rfl sft rfl rfl rfl (q_load1_ro Try.isAgg3 rfl (by exact hrx)) rfl ?_
 refine DW_qg rfl sft rfl rfl rfl (q_indexAddrI Try.underlying22 Try.sizeOf49 rfl rfl (by omega) (by omega)) rfl ?_
 refine DW_qg rfl sft rfl rfl rfl (q_fieldAddr Try.underlying49 rfl rfl Try.sizeOf3 rfl rfl) rfl ?_
 refine DW_qg rfl sft rfl rfl rfl (q_load1_ro Try.isAgg3 rfl (by exact Row.at_ (by assumption) rfl)) rfl ?_
 refine DW_qg rfl sft rfl rfl rfl (q_move rfl) rfl ?_
 refine DW_qg rfl sft rfl rfl rfl (q_nei rfl rfl) rfl ?_
 refine DW_q rfl sft (q_pick_f rfl rfl) rfl ?_
 refine DW_nil ?_
 refine EW_then ?_
 refine CW_cond rfl (fun h47 => ?_) (fun h47 => ?_)
 · skip
   --ok
   refine CW_region ?_
   refine OW_q (q_build (ps := #[]) (v := .agg #[]) rfl (fun w => by kernel_rfl)) rfl ?_
   refine OW_q (q_makeIface Try.underlying106 rfl) rfl ?_
   refine OW_panic rfl ?_
   refine EW_then_panic ?_; refine retP (fun w hw => ?_)
   exact .inr ⟨_, rfl, ⟨rfl, .bad rfl (fun x' d q' h h0 hq' => by
     cases h
     rw [hq] at hq'
     cases hq'
     simpa using h47)⟩, hw.sub sbt⟩
 have hql : q.left = n := by simpa using h47
 have hdt : IntsAt (Rd R w0) (.slice (if dcap = 1 then some pd else (some pd).map (·.add (1 * 1))) ((x :: dt).length - 1) (dcap - 1)) dt := by
   have := SlAt.sub (lo := 1) (hi := (x :: dt).length) hd (by omega) (Nat.le_refl _)
   rwa [List.take_length] at this
 refine CW_skip ?_
 refine EW_then ?_
 refine nx3 ?_
 refine mO ?_
 refine OW_q (q_nilCheck rfl) rfl ?_
 refine OW_q (q_fieldAddr Try.underlying110 rfl rfl Try.sizeOf32 rfl rfl) rfl ?_
 refine OW_q (q_load1_own Try.isAgg32 rfl rfl swt (by rfl)) rfl ?_
 refine OW_q (q_indexAddrI Try.underlying32 Try.sizeOf3 rfl rfl (by omega) (by omega)) rfl ?_
 refine OW_q (q_load1_ro Try.isAgg3 rfl (by exact hrx)) rfl ?_
 refine OW_q (q_build (ps := #[(0, .int .i64 x)]) (v := .agg #[.int .i64 x, .slice none 0 0]) rfl (fun w => by kernel_rfl)) rfl ?_
 refine OW_e (e_box rfl rfl) rfl (fun b57 => ?_)
 refine aO ?_
 refine nx4 ?_
 refine mO ?_
 refine mO ?_
 refine OW_q (q_nilCheck rfl) rfl ?_
 refine OW_q (q_fieldAddr Try.underlying110 rfl rfl Try.sizeOf32 rfl rfl) rfl ?_
 refine OW_q (q_load1_own Try.isAgg32 rfl rfl swt (by rfl)) rfl ?_
 refine OW_q (q_slice (l := 1) (h := (x :: dt).length) Try.underlying32 Try.sizeOf3 rfl (.inr ⟨_, rfl, rfl⟩) (.inl ⟨rfl, rfl⟩) (by omega) (by omega) (by omega)) rfl ?_
 refine OW_q (q_nilCheck rfl) rfl ?_
 refine OW_q (q_fieldAddr Try.underlying110 rfl rfl Try.sizeOf32 rfl rfl) rfl ?_
 refine OW_e0 (e_store Try.sizeOf32 rfl rfl rfl rfl swt (by rfl)) (fun _ => ?_)
 refine nx2 ?_
 refine CW_seq ?_
 refine CW_seq ?_
 refine CW_drawS 14 [(0, false), (1, false), (2, false), (3, false), (4, false), (5, false), (6, false), (7, false), (8, false), (9, false), (10, false), (11, false), (12, false), (13, false)] (by kernel_rfl) (Blind.then (Blind.then Blind.bodyP)) (by kernel_rfl) (fun w hw => hw.drew) ?_
 refine mD ?_
 refine DW_q rfl sft (q_nilCheck rfl) rfl ?_
 refine DW_q rfl sft (q_fieldAddr Try.underlying110 rfl rfl Try.sizeOf24 rfl rfl) rfl ?_
 refine DW_q rfl sft (q_fieldAddr Try.underlying24 rfl rfl Try.sizeOf22 rfl rfl) rfl ?_
 refine DW_q rfl sft (q_load1_own Try.isAgg22 rfl rfl swt (by rfl)) rfl ?_
 refine mD ?_
 refine DW_q rfl sft (q_nilCheck rfl) rfl ?_
 refine DW_q rfl sft (q_fieldAddr Try.underlying99 rfl rfl Try.sizeOf3 rfl rfl) rfl ?_
 refine DW_q rfl sft (q_load1_own Try.isAgg3 rfl rfl swt (by rfl)) rfl ?_
 refine DW_q rfl sft (q_indexAddrI Try.underlying22 Try.sizeOf49 rfl rfl (by omega) (by omega)) rfl ?_
 refine DW_q rfl sft (q_fieldAddr Try.underlying49 rfl rfl Try.sizeOf46 rfl rfl) rfl ?_
 refine DW_q rfl sft (q_load1_ro Try.isAgg46 rfl (by exact Row.at_ (by assumption) rfl)) rfl ?_
 refine DW_q rfl sft (q_len Try.underlying46 rfl) rfl ?_
 refine mD ?_
 refine DW_nil ?_
 refine EW_then ?_
 refine CW_block ?_
 refine CW_loopP (ι := Nat × List Nat × Value × For × List Int × Value) (fun i_ => i_.1 ≤ q.right.length ∧ i_.2.1.length ≤ i_.1 ∧ IntsAt (Rd R w0) i_.2.2.2.2.2 i_.2.2.2.2.1 ∧ i_.2.2.2.2.1.length ≤ dt.length ∧ ∀ r, PS g (q.right.drop i_.1) i_.2.2.2.2.1 r → PS g q.right dt (r.map fun (p : For × List Int) => (i_.2.2.2.1.app p.1, p.2))) (fun i_ => [(0, .pointer (some ⟨br, 0, none⟩)), (5, .pointer (some ⟨b57, 0, none⟩)), (77, .slice a2 q.right.length c2), (78, .int .i64 (q.right.length : Int)), (79, .int .i64 (i_.1 : Int))]) (fun i_ => Sat R w0 [cel b57 99 [vi x, i_.2.2.1], trow 80 1 encP i_.2.2.1 i_.2.1, kidsA i_.2.2.2.1 i_.2.1, cel br 110 [.int .i64 g.terms, .int .i64 g.names, .slice (some p) g.rules.length c, i_.2.2.2.2.2], F]) (fun i_ => q.right.length - i_.1) (0, [], .slice none 0 0, .nil, dt, (.slice (if dcap = 1 then some pd else (some pd).map (·.add (1 * 1))) ((x :: dt).length - 1) (dcap - 1))) ?_ ⟨rfl, rfl, rfl, rfl, rfl, trivial⟩ (fun w hw => ((hw.tnil 80 1 encP).kidsNil).sub sbt) ?_
 · exact ⟨Nat.zero_le _, Nat.zero_le _, hdt, Nat.le_refl _, fun r h => by cases r <;> exact h⟩
 intro i_ hpre
 obtain ⟨k, kb, kv, fk, dcu, dvc⟩ := i_
 replace hpre : k ≤ q.right.length ∧ kb.length ≤ k ∧ IntsAt (Rd R w0) dvc dcu ∧ dcu.length ≤ dt.length ∧ ∀ r, PS g (q.right.drop k) dcu r → PS g q.right dt (r.map fun (p : For × List Int) => (fk.app p.1, p.2)) := hpre
 change CW _ _ _ _ [(0, .pointer (some ⟨br, 0, none⟩)), (5, .pointer (some ⟨b57, 0, none⟩)), (77, .slice a2 q.right.length c2), (78, .int .i64 (q.right.length : Int)), (79, .int .i64 (k : Int))] (Sat R w0 [cel b57 99 [vi x, kv], trow 80 1 encP kv kb, kidsA fk kb, cel br 110 [.int .i64 g.terms, .int .i64 g.names, .slice (some p) g.rules.length c, dvc], F])
 obtain ⟨hk, hkb, hdvc, hdl, hinv⟩ := hpre
 refine nx3 ?_
 refine OW_q (q_lss rfl rfl) rfl ?_
 refine nx2 ?_
 refine CW_seq ?_
 refine CW_cond rfl (fun h80 => ?_) (fun h80 => ?_)
 · skip
   have hltk : k < q.right.length := by have := of_decide_eq_true h80; omega
   obtain ⟨s, hsj⟩ := get_of_lt hltk
   obtain ⟨p2, rfl, hrowS⟩ := hss k s hsj
   have hdrop := drop_cons hsj
   refine CW_skip ?_
   refine EW_then ?_
   refine CW_seq ?_
   refine CW_block ?_
   refine nx3 ?_
   refine OW_q (q_indexAddr Try.underlying46 Try.sizeOf51 rfl rfl (by omega)) rfl ?_
   refine OW_q (q_loadN_ro Try.isAgg51 Try.sizeOf51 rfl (by assumption) (by rfl)) rfl ?_
   refine OW_e (e_alloc Try.zeroValue51 rfl) rfl (fun b7 => ?_)
   refine OW_e0 (e_storeN Try.sizeOf51 rfl rfl rfl rfl (by simp [Value.oneCell']) swt (by rfl)) (fun _ => ?_)
   refine nx4 ?_
   refine OW_q (q_fieldAddr Try.underlying51 rfl rfl Try.sizeOf4 rfl rfl) rfl ?_
   refine OW_q (q_load1_own Try.isAgg4 rfl rfl swt (by rfl)) rfl ?_
   refine OW_q (q_not rfl) rfl ?_
   refine nx2 ?_
   refine CW_cond rfl (fun h85 => ?_) (fun h85 => ?_)
   · skip
     have ht : s.term = false := by simpa using h85
     have hse : s = ⟨false, s.n⟩ := by cases s; simp at ht; simp [ht]
     refine CW_draw (Sat R w0 [cel b57 99 [vi x, kv], cel b7 51 [.bool s.term, .int .i64 s.n]]) 13 [(0, false), (1, false), (2, false), (3, false), (4, false), (5, false), (6, false), (7, false), (8, true), (9, true), (10, true), (11, false), (12, false), (13, true)] (by kernel_rfl) (Blind.block (Blind.then (Blind.again (Blind.block (Blind.then Blind.bodyP))))) (by kernel_rfl) (fun w hw => hw.drew) ?_
     refine mD ?_
     refine mD ?_
     refine DW_q rfl sft (q_nilCheck rfl) rfl ?_
     refine DW_q rfl sft (q_fieldAddr Try.underlying99 rfl rfl Try.sizeOf97 rfl rfl) rfl ?_
     refine DW_q rfl sft (q_load1_own Try.isAgg97 rfl rfl swt (by rfl)) rfl ?_
     refine mD ?_
     refine DW_q rfl sft (q_fieldAddr Try.underlying51 rfl rfl Try.sizeOf3 rfl rfl) rfl ?_
     refine DW_q rfl sft (q_load1_own Try.isAgg3 rfl rfl swt (by rfl)) rfl ?_
     refine DW_e2 rfl (e_call2 Try.call67 rfl (fun w hw => lift_mut2 (A := cel br 110 [.int .i64 g.terms, .int .i64 g.names, .slice (some p) g.rules.length c, dvc]) pkt hw (fun F hF => ih dcu.length (by omega) dcu dvc s.n w F rfl (by omega) hdvc hF))) rfl (fun _ w hw => hw.2.sub sbt) (fun ch => ?_) (fun x94 => ?_)
     · refine EW_block_panic ?_; refine EW_then_panic ?_; refine EW_out_panic ?_; refine EW_block_panic ?_; refine EW_then_panic ?_; refine retP (fun w hw => ?_)
       refine .inr ⟨ch, rfl, ⟨hw.1.1, ?_⟩, hw.2.sub sbt⟩
       refine .deep rfl hx0 hq hql (hinv none ?_)
       rw [hdrop]
       exact ps_none (by rw [hse]; exact hw.1.2) ht _
     refine DW_pure fun hx94 => ?_
     refine DW_e rfl (e_single Try.underlying97 Try.sizeOf80 Try.zeroValue80 (e := 80) (v := .pointer (some ⟨x94.b, 0, none⟩)) (cs := [.pointer (some ⟨x94.b, 0, none⟩)]) rfl rfl rfl rfl (by decide) (by decide)) rfl (fun _ => sft) (fun b95 => ?_)
     refine DW_e rfl (e_append_t (x0 := x94.b) (enc := encP) Try.underlying97 Try.typeInfo80 rfl rfl rfl rfl rfl rfl rfl pkt rfl (by exact fun w hw => hw.news swt) (by simp [Value.oneCell']) (by omega) (by decide)) rfl (fun _ => sft) (fun v96 => ?_)
     refine DW_q rfl sft (q_nilCheck rfl) rfl ?_
     refine DW_q rfl sft (q_fieldAddr Try.underlying99 rfl rfl Try.sizeOf97 rfl rfl) rfl ?_
     refine DW_fact (fun w hw => hw.tform (v := v96) swt) (fun hf => ?_)
     obtain ⟨_, _, hv96, _⟩ := hf
     refine DW_z0 rfl (e_store Try.sizeOf97 rfl rfl rfl (by show Value.oneCell' v96 = true; rw [hv96]; rfl) swt rfl) (fun _ => ?_)
     refine EW_block_normal ?_
     refine EW_then ?_
     refine CW_region ?_
     refine OW_q (q_add rfl rfl (by omega) (by omega)) rfl ?_
     refine mO ?_
     refine OW_nil ?_
     refine EW_again ((k + 1, kb ++ [x94.b], v96, fk.app x94.f, x94.dc, x94.dv)) ⟨?_, ?_⟩ ⟨rfl, rfl, rfl, rfl, rfl, trivial⟩ (fun w hw => ((hw.sub (L' := [kidsA fk kb, kidsA x94.f [x94.b], cel b57 99 [vi x, v96], trow 80 1 encP v96 (kb ++ [x94.b]), cel br 110 [.int .i64 g.terms, .int .i64 g.names, .slice (some p) g.rules.length c, x94.dv], F]) sbt).kidsApp).sub sbt)
     · show q.right.length - (k + 1) < q.right.length - k; omega
     · refine ⟨by show k + 1 ≤ _; omega, by show (kb ++ [x94.b]).length ≤ k + 1; rw [List.length_append]; exact Nat.succ_le_succ hkb, hx94.2.1, by have := hx94.2.2; show x94.dc.length ≤ _; omega, fun r h => ?_⟩
       have h2 := hinv (r.map fun (p : For × List Int) => (x94.f.app p.1, p.2)) (by rw [hdrop]; exact ps_join (by rw [hse]; exact hx94.1) ht h)
       rw [Option.map_map] at h2
       have e : ((fun p : For × List Int => (fk.app p.1, p.2)) ∘ fun p : For × List Int => (x94.f.app p.1, p.2)) = fun p : For × List Int => ((fk.app x94.f).app p.1, p.2) := funext fun p => by simp [For.app_assoc]
       rw [e] at h2
       exact h2
   refine CW_skip ?_
   refine EW_block_normal ?_
   refine EW_then ?_
   refine CW_region ?_
   refine OW_q (q_add rfl rfl (by omega) (by omega)) rfl ?_
   refine mO ?_
   refine OW_nil ?_
   refine EW_again ((k + 1, kb, kv, fk, dcu, dvc)) ⟨?_, ?_⟩ ⟨rfl, rfl, rfl, rfl, rfl, trivial⟩ sft
   · show q.right.length - (k + 1) < q.right.length - k; omega
   · exact ⟨by show k + 1 ≤ _; omega, by show kb.length ≤ k + 1; omega, hdvc, hdl, fun r h => hinv r (by rw [hdrop]; exact .term (by simpa using h85) h)⟩
 obtain rfl : k = q.right.length := by have := of_decide_eq_false h80; omega
 have hps : PS g q.right dt (some (fk.app .nil, dcu)) := hinv (some (.nil, dcu)) (by rw [List.drop_length]; exact .nil)
 rw [For.app_nil] at hps
 refine CW_exit ?_
 refine EW_then_exit ?_
 refine EW_out ?_
 refine EW_block_exit ?_
 refine EW_then ?_
 refine nx3 ?_
 refine mO ?_
 refine aO ?_
 refine nx2 ?_
 refine CW_ret ?_
 refine ret1 Try.results67 rfl (fun w hw => ?_)
 exact .inl ⟨⟨b57, .cons x fk .nil, dvc, dcu⟩, rfl, ⟨.ok rfl hx0 hq hql hps .nil, hdvc, by show dcu.length < _; omega⟩, (hw.kidNew).sub sbt⟩

end Go.Sy
/- Package gram: a derivation's tree. No condition. -/
namespace Go.Sy
open Go Go.RowKit Go.Proofs

section
variable {P : Program} {n : Nat} {K : Env} {C : World → Prop} {dst : Option Nat} {T : TypeId} {pos : String} {af : Array Edge} {g : Option (Nat × Bool)}
theorem q_neNil [Inhabited (List Deferred)] {t t' : TypeId} {x : Operand} {v : Value} {b : Bool} (hu : P.underlying t = some (.interface (P.methodsAt t))) (hx : ev K x = some v) (hv : (v = .nilIface ∧ b = false) ∨ ∃ u y, v = .iface u y ∧ b = true) : Qt P n K C ⟨dst, .binOp .neq t x (.const .nilIface) t', T, pos, af, g⟩ (.bool b) := fun a ha w _ => by
 have e2 : a.eval (.const .nilIface) = .nilIface := rfl
 rcases hv with ⟨rfl, rfl⟩ | ⟨u, y, rfl, rfl⟩
 · simp only [execOp, ha.ev hx, e2]
   simp [eqGuard, run_neq_nil_nil w t hu]
 · simp only [execOp, ha.ev hx, e2]
   simp [eqGuard, run_neq_held_nil w t u y hu]
theorem q_assertOk [Inhabited (List Deferred)] {t t' : TypeId} {x : Operand} {v : Value} {fs : Array Field} (hu : P.underlying t = some (.struct fs)) (hx : ev K x = some (.iface t v)) : Qt P n K C ⟨dst, .typeAssert x t' t true, T, pos, af, g⟩ (.tuple #[v, .bool true]) := fun a ha w _ => by
 simp [execOp, ha.ev hx, Instr.typeAssert, run_underlying hu]
theorem results_cell1 {fn : Func} {tmps : Array Value} {c : Nat} {t : TypeId} {p : Addr} {v : Value} {w : World} (hr : fn.results = #[.cell c t]) (hA : ∀ w, (isAgg t).run P w = .ok false w) (hp : tmps.getD c undef = .pointer (some p)) (hc : w.cell? p = some v) : (results fn tmps).run P w = .ok v w := by
 simp only [Array.getD_eq_getD_getElem?] at hp
 simp [results, hr, hp, loadVar, hA, hc, asAddr]
end

def treeH : Option (Nat × For) → HP
 | some p => kidsA p.2 [p.1]
 | none => fun h => h = emp0
def TreeOk (g : Gram) (d : List Int) : Option (Nat × For) → Prop
 | some p => mayB g = true ∧ d.length ≤ 400 ∧ PS g top0 d (some (p.2, []))
 | none => mayB g = true → d.length ≤ 400 → ∃ r, PS g top0 d r ∧ ∀ f, r ≠ some (f, [])

set_option maxRecDepth 20000 in
theorem catch_idle (b4 : Nat) (v : Value) (R : Nat → Prop) (w0 w : World) (F : HP) (hw : Sat R w0 [cel b4 80 [v], F] w) : CallsD Try.prog 66 #[.pointer (some ⟨b4, 0, none⟩)] .returning w (fun e u' w' => (∃ y, e = .returned y) ∧ u' = .returning ∧ Sat R w0 [cel b4 80 [v], F] w') := by
 refine callsD_of_wpS Try.func66 rfl fun c₀ cs hu => ?_
 apply wpS_seq
 apply wpS_region
 simp only [wpOpsS, go_sem, recoverD, hu, Try.ntmps66, Exit.thenS, List.range, List.range.loop, List.size_toArray, List.length_cons, List.length_nil]
 simp [wpOpsS, go_sem, recoverD, hu, Try.ntmps66, Exit.thenS]
 refine wpS_of_wp ?_
 refine (?_ : CW _ _ _ 15 [(1, .nilIface), (0, .pointer (some ⟨b4, 0, none⟩))] (Sat R w0 [cel b4 80 [v], F])) _ _ ⟨by simp, rfl, fun i y hi => by
   rcases look_cons hi with ⟨rfl, rfl⟩ | ⟨_, hi⟩
   · simp
   · rcases look_cons hi with ⟨rfl, rfl⟩ | ⟨_, hi⟩
     · simp
     · cases hi⟩ hw
 refine nx3 ?_
 refine mO ?_
 refine OW_q (q_neNil (b := false) (by kernel_rfl) rfl (.inl ⟨rfl, rfl⟩)) rfl ?_
 refine nx2 ?_
 refine CW_false rfl (rfl) ?_
 refine CW_skip ?_
 refine fun a w ha hw => ⟨ha.2.1, .returning, by rw [← hu], .tuple #[], results_none Try.results66 _ _ _, ⟨⟨_, rfl⟩, rfl, hw⟩⟩
 --

set_option maxRecDepth 20000 in
theorem catch_bad (b4 : Nat) (v : Value) (R : Nat → Prop) (w0 w : World) (F : HP) (hw : Sat R w0 [cel b4 80 [v], F] w) : CallsD Try.prog 66 #[.pointer (some ⟨b4, 0, none⟩)] (.panicking badP) w (fun e u' w' => (∃ y, e = .returned y) ∧ u' = .panicking [{ v := .iface 106 (.agg #[]), recovered := true }] ∧ Sat R w0 [cel b4 80 [.pointer none], F] w') := by
 refine callsD_of_wpS Try.func66 rfl fun c₀ cs hu => ?_
 apply wpS_seq
 apply wpS_region
 simp only [wpOpsS, go_sem, recoverD, hu, Try.ntmps66, Exit.thenS, List.range, List.range.loop, List.size_toArray, List.length_cons, List.length_nil]
 simp [wpOpsS, go_sem, recoverD, hu, Try.ntmps66, Exit.thenS]
 refine wpS_of_wp ?_
 refine (?_ : CW _ _ _ 15 [(1, .iface 106 (.agg #[])), (0, .pointer (some ⟨b4, 0, none⟩))] (Sat R w0 [cel b4 80 [v], F])) _ _ ⟨by simp, rfl, fun i y hi => by
   rcases look_cons hi with ⟨rfl, rfl⟩ | ⟨_, hi⟩
   · simp
   · rcases look_cons hi with ⟨rfl, rfl⟩ | ⟨_, hi⟩
     · simp
     · cases hi⟩ hw
 refine nx3 ?_
 refine mO ?_
 refine OW_q (q_neNil (b := true) (by kernel_rfl) rfl (.inr ⟨_, _, rfl, rfl⟩)) rfl ?_
 refine nx2 ?_
 refine CW_true rfl (rfl) ?_
 refine CW_seq ?_
 refine nx3 ?_
 refine mO ?_
 refine OW_q (q_assertOk Try.underlying106 rfl) rfl ?_
 refine mO ?_
 refine OW_q (q_extract rfl rfl) rfl ?_
 refine OW_q (q_extract rfl rfl) rfl ?_
 refine OW_e (e_alloc Try.zeroValue106 rfl) rfl (fun b2 => ?_)
 refine OW_e0 (e_storeN Try.sizeOf106 rfl rfl rfl rfl (by simp [Value.oneCell']) swt (by rfl)) (fun _ => ?_)
 refine aO ?_
 refine nx4 ?_
 refine mO ?_
 refine OW_q (q_not rfl) rfl ?_
 refine nx2 ?_
 refine CW_false rfl (rfl) ?_
 refine CW_skip ?_
 refine EW_then ?_
 refine CW_region ?_
 refine OW_e0 (e_store Try.sizeOf80 rfl rfl rfl rfl swt (by rfl)) (fun _ => ?_)
 refine OW_nil ?_
 refine fun a w ha hw => ⟨ha.2.1, _, rfl, .tuple #[], results_none Try.results66 _ _ _, ⟨⟨_, rfl⟩, rfl, hw.sub sbt⟩⟩
 --

set_option maxRecDepth 20000 in
theorem tree_any (gv dv : Value) (g : Gram) (d : List Int) (w : World) (hg : GramAt (Cl w) gv g) (hd : IntsAt (Cl w) dv d) : Calls Try.prog 45 #[gv, dv] w (fun e w' => ∃ x : Option (Nat × For), e = .returned (.pointer (x.map fun p => ⟨p.1, 0, none⟩)) ∧ TreeOk g d x ∧ Sat (Old w) w [treeH x] w') := by
 have hg0 := hg
 obtain ⟨rv, rfl, hr⟩ := hg.mono old_rd
 have hrr := hr
 obtain ⟨a, c, rfl, hc1, hc2, hrs⟩ := hr
 have hdd := hd.mono old_rd
 obtain ⟨a2, c2, rfl, hd1, hd2, hds⟩ := id hdd
 refine calls_CWD Try.func45 rfl Try.ntmps45 rfl (Sat.start w) ?_
 refine nx3 ?_
 refine OW_e (e_box rfl rfl) rfl (fun b2 => ?_)
 refine OW_e (e_alloc Try.zeroValue80 rfl) rfl (fun b4 => ?_)
 refine nx4 ?_
 refine OW_q (q_makeFuncL (us := [.pointer (some ⟨b4, 0, none⟩)]) rfl) rfl ?_
 refine OW_defer (d := ⟨.fn (.func 66) #[.pointer (some ⟨b4, 0, none⟩)], #[]⟩) (fun a ha w => ?_) ?_
 · simp [execOp, resolve, ha.ev (x := .tmp 6) rfl, Deferred.ofValue]
 let inst_ : Inhabited (List Deferred) := ⟨[⟨.fn (.func 66) #[.pointer (some ⟨b4, 0, none⟩)], #[]⟩]⟩
 refine nx2 ?_
 refine CW_seq ?_
 refine nx3 ?_
 refine OW_q (q_loadN_own Try.isAgg24 Try.sizeOf24 rfl rfl swt (by rfl)) rfl ?_
 refine OW_e (e_call Try.call14 rfl (fun w hw => lift_ro (may_any _ g w (hg0.mono (fun _ _ h => hw.rd (Rd.old h)))) hw)) rfl (fun x8 => ?_)
 refine OW_q (q_not rfl) rfl ?_
 refine mO ?_
 refine OW_part (t := 10) rfl (fun hg10 => ?_) (fun hg10 => ?_)
 · skip
   have hmf : mayB g = false := by simpa using hg10
   refine kO ?_
   refine kO ?_
   refine kO ?_
   refine OW_q (q_pick_t rfl rfl) rfl ?_
   refine nx2 ?_
   refine CW_true rfl rfl ?_
   refine nx3 ?_
   refine OW_e0 (e_store Try.sizeOf80 rfl rfl rfl rfl swt (by rfl)) (fun _ => ?_)
   refine nx2 ?_
   refine CW_ret ?_
   refine EW_then_ret ?_
   refine retD (fun a w ha hw => ?_)
   show Leaves _ _ _ _ [⟨.fn (.func 66) #[.pointer (some ⟨b4, 0, none⟩)], #[]⟩] _ _
   refine leaves_cons (f := 66) (args := #[.pointer (some ⟨b4, 0, none⟩)]) (by simp) (by simp [invoke, Try.call66]) ?_
   refine (catch_idle b4 (.pointer none) _ _ _ _ (hw.pick pkt).pack).mono fun e u' w' h => ?_
   obtain ⟨⟨y, rfl⟩, rfl, hw'⟩ := h
   have hw2 := hw'.unpack
   refine ⟨(.pointer none), results_cell1 Try.results45 Try.isAgg80 (ha.2.2 4 _ rfl) (by rw [hw2.cell (A' := ints 0 0 []) .head 0]; rfl), none, rfl, (fun hm _ => by rw [hmf] at hm; cases hm), hw2.sub .nil |>.addEmp rfl⟩
 have hm : mayB g = true := by simpa using hg10
 refine wO ?_
 refine mO ?_
 refine wO ?_
 refine OW_q (q_len Try.underlying32 rfl) rfl ?_
 refine wO ?_
 refine OW_q (q_gtr rfl rfl) rfl ?_
 refine OW_q (q_pick_f rfl rfl) rfl ?_
 refine nx2 ?_
 refine CW_cond rfl (fun h14 => ?_) (fun h14 => ?_)
 · skip
   have hbig : 400 < d.length := by have := of_decide_eq_true h14; omega
   refine nx3 ?_
   refine OW_e0 (e_store Try.sizeOf80 rfl rfl rfl rfl swt (by rfl)) (fun _ => ?_)
   refine nx2 ?_
   refine CW_ret ?_
   refine EW_then_ret ?_
   refine retD (fun a w ha hw => ?_)
   show Leaves _ _ _ _ [⟨.fn (.func 66) #[.pointer (some ⟨b4, 0, none⟩)], #[]⟩] _ _
   refine leaves_cons (f := 66) (args := #[.pointer (some ⟨b4, 0, none⟩)]) (by simp) (by simp [invoke, Try.call66]) ?_
   refine (catch_idle b4 (.pointer none) _ _ _ _ (hw.pick pkt).pack).mono fun e u' w' h => ?_
   obtain ⟨⟨y, rfl⟩, rfl, hw'⟩ := h
   have hw2 := hw'.unpack
   refine ⟨(.pointer none), results_cell1 Try.results45 Try.isAgg80 (ha.2.2 4 _ rfl) (by rw [hw2.cell (A' := ints 0 0 []) .head 0]; rfl), none, rfl, (fun _ hl => by omega), hw2.sub .nil |>.addEmp rfl⟩
 have h400 : d.length ≤ 400 := by have := of_decide_eq_false h14; omega
 refine CW_skip ?_
 refine EW_then ?_
 refine nx3 ?_
 refine OW_q (q_loadN_own Try.isAgg24 Try.sizeOf24 rfl rfl swt (by rfl)) rfl ?_
 refine mO ?_
 refine OW_q (q_build (ps := #[(0, .agg #[.int .i64 g.terms, .int .i64 g.names, .slice a g.rules.length c]), (1, .slice a2 d.length c2)]) (v := .agg #[.int .i64 g.terms, .int .i64 g.names, .slice a g.rules.length c, .slice a2 d.length c2]) rfl (fun w => by kernel_rfl)) rfl ?_
 refine OW_e (e_box rfl rfl) rfl (fun b18 => ?_)
 refine aO ?_
 refine nx4 ?_
 refine mO ?_
 refine OW_e2 (e_call2 Try.call67 rfl (fun w hw => lift_mut2 (A := cel b18 110 [.int .i64 g.terms, .int .i64 g.names, .slice a g.rules.length c, .slice a2 d.length c2]) pkt hw (fun F hF => rname_any g hm a c b18 _ _ hrr d.length d _ 0 w F rfl (by omega) hdd hF))) rfl (fun ch => ?_) (fun x20 => ?_)
 · refine EW_then_panic ?_; refine panicD (fun a w ha hw => ?_)
   obtain ⟨⟨rfl, hps⟩, hw⟩ := hw
   show Leaves _ _ _ _ [⟨.fn (.func 66) #[.pointer (some ⟨b4, 0, none⟩)], #[]⟩] _ _
   refine leaves_cons (f := 66) (args := #[.pointer (some ⟨b4, 0, none⟩)]) (by simp) (by simp [invoke, Try.call66]) ?_
   refine (catch_bad b4 (.pointer none) _ _ _ _ (hw.pick pkt).pack).mono fun e u' w' h => ?_
   obtain ⟨⟨y, rfl⟩, rfl, hw'⟩ := h
   have hw2 := hw'.unpack
   refine ⟨.pointer none, results_cell1 Try.results45 Try.isAgg80 (ha.2.2 4 _ rfl) (by rw [hw2.cell (A' := ints 0 0 []) .head 0]; rfl), none, rfl, fun _ _ => ⟨none, hps, fun f h => by cases h⟩, hw2.sub .nil |>.addEmp rfl⟩
 refine OW_pure fun hx20 => ?_
 refine OW_e0 (e_store Try.sizeOf80 rfl rfl rfl rfl swt (by rfl)) (fun _ => ?_)
 refine nx2 ?_
 refine CW_seq ?_
 refine nx3 ?_
 refine mO ?_
 refine OW_q (q_nilCheck rfl) rfl ?_
 refine OW_q (q_fieldAddr Try.underlying110 rfl rfl Try.sizeOf32 rfl rfl) rfl ?_
 refine OW_q (q_load1_own Try.isAgg32 rfl rfl swt (by rfl)) rfl ?_
 obtain ⟨da3, dc3, hdv3, _, _, _⟩ := id hx20.2.1
 refine OW_spell 24 (.slice da3 x20.dc.length dc3) rfl hdv3 ?_
 refine OW_q (q_len Try.underlying32 rfl) rfl ?_
 refine OW_q (q_gtr rfl rfl) rfl ?_
 refine nx2 ?_
 refine CW_cond rfl (fun h26 => ?_) (fun h26 => ?_)
 · skip
   have hne : x20.dc ≠ [] := fun e => by rw [e] at h26; simp at h26
   refine nx3 ?_
   refine OW_e0 (e_store Try.sizeOf80 rfl rfl rfl rfl swt (by rfl)) (fun _ => ?_)
   refine nx2 ?_
   refine CW_ret ?_
   refine EW_then_ret ?_
   refine retD (fun a w ha hw => ?_)
   show Leaves _ _ _ _ [⟨.fn (.func 66) #[.pointer (some ⟨b4, 0, none⟩)], #[]⟩] _ _
   refine leaves_cons (f := 66) (args := #[.pointer (some ⟨b4, 0, none⟩)]) (by simp) (by simp [invoke, Try.call66]) ?_
   refine (catch_idle b4 (.pointer none) _ _ _ _ (hw.pick pkt).pack).mono fun e u' w' h => ?_
   obtain ⟨⟨y, rfl⟩, rfl, hw'⟩ := h
   have hw2 := hw'.unpack
   refine ⟨(.pointer none), results_cell1 Try.results45 Try.isAgg80 (ha.2.2 4 _ rfl) (by rw [hw2.cell (A' := ints 0 0 []) .head 0]; rfl), none, rfl, (fun _ _ => ⟨_, hx20.1, fun f h => hne (Prod.mk.inj (Option.some.inj h)).2⟩), hw2.sub .nil |>.addEmp rfl⟩
 have hnil : x20.dc = [] := by
   cases hdc : x20.dc with
   | nil => rfl
   | cons x t => rw [hdc] at h26; simp at h26
 refine CW_skip ?_
 refine EW_then ?_
 refine nx3 ?_
 refine OW_q (q_load1_own Try.isAgg80 rfl rfl swt (by rfl)) rfl ?_
 refine OW_e0 (e_store Try.sizeOf80 rfl rfl rfl rfl swt (by rfl)) (fun _ => ?_)
 refine nx2 ?_
 refine CW_ret ?_
 refine retD (fun a w ha hw => ?_)
 show Leaves _ _ _ _ [⟨.fn (.func 66) #[.pointer (some ⟨b4, 0, none⟩)], #[]⟩] _ _
 refine leaves_cons (f := 66) (args := #[.pointer (some ⟨b4, 0, none⟩)]) (by simp) (by simp [invoke, Try.call66]) ?_
 refine (catch_idle b4 (.pointer (some ⟨x20.b, 0, none⟩)) _ _ _ _ (hw.pick pkt).pack).mono fun e u' w' h => ?_
 obtain ⟨⟨y, rfl⟩, rfl, hw'⟩ := h
 have hw2 := hw'.unpack
 refine ⟨(.pointer (some ⟨x20.b, 0, none⟩)), results_cell1 Try.results45 Try.isAgg80 (ha.2.2 4 _ rfl) (by rw [hw2.cell (A' := ints 0 0 []) .head 0]; rfl), some (x20.b, x20.f), rfl, ⟨hm, h400, by rw [← hnil]; exact hx20.1⟩, hw2.sub sbt⟩

end Go.Sy
/- Copies, clears and appends over parts of an owned block. No condition. -/
namespace Go.Sy
open Go Go.RowKit

section
variable {R : Nat → Prop} {w0 w : World} {L L' : List HP}
/-- Cells that can be read, be they nobody's or a part's own. -/
def VIn (R : Nat → Prop) (w0 : World) (F : HP) (sa : Option Addr) (vs : List Value) : Prop := ∀ h1, F h1 → ∀ w : World, (∀ b, R b → w.heap[b]? = w0.heap[b]?) → (∀ b o, h1 b = some o → w.heap[b]? = some o) →
  ∀ j u, vs[j]? = some u → ∃ a : Addr, sa = some a ∧ (R a.block ∨ (h1 a.block).isSome = true) ∧ w.cell? (a.add j) = some u
theorem VIn.nil {F : HP} {sa : Option Addr} : VIn R w0 F sa [] := fun _ _ _ _ _ j u hj => by cases hj
theorem VIn.ro {F : HP} {a : Addr} {vs : List Value} (h : Row (Rd R w0) a vs) : VIn R w0 F (some a) vs := fun _ _ w hR _ j u hj => by
  have h1 := h j u hj
  have hb : (a.add j).block = a.block := by unfold Addr.add; split <;> rfl
  have h2 : R a.block := by rw [← hb]; exact h1.1
  exact ⟨a, rfl, .inl h2, (World.cell?_of_block (hR _ h1.1)).trans h1.2⟩
theorem VIn.own {F : HP} {b off : Nat} {e : TypeId} {vs cs : List Value} (hF : ∀ h, F h → h b = some (.cells cs.toArray e (0, 0))) (hv : ∀ j u, vs[j]? = some u → cs[off + j]? = some u) : VIn R w0 F (some ⟨b, off, none⟩) vs := fun h1 hh w _ hw j u hj => by
  have hb := hF h1 hh
  refine ⟨_, rfl, .inr (by show (h1 b).isSome = true; rw [hb]; rfl), ?_⟩
  rw [Addr.add_lit]
  have := hw b _ hb
  have h3 := hv j u hj
  simp [World.cell?, this, h3]
theorem Sat.vin {F : HP} {sa : Option Addr} {vs : List Value} (s : Swap L F F L') (h : Sat R w0 L w) (hv : VIn R w0 F sa vs) : ∀ j u, vs[j]? = some u → ∃ a, sa = some a ∧ w.cell? (a.add j) = some u := by
  intro j u hj
  obtain ⟨x, hx, hy⟩ := h.own
  obtain ⟨h1, h2, hd, rfl, hA, _⟩ := s.focus x hx
  obtain ⟨a, e, _, hc⟩ := hv h1 hA w (fun b hb => (h.ro b hb).2) (fun b o hb => (hy b o (by simp [uni, hb])).2) j u hj
  exact ⟨a, e, hc⟩
theorem Sat.vapart {F : HP} {sa : Option Addr} {vs : List Value} {b : Nat} {o : Obj} (h : Sat R w0 (blk b o :: F :: L) w) (hv : VIn R w0 F sa vs) : ∀ (j : Nat) (u : Value), vs[j]? = some u → ∃ a : Addr, sa = some a ∧ b ≠ a.block ∧ ∃ T k, w.shape? a.block = some (T, k) ∧ k ≠ 0 := by
  intro j u hj
  obtain ⟨x, ⟨g1, g2, hd, rfl, hB, ⟨h1, h2, hd', rfl, hA, _⟩⟩, hy⟩ := h.own
  have hB : g1 = one b o := hB
  subst hB
  have hbb := hy b o (by simp [uni, one_same])
  obtain ⟨a, e, hwhere, hc⟩ := hv h1 hA w (fun b hb => (h.ro b hb).2) (fun b' o' hb => (hy b' o' (by
    rcases hd b' with e | e
    · simp [uni, e, hb]
    · simp [uni, hb] at e)).2) j u hj
  refine ⟨a, e, ?_, ?_⟩
  · intro e2
    subst e2
    rcases hwhere with hR | hS
    · exact hbb.1 hR
    · rcases hd a.block with e3 | e3
      · rw [one_same] at e3; cases e3
      · have : h1 a.block = none := by
          cases h9 : h1 a.block with
          | none => rfl
          | some o' => simp [uni, h9] at e3
        rw [this] at hS; cases hS
  · have hab : (a.add j).block = a.block := by unfold Addr.add; split <;> rfl
    unfold World.cell? at hc
    rw [hab] at hc
    unfold World.shape?
    split at hc
    · rename_i c T fr hh
      refine ⟨T, c.size, rfl, ?_⟩
      split at hc
      · cases hc
      · obtain ⟨h9, _⟩ := Array.getElem?_eq_some_iff.1 hc
        omega
    · cases hc
theorem Sat.openRow {e : TypeId} {size n g cap : Nat} {xs : List Value} (h : Sat R w0 (row e size (.slice (some ⟨g, 0, none⟩) n cap) n xs :: L) w) : ∃ rest, ((xs ++ rest).length = cap * size ∧ n ≤ cap ∧ cap ≤ maxLen ∧ xs.length = n * size) ∧ Sat R w0 (cel g e (xs ++ rest) :: L) w := by
  obtain ⟨x, ⟨h1, h2, hd, rfl, ⟨hl, _, ha⟩, hL⟩, hy⟩ := h.own
  rcases ha with ⟨h0, _⟩ | ⟨g', cap', rest, he, h3, h4, h5, rfl⟩
  · cases h0
  · injection he with e1 _ e3
    have hg : g = g' := by injection e1 with e; injection e
    subst hg
    subst e3
    exact ⟨rest, ⟨h5, h3, h4, hl⟩, h.os, h.tape, h.output, h.size, h.ro, _, ⟨_, h2, hd, rfl, rfl, hL⟩, hy⟩
theorem Sat.closeRow {e : TypeId} {size n g cap : Nat} {xs rest : List Value} (h : Sat R w0 (cel g e (xs ++ rest) :: L) w) (h1 : (xs ++ rest).length = cap * size) (h2 : n ≤ cap) (h3 : cap ≤ maxLen) (h4 : xs.length = n * size) : Sat R w0 (row e size (.slice (some ⟨g, 0, none⟩) n cap) n xs :: L) w :=
  h.swap .head fun _ hx => ⟨h4, Nat.le_trans h2 h3, .inr ⟨g, cap, rest, rfl, h2, h3, h1, hx⟩⟩
end

theorem sl_zero {b m h cap : Nat} : Value.slice (if cap = 0 then some ⟨b, 0, none⟩ else (some (⟨b, 0, none⟩ : Addr)).map (·.add (0 * m))) (h - 0) (cap - 0) = .slice (some ⟨b, 0, none⟩) h cap := by
  split <;> simp [Addr.add]
theorem sl_at {b m lo cap : Nat} (h : lo < cap) : (if cap = lo then some ⟨b, 0, none⟩ else (some (⟨b, 0, none⟩ : Addr)).map (·.add (lo * m))) = some ⟨b, lo * m, none⟩ := by
  rw [if_neg (by omega), Option.map_some, Addr.add_lit, Nat.zero_add]
theorem Sat.rowSl {R : Nat → Prop} {w0 : World} {e : TypeId} {size n : Nat} {v : Value} {xs : List Value} {A' : HP} {L L' : List HP} {w : World} (s : Swap L (row e size v n xs) A' L') (h : Sat R w0 L w) : ∃ p c, v = .slice p n c ∧ n ≤ c ∧ c ≤ maxLen := by
  obtain ⟨x, hx, _⟩ := h.own
  obtain ⟨_, _, _, _, hr, _⟩ := s.focus x hx
  exact row_form hr
section
variable {P : Program} {Q : Exit → Act → World → Prop} {n : Nat} {K : Env} {S : World → Prop} {dst : Option Nat} {T : TypeId} {pos : String} {af : Array Edge} {g : Option (Nat × Bool)} {R : Nat → Prop} {w0 : World} {L L' : List HP} [Inhabited (List Deferred)]
theorem CW_ex {α : Type} {S' : α → World → Prop} {c : Code} (hp : ∀ w, S w → ∃ x, S' x w) (h : ∀ x, CW P c Q n K (S' x)) : CW P c Q n K S := fun a w ha hw => let ⟨x, hx⟩ := hp w hw; h x a w ha hx
theorem CW_pure {p : Prop} {c : Code} (h : p → CW P c Q n K S) : CW P c Q n K (fun w => p ∧ S w) := fun a w ha hw => h hw.1 a w ha hw.2
theorem q_cap {C : World → Prop} {t e : TypeId} {x : Operand} {p : Option Addr} {len cap : Nat} (hu : P.underlying t = some (.slice e)) (hx : ev K x = some (.slice p len cap)) :
    Qt P n K C ⟨dst, .call { callee := .builtin .cap, args := #[x], argTypes := #[t] }, T, pos, af, g⟩ (.int .i64 (cap : Int)) := fun a ha w _ => by
  simp [execOp, resolve, invoke, builtin, ha.ev hx, Builtin.cap_, run_underlying hu, goInt]
theorem q_eqNilSlice {C : World → Prop} {t t' e : TypeId} {x y : Operand} {p : Option Addr} {len cap l2 c2 : Nat} (hu : P.underlying t = some (.slice e)) (hx : ev K x = some (.slice p len cap)) (hy : ev K y = some (.slice none l2 c2)) :
    Qt P n K C ⟨dst, .binOp .eql t x y t', T, pos, af, g⟩ (.bool p.isNone) := fun a ha w _ => by
  simp only [execOp, ha.ev hx, ha.ev hy]
  simp [eqGuard, Lib.run_eql_slice_nil w t e p len cap l2 c2 hu]
/-- A new row of no element. -/
theorem e_none {t e : TypeId} {m : Nat} {z : Value} (hu : P.underlying t = some (.slice e)) (hs : ∀ w, (sizeOf e).run P w = .ok m w) (hz : ∀ w, (zeroValue e).run P w = .ok z w) :
    Ef P n K (Sat R w0 L) ⟨dst, .buildSlice t 0 #[], T, pos, af, g⟩ (fun b : Nat => .slice (some ⟨b, 0, none⟩) 0 0) (fun b => Sat R w0 (cel b e ([] ++ []) :: L)) := by
  intro a w ha hw next Q h
  have := h w.heap.size _ (hw.alloc (.cells #[] e (0, 0)))
  simp only [Oper.wp, execOp]
  have hr : (Instr.buildSlice t 0 #[]).run P w = .ok (.slice (some ⟨w.heap.size, 0, none⟩) 0 0) (w.alloc (.cells #[] e)) := by
    simp [Instr.buildSlice, run_underlying hu, hs, hz, Instr.fill, newRow]
    have e0 : Array.range 0 = #[] := Array.eq_empty_of_size_eq_zero (by simp)
    rw [e0, Array.map_empty]
  simp only [Array.map_empty, Sem.run_bind, hr, Result.andThen_ok, Sem.run_pure, Oper.upon]
  exact this
/-- copy into a part of an owned block. -/
theorem e_copy {t t' e : TypeId} {x y : Operand} {i : TypeInfo} {b o dl dc sl sc size : Nat} {da sa : Option Addr} {Pre Q0 vs : List Value} (hu : P.underlying t = some (.slice e)) (hi : ∀ w, (typeInfo e).run P w = .ok i w) (hsize : i.size = size) (hsz : Nat.beq size 0 = false)
    (hx : ev K x = some (.slice da dl dc)) (hy : ev K y = some (.slice sa sl sc)) (hda : vs ≠ [] → da = some ⟨b, o, none⟩) (hn : vs.length = min sl dl * size)
    (hsrc : ∀ w, Sat R w0 L w → ∀ j u, vs[j]? = some u → ∃ a, sa = some a ∧ w.cell? (a.add j) = some u) (hP : Pre.length = o) (hQ : vs.length ≤ Q0.length) (h1 : ∀ u ∈ vs, u.oneCell' = true)
    (s : Swap L (cel b e (Pre ++ Q0)) (cel b e (Pre ++ (vs ++ Q0.drop vs.length))) L') :
    Ef P n K (Sat R w0 L) ⟨dst, .call { callee := .builtin .copy, args := #[x, y], argTypes := #[t, t'] }, T, pos, af, g⟩ (fun _ : Unit => .int .i64 ((min sl dl : Nat) : Int)) (fun _ => Sat R w0 L') := by
  intro a w ha hw next Q h
  subst hsize
  have hinfo := info_of P hi w
  have hsz' : i.size ≠ 0 := Nat.ne_of_beq_eq_false hsz
  have goal : ∀ w', (Builtin.copy_ #[t, t'] T #[.slice da dl dc, .slice sa sl sc]).run P w =   .ok (goInt ((min sl dl : Nat) : Int)) w' → Sat R w0 L' w' →
      Oper.wp P ⟨dst, .call { callee := .builtin .copy, args := #[x, y], argTypes := #[t, t'] }, T, pos, af, g⟩ a w next Q := by
    intro w' hr hS
    have := h () w' hS
    simp only [Oper.wp, execOp, resolve, invoke, builtin, Sem.run_bind, Sem.run_pure, Result.andThen_ok, List.map_toArray, List.map_cons, List.map_nil, ha.ev hx, ha.ev hy, hr, Oper.upon]
    exact this
  by_cases hv : vs = []
  · subst hv
    have hn0 : min sl dl = 0 := by
      have h9 : min sl dl * i.size = 0 := by simpa using hn.symm
      exact (Nat.mul_eq_zero.1 h9).resolve_right hsz'
    refine goal w ?_ (hw.swap s fun _ hh => hh)
    have hn1 : Nat.min sl dl = 0 := hn0
    have hl : ∀ (x : Addr), (loadCells x 0).run P w = .ok #[] w := fun x => by simpa using run_loadCells_list (P := P) w x [] (by simp)
    cases da <;> cases sa <;> simp [Builtin.copy_, run_underlying hu, Builtin.lenOf, Builtin.firstCells, sizeOf, typeInfo, hinfo, hn0, hn1, storeCells, hl]
  · obtain rfl := hda hv
    have hsr := hsrc w hw
    obtain ⟨u0, us, rfl⟩ : ∃ u us, vs = u :: us := by
      cases vs with
      | nil => exact absurd rfl hv
      | cons u us => exact ⟨u, us, rfl⟩
    obtain ⟨a0, rfl, _⟩ := hsr 0 u0 rfl
    have hb : w.heap[b]? = some (.cells (Pre ++ Q0).toArray e (0, 0)) := (hw.block s (fun x hx => by rw [hx]; exact one_same _ _)).1
    have hl := run_firstCells_some (P := P) w i.size (Nat.min sl dl) a0 sl sc (u0 :: us) hn (fun j u hj => by
      obtain ⟨a1, e1, hc⟩ := hsr j u hj
      cases e1
      exact hc)
    have hst := run_storeCells_at P b o e (u0 :: us) 0 _ w hb (by rw [List.size_toArray, List.length_append]; omega) h1
    refine goal (w.setRow b (Pre ++ ((u0 :: us) ++ Q0.drop (u0 :: us).length)).toArray) ?_ ?_
    · have e1 : ((Pre ++ Q0).toArray.toList.take (o + 0) ++ (u0 :: us) ++ (Pre ++ Q0).toArray.toList.drop (o + 0 + (u0 :: us).length)) = Pre ++ ((u0 :: us) ++ Q0.drop (u0 :: us).length) := by
        simp only [Nat.add_zero, ← hP]
        rw [List.take_left, List.drop_append, List.drop_eq_nil_of_le (by omega), Nat.add_sub_cancel_left]
        simp
      rw [e1] at hst
      simp only [Builtin.copy_, List.getElem?_toArray, List.getElem?_cons_zero, List.getElem?_cons_succ]
      simp [run_underlying hu, Builtin.lenOf, sizeOf, typeInfo, hinfo, hl, hst, goInt]
    · exact hw.turn s rfl rfl rfl (by simp [World.setRow]) (setRow_heap w b _ _ e _ hb) (fun k hk => setRow_other w b k _ hk)
/-- clear of a part of an owned block. -/
theorem e_clear {t e : TypeId} {x : Operand} {b o m c size : Nat} {da : Option Addr} {z : Value} {Pre Q0 : List Value} (hu : P.underlying t = some (.slice e)) (hz : ∀ w, (zeroValue e).run P w = .ok z w) (hzs : z.cells.size = size)
    (hx : ev K x = some (.slice da m c)) (hda : m ≠ 0 → da = some ⟨b, o, none⟩) (hP : Pre.length = o) (hQ : m * size ≤ Q0.length) (h1 : ∀ u ∈ z.cells, u.oneCell' = true)
    (s : Swap L (cel b e (Pre ++ Q0)) (cel b e (Pre ++ ((Builtin.zeroCells z.cells m).toList ++ Q0.drop (m * size)))) L') :
    Ef P n K (Sat R w0 L) ⟨dst, .call { callee := .builtin .clear, args := #[x], argTypes := #[t] }, T, pos, af, g⟩ (fun _ : Unit => .tuple #[]) (fun _ => Sat R w0 L') := by
  intro a w ha hw next Q h
  subst hzs
  have goal : ∀ w', (Builtin.clear_ #[t] T #[.slice da m c]).run P w = .ok (.tuple #[]) w' → Sat R w0 L' w' →
      Oper.wp P ⟨dst, .call { callee := .builtin .clear, args := #[x], argTypes := #[t] }, T, pos, af, g⟩ a w next Q := by
    intro w' hr hS
    have := h () w' hS
    simp only [Oper.wp, execOp, resolve, invoke, builtin, Sem.run_bind, Sem.run_pure, Result.andThen_ok, List.map_toArray, List.map_cons, List.map_nil, ha.ev hx, hr, Oper.upon]
    exact this
  cases m with
  | zero =>
    refine goal w ?_ (hw.swap s fun _ hh => by
      have e1 : Pre ++ ((Builtin.zeroCells z.cells 0).toList ++ Q0.drop (0 * z.cells.size)) = Pre ++ Q0 := by simp [Builtin.zeroCells]
      rw [e1]; exact hh)
    cases da <;> simp [Builtin.clear_, run_underlying hu]
  | succ m =>
    obtain rfl := hda (Nat.succ_ne_zero m)
    have hb : w.heap[b]? = some (.cells (Pre ++ Q0).toArray e (0, 0)) := (hw.block s (fun x hx => by rw [hx]; exact one_same _ _)).1
    have hzl : (Builtin.zeroCells z.cells (m + 1)).toList.length = (m + 1) * z.cells.size := by rw [Array.length_toList, size_zeroCells]
    have hst := run_storeCells_at P b o e (Builtin.zeroCells z.cells (m + 1)).toList 0 _ w hb (by rw [List.size_toArray, List.length_append, hzl]; omega) (fun u hu2 => by
      simp only [Builtin.zeroCells, Array.toList_map, List.mem_map] at hu2
      obtain ⟨k, hk, rfl⟩ := hu2
      have hk2 : 0 < z.cells.size := by
        rcases Nat.eq_zero_or_pos z.cells.size with h0 | h0
        · rw [h0] at hk; simp at hk
        · exact h0
      have h3 : k % z.cells.size < z.cells.size := Nat.mod_lt _ hk2
      rw [getElem!_pos z.cells _ h3]
      exact h1 _ (Array.getElem_mem h3))
    refine goal (w.setRow b (Pre ++ ((Builtin.zeroCells z.cells (m + 1)).toList ++ Q0.drop ((m + 1) * z.cells.size))).toArray) ?_ ?_
    · have e1 : ((Pre ++ Q0).toArray.toList.take (o + 0) ++ (Builtin.zeroCells z.cells (m + 1)).toList ++ (Pre ++ Q0).toArray.toList.drop (o + 0 + (Builtin.zeroCells z.cells (m + 1)).toList.length)) = Pre ++ ((Builtin.zeroCells z.cells (m + 1)).toList ++ Q0.drop ((m + 1) * z.cells.size)) := by
        simp only [Nat.add_zero, ← hP, hzl]
        rw [List.take_left, List.drop_append, List.drop_eq_nil_of_le (by omega), Nat.add_sub_cancel_left]
        simp
      rw [e1] at hst
      simp only [Builtin.clear_, List.getElem?_toArray, List.getElem?_cons_zero]
      simp [run_underlying hu, hz, hst]
    · exact hw.turn s rfl rfl rfl (by simp [World.setRow]) (setRow_heap w b _ _ e _ hb) (fun k hk => setRow_other w b k _ hk)
/-- append to a first part of an owned block: in place, where there is room. -/
theorem e_appendV {t e : TypeId} {s x : Operand} {i : TypeInfo} {z : Value} {size bytes m len b cap sc : Nat} {xs rest news : List Value} {sa : Option Addr} {L1 : List HP} (hu : P.underlying t = some (.slice e)) (hi : ∀ w, (typeInfo e).run P w = .ok i w) (hz : i.zero = some z)
    (hsize : i.size = size) (hby : i.bytes = bytes) (hzs : z.cells.size = size) (hsz : Nat.beq size 0 = false)
    (hs : ev K s = some (.slice (some ⟨b, 0, none⟩) len cap)) (hx : ev K x = some (.slice sa m sc)) (hp : Pick L (cel b e (xs ++ rest)) L1)
    (hl : news.length = m * size) (hlen : xs.length = len * size) (hfull : (xs ++ rest).length = cap * size) (hlc : len ≤ cap) (hcm : cap ≤ maxLen)
    (hsrc : ∀ w, Sat R w0 L w → ∀ j u, news[j]? = some u → ∃ a, sa = some a ∧ w.cell? (a.add j) = some u) (h1 : ∀ u ∈ news, u.oneCell' = true)
    (hroom : len + m ≤ 1000000000000) (hbyt : bytes ≤ 64) :
    Ef P n K (Sat R w0 L) ⟨dst, .call { callee := .builtin .append, args := #[s, x], argTypes := #[t, t] }, T, pos, af, g⟩ (fun v' : Value => v') (fun v' w' => (len + m ≤ cap → v' = .slice (some ⟨b, 0, none⟩) (len + m) cap) ∧ Sat R w0 (row e size v' (len + m) (xs ++ news) :: L1) w') := by
  intro a w ha hw next Q h
  subst hsize
  subst hby
  have hsz' : 0 < i.size := Nat.pos_of_ne_zero (Nat.ne_of_beq_eq_false hsz)
  have hinfo := info_of P hi w
  have hbytes : (len + m) * i.bytes ≤ 140737488355328 := by
    have : (len + m) * i.bytes ≤ 1000000000000 * 64 := Nat.mul_le_mul hroom hbyt
    omega
  have hpk := hw.pick hp
  obtain ⟨hx0, ⟨h1', h2', hd, rfl, hrow, hL⟩, hy⟩ := hpk.own
  have hrow : h1' = one b (.cells (xs ++ rest).toArray e (0, 0)) := hrow
  subst hrow
  have hlen2 : (xs ++ news).length = (len + m) * i.size := by rw [List.length_append, hlen, hl, Nat.add_mul]
  have hm63 : len + m ≤ maxLen := by simp only [maxLen]; omega
  have hb := (hy b _ (by simp [uni, one_same]; rfl)).2
  have goal : ∀ v' w', (Builtin.append_ #[t, t] T #[.slice (some ⟨b, 0, none⟩) len cap, .slice sa m sc]).run P w = .ok v' w' → (len + m ≤ cap → v' = .slice (some ⟨b, 0, none⟩) (len + m) cap) → Sat R w0 (row e i.size v' (len + m) (xs ++ news) :: L1) w' →
      (Oper.wp P ⟨dst, .call { callee := .builtin .append, args := #[s, x], argTypes := #[t, t] }, T, pos, af, g⟩ a w next Q) := by
    intro v' w' hr hp' hS
    have := h v' w' ⟨hp', hS⟩
    simp only [Oper.wp, execOp, resolve, invoke, builtin, Sem.run_bind, Sem.run_pure, Result.andThen_ok, List.map_toArray, List.map_cons, List.map_nil, ha.ev hs, ha.ev hx, hr, Oper.upon]
    exact this
  by_cases hm0 : m = 0
  · subst hm0
    have hn : news = [] := List.eq_nil_of_length_eq_zero (by simpa using hl)
    subst hn
    have hl0 : ∀ (x : Addr), (loadCells x 0).run P w = .ok #[] w := fun x => by simpa using run_loadCells_list (P := P) w x [] (by simp)
    refine goal (.slice (some ⟨b, 0, none⟩) len cap) w ?_ (fun _ => rfl) ?_
    · cases sa <;> simp [Builtin.append_, run_underlying hu, sizeOf, typeInfo, hinfo, Builtin.lenOf, Builtin.firstCells, hlc, storeCells, hl0]
    · rw [List.append_nil]
      exact hpk.closeRow (n := len) hfull hlc hcm hlen
  · obtain ⟨u0, us, rfl⟩ : ∃ u us, news = u :: us := by
      cases news with
      | nil =>
        have h9 : m * i.size = 0 := by simpa using hl.symm
        rcases Nat.mul_eq_zero.1 h9 with h0 | h0 <;> omega
      | cons u us => exact ⟨u, us, rfl⟩
    have hsr := hsrc w hw
    obtain ⟨ad, rfl, _⟩ := hsr 0 u0 rfl
    have hcells : ∀ j u, (u0 :: us)[j]? = some u → w.cell? (ad.add j) = some u := fun j u hj => by
      obtain ⟨a1, e1, hc⟩ := hsr j u hj
      cases e1
      exact hc
    by_cases hrm : len + m ≤ cap
    · have hfit : len * i.size + (u0 :: us).length ≤ (xs ++ rest).toArray.size := by
        rw [List.size_toArray, hfull, hl, ← Nat.add_mul]; exact Nat.mul_le_mul_right _ hrm
      have hr := run_append_room (P := P) w t T e i hu hinfo b len cap _ hb ad m sc (u0 :: us) hl hcells h1 hrm hfit
      refine goal _ _ hr (fun _ => rfl) ?_
      have key : Sat R w0 (blk b (.cells (xs ++ rest).toArray e (0, 0)) :: L1) w := ⟨hpk.os, hpk.tape, hpk.output, hpk.size, hpk.ro, _, ⟨_, h2', hd, rfl, rfl, hL⟩, hy⟩
      have hcs : (xs ++ rest).toArray.toList.take (len * i.size) ++ (u0 :: us) ++ (xs ++ rest).toArray.toList.drop (len * i.size + (u0 :: us).length) = xs ++ (u0 :: us) ++ rest.drop (u0 :: us).length := by
        simp only [← hlen]
        rw [List.take_left, List.drop_append, List.drop_eq_nil_of_le (by omega)]
        simp
      have h6 := key.turn (o' := .cells (xs ++ (u0 :: us) ++ rest.drop (u0 :: us).length).toArray e (0, 0)) (w' := w.setRow b ((xs ++ rest).toArray.toList.take (len * i.size) ++ (u0 :: us) ++ (xs ++ rest).toArray.toList.drop (len * i.size + (u0 :: us).length)).toArray) .head rfl rfl rfl (by simp)
        (by rw [hcs]; exact setRow_heap w b _ _ e _ hb) (fun k hk => setRow_other w b k _ hk)
      refine h6.swap .head fun hh hb' => ⟨hlen2, hm63, .inr ⟨b, cap, rest.drop (u0 :: us).length, rfl, hrm, hcm, ?_, hb'⟩⟩
      rw [List.length_append] at hfull
      simp only [List.length_append, List.length_drop]
      rw [List.size_toArray, List.length_append] at hfit
      omega
    · have holds : ∀ j u, xs[j]? = some u → w.cell? ((⟨b, 0, none⟩ : Addr).add j) = some u := fun j u hj => by
        have hlt : j < xs.length := (List.getElem?_eq_some_iff.1 hj).1
        rw [Addr.add_lit]
        simp [World.cell?, hb, List.getElem?_append_left hlt, hj]
      have hr := run_append_grow (P := P) w t T e i z hu hinfo hz ⟨b, 0, none⟩ len cap xs hlen holds ad m sc (u0 :: us) hl hcells (by omega) (by omega) (growslice_fits (by omega) hbytes)
      refine goal _ _ hr (fun h9 => absurd h9 hrm) ?_
      have hge := grownCap_ge w (len + m) cap e
      have hcm' : grownCap w (len + m) cap e ≤ maxLen := grownCap_le_maxLen w (len + m) cap e hm63
      have h3 := ((hpk.drop1).drew).alloc (.cells (xs.toArray ++ (u0 :: us).toArray ++ Builtin.zeroCells z.cells (grownCap w (len + m) cap e - (len + m))) e)
      refine h3.swap .head fun hh hb' => ⟨hlen2, hm63, .inr ⟨w.heap.size, _, (Builtin.zeroCells z.cells (grownCap w (len + m) cap e - (len + m))).toList, rfl, hge, hcm', ?_, ?_⟩⟩
      · rw [List.length_append, hlen2, Array.length_toList, size_zeroCells, hzs, ← Nat.add_mul]
        congr 1
        omega
      · have e1 : ((xs ++ (u0 :: us)) ++ (Builtin.zeroCells z.cells (grownCap w (len + m) cap e - (len + m))).toList).toArray = xs.toArray ++ (u0 :: us).toArray ++ Builtin.zeroCells z.cells (grownCap w (len + m) cap e - (len + m)) := by
          apply Array.ext'
          simp
        rw [e1]
        exact hb'
/-- append of zeros that do not fit: a new block; the elder stays. -/
theorem e_appendZ {t t2 e : TypeId} {s x : Operand} {i : TypeInfo} {z : Value} {size bytes m len b cap : Nat} {xs rest : List Value} (hu : P.underlying t = some (.slice e)) (hu2 : P.underlying t2 = some (.int .i64)) (hi : ∀ w, (typeInfo e).run P w = .ok i w) (hz : i.zero = some z)
    (hsize : i.size = size) (hby : i.bytes = bytes) (hzs : z.cells.size = size) (hsz : Nat.beq size 0 = false)
    (hs : ev K s = some (.slice (some ⟨b, 0, none⟩) len cap)) (hx : ev K x = some (.int .i64 (m : Int))) (hp : Swap L (cel b e (xs ++ rest)) (cel b e (xs ++ rest)) L')
    (hlen : xs.length = len * size) (hgr : cap < len + m) (hroom : len + m ≤ 100000) (hbyt : bytes ≤ 64) :
    Ef P n K (Sat R w0 L) ⟨dst, .call { callee := .builtin .append, args := #[s, x], argTypes := #[t, t2] }, T, pos, af, g⟩ (fun y : Nat × Nat × List Value => .slice (some ⟨y.1, 0, none⟩) (len + m) y.2.1)
      (fun y w' => ((xs ++ y.2.2).length = y.2.1 * size ∧ len + m ≤ y.2.1 ∧ y.2.1 ≤ maxLen) ∧ Sat R w0 (cel y.1 e (xs ++ y.2.2) :: L) w') := by
  intro a w ha hw next Q h
  subst hsize
  subst hby
  have hsz' : 0 < i.size := Nat.pos_of_ne_zero (Nat.ne_of_beq_eq_false hsz)
  have hinfo := info_of P hi w
  have hbytes : (len + m) * i.bytes ≤ 140737488355328 := by
    have : (len + m) * i.bytes ≤ 100000 * 64 := Nat.mul_le_mul hroom hbyt
    omega
  have hmb : m * i.bytes ≤ 281474976710656 := by
    have : m * i.bytes ≤ (len + m) * i.bytes := Nat.mul_le_mul_right _ (by omega)
    omega
  have hm63 : len + m ≤ maxLen := by simp only [maxLen]; omega
  have hb : w.heap[b]? = some (.cells (xs ++ rest).toArray e (0, 0)) := (hw.block hp (fun x hx => by rw [hx]; exact one_same _ _)).1
  have holds : ∀ j u, xs[j]? = some u → w.drew.cell? ((⟨b, 0, none⟩ : Addr).add j) = some u := fun j u hj => by
    have hlt : j < xs.length := (List.getElem?_eq_some_iff.1 hj).1
    rw [Addr.add_lit]
    show w.cell? _ = some u
    simp [World.cell?, hb, List.getElem?_append_left hlt, hj]
  have hm0 : m ≠ 0 ∨ cap < len := by omega
  have hge := grownCap_ge w (len + m) cap e
  have hcm' : grownCap w (len + m) cap e ≤ maxLen := grownCap_le_maxLen w (len + m) cap e hm63
  obtain ⟨Z, hZ, hZl⟩ : ∃ Z : Array Value, (if m * i.size = 0 then (pure #[] : Sem (Array Value)) else do pure (Builtin.zeroCells (← zeroValue e).cells m)).run P w.drew = .ok Z w.drew ∧ Z.size = m * i.size := by
    by_cases h0 : m * i.size = 0
    · exact ⟨#[], by rw [if_pos h0]; rfl, by rw [h0]; rfl⟩
    · refine ⟨Builtin.zeroCells z.cells m, ?_, by rw [size_zeroCells, hzs]⟩
      rw [if_neg h0]
      simp [zeroValue, typeInfo, hinfo, hz]
  have hr : (Builtin.append_ #[t, t2] T #[.slice (some ⟨b, 0, none⟩) len cap, .int .i64 (m : Int)]).run P w = .ok (.slice (some ⟨w.heap.size, 0, none⟩) (len + m) (grownCap w (len + m) cap e)) (w.drew.alloc (.cells (xs.toArray ++ Z ++ Builtin.zeroCells z.cells (grownCap w (len + m) cap e - (len + m))) e)) := by
    have hfo := run_firstCells_some (P := P) w.drew i.size len ⟨b, 0, none⟩ len cap xs hlen holds
    have hwr : IntKind.i64.wrap (m : Int) = (m : Int) := by rw [IntKind.wrap_i64]; omega
    have hn : ¬ (len + m ≤ cap) := by omega
    have h63' : ¬ (9223372036854775807 < ((len : Int) + (m : Int))) := by omega
    have h48' : ¬ (281474976710656 < Builtin.nextslicecap (len + m) cap * i.bytes) := by have := growslice_fits (old := cap) (need := len + m) (by omega) hbytes; omega
    have h0 : ¬ ((m : Int) < 0) := by omega
    have h9 : ¬ ((281474976710656 : Int) < (m : Int) * (i.bytes : Int)) := by
      rw [← Int.natCast_mul]
      exact Int.not_lt.2 (Int.ofNat_le.2 hmb)
    obtain ⟨Z', hZ'⟩ : ∃ Z', Z' = Z := ⟨_, rfl⟩
    by_cases hms : m * i.size = 0
    · have e0 : Z = #[] := by
        have := hZl
        rw [hms] at this
        exact Array.eq_empty_of_size_eq_zero this
      subst e0
      simp only [Builtin.append_, List.getElem?_toArray, List.getElem?_cons_zero, List.getElem?_cons_succ]
      simp [run_underlying hu, run_underlying hu2, sizeOf, typeInfo, zeroValue, hinfo, hz, asInt, asIntOf, hwr, h0, h9, hn, h63', h48', Question.forced, hfo, newRow, grownCap, hms]
    · rw [if_neg hms] at hZ
      have e0 : Z = Builtin.zeroCells z.cells m := by
        simp [zeroValue, typeInfo, hinfo, hz] at hZ
        exact hZ.symm
      subst e0
      simp only [Builtin.append_, List.getElem?_toArray, List.getElem?_cons_zero, List.getElem?_cons_succ]
      simp [run_underlying hu, run_underlying hu2, sizeOf, typeInfo, zeroValue, hinfo, hz, asInt, asIntOf, hwr, h0, h9, hn, h63', h48', Question.forced, hfo, newRow, grownCap, hms]
  have hS : Sat R w0 (cel w.heap.size e (xs ++ (Z.toList ++ (Builtin.zeroCells z.cells (grownCap w (len + m) cap e - (len + m))).toList)) :: L) (w.drew.alloc (.cells (xs.toArray ++ Z ++ Builtin.zeroCells z.cells (grownCap w (len + m) cap e - (len + m))) e)) := by
    have h3 := (hw.drew).alloc (.cells (xs.toArray ++ Z ++ Builtin.zeroCells z.cells (grownCap w (len + m) cap e - (len + m))) e)
    have e1 : (xs ++ (Z.toList ++ (Builtin.zeroCells z.cells (grownCap w (len + m) cap e - (len + m))).toList)).toArray = xs.toArray ++ Z ++ Builtin.zeroCells z.cells (grownCap w (len + m) cap e - (len + m)) := by
      apply Array.ext'
      simp
    refine h3.swap .head fun hh hb' => ?_
    show hh = _
    rw [e1]; exact hb'
  have := h (w.heap.size, grownCap w (len + m) cap e, Z.toList ++ (Builtin.zeroCells z.cells (grownCap w (len + m) cap e - (len + m))).toList) _ ⟨⟨by
    simp only [List.length_append, Array.length_toList, size_zeroCells, hzs, hZl, hlen, ← Nat.add_mul]
    congr 1
    omega, hge, hcm'⟩, hS⟩
  simp only [Oper.wp, execOp, resolve, invoke, builtin, Sem.run_bind, Sem.run_pure, Result.andThen_ok, List.map_toArray, List.map_cons, List.map_nil, ha.ev hs, ha.ev hx, hr, Oper.upon]
  exact this
theorem e_overlaps {f : FuncId} {fn : Func} {tS tR : TypeId} {x y : Operand} {tys : Array TypeId} {u v : Value} (hf : P.funcs[f]? = some fn) (hname : (fn.name == "runtime.NumGoroutine") = false) (hb : fn.body.isNone = true) (hn : Extern.findNext fn = none) (he : Extern.find fn = some (Extern.SlicesOverlaps.overlaps #[tS, tS] #[tR]))
    (hx : ev K x = some u) (hy : ev K y = some v) (hrun : ∀ w, S w → (Extern.SlicesOverlaps.overlaps #[tS, tS] #[tR] #[u, v]).run P w = .ok (.bool false) w) :
    Ef P n K S ⟨dst, .call { callee := .value (.func f), args := #[x, y], argTypes := tys }, T, pos, af, g⟩ (fun _ : Unit => .bool false) (fun _ => S) := by
  intro a w ha hw next Q h
  have := h () w hw
  have hc := run_callFunc_extern (P := P) hf hname hb hn he #[u, v] w
  rw [hrun w hw] at hc
  simp only [Oper.wp, execOp, resolve, Act.eval, Deferred.ofValue, invoke, Sem.run_bind, Sem.run_pure, Result.andThen_ok, Array.append_empty, Array.empty_append]
  have e2 : (#[x, y] : Array Operand).map a.eval = #[u, v] := by simp [ha.ev hx, ha.ev hy]
  rw [e2, hc]
  exact this
end
end Go.Sy
