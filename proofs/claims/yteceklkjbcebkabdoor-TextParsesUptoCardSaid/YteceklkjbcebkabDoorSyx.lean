/- Panics, deferred calls, blocks that are frozen for a while. No condition. -/
import Derived.Test.YteceklkjbcebkabDoorSyw
import Derived.Recover
namespace Go.Sy
open Go Go.RowKit

/-- An operation that turns the world, or panics. -/
def Ef2 [Inhabited (List Deferred)] (P : Program) (n : Nat) (K : Env) (S : World → Prop) (o : Oper) {ι : Type} (V : ι → Value) (S' : ι → World → Prop) (Z : List PanicEntry → World → Prop) : Prop :=
  ∀ a w, Kn n K a → S w → ∀ (next : Act → World → Prop) (Q : Exit → Act → World → Prop),
    (∀ x w', S' x w' → next (a.put o.dst (V x)) w') → (∀ ch w', Z ch w' → Q (.panic ch) a w') → o.wp P a w next Q

section
variable {P : Program} {Q : Exit → Act → World → Prop} {n : Nat} {K : Env} {S C : World → Prop} {ops : Array Oper} {z : Nat} {l : List (Nat × Bool)}

theorem OW_e2 [Inhabited (List Deferred)] {d : Nat} {op : Op} {T : TypeId} {pos : String} {af : Array Edge} {rest : List Oper} {ι : Type} {V : ι → Value} {S' : ι → World → Prop} {Z : List PanicEntry → World → Prop}
    (he : Ef2 P n K S ⟨some d, op, T, pos, af, none⟩ V S' Z) (hd : Nat.blt d n = true) (hz : ∀ ch, EW (.panic ch) Q n K (Z ch)) (h : ∀ x, OW P ops Q rest n ((d, V x) :: K) (S' x)) :
    OW P ops Q (⟨some d, op, T, pos, af, none⟩ :: rest) n K S := by
  intro a w ha hw
  unfold wpList
  rw [if_pos (by simp [Region.wanted])]
  exact .inl (he a w ha hw _ _ (fun x w' hx => h x _ w' (ha.put hd _) hx) (fun ch w' hc => hz ch a w' ha hc))

theorem DW_e2 {i d : Nat} {op : Op} {T : TypeId} {pos : String} {af : Array Edge} {ι : Type} {V : ι → Value} {S' : ι → World → Prop} {Z : List PanicEntry → World → Prop} (hi : ops[i]? = some ⟨some d, op, T, pos, af, none⟩)
    (he : Ef2 P n K S ⟨some d, op, T, pos, af, none⟩ V S' Z) (hd : Nat.blt d n = true) (hC : ∀ x w, S' x w → C w) (hz : ∀ ch, EW (.panic ch) Q n K (Z ch)) (h : ∀ x, DW P ops Q C z l n ((d, V x) :: K) (S' x)) :
    DW P ops Q C z ((i, true) :: l) n K S := fun a w ha hw => by
  show wpOp P ops Q i _ a w
  unfold wpOp
  rw [hi]
  simp only [Region.wanted, if_true]
  exact .inl (he a w ha hw _ _ (fun x w' hx => ⟨.inr (hC x w' hx), h x _ w' (ha.put hd _) hx⟩) (fun ch w' hc => hz ch a w' ha hc))

theorem e_call2 [Inhabited (List Deferred)] {dst : Option Nat} {T : TypeId} {pos : String} {af : Array Edge} {g : Option (Nat × Bool)} {ι : Type} {V : ι → Value} {S' : ι → World → Prop} {Z : List PanicEntry → World → Prop} {f : FuncId} {args : List Operand} {tys : Array TypeId} {vs : List Value} (hc : ∀ args w, (callFunc f args).run P w = .ok (.enter f args) w) (hargs : evs K args = some vs)
    (h : ∀ w, S w → Calls P f vs.toArray w (fun e w' => (∃ x, e = .returned (V x) ∧ S' x w') ∨ ∃ ch, e = .panicked ch ∧ Z ch w')) :
    Ef2 P n K S ⟨dst, .call { callee := .value (.func f), args := args.toArray, argTypes := tys }, T, pos, af, g⟩ V S' Z := by
  intro a w ha hw next Q hn hp
  have e1 := ha.evs hargs
  simp only [Oper.wp, execOp, resolve, Act.eval, Deferred.ofValue, invoke, Sem.run_bind, Sem.run_pure, Result.andThen_ok, Array.append_empty, Array.empty_append]
  have e2 : args.toArray.map a.eval = vs.toArray := by rw [List.map_toArray, e1]
  rw [e2, hc]
  simp only [Oper.upon]
  refine (h w hw).mono fun e w' hpost => ?_
  rcases hpost with ⟨x, he, hs⟩ | ⟨ch, he, hs⟩
  · subst he; exact hn x w' hs
  · subst he; exact hp ch w' hs

/-- The program's own panic. -/
theorem OW_panic [Inhabited (List Deferred)] {T : TypeId} {pos : String} {af : Array Edge} {rest : List Oper} {x : Operand} {t : TypeId} {v : Value} (hx : ev K x = some (.iface t v)) (h : EW (.panic [{ v := .iface t v, recovered := false }]) Q n K S) :
    OW P ops Q (⟨none, .panic x, T, pos, af, none⟩ :: rest) n K S := by
  intro a w ha hw
  unfold wpList
  rw [if_pos (by simp [Region.wanted])]
  refine .inl ?_
  have := h a w ha hw
  have hp : (Instr.panic (.iface t v)).run P w = .halt (.panic (.iface t v)) w := rfl
  simpa [Oper.wp, execOp, ha.ev hx, hp, Result.andThen, Oper.upon] using this
theorem retP {fn : Func} {X : Ending → World → Prop} {ch : List PanicEntry} (h : ∀ w, S w → X (.panicked ch) w) : EW (.panic ch) (bodyPost P fn X) n K S := fun _ w ha hw => ⟨ha.2.1, h w hw⟩

/-! ### A function that defers one call -/
theorem OW_defer {d : Deferred} {op : Op} {T : TypeId} {pos : String} {af : Array Edge} {rest : List Oper} (hd : ∀ a, Kn n K a → ∀ w, (execOp a.eval ⟨none, op, T, pos, af, none⟩).run P w = .ok (.defer d) w)
    (h : @OW ⟨[d]⟩ P ops Q rest n K S) : OW P ops Q (⟨none, op, T, pos, af, none⟩ :: rest) n K S := by
  intro a w ha hw
  unfold wpList
  rw [if_pos (by simp [Region.wanted])]
  refine .inl ?_
  unfold Oper.wp
  rw [hd a ha w]
  simp only [Oper.upon]
  refine h _ w ⟨ha.1, ?_, ha.2.2⟩ hw
  show d :: a.defers = [d]
  rw [show a.defers = [] from ha.2.1]
theorem retD [Inhabited (List Deferred)] {fn : Func} {X : Ending → World → Prop} (h : ∀ a w, Kn n K a → S w → Leaves P fn a.tmps X default .returning w) : EW .ret (bodyPostD P fn X) n K S := fun a w ha hw => by
  show Leaves P fn a.tmps X a.defers .returning w
  rw [ha.2.1]; exact h a w ha hw
theorem panicD [Inhabited (List Deferred)] {fn : Func} {X : Ending → World → Prop} {ch : List PanicEntry} (h : ∀ a w, Kn n K a → S w → Leaves P fn a.tmps X default (.panicking ch) w) : EW (.panic ch) (bodyPostD P fn X) n K S := fun a w ha hw => by
  show Leaves P fn a.tmps X a.defers (.panicking ch) w
  rw [ha.2.1]; exact h a w ha hw
theorem calls_CWD {f : FuncId} {fn : Func} {c : Code} {vs : List Value} {w : World} {X : Ending → World → Prop} (hf : P.funcs[f]? = some fn) (hb : fn.body = some c) (hn : fn.ntmps = n) (hl : Nat.ble vs.length n = true) (hS : S w)
    (h : CW P c (bodyPostD P fn X) n (argEnv 0 vs) S) : Calls P f vs.toArray w X := by
  refine calls_of_wp_defers hf hb (h _ w ⟨?_, rfl, fun i v hi => ?_⟩ hS)
  · have := Nat.le_of_ble_eq_true hl
    simp [hn]
    omega
  · obtain ⟨_, h2⟩ := look_argEnv vs 0 i v hi
    have hlt : i < vs.length := (List.getElem?_eq_some_iff.1 h2).1
    simp only [Nat.sub_zero] at h2
    simp [Array.getElem?_append_left, hlt]
    exact (List.getElem?_eq_some_iff.1 h2).2

/-! ### Small rules -/
variable {dst : Option Nat} {T : TypeId} {pos : String} {af : Array Edge} {g : Option (Nat × Bool)}
theorem q_makeIface [Inhabited (List Deferred)] {t : TypeId} {x : Operand} {v : Value} {fs : Array Field} (hu : P.underlying t = some (.struct fs)) (hx : ev K x = some v) : Qt P n K C ⟨dst, .makeInterface t x, T, pos, af, g⟩ (.iface t v) := fun a ha w _ => by
  simp [execOp, ha.ev hx, Instr.makeInterface, run_underlying hu]
theorem q_nePtr [Inhabited (List Deferred)] {t e t' : TypeId} {x y : Operand} {p : Option Addr} (hu : P.underlying t = some (.pointer e)) (hx : ev K x = some (.pointer p)) (hy : ev K y = some (.pointer none)) : Qt P n K C ⟨dst, .binOp .neq t x y t', T, pos, af, g⟩ (.bool (!p.isNone)) := fun a ha w _ => by
  have e1 : P.pointee t = e := by unfold Program.pointee; rw [hu]
  have hu' : P.underlying t = some (.pointer (P.pointee t)) := by rw [e1]; exact hu
  simp only [execOp, ha.ev hx, ha.ev hy]
  simp [eqGuard, run_neq_pointer_nil w t p hu']
theorem q_neAgg [Inhabited (List Deferred)] {t t' : TypeId} {x y : Operand} {xs ys : Array Value} {b : Bool} (hg : P.eqGuardType P.depth t = false) (hx : ev K x = some (.agg xs)) (hy : ev K y = some (.agg ys)) (he : ∀ w, (Op.equalIn 10000 t (.agg xs) (.agg ys)).run P w = .ok b w) : Qt P n K C ⟨dst, .binOp .neq t x y t', T, pos, af, g⟩ (.bool (!b)) := fun a ha w _ => by
  simp only [execOp, ha.ev hx, ha.ev hy]
  simp [run_eqGuard_agg w .neq t x y xs ys hg, run_neq_struct, he]
theorem q_eqAgg [Inhabited (List Deferred)] {t t' : TypeId} {x y : Operand} {xs ys : Array Value} {b : Bool} (hg : P.eqGuardType P.depth t = false) (hx : ev K x = some (.agg xs)) (hy : ev K y = some (.agg ys)) (he : ∀ w, (Op.equalIn 10000 t (.agg xs) (.agg ys)).run P w = .ok b w) : Qt P n K C ⟨dst, .binOp .eql t x y t', T, pos, af, g⟩ (.bool b) := fun a ha w _ => by
  simp only [execOp, ha.ev hx, ha.ev hy]
  simp [run_eqGuard_agg w .eql t x y xs ys hg, run_eql_struct, he]
end

/-! ### What is frozen for a while -/
section
variable {R R' : Nat → Prop} {w0 w w1 w' : World} {L L1 : List HP}
theorem Sat.thaw (h1 : Sat R w0 L1 w1) (h2 : Sat R' w1 L w') (hR : ∀ b, R b → R' b) : Sat R w0 L w' := by
  refine ⟨h2.os.trans h1.os, h2.tape.trans h1.tape, h2.output.trans h1.output, Nat.le_trans h1.size h2.size, fun b hb => ⟨(h1.ro b hb).1, (h2.ro b (hR b hb)).2.trans (h1.ro b hb).2⟩, ?_⟩
  obtain ⟨x, hx, hy⟩ := h2.own
  exact ⟨x, hx, fun b o hb => ⟨fun hr => (hy b o hb).1 (hR b hr), (hy b o hb).2⟩⟩
/-- What is held of a heap is held of the world's cells. -/
theorem rd_cel {h : Heap} {b : Nat} {t : TypeId} {cs : List Value} (hc : cel b t cs h) (hh : ∀ k o, h k = some o → R' k ∧ w.heap[k]? = some o) : Row (Rd R' w) ⟨b, 0, none⟩ cs := fun j u hj => by
  have hc' : h = one b (.cells cs.toArray t (0, 0)) := hc
  obtain ⟨h1, h2⟩ := hh b _ (by rw [hc', one_same])
  rw [Addr.add_lit, Nat.zero_add]
  exact ⟨h1, by simp [World.cell?, h2, hj]⟩
theorem rd_row {h : Heap} {e : TypeId} {size n : Nat} {v : Value} {xs : List Value} (hr : row e size v n xs h) (hh : ∀ k o, h k = some o → R' k ∧ w.heap[k]? = some o) : ∃ a c, v = .slice a n c ∧ n ≤ c ∧ c ≤ 9223372036854775807 ∧ (0 < n → ∃ b, a = some ⟨b, 0, none⟩ ∧ ∀ j u, xs[j]? = some u → Rd R' w ⟨b, j, none⟩ u) := by
  obtain ⟨hl, hm, ⟨rfl, rfl, _⟩ | ⟨b, cap, rest, rfl, h3, h4, h5, h6⟩⟩ := hr
  · exact ⟨none, 0, rfl, Nat.le_refl _, by omega, fun h => absurd h (Nat.lt_irrefl _)⟩
  · refine ⟨_, cap, rfl, h3, by simpa [maxLen] using h4, fun _ => ⟨b, rfl, fun j u hj => ?_⟩⟩
    obtain ⟨h1, h2⟩ := hh b _ (by rw [h6, one_same])
    have hlt : j < xs.length := (List.getElem?_eq_some_iff.1 hj).1
    exact ⟨h1, by simp [World.cell?, h2, List.getElem?_append_left hlt, hj]⟩
end
end Go.Sy
