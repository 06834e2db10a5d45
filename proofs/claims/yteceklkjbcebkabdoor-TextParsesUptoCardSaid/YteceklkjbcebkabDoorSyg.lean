/- The calculus' rules in the forms that a walk wants: loads out of what is owned and out of what nobody writes, lists of assertions cut back, contracts carried over. No condition. -/
import Derived.Test.YteceklkjbcebkabDoorSyd
namespace Go.Sy
open Go Go.RowKit

/-- The assertions of the first list are among those of the second. -/
inductive SubL : List HP → List HP → Prop
  | nil {L : List HP} : SubL [] L
  | cons {A : HP} {L L1 L' : List HP} : Pick L A L1 → SubL L' L1 → SubL (A :: L') L

section
variable {R : Nat → Prop} {w0 w : World} {L L' : List HP}
theorem SubL.sat (s : SubL L' L) : ∀ {h}, stars L h → ∃ h1 h2, Dis h1 h2 ∧ h = uni h1 h2 ∧ stars L' h1 := by
  induction s with
  | nil => intro h _; exact ⟨emp0, h, (dis_emp h).symm, (emp_uni h).symm, rfl⟩
  | cons p s ih =>
    intro h hh
    obtain ⟨h1, h2, hd, rfl, hA, hL⟩ := p.stars h hh
    obtain ⟨h3, h4, hd', rfl, hL'⟩ := ih hL
    refine ⟨uni h1 h3, h4, Dis.join hd.symm.right.symm hd', (uni_assoc _ _ _).symm, h1, h3, hd.symm.left.symm, rfl, hA, hL'⟩
theorem Sat.sub (h : Sat R w0 L w) (s : SubL L' L) : Sat R w0 L' w := by
  refine ⟨h.os, h.tape, h.output, h.size, h.ro, ?_⟩
  obtain ⟨x, hx, hy⟩ := h.own
  obtain ⟨h1, h2, hd, rfl, hL'⟩ := s.sat hx
  exact ⟨h1, hL', fun b o hb => hy b o (by simp [uni, hb])⟩
end

/-- Cells in a row from an address on. -/
def Row (ρ : Addr → Value → Prop) (p : Addr) (vs : List Value) : Prop := ∀ j u, vs[j]? = some u → ρ (p.add j) u
theorem Row.mono {ρ ρ' : Addr → Value → Prop} {p : Addr} {vs : List Value} (h : Row ρ p vs) (f : ∀ a v, ρ a v → ρ' a v) : Row ρ' p vs := fun j u hj => f _ _ (h j u hj)
theorem Row.at_ {ρ : Addr → Value → Prop} {p : Addr} {vs : List Value} {j : Nat} {u : Value} (h : Row ρ p vs) (hj : vs[j]? = some u) : ρ (p.add j) u := h j u hj
theorem Row.at0 {ρ : Addr → Value → Prop} {p : Addr} {v : Value} {vs : List Value} (h : Row ρ p (v :: vs)) : ρ p v := by
  have := h 0 v rfl
  rwa [Addr.add_zero'] at this

section
variable {P : Program} {n : Nat} {K : Env} {dst : Option Nat} {T : TypeId} {pos : String} {af : Array Edge} {g : Option (Nat × Bool)} {R : Nat → Prop} {w0 : World} {L L' : List HP} {Q : Exit → Act → World → Prop} {S : World → Prop}

theorem q_load1_own [Inhabited (List Deferred)] {t e : TypeId} {x : Operand} {p : Addr} {b off : Nat} {cs : List Value} {v : Value} (hA : ∀ w, (isAgg t).run P w = .ok false w) (hx : ev K x = some (.pointer (some p))) (hp : p = ⟨b, off, none⟩)
    (s : Swap L (cel b e cs) (cel b e cs) L') (hv : cs[off]? = some v) : Qt P n K (Sat R w0 L) ⟨dst, .load t x, T, pos, af, g⟩ v := by
  subst hp
  exact q_load1 hA hx fun _ hw => by rw [hw.cell s off]; exact hv
theorem q_load1_ro [Inhabited (List Deferred)] {t : TypeId} {x : Operand} {p : Addr} {v : Value} (hA : ∀ w, (isAgg t).run P w = .ok false w) (hx : ev K x = some (.pointer (some p))) (hr : Rd R w0 p v) :
    Qt P n K (Sat R w0 L) ⟨dst, .load t x, T, pos, af, g⟩ v := q_load1 hA hx fun _ hw => hw.rd hr
theorem q_load1_row [Inhabited (List Deferred)] {t e : TypeId} {x : Operand} {p : Addr} {b j len cap m size : Nat} {xs : List Value} {u v : Value} (hA : ∀ w, (isAgg t).run P w = .ok false w) (hx : ev K x = some (.pointer (some p))) (hp : p = ⟨b, j, none⟩)
    (s : Swap L (row e size v m xs) (row e size v m xs) L') (hv : v = .slice (some ⟨b, 0, none⟩) len cap) (hj : xs[j]? = some u) : Qt P n K (Sat R w0 L) ⟨dst, .load t x, T, pos, af, g⟩ u := by
  subst hp
  exact q_load1 hA hx fun w hw => hw.cells_row s hv j u hj
theorem q_loadN_own [Inhabited (List Deferred)] {t e : TypeId} {x : Operand} {p : Addr} {b m : Nat} {cs : List Value} (hA : ∀ w, (isAgg t).run P w = .ok true w) (hs : ∀ w, (sizeOf t).run P w = .ok m w) (hx : ev K x = some (.pointer (some p))) (hp : p = ⟨b, 0, none⟩)
    (s : Swap L (cel b e cs) (cel b e cs) L') (hl : cs.length = m) : Qt P n K (Sat R w0 L) ⟨dst, .load t x, T, pos, af, g⟩ (.agg cs.toArray) := by
  subst hp
  exact q_loadN hA hs hx hl fun w hw j u hj => by rw [Addr.add_lit, hw.cell s]; simpa using hj
theorem q_loadN_ro [Inhabited (List Deferred)] {t : TypeId} {x : Operand} {p : Addr} {m : Nat} {vs : List Value} (hA : ∀ w, (isAgg t).run P w = .ok true w) (hs : ∀ w, (sizeOf t).run P w = .ok m w) (hx : ev K x = some (.pointer (some p)))
    (hr : Row (Rd R w0) p vs) (hl : vs.length = m) : Qt P n K (Sat R w0 L) ⟨dst, .load t x, T, pos, af, g⟩ (.agg vs.toArray) :=
  q_loadN hA hs hx hl fun _ hw j u hj => hw.rd (hr j u hj)

theorem q_nilCheck [Inhabited (List Deferred)] {x : Operand} {p : Addr} (hx : ev K x = some (.pointer (some p))) : Qt P n K S ⟨dst, .nilCheck x, T, pos, af, g⟩ (.pointer (some p)) := fun a ha w _ => by
  simp [execOp, ha.ev hx]

theorem q_build [Inhabited (List Deferred)] {t : TypeId} {parts : Array (Nat × Operand)} {ps : Array (Nat × Value)} {v : Value} (hp : parts.toList.map (fun x => (x.1, (ev K x.2))) = ps.toList.map (fun x => (x.1, some x.2)))
    (hb : ∀ w, (Instr.build t ps).run P w = .ok v w) : Qt P n K S ⟨dst, .build t parts, T, pos, af, g⟩ v := fun a ha w _ => by
  have key : (parts.map fun (i, x) => (i, a.eval x)) = ps := by
    apply Array.ext'
    have : ∀ (l : List (Nat × Operand)) (r : List (Nat × Value)), l.map (fun x => (x.1, (ev K x.2))) = r.map (fun x => (x.1, some x.2)) → l.map (fun x => (x.1, a.eval x.2)) = r := by
      intro l
      induction l with
      | nil => intro r h; cases r with
        | nil => rfl
        | cons y r => cases h
      | cons x l ih =>
        intro r h
        cases r with
        | nil => cases h
        | cons y r =>
          simp only [List.map_cons, List.cons.injEq, Prod.mk.injEq] at h
          obtain ⟨⟨h1, h2⟩, h3⟩ := h
          simp only [List.map_cons, ih r h3, ha.ev h2, h1]
    simpa using this _ _ hp
  simp only [execOp]
  rw [key]
  simp [hb]

theorem parts_known [Inhabited (List Deferred)] {parts : Array (Nat × Operand)} {ps : List (Nat × Value)} {a : Act} (ha : Kn n K a) (hp : parts.toList.map (fun x => (x.1, (ev K x.2))) = ps.map (fun x => (x.1, some x.2))) : (parts.map fun (i, x) => (i, a.eval x)).toList = ps := by
  have : ∀ (l : List (Nat × Operand)) (r : List (Nat × Value)), l.map (fun x => (x.1, (ev K x.2))) = r.map (fun x => (x.1, some x.2)) → l.map (fun x => (x.1, a.eval x.2)) = r := by
    intro l
    induction l with
    | nil => intro r h; cases r with
      | nil => rfl
      | cons y r => cases h
    | cons x l ih =>
      intro r h
      cases r with
      | nil => cases h
      | cons y r =>
        simp only [List.map_cons, List.cons.injEq, Prod.mk.injEq] at h
        obtain ⟨⟨h1, h2⟩, h3⟩ := h
        simp only [List.map_cons, ih r h3, ha.ev h2, h1]
  simpa using this _ _ hp

/-- What a new block of the call's own holds, to be appended. -/
theorem Sat.news {w : World} {b : Nat} {e : TypeId} {cs : List Value} (h : Sat R w0 L w) (s : Swap L (cel b e cs) (cel b e cs) L') : ∀ j u, cs[j]? = some u → w.cell? ((⟨b, 0, none⟩ : Addr).add j) = some u := fun j u hj => by
  rw [Addr.add_lit, h.cell s]; simpa using hj

theorem CW_drawS {id : Nat} {lo : List Oper} (z : Nat) (l : List (Nat × Bool)) (hm : P.follows .mixedOrders = true) (hQ : Blind Q) (hB : drawOk lo.toArray z l = true) (hS : ∀ w, S w → S w.drew)
    (h : DW P lo.toArray Q S z l n K S) : CW P (.region id lo.toArray true) Q n K S := CW_draw S z l hm hQ hB hS h

/-- A loop whose states meet a condition. -/
theorem CW_loopP [Inhabited (List Deferred)] {ι : Type} (pre : ι → Prop) (KI : ι → Env) (SI : ι → World → Prop) (μ : ι → Nat) (i0 : ι) {c : Code} (h0 : pre i0) (hk : Sub (KI i0) K) (hs : ∀ w, S w → SI i0 w)
    (round : ∀ i, pre i → CW P c (Exit.then (Again n KI SI (fun j => μ j < μ i ∧ pre j)) Q) n (KI i) (SI i)) : CW P (.loop c) Q n K S := by
  refine CW_loop KI (fun i w => pre i ∧ SI i w) μ i0 hk (fun w hw => ⟨h0, hs w hw⟩) fun i a w ha hw => ?_
  refine wp_mono (round i hw.1 a w ha hw.2) fun e a' w' h => ?_
  cases e <;> first
    | (obtain ⟨j, ⟨h1, h2⟩, h3, h4⟩ := h; exact ⟨j, h1, h3, h2, h4⟩)
    | exact h

theorem OW_pure [Inhabited (List Deferred)] {ops : Array Oper} {l : List Oper} {p : Prop} (h : p → OW P ops Q l n K S) : OW P ops Q l n K (fun w => p ∧ S w) := fun a w ha hw => h hw.1 a w ha hw.2
theorem DW_pure {ops : Array Oper} {C : World → Prop} {z : Nat} {l : List (Nat × Bool)} {p : Prop} (h : p → DW P ops Q C z l n K S) : DW P ops Q C z l n K (fun w => p ∧ S w) := fun a w ha hw => h hw.1 a w ha hw.2

/-! ### Contracts, carried over to what the caller knows -/
theorem lift_oldP {f : FuncId} {vs : Array Value} {w : World} {ι : Type} {V : ι → Value} {p : ι → Prop} {M : ι → List HP} (h : Calls P f vs w (fun e w' => ∃ x, e = .returned (V x) ∧ p x ∧ Sat (Old w) w (M x) w')) (hS : Sat R w0 L w) :
    Calls P f vs w (fun e w' => ∃ x, e = .returned (V x) ∧ (p x ∧ Sat R w0 (M x ++ L) w')) :=
  h.mono fun _ _ ⟨x, he, hp, hw⟩ => ⟨x, he, hp, hS.back hw⟩
theorem lift_same {f : FuncId} {vs : Array Value} {w : World} {v : Value} (h : Calls P f vs w (fun e w' => e = .returned v ∧ w' = w)) (hS : S w) : Calls P f vs w (fun e w' => ∃ _ : Unit, e = .returned v ∧ S w') :=
  h.mono fun _ _ ⟨he, hw⟩ => ⟨(), he, hw ▸ hS⟩
theorem lift_old {f : FuncId} {vs : Array Value} {w : World} {ι : Type} {V : ι → Value} {M : ι → List HP} (h : Calls P f vs w (fun e w' => ∃ x, e = .returned (V x) ∧ Sat (Old w) w (M x) w')) (hS : Sat R w0 L w) :
    Calls P f vs w (fun e w' => ∃ x, e = .returned (V x) ∧ Sat R w0 (M x ++ L) w') :=
  h.mono fun _ _ ⟨x, he, hw⟩ => ⟨x, he, hS.back hw⟩
/-- .. of a function that hands back one known value and leaves nothing behind. -/
theorem lift_ro {f : FuncId} {vs : Array Value} {w : World} {v : Value} (h : Calls P f vs w (fun e w' => e = .returned v ∧ Sat (Old w) w [] w')) (hS : Sat R w0 L w) :
    Calls P f vs w (fun e w' => ∃ _ : Unit, e = .returned v ∧ Sat R w0 L w') :=
  h.mono fun _ _ ⟨he, hw⟩ => ⟨(), he, hS.back hw⟩
end
end Go.Sy
