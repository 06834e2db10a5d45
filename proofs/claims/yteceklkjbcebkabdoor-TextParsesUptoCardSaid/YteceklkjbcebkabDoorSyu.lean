/- Contracts of functions that turn what the caller owns. No condition. -/
import Derived.Test.YteceklkjbcebkabDoorSyt
namespace Go.Sy
open Go Go.RowKit

section
variable {P : Program} {R : Nat → Prop} {w0 w : World} {L L' L1 M : List HP} {A : HP}
theorem Sat.join (h : Sat R w0 (M ++ L) w) : Sat R w0 (stars M :: L) w := h.imp_ fun x hx => (stars_append M L x).1 hx
theorem Sat.unjoin (h : Sat R w0 (stars M :: L) w) : Sat R w0 (M ++ L) w := h.imp_ fun x hx => (stars_append M L x).2 hx
theorem Sat.pack (h : Sat R w0 (A :: L) w) : Sat R w0 [A, stars L] w := h.imp_ fun x ⟨h1, h2, hd, e, hA, hL⟩ => ⟨h1, h2, hd, e, hA, h2, emp0, dis_emp h2, (uni_emp h2).symm, hL, rfl⟩
theorem Sat.unpack (h : Sat R w0 [A, stars L] w) : Sat R w0 (A :: L) w := h.imp_ fun x ⟨h1, h2, hd, e, hA, h3, h4, hd', e', hL, e4⟩ => by
  have e5 : h4 = emp0 := e4
  subst e5
  rw [uni_emp] at e'
  subst e'
  exact ⟨h1, h2, hd, e, hA, hL⟩

theorem lift_mut {f : FuncId} {vs : Array Value} {ι : Type} {V : ι → Value} {p : ι → Prop} {A' : ι → HP} (pk : Pick L A L1) (hS : Sat R w0 L w)
    (h : ∀ F, Sat R w0 [A, F] w → Calls P f vs w (fun e w' => ∃ x, e = .returned (V x) ∧ p x ∧ Sat R w0 [A' x, F] w')) :
    Calls P f vs w (fun e w' => ∃ x, e = .returned (V x) ∧ (p x ∧ Sat R w0 (A' x :: L1) w')) :=
  (h _ (hS.pick pk).pack).mono fun _ _ ⟨x, he, hp, hw⟩ => ⟨x, he, hp, hw.unpack⟩

theorem q_makeFuncL {n : Nat} {K : Env} {dst : Option Nat} {T : TypeId} {pos : String} {af : Array Edge} {g : Option (Nat × Bool)} {C : World → Prop} {f : FuncId} {captured : List Operand} {us : List Value} (h : evs K captured = some us) :
    Qt P n K C ⟨dst, .makeFunc (.func f) #[] captured.toArray, T, pos, af, g⟩ (.func (.func f) #[] us.toArray) := fun a ha w _ => by
  have e1 := ha.evs h
  simp [execOp, Instr.makeFunc, e1]
end
end Go.Sy
