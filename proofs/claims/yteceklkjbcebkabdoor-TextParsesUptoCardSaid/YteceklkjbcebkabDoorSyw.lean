/- Guarded operations that turn the world, in a region that draws its order. No condition. -/
import Derived.Test.YteceklkjbcebkabDoorSyv
namespace Go.Sy
open Go Go.RowKit

section
variable {P : Program} {Q : Exit → Act → World → Prop} {n : Nat} {K : Env} {S C : World → Prop} {ops : Array Oper} {z : Nat} {l : List (Nat × Bool)}

theorem DW_eg {i d : Nat} {op : Op} {T : TypeId} {pos : String} {af : Array Edge} {ι : Type} {V : ι → Value} {S' : ι → World → Prop} {j t : Nat} {want b : Bool} (hi : ops[i]? = some ⟨some d, op, T, pos, af, some (j, want)⟩)
    (hj : ((ops[j]?).bind (·.dst)) = some t) (hb : look K t = some (.bool b)) (hw : (b == want) = true)
    (he : Ef P n K S ⟨some d, op, T, pos, af, some (j, want)⟩ V S') (hd : Nat.blt d n = true) (hC : ∀ x w, S' x w → C w) (h : ∀ x, DW P ops Q C z l n ((d, V x) :: K) (S' x)) :
    DW P ops Q C z ((i, true) :: l) n K S := fun a w ha hs => by
  show wpOp P ops Q i _ a w
  unfold wpOp
  rw [hi]
  have e : Region.wanted (⟨some d, op, T, pos, af, some (j, want)⟩ : Oper) (yielded ops a.tmps) = true := by
    simp only [Region.wanted, yielded_known ha hj hb]; simpa using hw
  simp only [e, if_true]
  exact .inl (he a w ha hs _ _ fun x w' hx => ⟨.inr (hC x w' hx), h x _ w' (ha.put hd _) hx⟩)

theorem DW_eskip {i d : Nat} {op : Op} {T : TypeId} {pos : String} {af : Array Edge} {j t : Nat} {want b : Bool} (hi : ops[i]? = some ⟨some d, op, T, pos, af, some (j, want)⟩) (hC : ∀ w, S w → C w)
    (hj : ((ops[j]?).bind (·.dst)) = some t) (hb : look K t = some (.bool b)) (hw : (b == want) = false) (hd : Nat.blt d n = true) (h : DW P ops Q C z l n ((d, undef) :: K) S) :
    DW P ops Q C z ((i, true) :: l) n K S := fun a w ha hs => by
  show wpOp P ops Q i _ a w
  unfold wpOp
  rw [hi]
  have e : Region.wanted (⟨some d, op, T, pos, af, some (j, want)⟩ : Oper) (yielded ops a.tmps) = false := by
    simp only [Region.wanted, yielded_known ha hj hb]; simpa using hw
  simp only [e, Bool.false_eq_true, if_false]
  exact ⟨.inr (hC w hs), h _ w (ha.put hd _) hs⟩
theorem DW_eskipU {i d : Nat} {op : Op} {T : TypeId} {pos : String} {af : Array Edge} {j t : Nat} {want : Bool} (hi : ops[i]? = some ⟨some d, op, T, pos, af, some (j, want)⟩) (hC : ∀ w, S w → C w)
    (hj : ((ops[j]?).bind (·.dst)) = some t) (hb : look K t = some undef) (hd : Nat.blt d n = true) (h : DW P ops Q C z l n ((d, undef) :: K) S) :
    DW P ops Q C z ((i, true) :: l) n K S := fun a w ha hs => by
  show wpOp P ops Q i _ a w
  unfold wpOp
  rw [hi]
  have e : Region.wanted (⟨some d, op, T, pos, af, some (j, want)⟩ : Oper) (yielded ops a.tmps) = false := by
    simp only [Region.wanted, yielded_undef ha hj hb]; simp
  simp only [e, Bool.false_eq_true, if_false]
  exact ⟨.inr (hC w hs), h _ w (ha.put hd _) hs⟩
end
end Go.Sy
