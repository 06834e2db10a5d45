/- A grammar of a function's own: its rules, and of each its symbols. No condition. -/
import Derived.Test.YteceklkjbcebkabDoorSyp
import Derived.Test.YteceklkjbcebkabDoorSyv
import Derived.Test.YteceklkjbcebkabDoorPStep
namespace Go.Sy
open Go Go.RowKit

/-- A rule, and the slice of its symbols. -/
structure RV where
  r : Rule
  v : Value
abbrev encRV : RV → List Value := fun x => [.int .i64 x.r.left, x.v]
abbrev encY : Sym → List Value := fun s => [.bool s.term, .int .i64 s.n]
def symA (x : RV) : HP := trow 53 2 encY x.v x.r.right
def symsA (rs : List RV) : HP := stars (rs.map symA)
def rulesA (v : Value) (rs : List RV) : HP := trow 50 2 encRV v rs
def plainR (rs : List RV) : List Rule := rs.map (·.r)
section
variable {R : Nat → Prop} {w0 w : World} {L L' L2 : List HP}
theorem Sat.alone {A : HP} (h : Sat R w0 L w) (s : Swap L A A L') : Sat R w0 [A] w := by
  obtain ⟨y, hy, hz⟩ := h.own
  obtain ⟨g1, g2, hd, rfl, hA, _⟩ := s.focus y hy
  exact ⟨h.os, h.tape, h.output, h.size, h.ro, g1, ⟨g1, emp0, dis_emp g1, (uni_emp g1).symm, hA, rfl⟩, fun b o hb => hz b o (by simp [uni, hb])⟩
theorem Sat.symsIn {v : Value} {l : List Sym} (h : Sat R w0 L w) (s : Swap L (trow 53 2 encY v l) (trow 53 2 encY v l) L') : SymsAt (Cl w) v l := by
  obtain ⟨a, c, rfl, h1, h2, h3⟩ := h.tform s
  refine ⟨a, c, rfl, h1, h2, fun k x hx => ?_⟩
  obtain ⟨b, rfl⟩ := h3 (by have := (List.getElem?_eq_some_iff.1 hx).1; omega)
  exact ⟨_, rfl, fun j u hj => h.tget (enc := encY) (fun _ => rfl) s rfl hx j u hj⟩
theorem Hole.sym {rs : List RV} {k : Nat} {x : RV} (hk : rs[k]? = some x) : Hole (symsA rs :: L) (symA x) (fun X => stars ((rs.map symA).set k X) :: L) :=
  Hole.big (Hole.idx (by rw [List.getElem?_map, hk]; rfl))
theorem symsA_set {rs : List RV} {k : Nat} (y : RV) : stars ((rs.map symA).set k (symA y)) = symsA (rs.set k y) := by unfold symsA; rw [List.map_set]
theorem Sat.rulesIn {v : Value} {rs : List RV} (h : Sat R w0 L w) (s : Swap L (rulesA v rs) (rulesA v rs) L') (s2 : Swap L (symsA rs) (symsA rs) L2) : RulesAt (Cl w) v (plainR rs) := by
  obtain ⟨a, c, rfl, h1, h2, h3⟩ := h.tform s
  refine ⟨a, c, by unfold plainR; rw [List.length_map], by unfold plainR; rw [List.length_map]; exact h1, h2, fun k x hx => ?_⟩
  unfold plainR at hx
  rw [List.getElem?_map] at hx
  obtain ⟨y, hy, rfl⟩ := Option.map_eq_some_iff.1 hx
  obtain ⟨b, rfl⟩ := h3 (by have := (List.getElem?_eq_some_iff.1 hy).1; omega)
  refine ⟨_, rfl, y.v, ?_, fun j u hj => h.tget (enc := encRV) (fun _ => rfl) s rfl hy j u hj⟩
  exact (h.alone s2).symsIn ((Hole.sym (L := []) hy).swap _)
theorem Sat.gramIn {t n : Int} {v : Value} {rs : List RV} (h : Sat R w0 L w) (s : Swap L (rulesA v rs) (rulesA v rs) L') (s2 : Swap L (symsA rs) (symsA rs) L2) : GramAt (Cl w) (.agg #[.int .i64 t, .int .i64 n, v]) ⟨t, n, plainR rs⟩ := ⟨v, rfl, h.rulesIn s s2⟩
theorem Sat.symsPush {rs : List RV} {x : RV} (h : Sat R w0 (symsA rs :: symA x :: L) w) : Sat R w0 (symsA (rs ++ [x]) :: L) w := h.imp_ fun y hy => by
  obtain ⟨h1, h2, hd, rfl, hA, hB⟩ := hy
  unfold symsA
  rw [List.map_append]
  have : stars ((rs.map symA ++ [symA x]) ++ L) (uni h1 h2) := by
    rw [List.append_assoc]
    exact (stars_append (rs.map symA) ([symA x] ++ L) _).2 ⟨h1, h2, hd, rfl, hA, hB⟩
  exact (stars_append (rs.map symA ++ [symA x]) L _).1 this
/-- Symbols that can be read, as cells. -/
theorem VIn.syms {F : HP} {a : Option Addr} {c : Nat} {l : List Sym} (h : SymsAt (Rd R w0) (.slice a l.length c) l) : VIn R w0 F a (l.flatMap encY) := by
  obtain ⟨a', c', hv, _, _, hk⟩ := h
  injection hv with e1 _ _
  subst e1
  cases l with
  | nil => exact VIn.nil
  | cons s0 l =>
    obtain ⟨p, rfl, _⟩ := hk 0 s0 rfl
    refine VIn.ro fun j u hj => ?_
    have hj2 : j < ((s0 :: l).flatMap encY).length := (List.getElem?_eq_some_iff.1 hj).1
    rw [flat_length (enc := encY) (size := 2) (fun _ => rfl)] at hj2
    obtain ⟨x, hx⟩ := get_of_lt (l := s0 :: l) (k := j / 2) (by omega)
    obtain ⟨p', hp, hr⟩ := hk (j / 2) x hx
    cases hp
    have hf := flat_get (enc := encY) (size := 2) (fun _ => rfl) hx (Nat.mod_lt j (by omega : 0 < 2))
    rw [Nat.div_add_mod' j 2] at hf
    rw [hf] at hj
    have := hr (j % 2) u hj
    rw [add_twice, Nat.div_add_mod' j 2] at this
    exact this
end
end Go.Sy
