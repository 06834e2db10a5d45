/- The calculus' rules for operations that leave the world as it is. No condition. -/
import Derived.Test.YteceklkjbcebkabDoorSyh
namespace Go.Sy
open Go Go.RowKit

section
variable {P : Program} {n : Nat} {K : Env} {C : World → Prop} {dst : Option Nat} {T : TypeId} {pos : String} {af : Array Edge} {g : Option (Nat × Bool)}

theorem q_move [Inhabited (List Deferred)] {x : Operand} {v : Value} (hx : ev K x = some v) : Qt P n K C ⟨dst, .move x, T, pos, af, g⟩ v := fun a ha w _ => by
  simp only [execOp, ha.ev hx, Sem.run_pure]
theorem q_assign [Inhabited (List Deferred)] {x : Operand} {v : Value} (hx : ev K x = some v) : Qt P n K C ⟨dst, .assign x, T, pos, af, g⟩ v := fun a ha w _ => by
  simp only [execOp, ha.ev hx, Sem.run_pure]
theorem q_pick_t [Inhabited (List Deferred)] {c x y : Operand} {v : Value} (hc : ev K c = some (.bool true)) (hx : ev K x = some v) : Qt P n K C ⟨dst, .pick c x y, T, pos, af, g⟩ v := fun a ha w _ => by
  simp [execOp, ha.ev hc, ha.ev hx, asBool]
theorem q_pick_f [Inhabited (List Deferred)] {c x y : Operand} {v : Value} (hc : ev K c = some (.bool false)) (hy : ev K y = some v) : Qt P n K C ⟨dst, .pick c x y, T, pos, af, g⟩ v := fun a ha w _ => by
  simp [execOp, ha.ev hc, ha.ev hy, asBool]
theorem q_not [Inhabited (List Deferred)] {t : TypeId} {x : Operand} {b : Bool} (hx : ev K x = some (.bool b)) : Qt P n K C ⟨dst, .unOp .not t x, T, pos, af, g⟩ (.bool (!b)) := fun a ha w _ => by
  simp [execOp, ha.ev hx, Op.unary]
theorem q_extract [Inhabited (List Deferred)] {t : Operand} {i : Nat} {vs : Array Value} {v : Value} (hx : ev K t = some (.tuple vs)) (hv : vs[i]? = some v) : Qt P n K C ⟨dst, .extract t i, T, pos, af, g⟩ v := fun a ha w _ => by
  simp [execOp, ha.ev hx, Instr.extract, hv]

theorem q_load1 [Inhabited (List Deferred)] {t : TypeId} {x : Operand} {p : Addr} {v : Value} (hA : ∀ w, (isAgg t).run P w = .ok false w) (hx : ev K x = some (.pointer (some p))) (hc : ∀ w, C w → w.cell? p = some v) :
    Qt P n K C ⟨dst, .load t x, T, pos, af, g⟩ v := fun a ha w hw => by
  simp [execOp, ha.ev hx, Instr.loadAt, Instr.sureAddr, loadVar, hA, hc w hw]
theorem q_loadN [Inhabited (List Deferred)] {t : TypeId} {x : Operand} {p : Addr} {m : Nat} {vs : List Value} (hA : ∀ w, (isAgg t).run P w = .ok true w) (hs : ∀ w, (sizeOf t).run P w = .ok m w) (hx : ev K x = some (.pointer (some p)))
    (hl : vs.length = m) (hc : ∀ w, C w → ∀ j u, vs[j]? = some u → w.cell? (p.add j) = some u) : Qt P n K C ⟨dst, .load t x, T, pos, af, g⟩ (.agg vs.toArray) := fun a ha w hw => by
  subst hl
  have := run_loadCells_list (P := P) w p vs (hc w hw)
  simp [execOp, ha.ev hx, Instr.loadAt, Instr.sureAddr, loadVar, hA, hs, this]

theorem q_fieldAddr [Inhabited (List Deferred)] {s : TypeId} {x : Operand} {f : Nat} {p : Addr} {fs : Array Field} {fd : Field} {m off : Nat} (hu : P.underlying s = some (.struct fs)) (hf : fs[f]? = some fd) (ho : fd.offset = off)
    (hs : ∀ w, (sizeOf fd.type).run P w = .ok m w) (hm : Nat.beq m 0 = false) (hx : ev K x = some (.pointer (some p))) :
    Qt P n K C ⟨dst, .fieldAddr s x f, T, pos, af, g⟩ (.pointer (some (p.add off))) := fun a ha w _ => by
  subst ho
  have hm' : m ≠ 0 := Nat.ne_of_beq_eq_false hm
  simp [execOp, ha.ev hx, Instr.fieldAt, Instr.sureAddr, run_underlying hu, hf, fieldPlace, hs, hm']

theorem q_indexAddr [Inhabited (List Deferred)] {t e : TypeId} {x ix : Operand} {p : Addr} {len cap m i : Nat} (hu : P.underlying t = some (.slice e)) (hs : ∀ w, (sizeOf e).run P w = .ok m w)
    (hx : ev K x = some (.slice (some p) len cap)) (hi : ev K ix = some (.int .i64 (i : Int))) (h1 : i < len) :
    Qt P n K C ⟨dst, .indexAddr t x ix, T, pos, af, g⟩ (.pointer (some (p.add (i * m)))) := fun a ha w _ => by
  have h1' : ¬ len ≤ i := by omega
  simp [execOp, ha.ev hx, ha.ev hi, Instr.indexAt, asIntOf, run_underlying hu, h1, hs]

theorem q_len [Inhabited (List Deferred)] {t e : TypeId} {x : Operand} {p : Option Addr} {len cap : Nat} (hu : P.underlying t = some (.slice e)) (hx : ev K x = some (.slice p len cap)) :
    Qt P n K C ⟨dst, .call { callee := .builtin .len, args := #[x], argTypes := #[t] }, T, pos, af, g⟩ (.int .i64 (len : Int)) := fun a ha w _ => by
  simp [execOp, resolve, invoke, builtin, ha.ev hx, Builtin.len_, run_underlying hu, goInt]

theorem q_lss [Inhabited (List Deferred)] {t t' : TypeId} {x y : Operand} {k : IntKind} {a b : Int} (hx : ev K x = some (.int k a)) (hy : ev K y = some (.int k b)) :
    Qt P n K C ⟨dst, .binOp .lss t x y t', T, pos, af, g⟩ (.bool (decide (a < b))) := fun c ha w _ => by
  simp only [execOp, ha.ev hx, ha.ev hy]
  simp [go_sem]
theorem q_leq [Inhabited (List Deferred)] {t t' : TypeId} {x y : Operand} {k : IntKind} {a b : Int} (hx : ev K x = some (.int k a)) (hy : ev K y = some (.int k b)) :
    Qt P n K C ⟨dst, .binOp .leq t x y t', T, pos, af, g⟩ (.bool (decide (a ≤ b))) := fun c ha w _ => by
  simp only [execOp, ha.ev hx, ha.ev hy]
  simp [go_sem]
theorem q_gtr [Inhabited (List Deferred)] {t t' : TypeId} {x y : Operand} {k : IntKind} {a b : Int} (hx : ev K x = some (.int k a)) (hy : ev K y = some (.int k b)) :
    Qt P n K C ⟨dst, .binOp .gtr t x y t', T, pos, af, g⟩ (.bool (decide (b < a))) := fun c ha w _ => by
  simp only [execOp, ha.ev hx, ha.ev hy]
  simp [go_sem]
theorem q_geq [Inhabited (List Deferred)] {t t' : TypeId} {x y : Operand} {k : IntKind} {a b : Int} (hx : ev K x = some (.int k a)) (hy : ev K y = some (.int k b)) :
    Qt P n K C ⟨dst, .binOp .geq t x y t', T, pos, af, g⟩ (.bool (decide (b ≤ a))) := fun c ha w _ => by
  simp only [execOp, ha.ev hx, ha.ev hy]
  simp [go_sem]
theorem q_add [Inhabited (List Deferred)] {t t' : TypeId} {x y : Operand} {a b : Int} (hx : ev K x = some (.int .i64 a)) (hy : ev K y = some (.int .i64 b)) (h0 : -9223372036854775808 ≤ a + b) (h1 : a + b ≤ 9223372036854775807) :
    Qt P n K C ⟨dst, .binOp .add t x y t', T, pos, af, g⟩ (.int .i64 (a + b)) := fun c ha w _ => by
  have e : IntKind.i64.wrap (a + b) = a + b := by rw [IntKind.wrap_i64]; omega
  simp only [execOp, ha.ev hx, ha.ev hy]
  simp [go_sem, Op.intArith, e]
theorem q_sub [Inhabited (List Deferred)] {t t' : TypeId} {x y : Operand} {a b : Int} (hx : ev K x = some (.int .i64 a)) (hy : ev K y = some (.int .i64 b)) (h0 : -9223372036854775808 ≤ a - b) (h1 : a - b ≤ 9223372036854775807) :
    Qt P n K C ⟨dst, .binOp .sub t x y t', T, pos, af, g⟩ (.int .i64 (a - b)) := fun c ha w _ => by
  have e : IntKind.i64.wrap (a - b) = a - b := by rw [IntKind.wrap_i64]; omega
  simp only [execOp, ha.ev hx, ha.ev hy]
  simp [go_sem, Op.intArith, e]
/-- A counter goes on by a number. -/
theorem q_inc [Inhabited (List Deferred)] {t t' : TypeId} {x y : Operand} {a b : Nat} (hx : ev K x = some (.int .i64 (a : Int))) (hy : ev K y = some (.int .i64 (b : Int))) (h1 : a + b ≤ 9223372036854775807) :
    Qt P n K C ⟨dst, .binOp .add t x y t', T, pos, af, g⟩ (.int .i64 ((a + b : Nat) : Int)) := by
  rw [Int.natCast_add]
  exact q_add hx hy (by omega) (by omega)
theorem q_eqi [Inhabited (List Deferred)] {t t' : TypeId} {x y : Operand} {k : IntKind} {a b : Int} (hx : ev K x = some (.int k a)) (hy : ev K y = some (.int k b)) :
    Qt P n K C ⟨dst, .binOp .eql t x y t', T, pos, af, g⟩ (.bool (a == b)) := fun c ha w _ => by
  simp only [execOp, ha.ev hx, ha.ev hy]
  simp [go_sem, binOp]
theorem q_nei [Inhabited (List Deferred)] {t t' : TypeId} {x y : Operand} {k : IntKind} {a b : Int} (hx : ev K x = some (.int k a)) (hy : ev K y = some (.int k b)) :
    Qt P n K C ⟨dst, .binOp .neq t x y t', T, pos, af, g⟩ (.bool (a != b)) := fun c ha w _ => by
  simp only [execOp, ha.ev hx, ha.ev hy]
  simp [go_sem, binOp, bne]
theorem q_eqb [Inhabited (List Deferred)] {t t' : TypeId} {x y : Operand} {a b : Bool} (hu : P.underlying t = some .bool) (hx : ev K x = some (.bool a)) (hy : ev K y = some (.bool b)) :
    Qt P n K C ⟨dst, .binOp .eql t x y t', T, pos, af, g⟩ (.bool (a == b)) := fun c ha w _ => by
  simp only [execOp, ha.ev hx, ha.ev hy, eqGuard_at_bool]
  simp [run_eql_bool w t a b hu]
theorem q_neb [Inhabited (List Deferred)] {t t' : TypeId} {x y : Operand} {a b : Bool} (hu : P.underlying t = some .bool) (hx : ev K x = some (.bool a)) (hy : ev K y = some (.bool b)) :
    Qt P n K C ⟨dst, .binOp .neq t x y t', T, pos, af, g⟩ (.bool (a != b)) := fun c ha w _ => by
  simp only [execOp, ha.ev hx, ha.ev hy, eqGuard_at_bool]
  simp [run_neq_bool w t a b hu, bne]

theorem q_makeFunc [Inhabited (List Deferred)] {f : FuncId} {first captured : Array Operand} {vs us : Array Value} (h1 : first.mapM (ev K) = some vs) (h2 : captured.mapM (ev K) = some us) :
    Qt P n K C ⟨dst, .makeFunc (.func f) first captured, T, pos, af, g⟩ (.func (.func f) vs us) := fun a ha w _ => by
  have key : ∀ (l : Array Operand) (r : Array Value), l.mapM (ev K) = some r → l.map a.eval = r := by
    intro l r h
    have h' : l.toList.mapM (ev K) = some r.toList := by
      rw [← Array.toList_mapM] 
      simp [h]
    have : ∀ (l : List Operand) (r : List Value), l.mapM (ev K) = some r → l.map a.eval = r := by
      intro l
      induction l with
      | nil => intro r h; simp at h; simp [h]
      | cons x l ih =>
        intro r h
        simp only [List.mapM_cons, Option.bind_eq_bind, Option.bind_eq_some_iff, Option.pure_def, Option.some.injEq] at h
        obtain ⟨v, hv, r', hr', rfl⟩ := h
        simp [ha.ev hv, ih r' hr']
    apply Array.ext'
    simpa using this _ _ h'
  simp [execOp, Instr.makeFunc, key _ _ h1, key _ _ h2]

theorem q_slice [Inhabited (List Deferred)] {t e : TypeId} {x : Operand} {lo hi : Option Operand} {p : Option Addr} {len cap l h m : Nat} (hu : P.underlying t = some (.slice e)) (hs : ∀ w, (sizeOf e).run P w = .ok m w)
    (hx : ev K x = some (.slice p len cap))
    (hl : (lo = none ∧ l = 0) ∨ ∃ o, lo = some o ∧ ev K o = some (.int .i64 (l : Int))) (hh : (hi = none ∧ h = len) ∨ ∃ o, hi = some o ∧ ev K o = some (.int .i64 (h : Int))) (h1 : l ≤ h) (h2 : h ≤ cap) (h3 : len ≤ cap) :
    Qt P n K C ⟨dst, .slice t x lo hi none, T, pos, af, g⟩ (.slice (if cap = l then p else p.map (·.add (l * m))) (h - l) (cap - l)) := fun a ha w _ => by
  have e1 : ((l : Int) ≤ (h : Int)) := by omega
  have e2 : ((h : Int) ≤ (cap : Int)) := by omega
  rcases hl with ⟨rfl, rfl⟩ | ⟨o, rfl, ho⟩ <;> rcases hh with ⟨rfl, rfl⟩ | ⟨o', rfl, ho'⟩ <;>
    simp_all [execOp, ha.ev hx, Instr.sliceAt, Instr.slice, Instr.sliceBounds, Instr.sliceBound, asIntOf, run_underlying hu, Kn.ev ha]
end
end Go.Sy
