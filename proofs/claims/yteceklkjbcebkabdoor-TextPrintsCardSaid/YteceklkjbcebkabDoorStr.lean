/- Strings, numbers as text and builders in the calculus. No condition. -/
import Derived.Test.YteceklkjbcebkabDoorSyx
import Derived.Test.YteceklkjbcebkabDoorSyt
import Derived.Laws.IdiomStrings
import Derived.Lib.Builder
import Derived.Lib.FrozenHead
import Derived.Lib.OthersKept
import Derived.Lib.UnsafeStr
import Derived.Lib.ItoaNum
import Derived.Lib.Strings
import Derived.Lib.Join
import Derived.WideLaws
import Derived.Test.YteceklkjbcebkabDoorProg
namespace Go.Sy
open Go Go.RowKit Go.Proofs

section
variable {P : Program} {n : Nat} {K : Env} {C : World → Prop} {dst : Option Nat} {T : TypeId} {pos : String} {af : Array Edge} {g : Option (Nat × Bool)}
theorem toList_mk (a : List UInt8) : (⟨a.toArray⟩ : ByteArray).toList = a := by rw [Lib.toList_data]
theorem app_mk (a b : List UInt8) : ((⟨a.toArray⟩ : ByteArray) ++ ⟨b.toArray⟩) = ⟨(a ++ b).toArray⟩ := by
  rw [ByteArray.mk_append_mk]
theorem q_addS [Inhabited (List Deferred)] {t t' : TypeId} {x y : Operand} {a b : List UInt8} (hx : ev K x = some (.string ⟨a.toArray⟩)) (hy : ev K y = some (.string ⟨b.toArray⟩)) (h : a.length + b.length ≤ 9223372036854775807) :
    Qt P n K C ⟨dst, .binOp .add t x y t', T, pos, af, g⟩ (.string ⟨(a ++ b).toArray⟩) := fun c ha w _ => by
  have e : ¬ (((⟨a.toArray⟩ : ByteArray).size + (⟨b.toArray⟩ : ByteArray).size : Nat) : Int) > IntKind.i64.max := by
    rw [Lib.size_eq, Lib.size_eq]
    simp only [IntKind.max_i64]
    show ¬ ((a.length + b.length : Nat) : Int) > _
    omega
  simp only [execOp, ha.ev hx, ha.ev hy]
  rw [← app_mk]
  simp [go_sem, binOp, Op.stringOp]
  omega
theorem q_eqS [Inhabited (List Deferred)] {t t' : TypeId} {x y : Operand} {a b : List UInt8} (hx : ev K x = some (.string ⟨a.toArray⟩)) (hy : ev K y = some (.string ⟨b.toArray⟩)) :
    Qt P n K C ⟨dst, .binOp .eql t x y t', T, pos, af, g⟩ (.bool (a == b)) := fun c ha w _ => by
  simp only [execOp, ha.ev hx, ha.ev hy]
  simp [go_sem, binOp, Op.stringOp, toList_mk]
theorem q_neS [Inhabited (List Deferred)] {t t' : TypeId} {x y : Operand} {a b : List UInt8} (hx : ev K x = some (.string ⟨a.toArray⟩)) (hy : ev K y = some (.string ⟨b.toArray⟩)) :
    Qt P n K C ⟨dst, .binOp .neq t x y t', T, pos, af, g⟩ (.bool (!(a == b))) := fun c ha w _ => by
  simp only [execOp, ha.ev hx, ha.ev hy]
  simp [go_sem, binOp, Op.stringOp, toList_mk]
/-- One digit's letter. -/
theorem q_rem10 [Inhabited (List Deferred)] {t t' : TypeId} {x y : Operand} {a : Nat} (hx : ev K x = some (.int .i64 (a : Int))) (hy : ev K y = some (.int .i64 10)) :
    Qt P n K C ⟨dst, .binOp .rem t x y t', T, pos, af, g⟩ (.int .i64 ((a % 10 : Nat) : Int)) := fun c ha w _ => by
  simp only [execOp, ha.ev hx, ha.ev hy]
  simp [go_sem, binOp, Op.intDiv]
  rw [Int.tmod_eq_emod_of_nonneg (by omega)]
theorem q_quo10 [Inhabited (List Deferred)] {t t' : TypeId} {x y : Operand} {a : Nat} (hx : ev K x = some (.int .i64 (a : Int))) (hy : ev K y = some (.int .i64 10)) (h : a ≤ 9223372036854775807) :
    Qt P n K C ⟨dst, .binOp .quo t x y t', T, pos, af, g⟩ (.int .i64 ((a / 10 : Nat) : Int)) := fun c ha w _ => by
  have e : IntKind.i64.wrap ((a : Int) / 10) = (a : Int) / 10 := by rw [IntKind.wrap_i64]; omega
  simp only [execOp, ha.ev hx, ha.ev hy]
  simp [go_sem, binOp, Op.intDiv, e]
theorem q_conv8 [Inhabited (List Deferred)] {s d : TypeId} {x : Operand} {k : IntKind} {a : Nat} (hs : P.underlying s = some (.int k)) (hd : P.underlying d = some (.int .u8)) (hx : ev K x = some (.int .i64 (a : Int))) (h : a < 256) :
    Qt P n K C ⟨dst, .convert s d x, T, pos, af, g⟩ (.int .u8 (a : Int)) := fun c ha w _ => by
  have e : IntKind.u8.wrap (a : Int) = (a : Int) := by rw [IntKind.wrap_u8]; omega
  simp only [execOp, ha.ev hx]
  simp [convert, run_underlying hs, run_underlying hd, Conv.intToInt, e]
theorem q_bytesS [Inhabited (List Deferred)] {s d e : TypeId} {x : Operand} {p : Addr} {c : Nat} {l : List UInt8} (hs : P.underlying s = some (.slice e)) (he : P.underlying e = some (.int .u8)) (hd : P.underlying d = some .string)
    (hx : ev K x = some (.slice (some p) l.length c)) (hc : ∀ w, C w → ∀ j (hj : j < l.length), w.cell? (p.add j) = some (.int .u8 (l[j].toNat : Int))) :
    Qt P n K C ⟨dst, .convert s d x, T, pos, af, g⟩ (.string ⟨l.toArray⟩) := fun a ha w hw => by
  simp only [execOp, ha.ev hx]
  simp [run_convert_bytes_back w s d e p c l hs he hd (hc w hw)]
/-- The length of a string. -/
theorem q_lenS [Inhabited (List Deferred)] {t : TypeId} {x : Operand} {l : List UInt8} (hu : P.underlying t = some .string) (hx : ev K x = some (.string ⟨l.toArray⟩)) :
    Qt P n K C ⟨dst, .call { callee := .builtin .len, args := #[x], argTypes := #[t] }, T, pos, af, g⟩ (.int .i64 (l.length : Int)) := fun a ha w _ => by
  have e : (⟨l.toArray⟩ : ByteArray).size = l.length := by rw [Lib.size_eq]
  simp [execOp, resolve, invoke, builtin, ha.ev hx, Builtin.len_, run_underlying hu, goInt, e]
theorem q_eqNilI [Inhabited (List Deferred)] {t t' : TypeId} {x : Operand} {b : Bool} {ti : TypeId} {tv : Value} (hu : P.underlying t = some (.interface (P.methodsAt t))) (hx : ev K x = some (if b = true then .nilIface else .iface ti tv)) :
    Qt P n K C ⟨dst, .binOp .eql t x (.const .nilIface) t', T, pos, af, g⟩ (.bool b) := fun c ha w _ => by
  have hn : c.eval (.const .nilIface) = .nilIface := rfl
  cases b with
  | true =>
    simp only [if_true] at hx
    simp only [execOp, ha.ev hx, hn]
    simp [eqGuard, run_eql_nil_nil w t hu]
  | false =>
    simp only [Bool.false_eq_true, if_false] at hx
    simp only [execOp, ha.ev hx, hn]
    simp [eqGuard, run_eql_held_nil w t ti tv hu]
theorem get_mk (l : List UInt8) (i : Nat) : (⟨l.toArray⟩ : ByteArray)[i]? = l[i]? := by
  by_cases h : i < l.length
  · have h' : i < (⟨l.toArray⟩ : ByteArray).size := by rw [Lib.size_eq]; exact h
    rw [getElem?_pos _ i h', List.getElem?_eq_getElem h]
    rfl
  · have h' : ¬ i < (⟨l.toArray⟩ : ByteArray).size := by rw [Lib.size_eq]; exact h
    rw [getElem?_neg _ i h', List.getElem?_eq_none (by omega)]
theorem q_idxS [Inhabited (List Deferred)] {t : TypeId} {x y : Operand} {l : List UInt8} {i : Nat} {b : UInt8} (hu : P.underlying t = some .string) (hx : ev K x = some (.string ⟨l.toArray⟩)) (hy : ev K y = some (.int .i64 (i : Int))) (hb : l[i]? = some b) :
    Qt P n K C ⟨dst, .index t x y, T, pos, af, g⟩ (.int .u8 (b.toNat : Int)) := fun c ha w _ => by
  simp only [execOp, ha.ev hx, ha.ev hy]
  simp [Instr.index, asIntOf, run_underlying hu, get_mk, hb]
theorem q_sliceS [Inhabited (List Deferred)] {t : TypeId} {x : Operand} {lo hi : Option Operand} {s : List UInt8} {l h : Nat} (hu : P.underlying t = some .string) (hx : ev K x = some (.string ⟨s.toArray⟩))
    (hl : (lo = none ∧ l = 0) ∨ ∃ o, lo = some o ∧ ev K o = some (.int .i64 (l : Int))) (hh : (hi = none ∧ h = s.length) ∨ ∃ o, hi = some o ∧ ev K o = some (.int .i64 (h : Int))) (h1 : l ≤ h) (h2 : h ≤ s.length) :
    Qt P n K C ⟨dst, .slice t x lo hi none, T, pos, af, g⟩ (.string ⟨((s.take h).drop l).toArray⟩) := fun a ha w _ => by
  have es : (⟨s.toArray⟩ : ByteArray).size = s.length := by rw [Lib.size_eq]
  have ee : (⟨s.toArray⟩ : ByteArray).extract l h = ⟨((s.take h).drop l).toArray⟩ := by
    rw [Lib.extract_eq]
    show (⟨((s.drop l).take (h - l)).toArray⟩ : ByteArray) = _
    rw [List.drop_take]
  have e1 : ((l : Int) ≤ (h : Int)) := by omega
  have e2 : ((h : Int) ≤ (s.length : Int)) := by omega
  rw [← ee]
  rcases hl with ⟨rfl, rfl⟩ | ⟨o, rfl, ho⟩ <;> rcases hh with ⟨rfl, rfl⟩ | ⟨o', rfl, ho'⟩ <;>
    simp_all [execOp, ha.ev hx, Instr.sliceAt, Instr.slice, Instr.sliceBounds, Instr.sliceBound, asIntOf, run_underlying hu, Kn.ev ha]
theorem q_sub48 [Inhabited (List Deferred)] {t t' : TypeId} {x y : Operand} {a : Nat} (hx : ev K x = some (.int .u8 (a : Int))) (hy : ev K y = some (.int .u8 48)) (h0 : 48 ≤ a) (h1 : a < 256) :
    Qt P n K C ⟨dst, .binOp .sub t x y t', T, pos, af, g⟩ (.int .u8 ((a - 48 : Nat) : Int)) := fun c ha w _ => by
  have e : IntKind.u8.wrap ((a : Int) - 48) = ((a - 48 : Nat) : Int) := by rw [IntKind.wrap_u8]; omega
  simp only [execOp, ha.ev hx, ha.ev hy]
  simp [go_sem, Op.intArith, e]
theorem q_mul10 [Inhabited (List Deferred)] {t t' : TypeId} {x y : Operand} {a : Nat} (hx : ev K x = some (.int .i64 10)) (hy : ev K y = some (.int .i64 (a : Int))) (h1 : a ≤ 1000000) :
    Qt P n K C ⟨dst, .binOp .mul t x y t', T, pos, af, g⟩ (.int .i64 ((10 * a : Nat) : Int)) := fun c ha w _ => by
  have e : IntKind.i64.wrap (10 * (a : Int)) = ((10 * a : Nat) : Int) := by rw [IntKind.wrap_i64]; omega
  simp only [execOp, ha.ev hx, ha.ev hy]
  simp [go_sem, Op.intArith, e]
theorem q_conv64 [Inhabited (List Deferred)] {s d : TypeId} {x : Operand} {k : IntKind} {a : Nat} (hs : P.underlying s = some (.int k)) (hd : P.underlying d = some (.int .i64)) (hx : ev K x = some (.int .u8 (a : Int))) (h : a < 256) :
    Qt P n K C ⟨dst, .convert s d x, T, pos, af, g⟩ (.int .i64 (a : Int)) := fun c ha w _ => by
  have e : IntKind.i64.wrap (a : Int) = (a : Int) := by rw [IntKind.wrap_i64]; omega
  simp only [execOp, ha.ev hx]
  simp [convert, run_underlying hs, run_underlying hd, Conv.intToInt, e]
end

/-- A builder that the function has made, and its bytes. -/
def builderA (b : Nat) (bs : List UInt8) : HP := fun h => ∃ p v, (p = .pointer none ∨ p = .pointer (some ⟨b, 0, none⟩)) ∧
  ((v = .slice none 0 0 ∧ bs = [] ∧ h = one b (.cells #[p, v] 39 (0, 0))) ∨
   ∃ g cap cur fz, v = .slice (some ⟨g, 0, none⟩) bs.length cap ∧ fz.2 ≤ bs.length ∧ bs.length ≤ cap ∧ cap ≤ maxLen ∧ cur.size = cap ∧ cur.toList.take bs.length = Lib.byteCells bs ∧ g ≠ b ∧ h = uni (one b (.cells #[p, v] 39 (0, 0))) (one g (.cells cur 5 fz)))
/-- Of no block is it a row of bytes. -/
def NoU8 (F : HP) : Prop := ∀ h, F h → ∀ k o, h k = some o → ∀ c fz, o ≠ .cells c 5 fz
theorem NoU8.cel {b : Nat} {t : TypeId} {cs : List Value} (h : t ≠ 5) : NoU8 (cel b t cs) := fun h1 hh k o ho c fz e => by
  rw [show h1 = one b _ from hh] at ho
  by_cases ek : k = b
  · subst ek
    rw [one_same] at ho
    injection ho with ho
    rw [← ho] at e
    injection e with _ e1 _
    exact h e1
  · rw [one_other _ ek] at ho; cases ho
theorem NoU8.row {t : TypeId} {size n : Nat} {v : Value} {xs : List Value} (h : t ≠ 5) : NoU8 (row t size v n xs) := fun h1 hh k o ho c fz e => by
  obtain ⟨_, _, ⟨_, _, rfl⟩ | ⟨g, cap, rest, _, _, _, _, rfl⟩⟩ := hh
  · cases ho
  · exact NoU8.cel (b := g) (t := t) (cs := xs ++ rest) h _ rfl k o ho c fz e
theorem NoU8.stars : ∀ {L : List HP}, (∀ A ∈ L, NoU8 A) → NoU8 (stars L)
  | [], _ => fun h hh k o ho => by rw [show h = emp0 from hh] at ho; cases ho
  | A :: L, hL => fun h ⟨h1, h2, hd, e, hA, hB⟩ k o ho => by
    subst e
    rcases hd k with e1 | e1
    · exact NoU8.stars (fun B hb => hL B (.tail _ hb)) h2 hB k o (by simpa [uni, e1] using ho)
    · exact hL A (.head _) h1 hA k o (by cases hk : h1 k with | none => simp [uni, hk, e1] at ho | some y => simpa [uni, hk] using ho)

section
variable {w0 w w' : World} {F : HP} {b : Nat} {bs : List UInt8}
theorem Sat.isBuilder (h : Sat (Old w0) w0 [builderA b bs, F] w) : Lib.IsBuilderF 39 5 w0.heap.size b (Lib.byteCells bs) w := by
  obtain ⟨x, ⟨h1, h2, hd, rfl, ⟨p, v, hp, hv⟩, hF⟩, hy⟩ := h.own
  have hat : ∀ k o, h1 k = some o → ¬ k < w0.heap.size ∧ w.heap[k]? = some o := fun k o hk => hy k o (by simp [uni, hk])
  have key : Lib.BuilderAtF 39 5 w0.heap.size b p (Lib.byteCells bs) w := by
    rcases hv with ⟨rfl, rfl, rfl⟩ | ⟨g, cap, cur, fz, rfl, hf, h3, h4, h5, h6, hg, rfl⟩
    · obtain ⟨k1, k2⟩ := hat b _ (one_same _ _)
      exact ⟨by omega, .slice none 0 0, k2, ⟨rfl, .inl ⟨rfl, rfl⟩⟩, by simp [Value.ownBlock]⟩
    · obtain ⟨k1, k2⟩ := hat b _ (by simp only [uni, one_same]; rfl)
      obtain ⟨k3, k4⟩ := hat g _ (by simp only [uni, one_same, one_other _ hg]; rfl)
      refine ⟨by omega, _, k2, ⟨by simp, .inr ⟨g, cap, cur, fz, by rw [Lib.byteCells_length], by omega, k4, by rw [Lib.byteCells_length]; omega, by rw [Lib.byteCells_length]; omega, h4, by omega, by rw [Lib.byteCells_length, Nat.mul_one]; exact h6⟩⟩, by simp [Value.ownBlock, hg]⟩
  rcases hp with rfl | rfl
  · exact .inl key
  · exact .inr key
theorem Sat.toBuilder {bs' : List UInt8} (h : Sat (Old w0) w0 [builderA b bs, F] w) (hF : NoU8 F) (hB : Lib.IsBuilderF 39 5 w0.heap.size b (Lib.byteCells bs') w') (hbel : Below w0.heap.size w w') (hk : Lib.OthersKept 5 (some b) w w') : Sat (Old w0) w0 [builderA b bs', F] w' := by
  obtain ⟨x, ⟨h1, h2, hd, rfl, hA, h3, h4, hd2, rfl, hFh, e4⟩, hy⟩ := h.own
  have e5 : h4 = emp0 := e4
  subst e5
  rw [uni_emp] at hd hy
  have hb1 : ∃ o, h1 b = some o := by
    obtain ⟨p, v, _, ⟨_, _, rfl⟩ | ⟨_, _, _, _, _, _, _, _, _, _, _, rfl⟩⟩ := hA
    · exact ⟨_, one_same _ _⟩
    · exact ⟨_, by simp only [uni, one_same]; rfl⟩
  have hb3 : h3 b = none := by
    obtain ⟨o, ho⟩ := hb1
    rcases hd b with e | e
    · rw [ho] at e; cases e
    · exact e
  have hkeep : ∀ k o, h3 k = some o → ¬ k < w0.heap.size ∧ w'.heap[k]? = some o := fun k o ho => by
    have e1 : h1 k = none := by
      rcases hd k with e | e
      · exact e
      · rw [ho] at e; cases e
    obtain ⟨k1, k2⟩ := hy k o (by simp [uni, e1, ho])
    refine ⟨k1, hk k o k2 (fun e => ?_) (hF h3 hFh k o ho)⟩
    injection e with e
    rw [e, hb3] at ho
    cases ho
  refine ⟨hbel.os.trans h.os, hbel.tape.trans h.tape, hbel.output.trans h.output, Nat.le_trans h.size hbel.size, fun k hk' => ⟨hk', (hbel.block k hk').trans (h.ro k hk').2⟩, ?_⟩
  have key : ∀ p, (p = .pointer none ∨ p = .pointer (some ⟨b, 0, none⟩)) → Lib.BuilderAtF 39 5 w0.heap.size b p (Lib.byteCells bs') w' → ∃ h, stars [builderA b bs', F] h ∧ ∀ k o, h k = some o → ¬ k < w0.heap.size ∧ w'.heap[k]? = some o := fun p hp ⟨k1, v, k2, ⟨_, k3⟩, k4⟩ => by
    rcases k3 with ⟨rfl, k5⟩ | ⟨g, cap, cur, fz, rfl, k5, k6, k7, k8, k9, k10, k11⟩
    · have hn : bs' = [] := List.eq_nil_of_length_eq_zero (by rw [Lib.byteCells_length] at k5; exact k5)
      subst hn
      refine ⟨uni (one b (.cells #[p, .slice none 0 0] 39 (0, 0))) h3, ⟨_, h3, fun k => ?_, rfl, ⟨p, _, hp, .inl ⟨rfl, rfl, rfl⟩⟩, h3, emp0, dis_emp _, (uni_emp _).symm, hFh, rfl⟩, fun k o ho => ?_⟩
      · by_cases e : k = b
        · subst e; exact .inr hb3
        · exact .inl (one_other _ e)
      · by_cases e : k = b
        · subst e
          have : o = .cells #[p, .slice none 0 0] 39 (0, 0) := by simpa [uni, one_same, eq_comm] using ho
          subst this
          exact ⟨by omega, k2⟩
        · exact hkeep k o (by simpa [uni, one_other _ e] using ho)
    · have hgb : g ≠ b := fun e => k4 (by rw [e]; rfl)
      rw [Lib.byteCells_length] at k7 k8 k11
      simp only [Nat.mul_one] at k7 k10 k11
      have hg3 : h3 g = none := by
        cases hx : h3 g with
        | none => rfl
        | some o =>
          have := (hkeep g o hx).2
          rw [k6] at this
          injection this with this
          exact absurd this.symm (hF h3 hFh g o hx _ _)
      refine ⟨uni (uni (one b (.cells #[p, .slice (some ⟨g, 0, none⟩) bs'.length cap] 39 (0, 0))) (one g (.cells cur 5 fz))) h3, ⟨_, h3, fun k => ?_, rfl, ⟨p, _, hp, .inr ⟨g, cap, cur, fz, rfl, k7, k8, k9, k10, k11, hgb, rfl⟩⟩, h3, emp0, dis_emp _, (uni_emp _).symm, hFh, rfl⟩, fun k o ho => ?_⟩
      · by_cases e : k = b
        · subst e; exact .inr hb3
        by_cases e2 : k = g
        · subst e2; exact .inr hg3
        · exact .inl (by simp [uni, one_other _ e, one_other _ e2])
      · by_cases e : k = b
        · subst e
          have : o = .cells #[p, .slice (some ⟨g, 0, none⟩) bs'.length cap] 39 (0, 0) := by simpa [uni, one_same, eq_comm] using ho
          subst this
          rw [Lib.byteCells_length] at k2
          exact ⟨by omega, k2⟩
        by_cases e2 : k = g
        · subst e2
          have : o = .cells cur 5 fz := by simpa [uni, one_same, one_other _ e, eq_comm] using ho
          subst this
          exact ⟨by omega, k6⟩
        · exact hkeep k o (by simpa [uni, one_other _ e, one_other _ e2] using ho)
  rcases hB with hB | hB
  · exact key _ (.inl rfl) hB
  · exact key _ (.inr rfl) hB
theorem Sat.ofBelow (h : Below w.heap.size w w') : Sat (Old w) w [] w' := ⟨h.os, h.tape, h.output, h.size, fun k hk => ⟨hk, h.block k hk⟩, emp0, rfl, fun _ _ h => by cases h⟩
theorem Sat.builder0 {R : Nat → Prop} {L : List HP} (h : Sat R w0 (cel b 39 [.pointer none, .slice none 0 0] :: L) w) : Sat R w0 (builderA b [] :: L) w :=
  h.swap .head fun _ hh => ⟨.pointer none, .slice none 0 0, .inl rfl, .inl ⟨rfl, rfl, hh⟩⟩
/-- A mutator that turns rows of bytes: the rest has none. -/
theorem lift_mutB {P : Program} {f : FuncId} {vs : Array Value} {ι : Type} {V : ι → Value} {p : ι → Prop} {M0 L1 : List HP} {M : ι → List HP} (hS : Sat (Old w0) w0 (M0 ++ L1) w) (hn : ∀ A ∈ L1, NoU8 A)
    (h : ∀ F, NoU8 F → Sat (Old w0) w0 (M0 ++ [F]) w → Calls P f vs w (fun e w' => ∃ x, e = .returned (V x) ∧ p x ∧ Sat (Old w0) w0 (M x ++ [F]) w')) :
    Calls P f vs w (fun e w' => ∃ x, e = .returned (V x) ∧ (p x ∧ Sat (Old w0) w0 (M x ++ L1) w')) := by
  have hS' : Sat (Old w0) w0 (M0 ++ [stars L1]) w := hS.imp_ fun y hy => by
    obtain ⟨h1, h2, hd, e, ha, hb⟩ := (stars_append M0 L1 y).1 hy
    exact (stars_append M0 [stars L1] y).2 ⟨h1, h2, hd, e, ha, h2, emp0, dis_emp h2, (uni_emp h2).symm, hb, rfl⟩
  refine (h _ (NoU8.stars hn) hS').mono fun e w' ⟨x, he, hp, hw⟩ => ⟨x, he, hp, hw.imp_ fun y hy => ?_⟩
  obtain ⟨h1, h2, hd, e, ha, h3, h4, _, e5, hL, e4⟩ := (stars_append (M x) [stars L1] y).1 hy
  have e6 : h4 = emp0 := e4
  subst e6
  rw [uni_emp] at e5
  subst e5
  exact (stars_append (M x) L1 y).2 ⟨h1, h2, hd, e, ha, hL⟩
end
def encS (l : List UInt8) : List Value := [.string ⟨l.toArray⟩]
theorem flat_join (ls : List (List UInt8)) : Lib.join ls [] = ls.flatten := by
  cases ls with
  | nil => rfl
  | cons x r =>
    rw [Lib.join_cons]
    simp [Lib.joinTail]
theorem Sat.strs {R : Nat → Prop} {w0 w : World} {L : List HP} {e : TypeId} {b : Nat} (ls : List (List UInt8)) (hl : ls.length ≤ 1000) (h : Sat R w0 (cel b e (ls.flatMap encS) :: L) w) : Sat R w0 (trow e 1 encS (.slice (some ⟨b, 0, none⟩) ls.length ls.length) ls :: L) w :=
  h.swap .head fun hh hb => row_of_cel (n := ls.length) (size := 1) (by rw [flat_length (enc := encS) (size := 1) (fun _ => rfl)]) (by unfold maxLen; omega) hh hb
theorem fill_units : ∀ (vs cells pre : List Value), (∀ v ∈ vs, v.cells = #[v]) → cells.length = vs.length → Instr.fill (fun i => some (i * 1, 1)) (pre ++ cells).toArray ((vs.zipIdx pre.length).map fun x => (x.2, x.1)) = some (pre ++ vs).toArray
  | [], cells, pre, _, hl => by
    have : cells = [] := List.eq_nil_of_length_eq_zero hl
    subst this
    rfl
  | v :: vs, [], pre, _, hl => by simp at hl
  | v :: vs, c :: cells, pre, h1, hl => by
    have hv := h1 v (.head _)
    have := fill_units vs cells (pre ++ [v]) (fun u hu => h1 u (.tail _ hu)) (by simpa using hl)
    simp only [List.length_append, List.length_singleton, List.append_assoc, List.singleton_append] at this
    rw [List.zipIdx_cons, List.map_cons]
    unfold Instr.fill
    simp only [hv]
    rw [if_neg (by simp)]
    have e2 : (#[v].zipIdx.foldl (fun cs (x : Value × Nat) => cs.setIfInBounds (pre.length * 1 + x.2) x.1) (pre ++ c :: cells).toArray) = (pre ++ v :: cells).toArray := by
      simp
    exact (congrArg (fun a => Instr.fill _ a _) e2).trans this
theorem flat_strs : ∀ ls : List (List UInt8), ls.flatMap encS = ls.map fun l => Value.string ⟨l.toArray⟩
  | [] => rfl
  | x :: r => by rw [List.flatMap_cons, List.map_cons, flat_strs r]; rfl
section
variable {P : Program} {n : Nat} {K : Env} {dst : Option Nat} {T : TypeId} {pos : String} {af : Array Edge} {g : Option (Nat × Bool)} {R : Nat → Prop} {w0 : World} {L : List HP}
/-- A slice of strings, spelt out. -/
theorem e_strs [Inhabited (List Deferred)] {t e : TypeId} {m : Nat} {parts : Array (Nat × Operand)} {z : Value} (ls : List (List UInt8)) (hu : P.underlying t = some (.slice e)) (hs : ∀ w, (sizeOf e).run P w = .ok 1 w) (hz : ∀ w, (zeroValue e).run P w = .ok z w)
    (hps : ∀ a, Kn n K a → (parts.map fun (i, x) => (i, a.eval x)).toList = (((ls.map fun l => Value.string ⟨l.toArray⟩).zipIdx 0).map fun x => (x.2, x.1))) (hm : ls.length = m) (h0 : m ≠ 0) (h1 : m ≤ 1000) :
    Ef P n K (Sat R w0 L) ⟨dst, .buildSlice t m parts, T, pos, af, g⟩ (fun b : Nat => .slice (some ⟨b, 0, none⟩) m m) (fun b => Sat R w0 (cel b e (ls.flatMap encS) :: L)) := by
  have hf : Instr.fill (fun i => some (i * 1, 1)) ((Array.range (m * 1)).map (z.cells[· % z.cells.size]!)) (((ls.map fun l => Value.string ⟨l.toArray⟩).zipIdx 0).map fun x => (x.2, x.1)) = some (ls.flatMap encS).toArray := by
    have e1 : ((Array.range (m * 1)).map (z.cells[· % z.cells.size]!)) = ([] ++ (List.range (m * 1)).map (z.cells[· % z.cells.size]!)).toArray := Array.ext (by simp) (fun i h1 h2 => by simp)
    have e2 := fill_units (ls.map fun l => Value.string ⟨l.toArray⟩) ((List.range (m * 1)).map (z.cells[· % z.cells.size]!)) [] (fun v hv => by obtain ⟨l, _, rfl⟩ := List.mem_map.1 hv; rfl) (by simp [hm])
    have e3 := flat_strs ls
    rw [e1, e3]
    exact e2
  exact e_buildSlice hu hs hz hps (by omega) (by omega) hf
end
section
variable {P : Program} {n : Nat} {K : Env} {S : World → Prop}
theorem retcc {fn : Func} {X : Ending → World → Prop} {c d m1 m2 : Nat} {t u : TypeId} {p q : Addr} {vs us : List Value} (hr : fn.results = #[.cell c t, .cell d u]) (hA : ∀ w, (isAgg t).run P w = .ok true w) (hs : ∀ w, (sizeOf t).run P w = .ok m1 w) (hA2 : ∀ w, (isAgg u).run P w = .ok true w) (hs2 : ∀ w, (sizeOf u).run P w = .ok m2 w) (hp : look K c = some (.pointer (some p))) (hl : vs.length = m1) (hq : look K d = some (.pointer (some q))) (hl2 : us.length = m2)
    (hc : ∀ w, S w → ∀ j v, vs[j]? = some v → w.cell? (p.add j) = some v) (hc2 : ∀ w, S w → ∀ j v, us[j]? = some v → w.cell? (q.add j) = some v) (h : ∀ w, S w → X (.returned (.tuple #[.agg vs.toArray, .agg us.toArray])) w) : EW .ret (bodyPost P fn X) n K S := fun a w ha hw =>
  ⟨ha.2.1, .tuple #[.agg vs.toArray, .agg us.toArray], by
    subst hl
    subst hl2
    have h1 := ha.2.2 c _ hp
    have h2 := ha.2.2 d _ hq
    have h3 := run_loadCells_list (P := P) w p vs (hc w hw)
    have h4 := run_loadCells_list (P := P) w q us (hc2 w hw)
    simp only [Array.getD_eq_getD_getElem?] at h1 h2
    simp [results, hr, h1, h2, loadVar, hA, hs, hA2, hs2, h3, h4, asAddr], h w hw⟩
end
end Go.Sy
