/- Grammars, derivations and lists as they lie in memory. No condition. -/
import Derived.Test.YteceklkjbcebkabDoorSyg
namespace Go.Sy
open Go Go.RowKit

structure Sym where
  term : Bool
  n : Int
  deriving DecidableEq

structure Rule where
  left : Int
  right : List Sym
  deriving DecidableEq

structure Gram where
  terms : Int
  names : Int
  rules : List Rule

/-- A slice that reads as a list: of each element its cells. -/
def SlAt (_ρ : Addr → Value → Prop) (sz : Nat) (v : Value) {α : Type} (at_ : Addr → α → Prop) (l : List α) : Prop :=
  ∃ a c, v = .slice a l.length c ∧ l.length ≤ c ∧ c ≤ 9223372036854775807 ∧ ∀ k x, l[k]? = some x → ∃ p, a = some p ∧ at_ (p.add (k * sz)) x

abbrev SymAt (ρ : Addr → Value → Prop) (p : Addr) (s : Sym) : Prop := Row ρ p [.bool s.term, .int .i64 s.n]
def SymsAt (ρ : Addr → Value → Prop) (v : Value) (l : List Sym) : Prop := SlAt ρ 2 v (SymAt ρ) l
def RuleAt (ρ : Addr → Value → Prop) (p : Addr) (r : Rule) : Prop := ∃ rv, SymsAt ρ rv r.right ∧ Row ρ p [.int .i64 r.left, rv]
def RulesAt (ρ : Addr → Value → Prop) (v : Value) (l : List Rule) : Prop := SlAt ρ 2 v (RuleAt ρ) l
def GramAt (ρ : Addr → Value → Prop) (v : Value) (g : Gram) : Prop := ∃ rv, v = .agg #[.int .i64 g.terms, .int .i64 g.names, rv] ∧ RulesAt ρ rv g.rules
def IntsAt (ρ : Addr → Value → Prop) (v : Value) (l : List Int) : Prop := SlAt ρ 1 v (fun p x => ρ p (.int .i64 x)) l
def BoolsAt (ρ : Addr → Value → Prop) (v : Value) (l : List Bool) : Prop := SlAt ρ 1 v (fun p x => ρ p (.bool x)) l

section
variable {ρ ρ' : Addr → Value → Prop} {v : Value}
theorem SlAt.mono {sz : Nat} {α : Type} {at_ at' : Addr → α → Prop} {l : List α} (h : SlAt ρ sz v at_ l) (f : ∀ p x, at_ p x → at' p x) : SlAt ρ' sz v at' l := by
  obtain ⟨a, c, hv, h1, h2, hk⟩ := h
  exact ⟨a, c, hv, h1, h2, fun k x hx => let ⟨p, hp, hq⟩ := hk k x hx; ⟨p, hp, f _ _ hq⟩⟩
theorem SymsAt.mono {l : List Sym} (h : SymsAt ρ v l) (f : ∀ a v, ρ a v → ρ' a v) : SymsAt ρ' v l := SlAt.mono h fun _ _ hx => Row.mono hx f
theorem RulesAt.mono {l : List Rule} (h : RulesAt ρ v l) (f : ∀ a v, ρ a v → ρ' a v) : RulesAt ρ' v l := SlAt.mono h fun _ _ ⟨rv, h1, h2⟩ => ⟨rv, h1.mono f, h2.mono f⟩
theorem GramAt.mono {g : Gram} (h : GramAt ρ v g) (f : ∀ a v, ρ a v → ρ' a v) : GramAt ρ' v g := let ⟨rv, h1, h2⟩ := h; ⟨rv, h1, h2.mono f⟩
theorem IntsAt.mono {l : List Int} (h : IntsAt ρ v l) (f : ∀ a v, ρ a v → ρ' a v) : IntsAt ρ' v l := SlAt.mono h fun _ _ hx => f _ _ hx
theorem BoolsAt.mono {l : List Bool} (h : BoolsAt ρ v l) (f : ∀ a v, ρ a v → ρ' a v) : BoolsAt ρ' v l := SlAt.mono h fun _ _ hx => f _ _ hx
end

abbrev vi (x : Int) : Value := .int .i64 x
abbrev vb (x : Bool) : Value := .bool x
/-- A made slice of numbers; of truths. -/
def ints (b : Nat) (t : TypeId) (l : List Int) : HP := cel b t (l.map vi)
def bools (b : Nat) (t : TypeId) (l : List Bool) : HP := cel b t (l.map vb)

section
variable {R : Nat → Prop} {w0 w : World} {L L' : List HP} {v : Value}
/-- From the whole world to what nobody writes, and back. -/
theorem old_rd {w : World} : ∀ a v, Cl w a v → Rd (Old w) w a v := fun _ _ h => Rd.old h
theorem Sat.intsAt {b : Nat} {t : TypeId} {l : List Int} {A' : HP} {m c : Nat} (h : Sat R w0 L w) (s : Swap L (ints b t l) A' L') (hm : l.length = m) (hc : m ≤ c) (hc2 : c ≤ 9223372036854775807) : IntsAt (Cl w) (.slice (some ⟨b, 0, none⟩) m c) l := by
  subst hm
  exact ⟨_, c, rfl, hc, hc2, fun k x hx => ⟨_, rfl, by
    show w.cell? _ = _
    rw [Addr.add_lit, Nat.mul_one, Nat.zero_add]
    have := h.cell (cs := l.map vi) s k
    rw [this]; simp [hx]⟩⟩
theorem Sat.boolsAt {b : Nat} {t : TypeId} {l : List Bool} {A' : HP} {m c : Nat} (h : Sat R w0 L w) (s : Swap L (bools b t l) A' L') (hm : l.length = m) (hc : m ≤ c) (hc2 : c ≤ 9223372036854775807) : BoolsAt (Cl w) (.slice (some ⟨b, 0, none⟩) m c) l := by
  subst hm
  exact ⟨_, c, rfl, hc, hc2, fun k x hx => ⟨_, rfl, by
    show w.cell? _ = _
    rw [Addr.add_lit, Nat.mul_one, Nat.zero_add]
    have := h.cell (cs := l.map vb) s k
    rw [this]; simp [hx]⟩⟩
theorem Sat.rd_cl (h : Sat R w0 L w) : ∀ a v, Rd R w0 a v → Cl w a v := fun _ _ hr => h.rd hr
end

section
variable {P : Program} {n : Nat} {K : Env} {dst : Option Nat} {T : TypeId} {pos : String} {af : Array Edge} {g : Option (Nat × Bool)} {R : Nat → Prop} {w0 : World} {L L' : List HP} {S C : World → Prop}

/-- An index that is a number of a grammar's. -/
theorem q_indexAddrI {t e : TypeId} {x ix : Operand} {p : Addr} {len cap m : Nat} {z : Int} (hu : P.underlying t = some (.slice e)) (hs : ∀ w, (sizeOf e).run P w = .ok m w)
    (hx : ev K x = some (.slice (some p) len cap)) (hi : ev K ix = some (.int .i64 z)) (h0 : 0 ≤ z) (h1 : z < len) :
    Qt P n K C ⟨dst, .indexAddr t x ix, T, pos, af, g⟩ (.pointer (some (p.add (z.toNat * m)))) := by
  obtain ⟨i, rfl⟩ := Int.eq_ofNat_of_zero_le h0
  exact q_indexAddr hu hs hx hi (by omega)

theorem q_min {t t' : TypeId} {x y : Operand} {a b : Int} (hx : ev K x = some (.int .i64 a)) (hy : ev K y = some (.int .i64 b)) :
    Qt P n K C ⟨dst, .call { callee := .builtin .min, args := #[x, y], argTypes := #[t, t'] }, T, pos, af, g⟩ (.int .i64 (min a b)) := fun c ha w _ => by
  have : (if b < a then b else a) = min a b := by split <;> omega
  simp [execOp, resolve, invoke, builtin, ha.ev hx, ha.ev hy, Builtin.min_, Builtin.min2, this]

theorem q_load_ints {t e : TypeId} {x : Operand} {b j : Nat} {l : List Int} {u : Int} (hA : ∀ w, (isAgg t).run P w = .ok false w) (hx : ev K x = some (.pointer (some ((⟨b, 0, none⟩ : Addr).add (j * 1)))))
    (s : Swap L (ints b e l) (ints b e l) L') (hj : l[j]? = some u) : Qt P n K (Sat R w0 L) ⟨dst, .load t x, T, pos, af, g⟩ (.int .i64 u) :=
  q_load1 hA hx fun w hw => by
    rw [Addr.add_lit, Nat.mul_one, Nat.zero_add, hw.cell (cs := l.map vi) s j]; simp [hj]
theorem q_load_bools {t e : TypeId} {x : Operand} {b j : Nat} {l : List Bool} {u : Bool} (hA : ∀ w, (isAgg t).run P w = .ok false w) (hx : ev K x = some (.pointer (some ((⟨b, 0, none⟩ : Addr).add (j * 1)))))
    (s : Swap L (bools b e l) (bools b e l) L') (hj : l[j]? = some u) : Qt P n K (Sat R w0 L) ⟨dst, .load t x, T, pos, af, g⟩ (.bool u) :=
  q_load1 hA hx fun w hw => by
    rw [Addr.add_lit, Nat.mul_one, Nat.zero_add, hw.cell (cs := l.map vb) s j]; simp [hj]
theorem e_store_ints {t e : TypeId} {x y : Operand} {b j : Nat} {l : List Int} {u : Int} (hs : ∀ w, (sizeOf t).run P w = .ok 1 w) (hx : ev K x = some (.pointer (some ((⟨b, 0, none⟩ : Addr).add (j * 1))))) (hy : ev K y = some (.int .i64 u))
    (s : Swap L (ints b e l) (ints b e (l.set j u)) L') (hj : j < l.length) :
    Ef P n K (Sat R w0 L) ⟨dst, .store t x y, T, pos, af, g⟩ (fun _ : Unit => undef) (fun _ => Sat R w0 L') := by
  rw [Addr.add_lit, Nat.mul_one, Nat.zero_add] at hx
  refine e_store_any hs hx hy rfl fun w hw => ⟨⟨vi l[j], by rw [hw.cell (cs := l.map vi) s j]; simp [hj]⟩, hw.unfrozen (cs := l.map vi) s j, ?_⟩
  have s' : Swap L (cel b e (l.map vi)) (cel b e ((l.map vi).set j (vi u))) L' := by rw [← List.map_set]; exact s
  exact hw.set_ s'
theorem e_store_bools {t e : TypeId} {x y : Operand} {b j : Nat} {l : List Bool} {u : Bool} (hs : ∀ w, (sizeOf t).run P w = .ok 1 w) (hx : ev K x = some (.pointer (some ((⟨b, 0, none⟩ : Addr).add (j * 1))))) (hy : ev K y = some (.bool u))
    (s : Swap L (bools b e l) (bools b e (l.set j u)) L') (hj : j < l.length) :
    Ef P n K (Sat R w0 L) ⟨dst, .store t x y, T, pos, af, g⟩ (fun _ : Unit => undef) (fun _ => Sat R w0 L') := by
  rw [Addr.add_lit, Nat.mul_one, Nat.zero_add] at hx
  refine e_store_any hs hx hy rfl fun w hw => ⟨⟨vb l[j], by rw [hw.cell (cs := l.map vb) s j]; simp [hj]⟩, hw.unfrozen (cs := l.map vb) s j, ?_⟩
  have s' : Swap L (cel b e (l.map vb)) (cel b e ((l.map vb).set j (vb u))) L' := by rw [← List.map_set]; exact s
  exact hw.set_ s'

/-- make, at a number that may be one of a grammar's. -/
theorem e_makeI {t e : TypeId} {x y : Operand} {m : Int} {i : TypeInfo} (hu : P.underlying t = some (.slice e)) (hi : ∀ w, (typeInfo e).run P w = .ok i w) (hz : i.zero = some (.int .i64 0)) (hsz : i.size = 1) (hby : i.bytes ≤ 32)
    (hx : ev K x = some (.int .i64 m)) (hy : ev K y = some (.int .i64 m)) (h0 : 0 ≤ m) (hm : m ≤ 1000000) :
    Ef P n K (Sat R w0 L) ⟨dst, .makeSlice t x y, T, pos, af, g⟩ (fun b : Nat => .slice (some ⟨b, 0, none⟩) m.toNat m.toNat) (fun b => Sat R w0 (ints b e (List.replicate m.toNat 0) :: L)) := by
  obtain ⟨k, rfl⟩ := Int.eq_ofNat_of_zero_le h0
  have := e_make (P := P) (n := n) (K := K) (dst := dst) (T := T) (pos := pos) (af := af) (g := g) (R := R) (w0 := w0) (L := L) hu hi hz rfl hsz hby hx hy (by omega)
  unfold ints
  rw [List.map_replicate]
  exact this
theorem e_makeB {t e : TypeId} {x y : Operand} {m : Int} {i : TypeInfo} (hu : P.underlying t = some (.slice e)) (hi : ∀ w, (typeInfo e).run P w = .ok i w) (hz : i.zero = some (.bool false)) (hsz : i.size = 1) (hby : i.bytes ≤ 32)
    (hx : ev K x = some (.int .i64 m)) (hy : ev K y = some (.int .i64 m)) (h0 : 0 ≤ m) (hm : m ≤ 1000000) :
    Ef P n K (Sat R w0 L) ⟨dst, .makeSlice t x y, T, pos, af, g⟩ (fun b : Nat => .slice (some ⟨b, 0, none⟩) m.toNat m.toNat) (fun b => Sat R w0 (bools b e (List.replicate m.toNat false) :: L)) := by
  obtain ⟨k, rfl⟩ := Int.eq_ofNat_of_zero_le h0
  have := e_make (P := P) (n := n) (K := K) (dst := dst) (T := T) (pos := pos) (af := af) (g := g) (R := R) (w0 := w0) (L := L) hu hi hz rfl hsz hby hx hy (by omega)
  unfold bools
  rw [List.map_replicate]
  exact this
end
end Go.Sy
