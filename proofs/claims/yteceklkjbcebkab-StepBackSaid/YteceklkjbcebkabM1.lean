/- Walks and plain laws, part 1. No condition. -/
import Derived.WalkKit
import Derived.OrdersHeld
import Derived.KernelRfl
import Derived.Below
import Derived.StillTail
/- A small calculus for walks: what is known of a frame is a list of slots with their values, what is known of a world is a list of owned blocks beside blocks that nobody writes. No condition. -/
namespace Go.Sy
open Go

abbrev Env := List (Nat × Value)

def look : Env → Nat → Option Value
  | [], _ => none
  | p :: K, j => bif Nat.beq p.1 j then some p.2 else look K j

def ev (K : Env) : Operand → Option Value
  | .tmp t => look K t
  | .const v => some v
  | .global g => some (.pointer (some ⟨g, 0, none⟩))
  | .func f => some (.func (.func f) #[] #[])

def Kn [Inhabited (List Deferred)] (n : Nat) (K : Env) (a : Act) : Prop :=
  a.tmps.size = n ∧ a.defers = default ∧ ∀ i v, look K i = some v → a.tmps.getD i undef = v

theorem Kn.ev [Inhabited (List Deferred)] {n : Nat} {K : Env} {a : Act} (h : Kn n K a) {x : Operand} {v : Value} (hx : ev K x = some v) : a.eval x = v := by
  cases x with
  | tmp t => exact h.2.2 t v hx
  | const u => simp only [Sy.ev, Option.some.injEq] at hx; subst hx; rfl
  | global g => simp only [Sy.ev, Option.some.injEq] at hx; subst hx; rfl
  | func f => simp only [Sy.ev, Option.some.injEq] at hx; subst hx; rfl

theorem look_cons {d : Nat} {v : Value} {K : Env} {i : Nat} {u : Value} (h : look ((d, v) :: K) i = some u) : (d = i ∧ v = u) ∨ (d ≠ i ∧ look K i = some u) := by
  unfold look at h
  cases hb : Nat.beq d i with
  | true =>
    rw [hb] at h
    simp only [cond_true, Option.some.injEq] at h
    exact .inl ⟨Nat.eq_of_beq_eq_true hb, h⟩
  | false =>
    rw [hb] at h
    simp only [cond_false] at h
    exact .inr ⟨Nat.ne_of_beq_eq_false hb, h⟩

theorem Kn.put [Inhabited (List Deferred)] {n : Nat} {K : Env} {a : Act} (h : Kn n K a) {d : Nat} (hd : Nat.blt d n = true) (v : Value) : Kn n ((d, v) :: K) (a.put (some d) v) := by
  have hd' : d < n := by simpa [Nat.blt_eq] using hd
  refine ⟨by simp [Act.put, h.1], h.2.1, fun i u hu => ?_⟩
  rcases look_cons hu with ⟨rfl, rfl⟩ | ⟨hne, hu⟩
  · have hs : d < a.tmps.size := by rw [h.1]; exact hd'
    simp [Act.put, hs]
  · have := h.2.2 i u hu
    simp only [Act.put, Array.getD_eq_getD_getElem?] at this ⊢
    rw [Array.getElem?_setIfInBounds_ne hne]
    exact this

theorem Kn.sub [Inhabited (List Deferred)] {n : Nat} {K K' : Env} {a : Act} (h : Kn n K a) (hk : ∀ i v, look K' i = some v → look K i = some v) : Kn n K' a :=
  ⟨h.1, h.2.1, fun i v hv => h.2.2 i v (hk i v hv)⟩

def Sub : Env → Env → Prop
  | [], _ => True
  | p :: K', K => look K p.1 = some p.2 ∧ Sub K' K

theorem Sub.look {K' K : Env} (h : Sub K' K) : ∀ i v, look K' i = some v → Sy.look K i = some v := by
  induction K' with
  | nil => intro i v hv; cases hv
  | cons p K' ih =>
    intro i v hv
    obtain ⟨d, u⟩ := p
    rcases look_cons hv with ⟨rfl, rfl⟩ | ⟨_, hv⟩
    · exact h.1
    · exact ih h.2 i v hv

/-! ### Judgements -/

/-- Code from a known frame and a world of the class. -/
def CW [Inhabited (List Deferred)] (P : Program) (c : Code) (Q : Exit → Act → World → Prop) (n : Nat) (K : Env) (S : World → Prop) : Prop :=
  ∀ a w, Kn n K a → S w → c.wp P Q a w

/-- An end, reached. -/
def EW [Inhabited (List Deferred)] (e : Exit) (Q : Exit → Act → World → Prop) (n : Nat) (K : Env) (S : World → Prop) : Prop :=
  ∀ a w, Kn n K a → S w → Q e a w

/-- A list of operations in the order of the text. -/
def OW [Inhabited (List Deferred)] (P : Program) (ops : Array Oper) (Q : Exit → Act → World → Prop) (l : List Oper) (n : Nat) (K : Env) (S : World → Prop) : Prop :=
  ∀ a w, Kn n K a → S w → wpList P ops Q l a w

/-- An operation that hands back a value and leaves the world, in every world of the class. -/
def Qt [Inhabited (List Deferred)] (P : Program) (n : Nat) (K : Env) (C : World → Prop) (o : Oper) (v : Value) : Prop :=
  ∀ a, Kn n K a → ∀ w, C w → (execOp a.eval o).run P w = .ok (.value v) w

/-- An operation that turns the world: what comes of it hangs on 'x'. -/
def Ef [Inhabited (List Deferred)] (P : Program) (n : Nat) (K : Env) (S : World → Prop) (o : Oper) {ι : Type} (V : ι → Value) (S' : ι → World → Prop) : Prop :=
  ∀ a w, Kn n K a → S w → ∀ (next : Act → World → Prop) (Q : Exit → Act → World → Prop),
    (∀ x w', S' x w' → next (a.put o.dst (V x)) w') → o.wp P a w next Q

section
variable {P : Program} {Q : Exit → Act → World → Prop} {n : Nat} {K : Env} {S : World → Prop}

theorem CW.mono [Inhabited (List Deferred)] {c : Code} {Q' : Exit → Act → World → Prop} (h : CW P c Q n K S) (hq : ∀ e a w, Q e a w → Q' e a w) : CW P c Q' n K S :=
  fun a w ha hw => wp_mono (h a w ha hw) hq

theorem CW.weak [Inhabited (List Deferred)] {c : Code} {K' : Env} {S' : World → Prop} (h : CW P c Q n K' S') (hk : Sub K' K) (hs : ∀ w, S w → S' w) : CW P c Q n K S :=
  fun a w ha hw => h a w (ha.sub hk.look) (hs w hw)
theorem CW.cut [Inhabited (List Deferred)] {c : Code} (K' : Env) (S' : World → Prop) (hk : Sub K' K) (hs : ∀ w, S w → S' w) (h : CW P c Q n K' S') : CW P c Q n K S := h.weak hk hs
theorem EW.cut [Inhabited (List Deferred)] {e : Exit} (K' : Env) (S' : World → Prop) (hk : Sub K' K) (hs : ∀ w, S w → S' w) (h : EW e Q n K' S') : EW e Q n K S :=
  fun a w ha hw => h a w (ha.sub hk.look) (hs w hw)
theorem OW.world [Inhabited (List Deferred)] {ops : Array Oper} {l : List Oper} (S' : World → Prop) (hs : ∀ w, S w → S' w) (h : OW P ops Q l n K S') : OW P ops Q l n K S :=
  fun a w ha hw => h a w ha (hs w hw)
theorem CW.world [Inhabited (List Deferred)] {c : Code} (S' : World → Prop) (hs : ∀ w, S w → S' w) (h : CW P c Q n K S') : CW P c Q n K S :=
  fun a w ha hw => h a w ha (hs w hw)
theorem EW.world [Inhabited (List Deferred)] {e : Exit} (S' : World → Prop) (hs : ∀ w, S w → S' w) (h : EW e Q n K S') : EW e Q n K S :=
  fun a w ha hw => h a w ha (hs w hw)

/-- The exit's condition behind 'seq': the next code. -/
def thenQ (P : Program) (y : Code) (Q : Exit → Act → World → Prop) : Exit → Act → World → Prop := Exit.then (y.wp P Q) Q

theorem CW_seq [Inhabited (List Deferred)] {x y : Code} (h : CW P x (thenQ P y Q) n K S) : CW P (.seq x y) Q n K S := fun a w ha hw => wp_seq (h a w ha hw)
theorem EW_then [Inhabited (List Deferred)] {y : Code} (h : CW P y Q n K S) : EW .normal (thenQ P y Q) n K S := fun a w ha hw => h a w ha hw
theorem EW_then_exit [Inhabited (List Deferred)] {y : Code} {id : Nat} (h : EW (.exit id) Q n K S) : EW (.exit id) (thenQ P y Q) n K S := fun a w ha hw => h a w ha hw
theorem EW_then_ret [Inhabited (List Deferred)] {y : Code} (h : EW .ret Q n K S) : EW .ret (thenQ P y Q) n K S := fun a w ha hw => h a w ha hw
theorem EW_then_panic [Inhabited (List Deferred)] {y : Code} {ch : List PanicEntry} (h : EW (.panic ch) Q n K S) : EW (.panic ch) (thenQ P y Q) n K S := fun a w ha hw => h a w ha hw

theorem CW_block [Inhabited (List Deferred)] {id : Nat} {c : Code} (h : CW P c (Exit.inBlock id Q) n K S) : CW P (.block id c) Q n K S := fun a w ha hw => wp_block (h a w ha hw)
theorem EW_block_normal [Inhabited (List Deferred)] {id : Nat} (h : EW .normal Q n K S) : EW .normal (Exit.inBlock id Q) n K S := fun a w ha hw => h a w ha hw
theorem EW_block_ret [Inhabited (List Deferred)] {id : Nat} (h : EW .ret Q n K S) : EW .ret (Exit.inBlock id Q) n K S := fun a w ha hw => h a w ha hw
theorem EW_block_panic [Inhabited (List Deferred)] {id : Nat} {ch : List PanicEntry} (h : EW (.panic ch) Q n K S) : EW (.panic ch) (Exit.inBlock id Q) n K S := fun a w ha hw => h a w ha hw
theorem EW_block_exit [Inhabited (List Deferred)] {id : Nat} (h : EW .normal Q n K S) : EW (.exit id) (Exit.inBlock id Q) n K S := fun a w ha hw => by
  simp only [Exit.inBlock, if_true]; exact h a w ha hw
theorem CW_skip [Inhabited (List Deferred)] (h : EW .normal Q n K S) : CW P .skip Q n K S := fun a w ha hw => wp_skip (h a w ha hw)
theorem CW_exit [Inhabited (List Deferred)] {id : Nat} (h : EW (.exit id) Q n K S) : CW P (.exit id) Q n K S := fun a w ha hw => wp_exit (h a w ha hw)
theorem CW_ret [Inhabited (List Deferred)] (h : EW .ret Q n K S) : CW P .ret Q n K S := fun a w ha hw => wp_ret (h a w ha hw)

theorem CW_cond [Inhabited (List Deferred)] {c : Operand} {x y : Code} {t : Bool} (hc : ev K c = some (.bool t)) (ht : t = true → CW P x Q n K S) (hf : t = false → CW P y Q n K S) :
    CW P (.cond c x y) Q n K S := fun a w ha hw => wp_cond_split (ha.ev hc) (fun h => ht h a w ha hw) (fun h => hf h a w ha hw)
theorem CW_true [Inhabited (List Deferred)] {c : Operand} {x y : Code} {t : Bool} (hc : ev K c = some (.bool t)) (ht : t = true) (h : CW P x Q n K S) : CW P (.cond c x y) Q n K S :=
  CW_cond hc (fun _ => h) (fun hf => absurd (ht.symm.trans hf) (by decide))
theorem CW_false [Inhabited (List Deferred)] {c : Operand} {x y : Code} {t : Bool} (hc : ev K c = some (.bool t)) (ht : t = false) (h : CW P y Q n K S) : CW P (.cond c x y) Q n K S :=
  CW_cond hc (fun hf => absurd (ht.symm.trans hf) (by decide)) (fun _ => h)

/-- What holds at a loop's head: some state of the family, of lesser measure. -/
def Again [Inhabited (List Deferred)] {ι : Type} (n : Nat) (KI : ι → Env) (SI : ι → World → Prop) (p : ι → Prop) : Act → World → Prop := fun a w => ∃ j, p j ∧ Kn n (KI j) a ∧ SI j w

theorem CW_loop [Inhabited (List Deferred)] {ι : Type} (KI : ι → Env) (SI : ι → World → Prop) (μ : ι → Nat) (i0 : ι) {c : Code} (hk : Sub (KI i0) K) (hs : ∀ w, S w → SI i0 w)
    (round : ∀ i, CW P c (Exit.then (Again n KI SI (fun j => μ j < μ i)) Q) n (KI i) (SI i)) : CW P (.loop c) Q n K S := by
  intro a w ha hw b k cs
  have key : ∀ m i, μ i = m → ∀ a w, Kn n (KI i) a → SI i w →
      ∃ e a' w', Q e a' w' ∧ Arrives P (lone (b.at a (.code c :: .inLoop c :: k)) cs w) b k cs e a' w' := by
    intro m
    induction m using Nat.strongRecOn with
    | _ m ih =>
      intro i hm a w ha hw
      obtain ⟨e, a1, w1, hq, harr⟩ := round i a w ha hw b (.inLoop c :: k) cs
      cases e with
      | normal =>
        obtain ⟨j, hlt, hk1, hs1⟩ := hq
        obtain ⟨e2, a2, w2, hq2, harr2⟩ := ih (μ j) (hm ▸ hlt) j rfl a1 w1 hk1 hs1
        exact ⟨e2, a2, w2, hq2, .of_steps (Steps.trans harr (.one step_inLoop)) harr2⟩
      | exit id => exact ⟨_, a1, w1, hq, .pass (x := .inLoop c) rfl (fun _ _ => .inl (by simp)) harr⟩
      | goto l => exact ⟨_, a1, w1, hq, .pass (x := .inLoop c) rfl (fun _ _ => .inl (by simp)) harr⟩
      | ret => exact ⟨_, a1, w1, hq, .pass (x := .inLoop c) rfl (fun _ _ => .inl (by simp)) harr⟩
      | panic ch => exact ⟨_, a1, w1, hq, .pass (x := .inLoop c) rfl (fun _ _ => .inl (by simp)) harr⟩
      | outgrown => exact ⟨_, a1, w1, hq, .pass (x := .inLoop c) rfl (fun _ _ => .inl (by simp)) harr⟩
  obtain ⟨e, a', w', hq, harr⟩ := key _ i0 rfl a w (ha.sub hk.look) (hs w hw)
  exact ⟨e, a', w', hq, .of_steps (.one step_loop) harr⟩

/-! ### The loop's round: its ends -/
theorem EW_again [Inhabited (List Deferred)] {ι : Type} {KI : ι → Env} {SI : ι → World → Prop} {p : ι → Prop} (j : ι) (hp : p j) (hk : Sub (KI j) K) (hs : ∀ w, S w → SI j w) :
    EW .normal (Exit.then (Again n KI SI p) Q) n K S := fun _ w ha hw => ⟨j, hp, ha.sub hk.look, hs w hw⟩
theorem EW_out [Inhabited (List Deferred)] {A : Act → World → Prop} {id : Nat} (h : EW (.exit id) Q n K S) : EW (.exit id) (Exit.then A Q) n K S := fun a w ha hw => h a w ha hw
theorem EW_out_ret [Inhabited (List Deferred)] {A : Act → World → Prop} (h : EW .ret Q n K S) : EW .ret (Exit.then A Q) n K S := fun a w ha hw => h a w ha hw
theorem EW_out_panic [Inhabited (List Deferred)] {A : Act → World → Prop} {ch : List PanicEntry} (h : EW (.panic ch) Q n K S) : EW (.panic ch) (Exit.then A Q) n K S := fun a w ha hw => h a w ha hw

/-! ### Regions in the order of the text -/
theorem CW_region [Inhabited (List Deferred)] {id : Nat} {l : List Oper} (h : OW P l.toArray Q l n K S) : CW P (.region id l.toArray false) Q n K S := fun a w ha hw => wp_region_lit (h a w ha hw)
theorem OW_nil [Inhabited (List Deferred)] {ops : Array Oper} (h : EW .normal Q n K S) : OW P ops Q [] n K S := fun a w ha hw => wpList_nil (h a w ha hw)

theorem OW_q [Inhabited (List Deferred)] {ops : Array Oper} {d : Nat} {op : Op} {T : TypeId} {pos : String} {af : Array Edge} {rest : List Oper} {v : Value}
    (hq : Qt P n K S ⟨some d, op, T, pos, af, none⟩ v) (hd : Nat.blt d n = true) (h : OW P ops Q rest n ((d, v) :: K) S) :
    OW P ops Q (⟨some d, op, T, pos, af, none⟩ :: rest) n K S := by
  intro a w ha hw
  unfold wpList
  rw [if_pos (by simp [Region.wanted])]
  refine .inl ?_
  unfold Oper.wp
  rw [hq a ha w hw]
  exact h _ w (ha.put hd v) hw

theorem OW_e [Inhabited (List Deferred)] {ops : Array Oper} {d : Nat} {op : Op} {T : TypeId} {pos : String} {af : Array Edge} {rest : List Oper} {ι : Type} {V : ι → Value} {S' : ι → World → Prop}
    (he : Ef P n K S ⟨some d, op, T, pos, af, none⟩ V S') (hd : Nat.blt d n = true) (h : ∀ x, OW P ops Q rest n ((d, V x) :: K) (S' x)) :
    OW P ops Q (⟨some d, op, T, pos, af, none⟩ :: rest) n K S := by
  intro a w ha hw
  unfold wpList
  rw [if_pos (by simp [Region.wanted])]
  exact .inl (he a w ha hw _ _ fun x w' hx => h x _ w' (ha.put hd _) hx)

theorem OW_e0 [Inhabited (List Deferred)] {ops : Array Oper} {op : Op} {T : TypeId} {pos : String} {af : Array Edge} {rest : List Oper} {ι : Type} {V : ι → Value} {S' : ι → World → Prop}
    (he : Ef P n K S ⟨none, op, T, pos, af, none⟩ V S') (h : ∀ x, OW P ops Q rest n K (S' x)) :
    OW P ops Q (⟨none, op, T, pos, af, none⟩ :: rest) n K S := by
  intro a w ha hw
  unfold wpList
  rw [if_pos (by simp [Region.wanted])]
  exact .inl (he a w ha hw _ _ fun x w' hx => h x _ w' ha hx)

/-- A guarded operation: the guard's operation has left a truth in its slot. -/
theorem yielded_known [Inhabited (List Deferred)] {ops : Array Oper} {a : Act} (ha : Kn n K a) {j t : Nat} {b : Bool} (hj : ((ops[j]?).bind (·.dst)) = some t) (hb : look K t = some (.bool b)) : yielded ops a.tmps j = some b := by
  have := ha.2.2 t _ hb
  unfold yielded
  rw [hj]
  simp only [Array.getD_eq_getD_getElem?] at this
  cases h : a.tmps[t]? with
  | none => rw [h] at this; cases this
  | some u =>
    rw [h] at this
    simp only [Option.getD_some] at this
    subst this
    simp [h]

theorem yielded_undef [Inhabited (List Deferred)] {ops : Array Oper} {a : Act} (ha : Kn n K a) {j t : Nat} (hj : ((ops[j]?).bind (·.dst)) = some t) (hb : look K t = some undef) : yielded ops a.tmps j = none := by
  have := ha.2.2 t _ hb
  unfold yielded
  rw [hj]
  simp only [Array.getD_eq_getD_getElem?] at this
  cases h : a.tmps[t]? with
  | none => simp [h]
  | some u =>
    rw [h] at this
    simp only [Option.getD_some] at this
    subst this
    simp [h, undef]

theorem OW_skip [Inhabited (List Deferred)] {ops : Array Oper} {d : Nat} {op : Op} {T : TypeId} {pos : String} {af : Array Edge} {rest : List Oper} {j t : Nat} {want b : Bool}
    (hj : ((ops[j]?).bind (·.dst)) = some t) (hb : look K t = some (.bool b)) (hw : (b == want) = false) (hd : Nat.blt d n = true) (h : OW P ops Q rest n ((d, undef) :: K) S) :
    OW P ops Q (⟨some d, op, T, pos, af, some (j, want)⟩ :: rest) n K S := by
  intro a w ha hs
  unfold wpList
  rw [if_neg (by
    simp only [Region.wanted, yielded_known ha hj hb]
    simpa using hw)]
  exact h _ w (ha.put hd _) hs
theorem OW_skipU [Inhabited (List Deferred)] {ops : Array Oper} {d : Nat} {op : Op} {T : TypeId} {pos : String} {af : Array Edge} {rest : List Oper} {j t : Nat} {want : Bool}
    (hj : ((ops[j]?).bind (·.dst)) = some t) (hb : look K t = some undef) (hd : Nat.blt d n = true) (h : OW P ops Q rest n ((d, undef) :: K) S) :
    OW P ops Q (⟨some d, op, T, pos, af, some (j, want)⟩ :: rest) n K S := by
  intro a w ha hs
  unfold wpList
  rw [if_neg (by
    simp only [Region.wanted, yielded_undef ha hj hb]
    simp)]
  exact h _ w (ha.put hd _) hs

theorem OW_wanted [Inhabited (List Deferred)] {ops : Array Oper} {dst : Option Nat} {op : Op} {T : TypeId} {pos : String} {af : Array Edge} {rest : List Oper} {j t : Nat} {want b : Bool}
    (hj : ((ops[j]?).bind (·.dst)) = some t) (hb : look K t = some (.bool b)) (hw : (b == want) = true) (h : OW P ops Q (⟨dst, op, T, pos, af, none⟩ :: rest) n K S) :
    OW P ops Q (⟨dst, op, T, pos, af, some (j, want)⟩ :: rest) n K S := by
  intro a w ha hs
  have := h a w ha hs
  unfold wpList at this ⊢
  rw [if_pos (by simp [Region.wanted])] at this
  rw [if_pos (by
    simp only [Region.wanted, yielded_known ha hj hb]
    simpa using hw)]
  exact this
end
end Go.Sy
/- The calculus' memory: owned blocks as assertions that are joined apart from one another, beside blocks that nobody writes. No condition. -/
namespace Go.Sy
open Go Go.RowKit

abbrev Heap := Nat → Option Obj
abbrev HP := Heap → Prop

def Dis (h1 h2 : Heap) : Prop := ∀ b, h1 b = none ∨ h2 b = none
def uni (h1 h2 : Heap) : Heap := fun b => (h1 b).or (h2 b)
def emp0 : Heap := fun _ => none
def one (b : Nat) (o : Obj) : Heap := fun i => bif Nat.beq i b then some o else none

theorem one_same (b : Nat) (o : Obj) : one b o b = some o := by simp [one]
theorem one_other {b i : Nat} (o : Obj) (h : i ≠ b) : one b o i = none := by
  unfold one
  cases hb : Nat.beq i b with
  | true => exact absurd (Nat.eq_of_beq_eq_true hb) h
  | false => rfl

theorem Dis.symm {h1 h2 : Heap} (h : Dis h1 h2) : Dis h2 h1 := fun b => (h b).symm
theorem uni_comm {h1 h2 : Heap} (h : Dis h1 h2) : uni h1 h2 = uni h2 h1 := by
  funext b
  rcases h b with e | e <;> simp [uni, e]
theorem uni_assoc (h1 h2 h3 : Heap) : uni (uni h1 h2) h3 = uni h1 (uni h2 h3) := by
  funext b; simp [uni, Option.or_assoc]
theorem uni_emp (h : Heap) : uni h emp0 = h := by funext b; simp [uni, emp0]
theorem emp_uni (h : Heap) : uni emp0 h = h := by funext b; simp [uni, emp0]
theorem dis_emp (h : Heap) : Dis h emp0 := fun _ => .inr rfl
theorem Dis.left {h1 h2 h3 : Heap} (h : Dis (uni h1 h2) h3) : Dis h1 h3 := fun b => by
  rcases h b with e | e
  · left
    cases h' : h1 b with
    | none => rfl
    | some o => simp [uni, h'] at e
  · exact .inr e
theorem Dis.right {h1 h2 h3 : Heap} (h : Dis (uni h1 h2) h3) : Dis h2 h3 := fun b => by
  rcases h b with e | e
  · left
    cases h' : h2 b with
    | none => rfl
    | some o => cases h1' : h1 b <;> simp [uni, h', h1'] at e
  · exact .inr e
theorem Dis.join {h1 h2 h3 : Heap} (h : Dis h1 h3) (h' : Dis h2 h3) : Dis (uni h1 h2) h3 := fun b => by
  rcases h b with e | e
  · rcases h' b with e' | e'
    · left; simp [uni, e, e']
    · exact .inr e'
  · exact .inr e

/-- All of a list, apart from one another. -/
def stars : List HP → HP
  | [] => fun h => h = emp0
  | A :: L => fun h => ∃ h1 h2, Dis h1 h2 ∧ h = uni h1 h2 ∧ A h1 ∧ stars L h2

def blk (b : Nat) (o : Obj) : HP := fun h => h = one b o
/-- A row of cells. -/
abbrev cel (b : Nat) (t : TypeId) (cs : List Value) : HP := blk b (.cells cs.toArray t (0, 0))
def pure_ (p : Prop) : HP := fun h => p ∧ h = emp0

theorem stars_append (L M : List HP) (h : Heap) : stars (L ++ M) h ↔ ∃ h1 h2, Dis h1 h2 ∧ h = uni h1 h2 ∧ stars L h1 ∧ stars M h2 := by
  induction L generalizing h with
  | nil =>
    constructor
    · intro hh; exact ⟨emp0, h, (dis_emp h).symm, (emp_uni h).symm, rfl, hh⟩
    · rintro ⟨h1, h2, _, rfl, rfl, hm⟩; rw [emp_uni]; exact hm
  | cons A L ih =>
    constructor
    · rintro ⟨h1, h2, hd, rfl, hA, hL⟩
      obtain ⟨h3, h4, hd', rfl, hL, hM⟩ := (ih h2).1 hL
      refine ⟨uni h1 h3, h4, Dis.join (hd.symm.right.symm) hd', (uni_assoc _ _ _).symm, ⟨h1, h3, hd.symm.left.symm, rfl, hA, hL⟩, hM⟩
    · rintro ⟨h12, h4, hd, rfl, ⟨h1, h3, hd', rfl, hA, hL⟩, hM⟩
      refine ⟨h1, uni h3 h4, (Dis.join hd'.symm hd.left.symm).symm, uni_assoc _ _ _, hA, (ih _).2 ⟨h3, h4, hd.right, rfl, hL, hM⟩⟩

/-- One assertion of a list, and what is left; and put back as another. -/
inductive Swap : List HP → HP → HP → List HP → Prop
  | head {A A' : HP} {L : List HP} : Swap (A :: L) A A' (A' :: L)
  | tail {A A' B : HP} {L L' : List HP} : Swap L A A' L' → Swap (B :: L) A A' (B :: L')
  | big {A A' : HP} {M M' L : List HP} : Swap M A A' M' → Swap (stars M :: L) A A' (stars M' :: L)

theorem Swap.focus {L L' : List HP} {A A' : HP} (s : Swap L A A' L') : ∀ h, stars L h → ∃ h1 h2, Dis h1 h2 ∧ h = uni h1 h2 ∧ A h1 ∧ ∀ h3, Dis h3 h2 → A' h3 → stars L' (uni h3 h2) := by
  induction s with
  | head =>
    rintro h ⟨h1, h2, hd, rfl, hA, hL⟩
    exact ⟨h1, h2, hd, rfl, hA, fun h3 hd3 hA' => ⟨h3, h2, hd3, rfl, hA', hL⟩⟩
  | tail s ih =>
    rintro h ⟨h1, h2, hd, rfl, hB, hL⟩
    obtain ⟨h3, h4, hd', rfl, hA, hk⟩ := ih h2 hL
    refine ⟨h3, uni h1 h4, (Dis.join hd.symm.left.symm hd'.symm).symm, ?_, hA, fun h5 hd5 hA' => ?_⟩
    · rw [← uni_assoc, uni_comm hd.symm.left.symm, uni_assoc]
    · refine ⟨h1, uni h5 h4, (Dis.join hd5.symm.left.symm (hd.symm.right)).symm, ?_, hB, hk h5 hd5.symm.right.symm hA'⟩
      rw [← uni_assoc, uni_comm hd5.symm.left.symm, uni_assoc]
  | big s ih =>
    rintro h ⟨h1, h2, hd, rfl, hM, hL⟩
    obtain ⟨h3, h4, hd', rfl, hA, hk⟩ := ih h1 hM
    refine ⟨h3, uni h4 h2, (Dis.join hd'.symm hd.left.symm).symm, uni_assoc _ _ _, hA, fun h5 hd5 hA' => ?_⟩
    rw [← uni_assoc]
    exact ⟨uni h5 h4, h2, Dis.join hd5.symm.right.symm hd.right, rfl, hk h5 hd5.symm.left.symm hA', hL⟩

theorem Swap.idx {M : List HP} {A A' : HP} : ∀ {i : Nat}, M[i]? = some A → Swap M A A' (M.set i A') := by
  induction M with
  | nil => intro i h; simp at h
  | cons B M ih =>
    intro i h
    cases i with
    | zero => simp at h; subst h; exact .head
    | succ i => exact .tail (ih (by simpa using h))

/-- One assertion taken out. -/
inductive Pick : List HP → HP → List HP → Prop
  | head {A : HP} {L : List HP} : Pick (A :: L) A L
  | tail {A B : HP} {L L' : List HP} : Pick L A L' → Pick (B :: L) A (B :: L')

theorem Pick.stars {L L' : List HP} {A : HP} (s : Pick L A L') : ∀ h, stars L h → stars (A :: L') h := by
  induction s with
  | head => exact fun h hh => hh
  | tail s ih =>
    rintro h ⟨h1, h2, hd, rfl, hB, hL⟩
    obtain ⟨h3, h4, hd', rfl, hA, hL'⟩ := ih h2 hL
    refine ⟨h3, uni h1 h4, (Dis.join hd.symm.left.symm hd'.symm).symm, ?_, hA, h1, h4, hd.symm.right.symm, rfl, hB, hL'⟩
    rw [← uni_assoc, uni_comm hd.symm.left.symm, uni_assoc]

/-- What is known of a world: the blocks of 'R' are as in 'w0', and are there; beside them there are the assertions' blocks. -/
structure Sat (R : Nat → Prop) (w0 : World) (L : List HP) (w : World) : Prop where
  os : w.os = w0.os
  tape : w.tape = w0.tape
  output : w.output = w0.output
  size : w0.heap.size ≤ w.heap.size
  ro : ∀ b, R b → b < w0.heap.size ∧ w.heap[b]? = w0.heap[b]?
  own : ∃ h, stars L h ∧ ∀ b o, h b = some o → ¬ R b ∧ w.heap[b]? = some o

/-- All blocks that there are. -/
abbrev Old (w : World) : Nat → Prop := fun b => b < w.heap.size

theorem Sat.start (w : World) : Sat (Old w) w [] w := ⟨rfl, rfl, rfl, Nat.le_refl _, fun _ h => ⟨h, rfl⟩, emp0, rfl, fun _ _ h => by cases h⟩

theorem Sat.below {w w' : World} {L : List HP} (h : Sat (Old w) w L w') : Below w.heap.size w w' :=
  ⟨h.os, h.tape, h.output, h.size, fun k hk => (h.ro k hk).2⟩

section
variable {R : Nat → Prop} {w0 w : World} {L L' : List HP}

theorem Sat.imp_ (h : Sat R w0 L w) (f : ∀ h, stars L h → stars L' h) : Sat R w0 L' w :=
  ⟨h.os, h.tape, h.output, h.size, h.ro, let ⟨x, hx, hy⟩ := h.own; ⟨x, f x hx, hy⟩⟩

theorem Sat.pick {A : HP} (s : Pick L A L') (h : Sat R w0 L w) : Sat R w0 (A :: L') w := h.imp_ s.stars

theorem Sat.drop1 {A : HP} (h : Sat R w0 (A :: L) w) : Sat R w0 L w := by
  refine ⟨h.os, h.tape, h.output, h.size, h.ro, ?_⟩
  obtain ⟨x, ⟨h1, h2, hd, rfl, _, hL⟩, hy⟩ := h.own
  refine ⟨h2, hL, fun b o hb => hy b o ?_⟩
  rcases hd b with e | e
  · simp [uni, e, hb]
  · rw [e] at hb; cases hb

theorem Sat.drop {A : HP} (s : Pick L A L') (h : Sat R w0 L w) : Sat R w0 L' w := (h.pick s).drop1

theorem Sat.swap {A A' : HP} (s : Swap L A A' L') (hA : ∀ h, A h → A' h) (h : Sat R w0 L w) : Sat R w0 L' w :=
  h.imp_ fun x hx => by
    obtain ⟨h1, h2, hd, rfl, ha, hk⟩ := s.focus x hx
    exact hk h1 hd (hA h1 ha)

theorem Sat.drew (h : Sat R w0 L w) : Sat R w0 L w.drew := ⟨h.os, h.tape, h.output, h.size, h.ro, h.own⟩

/-- A new block. -/
theorem Sat.alloc (h : Sat R w0 L w) (o : Obj) : Sat R w0 (blk w.heap.size o :: L) (w.alloc o) := by
  obtain ⟨x, hx, hy⟩ := h.own
  have hold : ∀ b o', w.heap[b]? = some o' → (w.alloc o).heap[b]? = some o' := fun b o' hb => by
    have : b < w.heap.size := (Array.getElem?_eq_some_iff.1 hb).1
    exact (Below.heap_alloc w o b this).trans hb
  refine ⟨h.os, h.tape, h.output, Nat.le_trans h.size (by simp), fun b hb => ⟨(h.ro b hb).1, ?_⟩, uni (one w.heap.size o) x, ⟨_, x, fun b => ?_, rfl, rfl, hx⟩, fun b o' hb => ?_⟩
  · have : b < w.heap.size := Nat.lt_of_lt_of_le (h.ro b hb).1 h.size
    exact (Below.heap_alloc w o b this).trans (h.ro b hb).2
  · by_cases e : b = w.heap.size
    · right
      cases hxb : x b with
      | none => rfl
      | some o' =>
        have := (hy b o' hxb).2
        subst e
        simp at this
    · exact .inl (one_other o e)
  · by_cases e : b = w.heap.size
    · subst e
      refine ⟨fun hR => ?_, ?_⟩
      · have := (h.ro _ hR).1
        have := h.size
        omega
      · have : o = o' := by simpa [uni, one_same] using hb
        subst this
        show (w.heap.push o)[w.heap.size]? = some o
        simp
    · have hb' : x b = some o' := by simpa [uni, one_other o e] using hb
      exact ⟨(hy b o' hb').1, hold b o' (hy b o' hb').2⟩

/-- A block's content, and that it may be turned. -/
theorem Sat.block {A A' : HP} {b : Nat} {o : Obj} (s : Swap L A A' L') (hA : ∀ h, A h → h b = some o) (h : Sat R w0 L w) : w.heap[b]? = some o ∧ ¬ R b := by
  obtain ⟨x, hx, hy⟩ := h.own
  obtain ⟨h1, h2, hd, rfl, ha, _⟩ := s.focus x hx
  have := hy b o (by simp [uni, hA h1 ha])
  exact ⟨this.2, this.1⟩

/-- One block is turned. -/
theorem Sat.turn {b : Nat} {o o' : Obj} {w' : World} (s : Swap L (blk b o) (blk b o') L') (h : Sat R w0 L w) (hos : w'.os = w.os) (htape : w'.tape = w.tape) (hout : w'.output = w.output)
    (hsize : w'.heap.size = w.heap.size) (hb : w'.heap[b]? = some o') (hother : ∀ k, k ≠ b → w'.heap[k]? = w.heap[k]?) : Sat R w0 L' w' := by
  obtain ⟨x, hx, hy⟩ := h.own
  obtain ⟨h1, h2, hd, rfl, ha, hk⟩ := s.focus x hx
  have ha' : h1 = one b o := ha
  subst ha'
  have hR : ¬ R b := (hy b o (by simp [uni, one_same])).1
  have hd' : Dis (one b o') h2 := fun k => by
    by_cases e : k = b
    · subst e
      right
      rcases hd k with e | e
      · rw [one_same] at e; cases e
      · exact e
    · exact .inl (one_other _ e)
  refine ⟨hos.trans h.os, htape.trans h.tape, hout.trans h.output, by rw [hsize]; exact h.size, fun k hk' => ⟨(h.ro k hk').1, ?_⟩, uni (one b o') h2, hk _ hd' rfl, fun k o'' hk'' => ?_⟩
  · rw [hother k (fun e => hR (e ▸ hk'))]; exact (h.ro k hk').2
  · by_cases e : k = b
    · subst e
      have : o' = o'' := by simpa [uni, one_same] using hk''
      subst this
      exact ⟨hR, hb⟩
    · have h2k : h2 k = some o'' := by simpa [uni, one_other o' e] using hk''
      have := hy k o'' (by simp [uni, one_other o e, h2k])
      exact ⟨this.1, (hother k e).trans this.2⟩

/-- A store into a row. -/
theorem Sat.set_ {b : Nat} {t : TypeId} {cs : List Value} {off : Nat} {v : Value} (s : Swap L (cel b t cs) (cel b t (cs.set off v)) L') (h : Sat R w0 L w) : Sat R w0 L' (w.setCell ⟨b, off, none⟩ v) := by
  have hb : w.heap[b]? = some (.cells cs.toArray t (0, 0)) := (h.block s (fun x hx => by rw [hx]; exact one_same _ _)).1
  refine h.turn s rfl rfl rfl (by simp) ?_ (fun k hk => Below.heap_setCell w ⟨b, off, none⟩ v k hk)
  simp [World.setCell, Array.getElem?_modify, hb]

theorem Sat.cell {A' : HP} {b : Nat} {t : TypeId} {cs : List Value} (s : Swap L (cel b t cs) A' L') (h : Sat R w0 L w) (off : Nat) : w.cell? ⟨b, off, none⟩ = cs[off]? := by
  have hb : w.heap[b]? = some (.cells cs.toArray t (0, 0)) := (h.block s (fun x hx => by rw [hx]; exact one_same _ _)).1
  simp [World.cell?, hb]

theorem Sat.unfrozen {A' : HP} {b : Nat} {t : TypeId} {cs : List Value} (s : Swap L (cel b t cs) A' L') (h : Sat R w0 L w) (off : Nat) : w.frozen? ⟨b, off, none⟩ = false := by
  have hb : w.heap[b]? = some (.cells cs.toArray t (0, 0)) := (h.block s (fun x hx => by rw [hx]; exact one_same _ _)).1
  simp [World.frozen?, hb]

/-! ### What may be read: cells of blocks that nobody writes -/
/-- A cell of a world. -/
abbrev Cl (w : World) : Addr → Value → Prop := fun a v => w.cell? a = some v
/-- A cell of a block that nobody writes. -/
def Rd (R : Nat → Prop) (w0 : World) : Addr → Value → Prop := fun a v => R a.block ∧ w0.cell? a = some v

theorem Rd.old {w : World} {a : Addr} {v : Value} (h : Cl w a v) : Rd (Old w) w a v := ⟨World.block_lt_of_cell? w a h, h⟩
theorem Sat.rd (h : Sat R w0 L w) {a : Addr} {v : Value} (hr : Rd R w0 a v) : w.cell? a = some v :=
  (World.cell?_of_block (h.ro _ hr.1).2).trans hr.2

/-- From a look at the whole world back to what was known before: what was owned stays so, beside what is new. -/
theorem Sat.back {w' : World} {M : List HP} (h : Sat R w0 L w) (h' : Sat (Old w) w M w') : Sat R w0 (M ++ L) w' := by
  obtain ⟨x, hx, hy⟩ := h.own
  obtain ⟨y, hm, hz⟩ := h'.own
  refine ⟨h'.os.trans h.os, h'.tape.trans h.tape, h'.output.trans h.output, Nat.le_trans h.size h'.size, fun b hb => ⟨(h.ro b hb).1, ?_⟩, uni y x, (stars_append M L _).2 ⟨y, x, fun b => ?_, rfl, hm, hx⟩, fun b o hb => ?_⟩
  · exact (h'.ro b (Nat.lt_of_lt_of_le (h.ro b hb).1 h.size)).2.trans (h.ro b hb).2
  · cases hyb : y b with
    | none => exact .inl rfl
    | some o =>
      right
      cases hxb : x b with
      | none => rfl
      | some o' => exact absurd (Array.getElem?_eq_some_iff.1 (hy b o' hxb).2).1 (hz b o hyb).1
  · cases hyb : y b with
    | some o' =>
      have : o' = o := by simpa [uni, hyb] using hb
      subst this
      exact ⟨fun hR => (hz b o' hyb).1 (Nat.lt_of_lt_of_le (h.ro b hR).1 h.size), (hz b o' hyb).2⟩
    | none =>
      have hxb : x b = some o := by simpa [uni, hyb] using hb
      have hlt := (Array.getElem?_eq_some_iff.1 (hy b o hxb).2).1
      exact ⟨(hy b o hxb).1, (h'.ro b hlt).2.trans (hy b o hxb).2⟩

end
end Go.Sy
/- The calculus' rules for operations that leave the world as it is. No condition. -/
namespace Go.Sy
open Go Go.RowKit

section
variable {P : Program} {n : Nat} {K : Env} {C : World → Prop} {dst : Option Nat} {T : TypeId} {pos : String} {af : Array Edge} {g : Option (Nat × Bool)}

theorem q_move [Inhabited (List Deferred)] {x : Operand} {v : Value} (hx : ev K x = some v) : Qt P n K C ⟨dst, .move x, T, pos, af, g⟩ v := fun a ha w _ => by
  simp only [execOp, ha.ev hx, Sem.run_pure]
theorem q_assign [Inhabited (List Deferred)] {x : Operand} {v : Value} (hx : ev K x = some v) : Qt P n K C ⟨dst, .assign x, T, pos, af, g⟩ v := fun a ha w _ => by
  simp only [execOp, ha.ev hx, Sem.run_pure]
theorem q_pick_t [Inhabited (List Deferred)] {c x y : Operand} {v : Value} (hc : ev K c = some (.bool true)) (hx : ev K x = some v) : Qt P n K C ⟨dst, .pick c x y, T, pos, af, g⟩ v := fun a ha w _ => by
  simp [execOp, ha.ev hc, ha.ev hx, asBool]
theorem q_pick_f [Inhabited (List Deferred)] {c x y : Operand} {v : Value} (hc : ev K c = some (.bool false)) (hy : ev K y = some v) : Qt P n K C ⟨dst, .pick c x y, T, pos, af, g⟩ v := fun a ha w _ => by
  simp [execOp, ha.ev hc, ha.ev hy, asBool]
theorem q_not [Inhabited (List Deferred)] {t : TypeId} {x : Operand} {b : Bool} (hx : ev K x = some (.bool b)) : Qt P n K C ⟨dst, .unOp .not t x, T, pos, af, g⟩ (.bool (!b)) := fun a ha w _ => by
  simp [execOp, ha.ev hx, Op.unary]
theorem q_extract [Inhabited (List Deferred)] {t : Operand} {i : Nat} {vs : Array Value} {v : Value} (hx : ev K t = some (.tuple vs)) (hv : vs[i]? = some v) : Qt P n K C ⟨dst, .extract t i, T, pos, af, g⟩ v := fun a ha w _ => by
  simp [execOp, ha.ev hx, Instr.extract, hv]

theorem q_load1 [Inhabited (List Deferred)] {t : TypeId} {x : Operand} {p : Addr} {v : Value} (hA : ∀ w, (isAgg t).run P w = .ok false w) (hx : ev K x = some (.pointer (some p))) (hc : ∀ w, C w → w.cell? p = some v) :
    Qt P n K C ⟨dst, .load t x, T, pos, af, g⟩ v := fun a ha w hw => by
  simp [execOp, ha.ev hx, Instr.loadAt, Instr.sureAddr, loadVar, hA, hc w hw]
theorem q_loadN [Inhabited (List Deferred)] {t : TypeId} {x : Operand} {p : Addr} {m : Nat} {vs : List Value} (hA : ∀ w, (isAgg t).run P w = .ok true w) (hs : ∀ w, (sizeOf t).run P w = .ok m w) (hx : ev K x = some (.pointer (some p)))
    (hl : vs.length = m) (hc : ∀ w, C w → ∀ j u, vs[j]? = some u → w.cell? (p.add j) = some u) : Qt P n K C ⟨dst, .load t x, T, pos, af, g⟩ (.agg vs.toArray) := fun a ha w hw => by
  subst hl
  have := run_loadCells_list (P := P) w p vs (hc w hw)
  simp [execOp, ha.ev hx, Instr.loadAt, Instr.sureAddr, loadVar, hA, hs, this]

theorem q_fieldAddr [Inhabited (List Deferred)] {s : TypeId} {x : Operand} {f : Nat} {p : Addr} {fs : Array Field} {fd : Field} {m off : Nat} (hu : P.underlying s = some (.struct fs)) (hf : fs[f]? = some fd) (ho : fd.offset = off)
    (hs : ∀ w, (sizeOf fd.type).run P w = .ok m w) (hm : Nat.beq m 0 = false) (hx : ev K x = some (.pointer (some p))) :
    Qt P n K C ⟨dst, .fieldAddr s x f, T, pos, af, g⟩ (.pointer (some (p.add off))) := fun a ha w _ => by
  subst ho
  have hm' : m ≠ 0 := Nat.ne_of_beq_eq_false hm
  simp [execOp, ha.ev hx, Instr.fieldAt, Instr.sureAddr, run_underlying hu, hf, fieldPlace, hs, hm']

theorem q_indexAddr [Inhabited (List Deferred)] {t e : TypeId} {x ix : Operand} {p : Addr} {len cap m i : Nat} (hu : P.underlying t = some (.slice e)) (hs : ∀ w, (sizeOf e).run P w = .ok m w)
    (hx : ev K x = some (.slice (some p) len cap)) (hi : ev K ix = some (.int .i64 (i : Int))) (h1 : i < len) :
    Qt P n K C ⟨dst, .indexAddr t x ix, T, pos, af, g⟩ (.pointer (some (p.add (i * m)))) := fun a ha w _ => by
  have h1' : ¬ len ≤ i := by omega
  simp [execOp, ha.ev hx, ha.ev hi, Instr.indexAt, asIntOf, run_underlying hu, h1, hs]

theorem q_len [Inhabited (List Deferred)] {t e : TypeId} {x : Operand} {p : Option Addr} {len cap : Nat} (hu : P.underlying t = some (.slice e)) (hx : ev K x = some (.slice p len cap)) :
    Qt P n K C ⟨dst, .call { callee := .builtin .len, args := #[x], argTypes := #[t] }, T, pos, af, g⟩ (.int .i64 (len : Int)) := fun a ha w _ => by
  simp [execOp, resolve, invoke, builtin, ha.ev hx, Builtin.len_, run_underlying hu, goInt]

theorem q_lss [Inhabited (List Deferred)] {t t' : TypeId} {x y : Operand} {k : IntKind} {a b : Int} (hx : ev K x = some (.int k a)) (hy : ev K y = some (.int k b)) :
    Qt P n K C ⟨dst, .binOp .lss t x y t', T, pos, af, g⟩ (.bool (decide (a < b))) := fun c ha w _ => by
  simp only [execOp, ha.ev hx, ha.ev hy]
  simp [go_sem]
theorem q_leq [Inhabited (List Deferred)] {t t' : TypeId} {x y : Operand} {k : IntKind} {a b : Int} (hx : ev K x = some (.int k a)) (hy : ev K y = some (.int k b)) :
    Qt P n K C ⟨dst, .binOp .leq t x y t', T, pos, af, g⟩ (.bool (decide (a ≤ b))) := fun c ha w _ => by
  simp only [execOp, ha.ev hx, ha.ev hy]
  simp [go_sem]
theorem q_gtr [Inhabited (List Deferred)] {t t' : TypeId} {x y : Operand} {k : IntKind} {a b : Int} (hx : ev K x = some (.int k a)) (hy : ev K y = some (.int k b)) :
    Qt P n K C ⟨dst, .binOp .gtr t x y t', T, pos, af, g⟩ (.bool (decide (b < a))) := fun c ha w _ => by
  simp only [execOp, ha.ev hx, ha.ev hy]
  simp [go_sem]
theorem q_geq [Inhabited (List Deferred)] {t t' : TypeId} {x y : Operand} {k : IntKind} {a b : Int} (hx : ev K x = some (.int k a)) (hy : ev K y = some (.int k b)) :
    Qt P n K C ⟨dst, .binOp .geq t x y t', T, pos, af, g⟩ (.bool (decide (b ≤ a))) := fun c ha w _ => by
  simp only [execOp, ha.ev hx, ha.ev hy]
  simp [go_sem]
theorem q_add [Inhabited (List Deferred)] {t t' : TypeId} {x y : Operand} {a b : Int} (hx : ev K x = some (.int .i64 a)) (hy : ev K y = some (.int .i64 b)) (h0 : -9223372036854775808 ≤ a + b) (h1 : a + b ≤ 9223372036854775807) :
    Qt P n K C ⟨dst, .binOp .add t x y t', T, pos, af, g⟩ (.int .i64 (a + b)) := fun c ha w _ => by
  have e : IntKind.i64.wrap (a + b) = a + b := by rw [IntKind.wrap_i64]; omega
  simp only [execOp, ha.ev hx, ha.ev hy]
  simp [go_sem, Op.intArith, e]
theorem q_sub [Inhabited (List Deferred)] {t t' : TypeId} {x y : Operand} {a b : Int} (hx : ev K x = some (.int .i64 a)) (hy : ev K y = some (.int .i64 b)) (h0 : -9223372036854775808 ≤ a - b) (h1 : a - b ≤ 9223372036854775807) :
    Qt P n K C ⟨dst, .binOp .sub t x y t', T, pos, af, g⟩ (.int .i64 (a - b)) := fun c ha w _ => by
  have e : IntKind.i64.wrap (a - b) = a - b := by rw [IntKind.wrap_i64]; omega
  simp only [execOp, ha.ev hx, ha.ev hy]
  simp [go_sem, Op.intArith, e]
/-- A counter goes on by a number. -/
theorem q_inc [Inhabited (List Deferred)] {t t' : TypeId} {x y : Operand} {a b : Nat} (hx : ev K x = some (.int .i64 (a : Int))) (hy : ev K y = some (.int .i64 (b : Int))) (h1 : a + b ≤ 9223372036854775807) :
    Qt P n K C ⟨dst, .binOp .add t x y t', T, pos, af, g⟩ (.int .i64 ((a + b : Nat) : Int)) := by
  rw [Int.natCast_add]
  exact q_add hx hy (by omega) (by omega)
theorem q_eqi [Inhabited (List Deferred)] {t t' : TypeId} {x y : Operand} {k : IntKind} {a b : Int} (hx : ev K x = some (.int k a)) (hy : ev K y = some (.int k b)) :
    Qt P n K C ⟨dst, .binOp .eql t x y t', T, pos, af, g⟩ (.bool (a == b)) := fun c ha w _ => by
  simp only [execOp, ha.ev hx, ha.ev hy]
  simp [go_sem, binOp]
theorem q_nei [Inhabited (List Deferred)] {t t' : TypeId} {x y : Operand} {k : IntKind} {a b : Int} (hx : ev K x = some (.int k a)) (hy : ev K y = some (.int k b)) :
    Qt P n K C ⟨dst, .binOp .neq t x y t', T, pos, af, g⟩ (.bool (a != b)) := fun c ha w _ => by
  simp only [execOp, ha.ev hx, ha.ev hy]
  simp [go_sem, binOp, bne]
theorem q_makeFunc [Inhabited (List Deferred)] {f : FuncId} {first captured : Array Operand} {vs us : Array Value} (h1 : first.mapM (ev K) = some vs) (h2 : captured.mapM (ev K) = some us) :
    Qt P n K C ⟨dst, .makeFunc (.func f) first captured, T, pos, af, g⟩ (.func (.func f) vs us) := fun a ha w _ => by
  have key : ∀ (l : Array Operand) (r : Array Value), l.mapM (ev K) = some r → l.map a.eval = r := by
    intro l r h
    have h' : l.toList.mapM (ev K) = some r.toList := by
      rw [← Array.toList_mapM] 
      simp [h]
    have : ∀ (l : List Operand) (r : List Value), l.mapM (ev K) = some r → l.map a.eval = r := by
      intro l
      induction l with
      | nil => intro r h; simp at h; simp [h]
      | cons x l ih =>
        intro r h
        simp only [List.mapM_cons, Option.bind_eq_bind, Option.bind_eq_some_iff, Option.pure_def, Option.some.injEq] at h
        obtain ⟨v, hv, r', hr', rfl⟩ := h
        simp [ha.ev hv, ih r' hr']
    apply Array.ext'
    simpa using this _ _ h'
  simp [execOp, Instr.makeFunc, key _ _ h1, key _ _ h2]

theorem q_slice [Inhabited (List Deferred)] {t e : TypeId} {x : Operand} {lo hi : Option Operand} {p : Option Addr} {len cap l h m : Nat} (hu : P.underlying t = some (.slice e)) (hs : ∀ w, (sizeOf e).run P w = .ok m w)
    (hx : ev K x = some (.slice p len cap))
    (hl : (lo = none ∧ l = 0) ∨ ∃ o, lo = some o ∧ ev K o = some (.int .i64 (l : Int))) (hh : (hi = none ∧ h = len) ∨ ∃ o, hi = some o ∧ ev K o = some (.int .i64 (h : Int))) (h1 : l ≤ h) (h2 : h ≤ cap) (h3 : len ≤ cap) :
    Qt P n K C ⟨dst, .slice t x lo hi none, T, pos, af, g⟩ (.slice (if cap = l then p else p.map (·.add (l * m))) (h - l) (cap - l)) := fun a ha w _ => by
  have e1 : ((l : Int) ≤ (h : Int)) := by omega
  have e2 : ((h : Int) ≤ (cap : Int)) := by omega
  rcases hl with ⟨rfl, rfl⟩ | ⟨o, rfl, ho⟩ <;> rcases hh with ⟨rfl, rfl⟩ | ⟨o', rfl, ho'⟩ <;>
    simp_all [execOp, ha.ev hx, Instr.sliceAt, Instr.slice, Instr.sliceBounds, Instr.sliceBound, asIntOf, run_underlying hu, Kn.ev ha]
end
end Go.Sy
/- The calculus' rules for operations that turn the world, for calls, and for a function's beginning and end. No condition. -/
namespace Go.Sy
open Go Go.RowKit

def evs (K : Env) : List Operand → Option (List Value)
  | [] => some []
  | x :: l => match ev K x, evs K l with
    | some v, some vs => some (v :: vs)
    | _, _ => none

theorem Kn.evs [Inhabited (List Deferred)] {n : Nat} {K : Env} {a : Act} (h : Kn n K a) : ∀ {l : List Operand} {vs : List Value}, evs K l = some vs → l.map a.eval = vs := by
  intro l
  induction l with
  | nil => intro vs hv; simp only [Sy.evs, Option.some.injEq] at hv; subst hv; rfl
  | cons x l ih =>
    intro vs hv
    unfold Sy.evs at hv
    split at hv
    · rename_i v us h1 h2
      simp only [Option.some.injEq] at hv
      subst hv
      simp [h.ev h1, ih h2]
    · cases hv

/-- A list with one cell set, reckoned out. -/
def setL : List Value → Nat → Value → Option (List Value)
  | [], _, _ => none
  | _ :: cs, 0, v => some (v :: cs)
  | c :: cs, i + 1, v => match setL cs i v with
    | some cs' => some (c :: cs')
    | none => none
theorem setL_spec : ∀ {cs : List Value} {i : Nat} {v : Value} {cs' : List Value}, setL cs i v = some cs' → i < cs.length ∧ cs' = cs.set i v
  | [], _, _, _, h => by cases h
  | _ :: cs, 0, v, cs', h => by simp only [setL, Option.some.injEq] at h; subst h; exact ⟨by simp, rfl⟩
  | c :: cs, i + 1, v, cs', h => by
    unfold setL at h
    split at h
    · rename_i x hx
      simp only [Option.some.injEq] at h
      subst h
      obtain ⟨h1, h2⟩ := setL_spec hx
      exact ⟨by simp; omega, by rw [h2]; rfl⟩
    · cases h

/-- A row of the function's own that may be nil, with room behind it. -/
def row (e : TypeId) (size : Nat) (v : Value) (n : Nat) (xs : List Value) : HP := fun h =>
  xs.length = n * size ∧ n ≤ maxLen ∧ ((v = .slice none 0 0 ∧ n = 0 ∧ h = emp0) ∨
    ∃ g cap rest, v = .slice (some ⟨g, 0, none⟩) n cap ∧ n ≤ cap ∧ cap ≤ maxLen ∧ (xs ++ rest).length = cap * size ∧ h = one g (.cells (xs ++ rest).toArray e (0, 0)))

theorem row_of_cel {e : TypeId} {size g n : Nat} {xs : List Value} (hl : xs.length = n * size) (hn : n ≤ maxLen) : ∀ h, cel g e xs h → row e size (.slice (some ⟨g, 0, none⟩) n n) n xs h :=
  fun h hh => ⟨hl, hn, .inr ⟨g, n, [], rfl, Nat.le_refl _, hn, by simpa using hl, by rw [List.append_nil]; exact hh⟩⟩

theorem row_form {e : TypeId} {size n : Nat} {v : Value} {xs : List Value} {h : Heap} (hr : row e size v n xs h) : ∃ p c, v = .slice p n c ∧ n ≤ c ∧ c ≤ maxLen := by
  obtain ⟨_, hm, ⟨rfl, rfl, _⟩ | ⟨g, cap, rest, rfl, h1, h2, _, _⟩⟩ := hr
  · exact ⟨none, 0, rfl, Nat.le_refl _, by simp [maxLen]⟩
  · exact ⟨_, cap, rfl, h1, h2⟩

section
variable {R : Nat → Prop} {w0 w : World} {L L' : List HP}

theorem Sat.addEmp {A : HP} (hA : A emp0) (h : Sat R w0 L w) : Sat R w0 (A :: L) w :=
  h.imp_ fun x hx => ⟨emp0, x, (dis_emp x).symm, (emp_uni x).symm, hA, hx⟩

/-- A nil row costs nothing. -/
theorem Sat.rowNil (e : TypeId) (size : Nat) (h : Sat R w0 L w) : Sat R w0 (row e size (.slice none 0 0) 0 [] :: L) w :=
  h.addEmp ⟨by simp, by simp [maxLen], .inl ⟨rfl, rfl, rfl⟩⟩

theorem Sat.cells_row {e : TypeId} {size n : Nat} {v : Value} {xs : List Value} {A' : HP} (s : Swap L (row e size v n xs) A' L') (h : Sat R w0 L w) {g len cap : Nat} (hv : v = .slice (some ⟨g, 0, none⟩) len cap) :
    ∀ j u, xs[j]? = some u → w.cell? ⟨g, j, none⟩ = some u := by
  obtain ⟨x, hx, hy⟩ := h.own
  obtain ⟨h1, h2, hd, rfl, ⟨_, _, ha⟩, _⟩ := s.focus x hx
  subst hv
  rcases ha with ⟨h0, _⟩ | ⟨g', cap', rest, he, _, _, _, rfl⟩
  · cases h0
  · injection he with he1 _ _
    have hg : g = g' := by injection he1 with e; injection e
    subst hg
    intro j u hj
    have := (hy g _ (by simp [uni, one_same]; rfl)).2
    have hlt : j < xs.length := (List.getElem?_eq_some_iff.1 hj).1
    simp [World.cell?, this, List.getElem?_append_left hlt, hj]

theorem Sat.rowForm {e : TypeId} {size n : Nat} {v : Value} {xs : List Value} {A' : HP} (s : Swap L (row e size v n xs) A' L') (h : Sat R w0 L w) :
    (v = .slice none 0 0 ∧ n = 0 ∧ xs = []) ∨ ∃ g cap, v = .slice (some ⟨g, 0, none⟩) n cap ∧ n ≤ cap ∧ cap ≤ maxLen ∧ xs.length = n * size ∧ ∀ j u, xs[j]? = some u → w.cell? ⟨g, j, none⟩ = some u := by
  have hc := fun (g len cap : Nat) (hv : v = .slice (some ⟨g, 0, none⟩) len cap) => h.cells_row s hv
  obtain ⟨x, hx, hy⟩ := h.own
  obtain ⟨h1, h2, hd, rfl, ⟨hl, _, ha⟩, _⟩ := s.focus x hx
  rcases ha with ⟨rfl, rfl, _⟩ | ⟨g, cap, rest, rfl, h1, h2, _, _⟩
  · exact .inl ⟨rfl, rfl, List.eq_nil_of_length_eq_zero (by simpa using hl)⟩
  · exact .inr ⟨g, cap, rfl, h1, h2, hl, hc g n cap rfl⟩

/-- A store into a row's element. -/
theorem Sat.setRow_ {e : TypeId} {size n : Nat} {v u : Value} {xs : List Value} {g len cap j : Nat} (s : Swap L (row e size v n xs) (row e size v n (xs.set j u)) L') (h : Sat R w0 L w) (hv : v = .slice (some ⟨g, 0, none⟩) len cap) (hj : j < xs.length) :
    Sat R w0 L' (w.setCell ⟨g, j, none⟩ u) := by
  obtain ⟨x, hx, hy⟩ := h.own
  obtain ⟨h1, h2, hd, rfl, ⟨hl, hm, ha⟩, hk⟩ := s.focus x hx
  subst hv
  rcases ha with ⟨h0, _⟩ | ⟨g', cap', rest, he, h3, h4, h5, rfl⟩
  · cases h0
  · have hg : g = g' := by injection he with e1 _ _; injection e1 with e; injection e
    subst hg
    have hb := (hy g _ (by simp [uni, one_same]; rfl))
    have hd' : Dis (one g (.cells (xs.set j u ++ rest).toArray e (0, 0))) h2 := fun k => by
      by_cases e : k = g
      · subst e
        right
        rcases hd k with e | e
        · rw [one_same] at e; cases e
        · exact e
      · exact .inl (one_other _ e)
    have hset : (xs ++ rest).set j u = xs.set j u ++ rest := List.set_append_left _ _ hj
    refine ⟨h.os, h.tape, h.output, by simpa using h.size, fun k hk' => ⟨(h.ro k hk').1, ?_⟩, _, hk _ hd' ⟨by simpa using hl, hm, .inr ⟨g, cap', rest, he, h3, h4, by simpa using h5, rfl⟩⟩, fun k o hk'' => ?_⟩
    · rw [Below.heap_setCell w ⟨g, j, none⟩ u k (fun e => hb.1 (by have e' : k = g := e; rw [← e']; exact hk'))]; exact (h.ro k hk').2
    · by_cases e : k = g
      · subst e
        have : Obj.cells (xs.set j u ++ rest).toArray e (0, 0) = o := by simpa [uni, one_same] using hk''
        subst this
        refine ⟨hb.1, ?_⟩
        simp [World.setCell, Array.getElem?_modify, hb.2, ← hset]
      · have h2k : h2 k = some o := by simpa [uni, one_other _ e] using hk''
        have := hy k o (by simp [uni, one_other _ e, h2k])
        exact ⟨this.1, (Below.heap_setCell w ⟨g, j, none⟩ u k e).trans this.2⟩

theorem Sat.rowUnfrozen {e : TypeId} {size n : Nat} {v : Value} {xs : List Value} {A' : HP} (s : Swap L (row e size v n xs) A' L') (h : Sat R w0 L w) {g len cap : Nat} (hv : v = .slice (some ⟨g, 0, none⟩) len cap) (j : Nat) : w.frozen? ⟨g, j, none⟩ = false := by
  obtain ⟨x, hx, hy⟩ := h.own
  obtain ⟨h1, h2, hd, rfl, ⟨_, _, ha⟩, _⟩ := s.focus x hx
  subst hv
  rcases ha with ⟨h0, _⟩ | ⟨g', cap', rest, he, _, _, _, rfl⟩
  · cases h0
  · have hg : g = g' := by injection he with e1 _ _; injection e1 with e; injection e
    subst hg
    have := (hy g _ (by simp [uni, one_same]; rfl)).2
    simp [World.frozen?, this]
end

section
variable {P : Program} {n : Nat} {K : Env} {dst : Option Nat} {T : TypeId} {pos : String} {af : Array Edge} {g : Option (Nat × Bool)} {R : Nat → Prop} {w0 : World} {L L' : List HP}

theorem e_box [Inhabited (List Deferred)] {e : TypeId} {x : Operand} {v : Value} {cs : List Value} (hx : ev K x = some v) (hc : v.cells.toList = cs) :
    Ef P n K (Sat R w0 L) ⟨dst, .box e x, T, pos, af, g⟩ (fun b : Nat => .pointer (some ⟨b, 0, none⟩)) (fun b => Sat R w0 (cel b e cs :: L)) := by
  intro a w ha hw next Q h
  subst hc
  have := h w.heap.size (w.alloc (.cells v.cells e)) (hw.alloc _)
  simpa [Oper.wp, execOp, ha.ev hx, Instr.box, newVar, newRow, Oper.upon] using this

theorem e_alloc [Inhabited (List Deferred)] {e : TypeId} {z : Value} {cs : List Value} (hz : ∀ w, (zeroValue e).run P w = .ok z w) (hc : z.cells.toList = cs) :
    Ef P n K (Sat R w0 L) ⟨dst, .alloc e, T, pos, af, g⟩ (fun b : Nat => .pointer (some ⟨b, 0, none⟩)) (fun b => Sat R w0 (cel b e cs :: L)) := by
  intro a w _ hw next Q h
  subst hc
  have := h w.heap.size (w.alloc (.cells z.cells e)) (hw.alloc _)
  simpa [Oper.wp, execOp, Instr.alloc, hz, newVar, newRow, Oper.upon] using this

/-- A store of one cell, known to be there and not frozen: whatever it leads to. -/
theorem e_store_any [Inhabited (List Deferred)] {S : World → Prop} {S' : World → Prop} {t : TypeId} {x y : Operand} {p : Addr} {v : Value} (hs : ∀ w, (sizeOf t).run P w = .ok 1 w) (hx : ev K x = some (.pointer (some p))) (hy : ev K y = some v) (hv : v.oneCell' = true)
    (hc : ∀ w, S w → (∃ u, w.cell? p = some u) ∧ w.frozen? p = false ∧ S' (w.setCell p v)) :
    Ef P n K S ⟨dst, .store t x y, T, pos, af, g⟩ (fun _ : Unit => undef) (fun _ => S') := by
  intro a w ha hw next Q h
  obtain ⟨⟨u, hu⟩, hf, hS⟩ := hc w hw
  have hcells : v.cells = #[v] := by cases v <;> first | rfl | cases hv
  have := h () _ hS
  have hst : (store p v).run P w = .ok () (w.setCell p v) := by
    rw [run_store P w p v _ hv]; simp [hu, hf]
  simpa [Oper.wp, execOp, ha.ev hx, ha.ev hy, Instr.storeAt, Instr.sureAddr, storeVar, hcells, hs, storeCells, Addr.add, hst, Oper.upon] using this

theorem e_store [Inhabited (List Deferred)] {t e : TypeId} {x y : Operand} {b off : Nat} {p : Addr} {cs cs' : List Value} {v : Value} (hs : ∀ w, (sizeOf t).run P w = .ok 1 w) (hx : ev K x = some (.pointer (some p))) (hp : p = ⟨b, off, none⟩) (hy : ev K y = some v) (hv : v.oneCell' = true)
    (s : Swap L (cel b e cs) (cel b e cs') L') (hset : setL cs off v = some cs') :
    Ef P n K (Sat R w0 L) ⟨dst, .store t x y, T, pos, af, g⟩ (fun _ : Unit => undef) (fun _ => Sat R w0 L') := by
  subst hp
  obtain ⟨hl', rfl⟩ := setL_spec hset
  exact e_store_any hs hx hy hv fun w hw => ⟨⟨cs[off], by rw [hw.cell s off]; exact List.getElem?_eq_getElem hl'⟩, hw.unfrozen s off, hw.set_ s⟩

/-- A store of a whole struct over a block. -/
theorem e_storeN [Inhabited (List Deferred)] {t e : TypeId} {x y : Operand} {b m : Nat} {p : Addr} {cs vs : List Value} (hs : ∀ w, (sizeOf t).run P w = .ok m w) (hx : ev K x = some (.pointer (some p))) (hp : p = ⟨b, 0, none⟩) (hy : ev K y = some (.agg vs.toArray)) (hm : vs.length = m)
    (hv : ∀ v ∈ vs, v.oneCell' = true) (s : Swap L (cel b e cs) (cel b e vs) L') (hc : cs.length = m) :
    Ef P n K (Sat R w0 L) ⟨dst, .store t x y, T, pos, af, g⟩ (fun _ : Unit => undef) (fun _ => Sat R w0 L') := by
  subst hp
  intro a w ha hw next Q h
  have hb : w.heap[b]? = some (.cells cs.toArray e (0, 0)) := (hw.block s (fun x hx => by rw [hx]; exact one_same _ _)).1
  have hst := run_storeCells_from (P := P) b e vs 0 cs.toArray w hb (by simp [hm, hc]) hv
  have := h () (w.setRow b vs.toArray) (hw.turn s rfl rfl rfl (by simp [World.setRow]) (setRow_heap w b _ _ e _ hb) (fun k hk => setRow_other w b k _ hk))
  simp only [List.take_zero, List.nil_append] at hst
  simp [Oper.wp, execOp, ha.ev hx, ha.ev hy, Instr.storeAt, Instr.sureAddr, storeVar, Value.cells, hs, hm, Oper.upon]
  rw [hst]
  simpa using this
end
end Go.Sy
/- The calculus' rules for slices that are made, for calls, and for a function's beginning and end. No condition. -/
namespace Go.Sy
open Go Go.RowKit

theorem madeCells_one (z : Value) (m : Nat) : madeCells #[z] m = (List.replicate m z).toArray := by
  apply Array.ext
  · simp [madeCells]
  · intro i h1 h2
    simp [madeCells, Nat.mod_one]

section
variable {P : Program} {n : Nat} {K : Env} {dst : Option Nat} {T : TypeId} {pos : String} {af : Array Edge} {g : Option (Nat × Bool)} {R : Nat → Prop} {w0 : World} {L L' : List HP} {Q : Exit → Act → World → Prop} {S : World → Prop}

theorem info_of (P : Program) {e : TypeId} {i : TypeInfo} (h : ∀ w, (typeInfo e).run P w = .ok i w) (w : World) : P.info? e = some i := by
  have := h w
  unfold typeInfo at this
  simp only [Sem.run_bind, run_program, Result.andThen_ok] at this
  cases hi : P.info? e with
  | none => rw [hi] at this; simp only [run_stuck] at this; cases this
  | some j => rw [hi] at this; simp only [Sem.run_pure, Result.ok.injEq, and_true] at this; rw [this]

/-- make([]T, m), elements of one cell. -/
theorem e_make [Inhabited (List Deferred)] {t e : TypeId} {x y : Operand} {m : Nat} {i : TypeInfo} {z : Value} (hu : P.underlying t = some (.slice e)) (hi : ∀ w, (typeInfo e).run P w = .ok i w) (hz : i.zero = some z) (hz1 : z.cells = #[z]) (hsz : i.size = 1) (hby : i.bytes ≤ 32)
    (hx : ev K x = some (.int .i64 (m : Int))) (hy : ev K y = some (.int .i64 (m : Int))) (hm : m ≤ 1000000) :
    Ef P n K (Sat R w0 L) ⟨dst, .makeSlice t x y, T, pos, af, g⟩ (fun b : Nat => .slice (some ⟨b, 0, none⟩) m m) (fun b => Sat R w0 (cel b e (List.replicate m z) :: L)) := by
  intro a w ha hw next Q h
  have hr := run_make (P := P) w t e i z hu (info_of P hi w) hz .i64 .i64 (m : Int) (m : Int) (by omega) (by omega)
    (by have h1 : i.bytes * m ≤ 32 * 1000000 := Nat.mul_le_mul hby hm
        have h2 : ((i.bytes * m : Nat) : Int) ≤ 32000000 := Int.ofNat_le.2 h1
        rw [Int.natCast_mul] at h2
        omega) (by omega)
  simp only [Int.toNat_natCast, hz1, hsz, Nat.mul_one, madeCells_one] at hr
  have := h w.heap.size _ (hw.alloc (.cells (List.replicate m z).toArray e (0, 0)))
  simp only [Oper.wp, execOp, ha.ev hx, ha.ev hy, Sem.run_bind, hr, Result.andThen_ok, Sem.run_pure, Oper.upon]
  exact this

/-- []T{x, ..}: what the cells are is reckoned by the model's own 'fill'. -/
theorem e_buildSlice [Inhabited (List Deferred)] {t : TypeId} {e : TypeId} {m sz : Nat} {parts : Array (Nat × Operand)} {ps : List (Nat × Value)} {z : Value} {cs : Array Value} (hu : P.underlying t = some (.slice e)) (hs : ∀ w, (sizeOf e).run P w = .ok sz w) (hz : ∀ w, (zeroValue e).run P w = .ok z w)
    (hps : ∀ a, Kn n K a → (parts.map fun (i, x) => (i, a.eval x)).toList = ps) (hm : m * sz ≠ 0) (hm2 : m * sz ≤ 1000)
    (hf : Instr.fill (fun i => some (i * sz, sz)) ((Array.range (m * sz)).map (z.cells[· % z.cells.size]!)) ps = some cs) :
    Ef P n K (Sat R w0 L) ⟨dst, .buildSlice t m parts, T, pos, af, g⟩ (fun b : Nat => .slice (some ⟨b, 0, none⟩) m m) (fun b => Sat R w0 (cel b e cs.toList :: L)) := by
  intro a w ha hw next Q h
  have := h w.heap.size _ (hw.alloc (.cells cs.toList.toArray e (0, 0)))
  have hm3 : ¬ 16777216 < m * sz := by omega
  have hp := hps a ha
  simp only [Array.toArray_toList] at this
  simp only [Oper.wp, execOp]
  generalize (parts.map fun (i, x) => (i, a.eval x)) = pv at hp ⊢
  have hr : (Instr.buildSlice t m pv).run P w = .ok (.slice (some ⟨w.heap.size, 0, none⟩) m m) (w.alloc (.cells cs e)) := by
    simp [Instr.buildSlice, run_underlying hu, hs, hm3, hm, hz, hp, hf, newRow]
  simp only [Sem.run_bind, hr, Result.andThen_ok, Sem.run_pure, Oper.upon]
  exact this

/-- append(s, x...): s a row of the function's own, x a row that can be read; it grows, in place or not. -/
theorem e_append [Inhabited (List Deferred)] {t e : TypeId} {s x : Operand} {i : TypeInfo} {z v : Value} {size bytes m len c : Nat} {xs news : List Value} {ad : Addr} {L1 : List HP} (hu : P.underlying t = some (.slice e)) (hi : ∀ w, (typeInfo e).run P w = .ok i w) (hz : i.zero = some z)
    (hsize : i.size = size) (hby : i.bytes = bytes) (hzs : z.cells.size = size) (hsz : Nat.beq size 0 = false)
    (hs : ev K s = some v) (hx : ev K x = some (.slice (some ad) m c)) (hp : Pick L (row e size v len xs) L1)
    (hl : news.length = m * size) (hnews : ∀ w, Sat R w0 L w → ∀ j u, news[j]? = some u → w.cell? (ad.add j) = some u) (h1 : ∀ u ∈ news, u.oneCell' = true)
    (hroom : len + m ≤ 1000000000000) (hbyt : bytes ≤ 64) :
    Ef P n K (Sat R w0 L) ⟨dst, .call { callee := .builtin .append, args := #[s, x], argTypes := #[t, t] }, T, pos, af, g⟩ (fun v' : Value => v') (fun v' => Sat R w0 (row e size v' (len + m) (xs ++ news) :: L1)) := by
  intro a w ha hw next Q h
  subst hsize
  subst hby
  have hsz' : 0 < i.size := Nat.pos_of_ne_zero (Nat.ne_of_beq_eq_false hsz)
  have hinfo := info_of P hi w
  have hbytes : (len + m) * i.bytes ≤ 140737488355328 := by
    have : (len + m) * i.bytes ≤ 1000000000000 * 64 := Nat.mul_le_mul hroom hbyt
    omega
  have hcells := hnews w hw
  have hpk := hw.pick hp
  obtain ⟨hx0, ⟨h1', h2', hd, rfl, ⟨hlen, hmax, hrow⟩, hL⟩, hy⟩ := hpk.own
  have hlen2 : (xs ++ news).length = (len + m) * i.size := by rw [List.length_append, hlen, hl, Nat.add_mul]
  have hm63 : len + m ≤ maxLen := by simp only [maxLen]; omega
  have goal : ∀ v' w', (Builtin.append_ #[t, t] T #[v, .slice (some ad) m c]).run P w = .ok v' w' → Sat R w0 (row e i.size v' (len + m) (xs ++ news) :: L1) w' →
      (Oper.wp P ⟨dst, .call { callee := .builtin .append, args := #[s, x], argTypes := #[t, t] }, T, pos, af, g⟩ a w next Q) := by
    intro v' w' hr hS
    have := h v' w' hS
    simp only [Oper.wp, execOp, resolve, invoke, builtin, Sem.run_bind, Sem.run_pure, Result.andThen_ok, List.map_toArray, List.map_cons, List.map_nil, ha.ev hs, ha.ev hx, hr, Oper.upon]
    exact this
  -- a new array
  have grown : ∀ old, old < len + m →
      Sat R w0 (row e i.size (.slice (some ⟨w.heap.size, 0, none⟩) (len + m) (grownCap w (len + m) old e)) (len + m) (xs ++ news) :: L1)
        (w.drew.alloc (.cells (xs.toArray ++ news.toArray ++ Builtin.zeroCells z.cells (grownCap w (len + m) old e - (len + m))) e)) := by
    intro old _
    have hge := grownCap_ge w (len + m) old e
    have hcm : grownCap w (len + m) old e ≤ maxLen := grownCap_le_maxLen w (len + m) old e hm63
    have h3 := ((hpk.drop1).drew).alloc (.cells (xs.toArray ++ news.toArray ++ Builtin.zeroCells z.cells (grownCap w (len + m) old e - (len + m))) e)
    refine h3.swap .head fun hh hb => ⟨hlen2, hm63, .inr ⟨w.heap.size, _, (Builtin.zeroCells z.cells (grownCap w (len + m) old e - (len + m))).toList, rfl, hge, hcm, ?_, ?_⟩⟩
    · rw [List.length_append, hlen2, Array.length_toList, size_zeroCells, hzs, ← Nat.add_mul]
      congr 1
      omega
    · have e1 : ((xs ++ news) ++ (Builtin.zeroCells z.cells (grownCap w (len + m) old e - (len + m))).toList).toArray = xs.toArray ++ news.toArray ++ Builtin.zeroCells z.cells (grownCap w (len + m) old e - (len + m)) := by
        apply Array.ext'
        simp
      rw [e1]
      exact hb
  rcases hrow with ⟨rfl, rfl, rfl⟩ | ⟨b, cap, rest, rfl, h3, h4, h5, rfl⟩
  · have hxs : xs = [] := List.eq_nil_of_length_eq_zero (by simpa using hlen)
    subst hxs
    by_cases hm0 : m = 0
    · subst hm0
      have hn : news = [] := List.eq_nil_of_length_eq_zero (by simpa using hl)
      subst hn
      refine goal (.slice none 0 0) w ?_ hpk
      simp [Builtin.append_, run_underlying hu, sizeOf, typeInfo, hinfo, Builtin.lenOf, Builtin.firstCells, loadCells, loadCellsFrom]
    · have hr := run_append_nil (P := P) w t T e i z hu hinfo hz ad m c news hl hcells (by omega) (by omega) (by have hb := hbytes; simp only [Nat.zero_add] at hb; omega)
      have hg := grown 0 (by omega)
      simp only [Nat.zero_add, List.nil_append, Array.empty_append] at hg hr goal
      exact goal _ _ hr hg
  · have hb := (hy b _ (by simp [uni, one_same]; rfl)).2
    by_cases hrm : len + m ≤ cap
    · have hfit : len * i.size + news.length ≤ (xs ++ rest).toArray.size := by
        rw [List.size_toArray, h5, hl, ← Nat.add_mul]; exact Nat.mul_le_mul_right _ hrm
      have hr := run_append_room (P := P) w t T e i hu hinfo b len cap _ hb ad m c news hl hcells h1 hrm hfit
      refine goal _ _ hr ?_
      have key : Sat R w0 (blk b (.cells (xs ++ rest).toArray e (0, 0)) :: L1) w := ⟨hpk.os, hpk.tape, hpk.output, hpk.size, hpk.ro, _, ⟨_, h2', hd, rfl, rfl, hL⟩, hy⟩
      have hcs : (xs ++ rest).toArray.toList.take (len * i.size) ++ news ++ (xs ++ rest).toArray.toList.drop (len * i.size + news.length) = xs ++ news ++ rest.drop news.length := by
        simp only [← hlen]
        rw [List.take_left, List.drop_append, List.drop_eq_nil_of_le (by omega)]
        simp
      have h6 := key.turn (o' := .cells (xs ++ news ++ rest.drop news.length).toArray e (0, 0)) (w' := w.setRow b ((xs ++ rest).toArray.toList.take (len * i.size) ++ news ++ (xs ++ rest).toArray.toList.drop (len * i.size + news.length)).toArray) .head rfl rfl rfl (by simp)
        (by rw [hcs]; exact setRow_heap w b _ _ e _ hb) (fun k hk => setRow_other w b k _ hk)
      refine h6.swap .head fun hh hb' => ⟨hlen2, hm63, .inr ⟨b, cap, rest.drop news.length, rfl, hrm, h4, ?_, hb'⟩⟩
      rw [List.length_append] at h5
      simp only [List.length_append, List.length_drop]
      rw [List.size_toArray, List.length_append] at hfit
      omega
    · have holds : ∀ j u, xs[j]? = some u → w.cell? ((⟨b, 0, none⟩ : Addr).add j) = some u := fun j u hj => by
        have hlt : j < xs.length := (List.getElem?_eq_some_iff.1 hj).1
        rw [Addr.add_lit]
        simp [World.cell?, hb, List.getElem?_append_left hlt, hj]
      have hr := run_append_grow (P := P) w t T e i z hu hinfo hz ⟨b, 0, none⟩ len cap xs hlen holds ad m c news hl hcells (by omega) (by omega) (growslice_fits (by omega) hbytes)
      exact goal _ _ hr (grown cap (by omega))

/-! ### Calls -/
theorem e_call [Inhabited (List Deferred)] {ι : Type} {V : ι → Value} {S' : ι → World → Prop} {f : FuncId} {args : List Operand} {tys : Array TypeId} {vs : List Value} (hc : ∀ args w, (callFunc f args).run P w = .ok (.enter f args) w) (hargs : evs K args = some vs)
    (h : ∀ w, S w → Calls P f vs.toArray w (fun e w' => ∃ x, e = .returned (V x) ∧ S' x w')) :
    Ef P n K S ⟨dst, .call { callee := .value (.func f), args := args.toArray, argTypes := tys }, T, pos, af, g⟩ V S' := by
  intro a w ha hw next Q hn
  have e1 := ha.evs hargs
  simp only [Oper.wp, execOp, resolve, Act.eval, Deferred.ofValue, invoke, Sem.run_bind, Sem.run_pure, Result.andThen_ok, Array.append_empty, Array.empty_append]
  have e2 : args.toArray.map a.eval = vs.toArray := by rw [List.map_toArray, e1]
  rw [e2, hc]
  simp only [Oper.upon]
  refine (h w hw).mono fun e w' ⟨x, he, hs⟩ => ?_
  subst he
  exact hn x w' hs

/-- A call of a function value. -/
theorem e_callv [Inhabited (List Deferred)] {ι : Type} {V : ι → Value} {S' : ι → World → Prop} {f : FuncId} {c : Operand} {args : List Operand} {tys : Array TypeId} {vs first cap : List Value} (hc : ∀ args w, (callFunc f args).run P w = .ok (.enter f args) w) (hf : ev K c = some (.func (.func f) first.toArray cap.toArray)) (hargs : evs K args = some vs)
    (h : ∀ w, S w → Calls P f (first ++ vs ++ cap).toArray w (fun e w' => ∃ x, e = .returned (V x) ∧ S' x w')) :
    Ef P n K S ⟨dst, .call { callee := .value c, args := args.toArray, argTypes := tys }, T, pos, af, g⟩ V S' := by
  intro a w ha hw next Q hn
  have e1 := ha.evs hargs
  have e2 : args.toArray.map a.eval = vs.toArray := by rw [List.map_toArray, e1]
  simp only [Oper.wp, execOp, resolve, ha.ev hf, Deferred.ofValue, invoke, Sem.run_bind, Sem.run_pure, Result.andThen_ok, e2]
  rw [show first.toArray ++ vs.toArray ++ cap.toArray = (first ++ vs ++ cap).toArray by simp, hc]
  simp only [Oper.upon]
  refine (h w hw).mono fun e w' ⟨x, he, hs⟩ => ?_
  subst he
  exact hn x w' hs

/-! ### A function's beginning and end -/
def argEnv : Nat → List Value → Env
  | _, [] => []
  | i, v :: vs => (i, v) :: argEnv (i + 1) vs

theorem look_argEnv : ∀ (vs : List Value) (i j : Nat) (v : Value), look (argEnv i vs) j = some v → i ≤ j ∧ vs[j - i]? = some v
  | [], _, _, _, h => by cases h
  | u :: vs, i, j, v, h => by
    rcases look_cons h with ⟨rfl, rfl⟩ | ⟨hne, h⟩
    · simp
    · obtain ⟨h1, h2⟩ := look_argEnv vs (i + 1) j v h
      refine ⟨by omega, ?_⟩
      rw [show j - i = (j - (i + 1)) + 1 by omega]
      simpa using h2

theorem calls_CW {f : FuncId} {fn : Func} {c : Code} {vs : List Value} {w : World} {X : Ending → World → Prop} (hf : P.funcs[f]? = some fn) (hb : fn.body = some c) (hn : fn.ntmps = n) (hl : Nat.ble vs.length n = true) (hS : S w)
    (h : CW P c (bodyPost P fn X) n (argEnv 0 vs) S) : Calls P f vs.toArray w X := by
  refine calls_of_wp hf hb (h _ w ⟨?_, rfl, fun i v hi => ?_⟩ hS)
  · have := Nat.le_of_ble_eq_true hl
    simp [hn]
    omega
  · obtain ⟨_, h2⟩ := look_argEnv vs 0 i v hi
    have hlt : i < vs.length := (List.getElem?_eq_some_iff.1 h2).1
    simp only [Nat.sub_zero] at h2
    simp [Array.getElem?_append_left, hlt]
    exact (List.getElem?_eq_some_iff.1 h2).2

theorem ret1 {fn : Func} {X : Ending → World → Prop} {t : Nat} {v : Value} (hr : fn.results = #[.tmp t]) (hv : look K t = some v) (h : ∀ w, S w → X (.returned v) w) : EW .ret (bodyPost P fn X) n K S := fun a w ha hw =>
  ⟨ha.2.1, v, by rw [results_tmp hr, ha.2.2 t v hv], h w hw⟩
theorem ret2 {fn : Func} {X : Ending → World → Prop} {t u : Nat} {v x : Value} (hr : fn.results = #[.tmp t, .tmp u]) (hv : look K t = some v) (hx : look K u = some x) (h : ∀ w, S w → X (.returned (.tuple #[v, x])) w) : EW .ret (bodyPost P fn X) n K S := fun a w ha hw =>
  ⟨ha.2.1, _, by rw [results_tmp2 hr, ha.2.2 t v hv, ha.2.2 u x hx], h w hw⟩
theorem ret3 {fn : Func} {X : Ending → World → Prop} {t u s : Nat} {v x y : Value} (hr : fn.results = #[.tmp t, .tmp u, .tmp s]) (hv : look K t = some v) (hx : look K u = some x) (hy : look K s = some y) (h : ∀ w, S w → X (.returned (.tuple #[v, x, y])) w) : EW .ret (bodyPost P fn X) n K S := fun a w ha hw =>
  ⟨ha.2.1, .tuple #[v, x, y], by have h1 := ha.2.2 t v hv; have h2 := ha.2.2 u x hx; have h3 := ha.2.2 s y hy; simp only [Array.getD_eq_getD_getElem?] at h1 h2 h3; simp [results, hr, h1, h2, h3], h w hw⟩
theorem end0 {fn : Func} {X : Ending → World → Prop} (hr : fn.results = #[]) (h : ∀ w, S w → X (.returned (.tuple #[])) w) : EW .normal (bodyPost P fn X) n K S := fun _ w ha hw =>
  ⟨ha.2.1, _, results_none hr _ _ _, h w hw⟩

/-- A truth in a slot is parted on. -/
theorem OW_part [Inhabited (List Deferred)] {ops : Array Oper} {l : List Oper} {t : Nat} {b : Bool} (hb : look K t = some (.bool b)) (ht : b = true → OW P ops Q l n ((t, .bool true) :: K) S) (hf : b = false → OW P ops Q l n ((t, .bool false) :: K) S) : OW P ops Q l n K S := by
  intro a w ha hw
  have hk : ∀ (c : Bool), b = c → Kn n ((t, .bool c) :: K) a := fun c hc => ⟨ha.1, ha.2.1, fun i v hv => by
    rcases look_cons hv with ⟨rfl, rfl⟩ | ⟨_, hv⟩
    · rw [ha.2.2 _ _ hb, hc]
    · exact ha.2.2 i v hv⟩
  cases b with
  | true => exact ht rfl a w (hk true rfl) hw
  | false => exact hf rfl a w (hk false rfl) hw

/-- A slot's value is spelled anew. -/
theorem OW_spell [Inhabited (List Deferred)] {ops : Array Oper} {l : List Oper} (t : Nat) {v : Value} (u : Value) (hb : look K t = some v) (he : v = u) (h : OW P ops Q l n ((t, u) :: K) S) : OW P ops Q l n K S := by
  subst he
  intro a w ha hw
  exact h a w ⟨ha.1, ha.2.1, fun i x hv => by
    rcases look_cons hv with ⟨rfl, rfl⟩ | ⟨_, hv⟩
    · exact ha.2.2 _ _ hb
    · exact ha.2.2 i x hv⟩ hw
theorem CW_spell [Inhabited (List Deferred)] {c : Code} (t : Nat) {v : Value} (u : Value) (hb : look K t = some v) (he : v = u) (h : CW P c Q n ((t, u) :: K) S) : CW P c Q n K S := by
  subst he
  intro a w ha hw
  exact h a w ⟨ha.1, ha.2.1, fun i x hv => by
    rcases look_cons hv with ⟨rfl, rfl⟩ | ⟨_, hv⟩
    · exact ha.2.2 _ _ hb
    · exact ha.2.2 i x hv⟩ hw
end
end Go.Sy
/- The calculus for regions that draw their order: what only reads is taken ahead, what turns the world goes in a chain, and one walk serves every order. No condition. -/
namespace Go.Sy
open Go Go.RowKit

section
variable {P : Program} {ops : Array Oper} {Q : Exit → Act → World → Prop} {md : Region.Mode} {S : World → Prop} {z : Nat}

/-- Whatever order is picked from here on, and S holds behind every operation but the last one, 'z'. -/
def wpAnyE (P : Program) (md : Region.Mode) (ops : Array Oper) (Q : Exit → Act → World → Prop) (S : World → Prop) (z : Nat) : Nat → Array Bool → Act → World → Prop
  | 0, listed, a, w => Region.ready md ops listed = [] ∧ Q .normal a w
  | fuel + 1, listed, a, w =>
    (Region.ready md ops listed = [] → Q .normal a w) ∧
    ∀ i ∈ Region.ready md ops listed, wpOp P ops Q i (fun a' w' => (i = z ∨ S w') ∧ wpAnyE P md ops Q S z fuel (listed.setIfInBounds i true) a' w') a w

theorem wpAny_of_E : ∀ (fuel : Nat) (listed : Array Bool) (a : Act) (w : World), wpAnyE P md ops Q S z fuel listed a w → wpAny P md ops Q fuel listed a w
  | 0, _, _, _, h => h
  | fuel + 1, _, _, _, h => ⟨h.1, fun i hi => wpOp_mono (fun a' w' h' => wpAny_of_E fuel _ a' w' h'.2) (h.2 i hi)⟩

/-- No other is left when 'z' comes up. -/
def Sink (md : Region.Mode) (ops : Array Oper) (z : Nat) : Prop := z < ops.size → Region.sinkB md ops z = true ∧ Region.chainB md ops z = true

theorem wpAnyE_first {i : Nat} {oi : Oper} {v : Value} (hi : ops[i]? = some oi) (hsel : ∀ (j : Nat) (o : Oper) cs b, ops[j]? = some o → o.op ≠ .select cs b)
    (hQ : ∀ c a w, Q (.panic c) (a.put oi.dst v) w → Q (.panic c) a w) (hz : Sink md ops z) (hiz : i < z) :
    ∀ (fuel : Nat) (listed : Array Bool) (a : Act) (w : World), HeadInv md ops z listed →
      (∀ j oj, ops[j]? = some oj → j ≠ i → listed.getD j true = false → (∀ e ∈ oj.after, Region.binds md e = true → e.on ≠ i) → oi.apart ops oj = true) →
      i ∈ Region.ready md ops listed → YieldsIf P ops S oi v a → S w →
      wpAnyE P md ops Q S z fuel (listed.setIfInBounds i true) (a.put oi.dst v) w → wpAnyE P md ops Q S z (fuel + 1) listed a w := by
  have nz : ∀ (listed : Array Bool), HeadInv md ops z listed → i ∈ Region.ready md ops listed → ∀ j ∈ Region.ready md ops listed, j ≠ z := by
    intro listed inv hr j hj e
    subst e
    obtain ⟨hun, oj, hoj, _⟩ := mem_ready.1 hj
    have hlt : j < ops.size := (Array.getElem?_eq_some_iff.1 hoj).1
    obtain ⟨hs, hc⟩ := hz hlt
    exact tail_waits hs hc hlt inv _ i rfl hiz (mem_ready.1 hr).1 j (Nat.le_refl _) hj
  intro fuel
  induction fuel with
  | zero =>
    intro listed a w inv _ hr hy hS H
    refine ⟨fun h => (by rw [h] at hr; cases hr), fun j hj => ?_⟩
    by_cases hji : j = i
    · subst hji; exact hy.wpOp hi hS ⟨.inr hS, H⟩
    · have := ready_mono hj hji
      rw [H.1] at this
      cases this
  | succ fuel ih =>
    intro listed a w inv hfree hr hy hS H
    refine ⟨fun h => (by rw [h] at hr; cases hr), fun j hj => ?_⟩
    by_cases hji : j = i
    · subst hji; exact hy.wpOp hi hS ⟨.inr hS, H⟩
    · have hjz := nz listed inv hr j hj
      have h1 := H.2 j (ready_mono hj hji)
      obtain ⟨hjun, oj, hoj, hall⟩ := mem_ready.1 hj
      have hjlt : j < ops.size := (Array.getElem?_eq_some_iff.1 hoj).1
      have hnot : ∀ e ∈ oj.after, Region.binds md e = true → e.on ≠ i := fun e he hb heq => by
        have h1 := hall e he hb
        have h0 := (mem_ready.1 hr).1
        rw [heq] at h1
        rcases Nat.lt_or_ge i listed.size with h' | h'
        · simp [h'] at h0 h1; rw [h0] at h1; cases h1
        · simp [Array.getElem?_eq_none h'] at h1
      have h2 := wpOp_putIf hoj (hfree j oj hoj hji hjun hnot) (fun cs b => hsel i oi cs b hi) (fun cs b => hsel j oj cs b hoj) hQ hy h1
      have hfree' : ∀ k ok, ops[k]? = some ok → k ≠ i → (listed.setIfInBounds j true).getD k true = false →
          (∀ e ∈ ok.after, Region.binds md e = true → e.on ≠ i) → oi.apart ops ok = true := fun k ok hk hki hun hno => by
        refine hfree k ok hk hki ?_ hno
        by_cases hjk : j = k
        · subst hjk; exact hjun
        · rw [getD_set_ne true hjk] at hun; exact hun
      have hjz2 : j < z := by
        rcases Nat.lt_or_ge j z with h | h
        · exact h
        · have hzlt : z < ops.size := Nat.lt_of_le_of_lt h hjlt
          obtain ⟨hs, hc⟩ := hz hzlt
          exact absurd hj (tail_waits hs hc hzlt inv _ i rfl hiz (mem_ready.1 hr).1 j h)
      refine wpOp_mono (fun a' w' h3 => ?_) h2
      have hS' : S w' := h3.2.1.resolve_left hjz
      refine ⟨.inr hS', ih (listed.setIfInBounds j true) a' w' (inv.set hj hjz2) hfree' (ready_mono hr (Ne.symm hji)) h3.1 hS' ?_⟩
      rw [Array.setIfInBounds_comm _ _ hji]
      exact h3.2.2

/-- A walk in a given order: of each operation whether it turns the world. -/
def wpS (P : Program) (ops : Array Oper) (Q : Exit → Act → World → Prop) (S : World → Prop) (z : Nat) : List (Nat × Bool) → Act → World → Prop
  | [], a, w => Q .normal a w
  | (i, false) :: l, a, w => S w ∧ ∃ o v, ops[i]? = some o ∧ YieldsIf P ops S o v a ∧ wpS P ops Q S z l (a.put o.dst v) w
  | (i, true) :: l, a, w => wpOp P ops Q i (fun a' w' => (i = z ∨ S w') ∧ wpS P ops Q S z l a' w') a w

def schedB (md : Region.Mode) (ops : Array Oper) (z : Nat) : List (Nat × Bool) → Array Bool → Bool
  | [], listed => (Region.ready md ops listed).isEmpty
  | (i, false) :: l, listed => (Region.ready md ops listed).contains i && Region.free md ops listed i && Nat.blt i z && schedB md ops z l (listed.setIfInBounds i true)
  | (i, true) :: l, listed => (Region.ready md ops listed == [i]) && (Nat.blt i z || l.isEmpty) && schedB md ops z l (listed.setIfInBounds i true)

theorem wpAnyE_of_S (hsel : Region.noSelect ops = true) (hQ : ∀ c (a : Act) (d : Option Nat) (v : Value) w, Q (.panic c) (a.put d v) w → Q (.panic c) a w) (hz : Sink md ops z) : ∀ (l : List (Nat × Bool)) (listed : Array Bool) (a : Act) (w : World), (HeadInv md ops z listed ∨ l = []) → schedB md ops z l listed = true →
    wpS P ops Q S z l a w → wpAnyE P md ops Q S z l.length listed a w
  | [], listed, a, w, _, hB, h => ⟨by simpa [schedB] using hB, h⟩
  | (i, false) :: l, listed, a, w, inv, hB, h => by
    simp only [schedB, Bool.and_eq_true] at hB
    obtain ⟨⟨⟨hr, hf⟩, hi⟩, hB'⟩ := hB
    obtain ⟨hS, o, v, ho, hy, hrest⟩ := h
    have hiz : i < z := by simpa [Nat.blt_eq] using hi
    have inv' := inv.resolve_right (by simp)
    have hr' : i ∈ Region.ready md ops listed := by simpa using hr
    exact wpAnyE_first ho (Region.noSelect_spec hsel) (fun c a w hq => hQ c a _ _ w hq) hz hiz l.length listed a w inv' (Region.free_spec ho hf) hr' hy hS
      (wpAnyE_of_S hsel hQ hz l _ _ w (.inl (inv'.set hr' hiz)) hB' hrest)
  | (i, true) :: l, listed, a, w, inv, hB, h => by
    have hB2 : (Region.ready md ops listed == [i]) = true ∧ (Nat.blt i z || l.isEmpty) = true ∧ schedB md ops z l (listed.setIfInBounds i true) = true := by
      unfold schedB at hB
      simpa [and_assoc] using hB
    obtain ⟨hr, hi0, hB'⟩ := hB2
    have hi : Nat.blt i z = true ∨ l.isEmpty = true := by simpa using hi0
    have hr' : Region.ready md ops listed = [i] := by simpa using hr
    have inv' := inv.resolve_right (by simp)
    refine ⟨fun h0 => (by rw [h0] at hr'; cases hr'), fun j hj => ?_⟩
    rw [hr'] at hj
    have hji : j = i := by simpa using hj
    subst hji
    refine wpOp_mono (fun a' w' h' => ⟨h'.1, wpAnyE_of_S hsel hQ hz l _ a' w' ?_ hB' h'.2⟩) h
    rcases hi with hi | hi
    · have hiz : j < z := by simpa [Nat.blt_eq] using hi
      exact .inl (inv'.set (by rw [hr']; simp) hiz)
    · exact .inr (by simpa using hi)

def sinkOk (md : Region.Mode) (ops : Array Oper) (z : Nat) : Bool := Nat.ble ops.size z || (Region.sinkB md ops z && Region.chainB md ops z)

theorem sink_of_ok (h : sinkOk md ops z = true) : Sink md ops z := fun hlt => by
  simp only [sinkOk, Bool.or_eq_true, Bool.and_eq_true] at h
  rcases h with h | h
  · have := Nat.le_of_ble_eq_true h
    omega
  · exact h

/-- All that is asked of a schedule. -/
def drawOk (ops : Array Oper) (z : Nat) (l : List (Nat × Bool)) : Bool :=
  Region.noSelect ops && sinkOk .any ops z && (l.length == ops.size) && schedB .any ops z l (Array.replicate ops.size false)

theorem wp_region_S {id : Nat} {a : Act} {w : World} {l : List (Nat × Bool)} (hm : P.follows .mixedOrders = true) (hQ : ∀ c (a : Act) (d : Option Nat) (v : Value) w, Q (.panic c) (a.put d v) w → Q (.panic c) a w) (hB : drawOk ops z l = true)
    (h : wpS P ops Q S z l a { w with drawn := w.drawn + 1 }) : (Code.region id ops true).wp P Q a w := by
  simp only [drawOk, Bool.and_eq_true, beq_iff_eq] at hB
  obtain ⟨⟨⟨hsel, hs⟩, hl⟩, hB⟩ := hB
  refine wp_region_any hm (wpAny_of_E (S := S) (z := z) _ _ _ _ ?_)
  have inv : HeadInv .any ops z (Array.replicate ops.size false) := by
    refine ⟨by simp, fun j oj hj hl => ?_, fun t _ ht => by simp [ht]⟩
    rw [getD_replicate_false] at hl
    cases hl
  have := wpAnyE_of_S hsel hQ (sink_of_ok hs) l _ a _ (.inl inv) hB h
  rwa [hl] at this
end

/-! ### The same over what is known -/
/-- The list of a schedule, from a known frame and a world of the class; 'C': the class in which the readers read. -/
def DW (P : Program) (ops : Array Oper) (Q : Exit → Act → World → Prop) (C : World → Prop) (z : Nat) (l : List (Nat × Bool)) (n : Nat) (K : Env) (S : World → Prop) : Prop :=
  ∀ a w, Kn n K a → S w → wpS P ops Q C z l a w

/-- The exit's condition does not look at the frame where it panics. -/
def Blind (Q : Exit → Act → World → Prop) : Prop := ∀ c (a : Act) (d : Option Nat) (v : Value) w, Q (.panic c) (a.put d v) w → Q (.panic c) a w

section
variable {P : Program} {Q : Exit → Act → World → Prop} {n : Nat} {K : Env} {S C : World → Prop} {ops : Array Oper} {z : Nat} {l : List (Nat × Bool)}

theorem Blind.then {y : Code} (h : Blind Q) : Blind (thenQ P y Q) := fun c a d v w hq => h c a d v w hq
theorem Blind.again {A : Act → World → Prop} (h : Blind Q) : Blind (Exit.then A Q) := fun c a d v w hq => h c a d v w hq
theorem Blind.block {id : Nat} (h : Blind Q) : Blind (Exit.inBlock id Q) := fun c a d v w hq => h c a d v w hq
theorem Blind.body {fn : Func} {X : Ending → World → Prop} (h : ∀ c w, ¬ X (.panicked c) w) : Blind (bodyPost P fn X) := fun c _ _ _ w hq => absurd hq.2 (h c w)
theorem Blind.bodyP {fn : Func} {X : Ending → World → Prop} : Blind (bodyPost P fn X) := fun _ a d _ _ hq => ⟨(by have h := hq.1; cases d <;> exact h), hq.2⟩

theorem CW_draw {id : Nat} {lo : List Oper} (C : World → Prop) (z : Nat) (l : List (Nat × Bool)) (hm : P.follows .mixedOrders = true) (hQ : Blind Q) (hB : drawOk lo.toArray z l = true) (hS : ∀ w, S w → S w.drew)
    (h : DW P lo.toArray Q C z l n K S) : CW P (.region id lo.toArray true) Q n K S := fun a w ha hw => wp_region_S hm hQ hB (h a w.drew ha (hS w hw))

theorem DW_nil (h : EW .normal Q n K S) : DW P ops Q C z [] n K S := fun a w ha hw => h a w ha hw

theorem DW_q {i d : Nat} {op : Op} {T : TypeId} {pos : String} {af : Array Edge} {v : Value} (hi : ops[i]? = some ⟨some d, op, T, pos, af, none⟩) (hC : ∀ w, S w → C w)
    (hq : Qt P n K C ⟨some d, op, T, pos, af, none⟩ v) (hd : Nat.blt d n = true) (h : DW P ops Q C z l n ((d, v) :: K) S) :
    DW P ops Q C z ((i, false) :: l) n K S := fun a w ha hw =>
  ⟨hC w hw, _, v, hi, .inl ⟨by simp [Region.wanted], fun w' hw' => hq a ha w' hw'⟩, h _ w (ha.put hd v) hw⟩

/-- A guarded reader that is wanted. -/
theorem DW_qg {i d : Nat} {op : Op} {T : TypeId} {pos : String} {af : Array Edge} {v : Value} {j t : Nat} {want b : Bool} (hi : ops[i]? = some ⟨some d, op, T, pos, af, some (j, want)⟩) (hC : ∀ w, S w → C w)
    (hj : ((ops[j]?).bind (·.dst)) = some t) (hb : look K t = some (.bool b)) (hw : (b == want) = true)
    (hq : Qt P n K C ⟨some d, op, T, pos, af, some (j, want)⟩ v) (hd : Nat.blt d n = true) (h : DW P ops Q C z l n ((d, v) :: K) S) :
    DW P ops Q C z ((i, false) :: l) n K S := fun a w ha hs =>
  ⟨hC w hs, _, v, hi, .inl ⟨by simp only [Region.wanted, yielded_known ha hj hb]; simpa using hw, fun w' hw' => hq a ha w' hw'⟩, h _ w (ha.put hd v) hs⟩

theorem DW_skip {i d : Nat} {op : Op} {T : TypeId} {pos : String} {af : Array Edge} {j t : Nat} {want b : Bool} (hi : ops[i]? = some ⟨some d, op, T, pos, af, some (j, want)⟩) (hC : ∀ w, S w → C w)
    (hj : ((ops[j]?).bind (·.dst)) = some t) (hb : look K t = some (.bool b)) (hw : (b == want) = false) (hd : Nat.blt d n = true) (h : DW P ops Q C z l n ((d, undef) :: K) S) :
    DW P ops Q C z ((i, false) :: l) n K S := fun a w ha hs =>
  ⟨hC w hs, _, undef, hi, .inr ⟨by simp only [Region.wanted, yielded_known ha hj hb]; simpa using hw, rfl⟩, h _ w (ha.put hd _) hs⟩
/-- An operation that turns the world, unless it is the last one: the class holds behind it. -/
theorem DW_e {i d : Nat} {op : Op} {T : TypeId} {pos : String} {af : Array Edge} {ι : Type} {V : ι → Value} {S' : ι → World → Prop} (hi : ops[i]? = some ⟨some d, op, T, pos, af, none⟩)
    (he : Ef P n K S ⟨some d, op, T, pos, af, none⟩ V S') (hd : Nat.blt d n = true) (hC : ∀ x w, S' x w → C w) (h : ∀ x, DW P ops Q C z l n ((d, V x) :: K) (S' x)) :
    DW P ops Q C z ((i, true) :: l) n K S := fun a w ha hw => by
  show wpOp P ops Q i _ a w
  unfold wpOp
  rw [hi]
  simp only [Region.wanted, if_true]
  exact .inl (he a w ha hw _ _ fun x w' hx => ⟨.inr (hC x w' hx), h x _ w' (ha.put hd _) hx⟩)

/-- The last one. -/
theorem DW_z0 {op : Op} {T : TypeId} {pos : String} {af : Array Edge} {ι : Type} {V : ι → Value} {S' : ι → World → Prop} (hi : ops[z]? = some ⟨none, op, T, pos, af, none⟩)
    (he : Ef P n K S ⟨none, op, T, pos, af, none⟩ V S') (h : ∀ x, EW .normal Q n K (S' x)) :
    DW P ops Q C z [(z, true)] n K S := fun a w ha hw => by
  show wpOp P ops Q z _ a w
  unfold wpOp
  rw [hi]
  simp only [Region.wanted, if_true]
  exact .inl (he a w ha hw _ _ fun x w' hx => ⟨.inl trivial, h x _ w' ha hx⟩)
theorem DW_z {d : Nat} {op : Op} {T : TypeId} {pos : String} {af : Array Edge} {ι : Type} {V : ι → Value} {S' : ι → World → Prop} (hi : ops[z]? = some ⟨some d, op, T, pos, af, none⟩)
    (he : Ef P n K S ⟨some d, op, T, pos, af, none⟩ V S') (hd : Nat.blt d n = true) (h : ∀ x, EW .normal Q n ((d, V x) :: K) (S' x)) :
    DW P ops Q C z [(z, true)] n K S := fun a w ha hw => by
  show wpOp P ops Q z _ a w
  unfold wpOp
  rw [hi]
  simp only [Region.wanted, if_true]
  exact .inl (he a w ha hw _ _ fun x w' hx => ⟨.inl trivial, h x _ w' (ha.put hd _) hx⟩)

theorem DW_part {t : Nat} {b : Bool} (hb : look K t = some (.bool b)) (ht : b = true → DW P ops Q C z l n ((t, .bool true) :: K) S) (hf : b = false → DW P ops Q C z l n ((t, .bool false) :: K) S) : DW P ops Q C z l n K S := by
  intro a w ha hw
  have hk : ∀ (c : Bool), b = c → Kn n ((t, .bool c) :: K) a := fun c hc => ⟨ha.1, ha.2.1, fun i v hv => by
    rcases look_cons hv with ⟨rfl, rfl⟩ | ⟨_, hv⟩
    · rw [ha.2.2 _ _ hb, hc]
    · exact ha.2.2 i v hv⟩
  cases b with
  | true => exact ht rfl a w (hk true rfl) hw
  | false => exact hf rfl a w (hk false rfl) hw

theorem DW_spell (t : Nat) {v : Value} (u : Value) (hb : look K t = some v) (he : v = u) (h : DW P ops Q C z l n ((t, u) :: K) S) : DW P ops Q C z l n K S := by
  subst he
  intro a w ha hw
  exact h a w ⟨ha.1, ha.2.1, fun i x hv => by
    rcases look_cons hv with ⟨rfl, rfl⟩ | ⟨_, hv⟩
    · exact ha.2.2 _ _ hb
    · exact ha.2.2 i x hv⟩ hw

/-- Whether one comes behind the other, a list keeps what is known. -/
theorem DW.world (S' : World → Prop) (hs : ∀ w, S w → S' w) (h : DW P ops Q C z l n K S') : DW P ops Q C z l n K S := fun a w ha hw => h a w ha (hs w hw)
end
end Go.Sy
/- The calculus' rules in the forms that a walk wants: loads out of what is owned and out of what nobody writes, lists of assertions cut back, contracts carried over. No condition. -/
namespace Go.Sy
open Go Go.RowKit

/-- The assertions of the first list are among those of the second. -/
inductive SubL : List HP → List HP → Prop
  | nil {L : List HP} : SubL [] L
  | cons {A : HP} {L L1 L' : List HP} : Pick L A L1 → SubL L' L1 → SubL (A :: L') L

section
variable {R : Nat → Prop} {w0 w : World} {L L' : List HP}
theorem SubL.sat (s : SubL L' L) : ∀ {h}, stars L h → ∃ h1 h2, Dis h1 h2 ∧ h = uni h1 h2 ∧ stars L' h1 := by
  induction s with
  | nil => intro h _; exact ⟨emp0, h, (dis_emp h).symm, (emp_uni h).symm, rfl⟩
  | cons p s ih =>
    intro h hh
    obtain ⟨h1, h2, hd, rfl, hA, hL⟩ := p.stars h hh
    obtain ⟨h3, h4, hd', rfl, hL'⟩ := ih hL
    refine ⟨uni h1 h3, h4, Dis.join hd.symm.right.symm hd', (uni_assoc _ _ _).symm, h1, h3, hd.symm.left.symm, rfl, hA, hL'⟩
theorem Sat.sub (h : Sat R w0 L w) (s : SubL L' L) : Sat R w0 L' w := by
  refine ⟨h.os, h.tape, h.output, h.size, h.ro, ?_⟩
  obtain ⟨x, hx, hy⟩ := h.own
  obtain ⟨h1, h2, hd, rfl, hL'⟩ := s.sat hx
  exact ⟨h1, hL', fun b o hb => hy b o (by simp [uni, hb])⟩
end

/-- Cells in a row from an address on. -/
def Row (ρ : Addr → Value → Prop) (p : Addr) (vs : List Value) : Prop := ∀ j u, vs[j]? = some u → ρ (p.add j) u
theorem Row.mono {ρ ρ' : Addr → Value → Prop} {p : Addr} {vs : List Value} (h : Row ρ p vs) (f : ∀ a v, ρ a v → ρ' a v) : Row ρ' p vs := fun j u hj => f _ _ (h j u hj)
theorem Row.at_ {ρ : Addr → Value → Prop} {p : Addr} {vs : List Value} {j : Nat} {u : Value} (h : Row ρ p vs) (hj : vs[j]? = some u) : ρ (p.add j) u := h j u hj
theorem Row.at0 {ρ : Addr → Value → Prop} {p : Addr} {v : Value} {vs : List Value} (h : Row ρ p (v :: vs)) : ρ p v := by
  have := h 0 v rfl
  rwa [Addr.add_zero'] at this

section
variable {P : Program} {n : Nat} {K : Env} {dst : Option Nat} {T : TypeId} {pos : String} {af : Array Edge} {g : Option (Nat × Bool)} {R : Nat → Prop} {w0 : World} {L L' : List HP} {Q : Exit → Act → World → Prop} {S : World → Prop}

theorem q_load1_own [Inhabited (List Deferred)] {t e : TypeId} {x : Operand} {p : Addr} {b off : Nat} {cs : List Value} {v : Value} (hA : ∀ w, (isAgg t).run P w = .ok false w) (hx : ev K x = some (.pointer (some p))) (hp : p = ⟨b, off, none⟩)
    (s : Swap L (cel b e cs) (cel b e cs) L') (hv : cs[off]? = some v) : Qt P n K (Sat R w0 L) ⟨dst, .load t x, T, pos, af, g⟩ v := by
  subst hp
  exact q_load1 hA hx fun _ hw => by rw [hw.cell s off]; exact hv
theorem q_load1_ro [Inhabited (List Deferred)] {t : TypeId} {x : Operand} {p : Addr} {v : Value} (hA : ∀ w, (isAgg t).run P w = .ok false w) (hx : ev K x = some (.pointer (some p))) (hr : Rd R w0 p v) :
    Qt P n K (Sat R w0 L) ⟨dst, .load t x, T, pos, af, g⟩ v := q_load1 hA hx fun _ hw => hw.rd hr
theorem q_loadN_own [Inhabited (List Deferred)] {t e : TypeId} {x : Operand} {p : Addr} {b m : Nat} {cs : List Value} (hA : ∀ w, (isAgg t).run P w = .ok true w) (hs : ∀ w, (sizeOf t).run P w = .ok m w) (hx : ev K x = some (.pointer (some p))) (hp : p = ⟨b, 0, none⟩)
    (s : Swap L (cel b e cs) (cel b e cs) L') (hl : cs.length = m) : Qt P n K (Sat R w0 L) ⟨dst, .load t x, T, pos, af, g⟩ (.agg cs.toArray) := by
  subst hp
  exact q_loadN hA hs hx hl fun w hw j u hj => by rw [Addr.add_lit, hw.cell s]; simpa using hj
theorem q_loadN_ro [Inhabited (List Deferred)] {t : TypeId} {x : Operand} {p : Addr} {m : Nat} {vs : List Value} (hA : ∀ w, (isAgg t).run P w = .ok true w) (hs : ∀ w, (sizeOf t).run P w = .ok m w) (hx : ev K x = some (.pointer (some p)))
    (hr : Row (Rd R w0) p vs) (hl : vs.length = m) : Qt P n K (Sat R w0 L) ⟨dst, .load t x, T, pos, af, g⟩ (.agg vs.toArray) :=
  q_loadN hA hs hx hl fun _ hw j u hj => hw.rd (hr j u hj)

theorem q_nilCheck [Inhabited (List Deferred)] {x : Operand} {p : Addr} (hx : ev K x = some (.pointer (some p))) : Qt P n K S ⟨dst, .nilCheck x, T, pos, af, g⟩ (.pointer (some p)) := fun a ha w _ => by
  simp [execOp, ha.ev hx]

theorem q_build [Inhabited (List Deferred)] {t : TypeId} {parts : Array (Nat × Operand)} {ps : Array (Nat × Value)} {v : Value} (hp : parts.toList.map (fun x => (x.1, (ev K x.2))) = ps.toList.map (fun x => (x.1, some x.2)))
    (hb : ∀ w, (Instr.build t ps).run P w = .ok v w) : Qt P n K S ⟨dst, .build t parts, T, pos, af, g⟩ v := fun a ha w _ => by
  have key : (parts.map fun (i, x) => (i, a.eval x)) = ps := by
    apply Array.ext'
    have : ∀ (l : List (Nat × Operand)) (r : List (Nat × Value)), l.map (fun x => (x.1, (ev K x.2))) = r.map (fun x => (x.1, some x.2)) → l.map (fun x => (x.1, a.eval x.2)) = r := by
      intro l
      induction l with
      | nil => intro r h; cases r with
        | nil => rfl
        | cons y r => cases h
      | cons x l ih =>
        intro r h
        cases r with
        | nil => cases h
        | cons y r =>
          simp only [List.map_cons, List.cons.injEq, Prod.mk.injEq] at h
          obtain ⟨⟨h1, h2⟩, h3⟩ := h
          simp only [List.map_cons, ih r h3, ha.ev h2, h1]
    simpa using this _ _ hp
  simp only [execOp]
  rw [key]
  simp [hb]

/-- What a new block of the call's own holds, to be appended. -/
theorem Sat.news {w : World} {b : Nat} {e : TypeId} {cs : List Value} (h : Sat R w0 L w) (s : Swap L (cel b e cs) (cel b e cs) L') : ∀ j u, cs[j]? = some u → w.cell? ((⟨b, 0, none⟩ : Addr).add j) = some u := fun j u hj => by
  rw [Addr.add_lit, h.cell s]; simpa using hj

theorem CW_drawS {id : Nat} {lo : List Oper} (z : Nat) (l : List (Nat × Bool)) (hm : P.follows .mixedOrders = true) (hQ : Blind Q) (hB : drawOk lo.toArray z l = true) (hS : ∀ w, S w → S w.drew)
    (h : DW P lo.toArray Q S z l n K S) : CW P (.region id lo.toArray true) Q n K S := CW_draw S z l hm hQ hB hS h

/-- A loop whose states meet a condition. -/
theorem CW_loopP [Inhabited (List Deferred)] {ι : Type} (pre : ι → Prop) (KI : ι → Env) (SI : ι → World → Prop) (μ : ι → Nat) (i0 : ι) {c : Code} (h0 : pre i0) (hk : Sub (KI i0) K) (hs : ∀ w, S w → SI i0 w)
    (round : ∀ i, pre i → CW P c (Exit.then (Again n KI SI (fun j => μ j < μ i ∧ pre j)) Q) n (KI i) (SI i)) : CW P (.loop c) Q n K S := by
  refine CW_loop KI (fun i w => pre i ∧ SI i w) μ i0 hk (fun w hw => ⟨h0, hs w hw⟩) fun i a w ha hw => ?_
  refine wp_mono (round i hw.1 a w ha hw.2) fun e a' w' h => ?_
  cases e <;> first
    | (obtain ⟨j, ⟨h1, h2⟩, h3, h4⟩ := h; exact ⟨j, h1, h3, h2, h4⟩)
    | exact h

theorem OW_pure [Inhabited (List Deferred)] {ops : Array Oper} {l : List Oper} {p : Prop} (h : p → OW P ops Q l n K S) : OW P ops Q l n K (fun w => p ∧ S w) := fun a w ha hw => h hw.1 a w ha hw.2
theorem DW_pure {ops : Array Oper} {C : World → Prop} {z : Nat} {l : List (Nat × Bool)} {p : Prop} (h : p → DW P ops Q C z l n K S) : DW P ops Q C z l n K (fun w => p ∧ S w) := fun a w ha hw => h hw.1 a w ha hw.2

/-! ### Contracts, carried over to what the caller knows -/
theorem lift_oldP {f : FuncId} {vs : Array Value} {w : World} {ι : Type} {V : ι → Value} {p : ι → Prop} {M : ι → List HP} (h : Calls P f vs w (fun e w' => ∃ x, e = .returned (V x) ∧ p x ∧ Sat (Old w) w (M x) w')) (hS : Sat R w0 L w) :
    Calls P f vs w (fun e w' => ∃ x, e = .returned (V x) ∧ (p x ∧ Sat R w0 (M x ++ L) w')) :=
  h.mono fun _ _ ⟨x, he, hp, hw⟩ => ⟨x, he, hp, hS.back hw⟩
theorem lift_same {f : FuncId} {vs : Array Value} {w : World} {v : Value} (h : Calls P f vs w (fun e w' => e = .returned v ∧ w' = w)) (hS : S w) : Calls P f vs w (fun e w' => ∃ _ : Unit, e = .returned v ∧ S w') :=
  h.mono fun _ _ ⟨he, hw⟩ => ⟨(), he, hw ▸ hS⟩
theorem lift_old {f : FuncId} {vs : Array Value} {w : World} {ι : Type} {V : ι → Value} {M : ι → List HP} (h : Calls P f vs w (fun e w' => ∃ x, e = .returned (V x) ∧ Sat (Old w) w (M x) w')) (hS : Sat R w0 L w) :
    Calls P f vs w (fun e w' => ∃ x, e = .returned (V x) ∧ Sat R w0 (M x ++ L) w') :=
  h.mono fun _ _ ⟨x, he, hw⟩ => ⟨x, he, hS.back hw⟩
/-- .. of a function that hands back one known value and leaves nothing behind. -/
theorem lift_ro {f : FuncId} {vs : Array Value} {w : World} {v : Value} (h : Calls P f vs w (fun e w' => e = .returned v ∧ Sat (Old w) w [] w')) (hS : Sat R w0 L w) :
    Calls P f vs w (fun e w' => ∃ _ : Unit, e = .returned v ∧ Sat R w0 L w') :=
  h.mono fun _ _ ⟨he, hw⟩ => ⟨(), he, hS.back hw⟩
end
/-- Where it lies, found by looking. -/
theorem swt {L L' : List HP} {A A' : HP} (h : Swap L A A' L' := by repeat (first | exact .head | apply Swap.tail)) : Swap L A A' L' := h
theorem pkt {L L' : List HP} {A : HP} (h : Pick L A L' := by repeat (first | exact .head | apply Pick.tail)) : Pick L A L' := h
theorem sbt {L L' : List HP} (h : SubL L' L := by repeat (first | exact SubL.nil | exact Pick.head | apply Pick.tail | apply SubL.cons)) : SubL L' L := h
theorem sft {R : Nat → Prop} {w0 : World} {L L' : List HP} (h : SubL L' L := by repeat (first | exact SubL.nil | exact Pick.head | apply Pick.tail | apply SubL.cons)) : ∀ w, Sat R w0 L w → Sat R w0 L' w := fun _ k => k.sub h
section
variable [Inhabited (List Deferred)] {P : Program} {Q : Exit → Act → World → Prop} {n : Nat} {K : Env} {S : World → Prop}
theorem nx4 {ops : Array Oper} {id : Nat} {l : List Oper} {y : Code} (h : OW P l.toArray (thenQ P y Q) l n K S) : OW P ops (thenQ P (.seq (.region id l.toArray false) y) Q) [] n K S := OW_nil (EW_then (CW_seq (CW_region h)))
theorem nx2 {ops : Array Oper} {y : Code} (h : CW P y Q n K S) : OW P ops (thenQ P y Q) [] n K S := OW_nil (EW_then h)
theorem nx3 {id : Nat} {l : List Oper} {y : Code} (h : OW P l.toArray (thenQ P y Q) l n K S) : CW P (.seq (.region id l.toArray false) y) Q n K S := CW_seq (CW_region h)
theorem mvq {C : World → Prop} {dst : Option Nat} {x : Operand} {T : TypeId} {pos : String} {af : Array Edge} {g : Option (Nat × Bool)} {v : Value} (h : ev K x = some v) : Qt P n K C ⟨dst, .move x, T, pos, af, g⟩ v := q_move h
end
section
variable [Inhabited (List Deferred)] {P : Program} {Q : Exit → Act → World → Prop} {n : Nat} {K : Env} {S : World → Prop} {ops : Array Oper} {T : TypeId} {pos : String} {af : Array Edge} {rest : List Oper}
/-- Steps that are frequent; what they ask for is found by looking. -/
theorem mO {d : Nat} {x : Operand} {v : Value} (h : OW P ops Q rest n ((d, v) :: K) S) (hx : ev K x = some v := by exact rfl) (hd : Nat.blt d n = true := by exact rfl) : OW P ops Q (⟨some d, .move x, T, pos, af, none⟩ :: rest) n K S := OW_q (q_move hx) hd h
theorem aO {d : Nat} {x : Operand} {v : Value} (h : OW P ops Q rest n ((d, v) :: K) S) (hx : ev K x = some v := by exact rfl) (hd : Nat.blt d n = true := by exact rfl) : OW P ops Q (⟨some d, .assign x, T, pos, af, none⟩ :: rest) n K S := OW_q (q_assign hx) hd h
theorem kO {d : Nat} {op : Op} {j t : Nat} {want b : Bool} (h : OW P ops Q rest n ((d, undef) :: K) S) (hj : ((ops[j]?).bind (·.dst)) = some t := by exact rfl) (hb : look K t = some (.bool b) := by exact rfl) (hw : (b == want) = false := by exact rfl) (hd : Nat.blt d n = true := by exact rfl) : OW P ops Q (⟨some d, op, T, pos, af, some (j, want)⟩ :: rest) n K S := OW_skip hj hb hw hd h
theorem wO {dst : Option Nat} {op : Op} {j t : Nat} {want b : Bool} (h : OW P ops Q (⟨dst, op, T, pos, af, none⟩ :: rest) n K S) (hj : ((ops[j]?).bind (·.dst)) = some t := by exact rfl) (hb : look K t = some (.bool b) := by exact rfl) (hw : (b == want) = true := by exact rfl) : OW P ops Q (⟨dst, op, T, pos, af, some (j, want)⟩ :: rest) n K S := OW_wanted hj hb hw h
end
section
variable {P : Program} {Q : Exit → Act → World → Prop} {n : Nat} {K : Env} {ops : Array Oper} {T : TypeId} {pos : String} {af : Array Edge} {R : Nat → Prop} {w0 : World} {L L' : List HP} {z : Nat} {l : List (Nat × Bool)} {i d : Nat}
theorem mD {x : Operand} {v : Value} (h : DW P ops Q (Sat R w0 L') z l n ((d, v) :: K) (Sat R w0 L)) (hi : ops[i]? = some ⟨some d, .move x, T, pos, af, none⟩ := by exact rfl) (hx : ev K x = some v := by exact rfl) (hd : Nat.blt d n = true := by exact rfl) (s : SubL L' L := by exact sbt) : DW P ops Q (Sat R w0 L') z ((i, false) :: l) n K (Sat R w0 L) := DW_q hi (fun _ k => k.sub s) (q_move hx) hd h
theorem kD {op : Op} {j t : Nat} {want b : Bool} (h : DW P ops Q (Sat R w0 L') z l n ((d, undef) :: K) (Sat R w0 L)) (hi : ops[i]? = some ⟨some d, op, T, pos, af, some (j, want)⟩ := by exact rfl) (hj : ((ops[j]?).bind (·.dst)) = some t := by exact rfl) (hb : look K t = some (.bool b) := by exact rfl) (hw : (b == want) = false := by exact rfl) (hd : Nat.blt d n = true := by exact rfl) (s : SubL L' L := by exact sbt) : DW P ops Q (Sat R w0 L') z ((i, false) :: l) n K (Sat R w0 L) := DW_skip hi (fun _ k => k.sub s) hj hb hw hd h
end
end Go.Sy
/- Grammars, derivations and lists as they lie in memory. No condition. -/
namespace Go.Sy
open Go Go.RowKit

structure Sym where
  term : Bool
  n : Int
  deriving DecidableEq

structure Rule where
  left : Int
  right : List Sym
  deriving DecidableEq

structure Gram where
  terms : Int
  names : Int
  rules : List Rule

/-- A slice that reads as a list: of each element its cells. -/
def SlAt (_ρ : Addr → Value → Prop) (sz : Nat) (v : Value) {α : Type} (at_ : Addr → α → Prop) (l : List α) : Prop :=
  ∃ a c, v = .slice a l.length c ∧ l.length ≤ c ∧ c ≤ 9223372036854775807 ∧ ∀ k x, l[k]? = some x → ∃ p, a = some p ∧ at_ (p.add (k * sz)) x

abbrev SymAt (ρ : Addr → Value → Prop) (p : Addr) (s : Sym) : Prop := Row ρ p [.bool s.term, .int .i64 s.n]
def SymsAt (ρ : Addr → Value → Prop) (v : Value) (l : List Sym) : Prop := SlAt ρ 2 v (SymAt ρ) l
def RuleAt (ρ : Addr → Value → Prop) (p : Addr) (r : Rule) : Prop := ∃ rv, SymsAt ρ rv r.right ∧ Row ρ p [.int .i64 r.left, rv]
def RulesAt (ρ : Addr → Value → Prop) (v : Value) (l : List Rule) : Prop := SlAt ρ 2 v (RuleAt ρ) l
def GramAt (ρ : Addr → Value → Prop) (v : Value) (g : Gram) : Prop := ∃ rv, v = .agg #[.int .i64 g.terms, .int .i64 g.names, rv] ∧ RulesAt ρ rv g.rules
def IntsAt (ρ : Addr → Value → Prop) (v : Value) (l : List Int) : Prop := SlAt ρ 1 v (fun p x => ρ p (.int .i64 x)) l
def BoolsAt (ρ : Addr → Value → Prop) (v : Value) (l : List Bool) : Prop := SlAt ρ 1 v (fun p x => ρ p (.bool x)) l

section
variable {ρ ρ' : Addr → Value → Prop} {v : Value}
theorem SlAt.mono {sz : Nat} {α : Type} {at_ at' : Addr → α → Prop} {l : List α} (h : SlAt ρ sz v at_ l) (f : ∀ p x, at_ p x → at' p x) : SlAt ρ' sz v at' l := by
  obtain ⟨a, c, hv, h1, h2, hk⟩ := h
  exact ⟨a, c, hv, h1, h2, fun k x hx => let ⟨p, hp, hq⟩ := hk k x hx; ⟨p, hp, f _ _ hq⟩⟩
theorem SymsAt.mono {l : List Sym} (h : SymsAt ρ v l) (f : ∀ a v, ρ a v → ρ' a v) : SymsAt ρ' v l := SlAt.mono h fun _ _ hx => Row.mono hx f
theorem RulesAt.mono {l : List Rule} (h : RulesAt ρ v l) (f : ∀ a v, ρ a v → ρ' a v) : RulesAt ρ' v l := SlAt.mono h fun _ _ ⟨rv, h1, h2⟩ => ⟨rv, h1.mono f, h2.mono f⟩
theorem GramAt.mono {g : Gram} (h : GramAt ρ v g) (f : ∀ a v, ρ a v → ρ' a v) : GramAt ρ' v g := let ⟨rv, h1, h2⟩ := h; ⟨rv, h1, h2.mono f⟩
theorem IntsAt.mono {l : List Int} (h : IntsAt ρ v l) (f : ∀ a v, ρ a v → ρ' a v) : IntsAt ρ' v l := SlAt.mono h fun _ _ hx => f _ _ hx
theorem BoolsAt.mono {l : List Bool} (h : BoolsAt ρ v l) (f : ∀ a v, ρ a v → ρ' a v) : BoolsAt ρ' v l := SlAt.mono h fun _ _ hx => f _ _ hx
end

abbrev vi (x : Int) : Value := .int .i64 x
abbrev vb (x : Bool) : Value := .bool x
/-- A made slice of numbers; of truths. -/
def ints (b : Nat) (t : TypeId) (l : List Int) : HP := cel b t (l.map vi)
def bools (b : Nat) (t : TypeId) (l : List Bool) : HP := cel b t (l.map vb)

section
variable {R : Nat → Prop} {w0 w : World} {L L' : List HP} {v : Value}
/-- From the whole world to what nobody writes, and back. -/
theorem old_rd {w : World} : ∀ a v, Cl w a v → Rd (Old w) w a v := fun _ _ h => Rd.old h
theorem Sat.boolsAt {b : Nat} {t : TypeId} {l : List Bool} {A' : HP} {m c : Nat} (h : Sat R w0 L w) (s : Swap L (bools b t l) A' L') (hm : l.length = m) (hc : m ≤ c) (hc2 : c ≤ 9223372036854775807) : BoolsAt (Cl w) (.slice (some ⟨b, 0, none⟩) m c) l := by
  subst hm
  exact ⟨_, c, rfl, hc, hc2, fun k x hx => ⟨_, rfl, by
    show w.cell? _ = _
    rw [Addr.add_lit, Nat.mul_one, Nat.zero_add]
    have := h.cell (cs := l.map vb) s k
    rw [this]; simp [hx]⟩⟩
theorem Sat.rd_cl (h : Sat R w0 L w) : ∀ a v, Rd R w0 a v → Cl w a v := fun _ _ hr => h.rd hr
end

section
variable {P : Program} {n : Nat} {K : Env} {dst : Option Nat} {T : TypeId} {pos : String} {af : Array Edge} {g : Option (Nat × Bool)} {R : Nat → Prop} {w0 : World} {L L' : List HP} {S C : World → Prop}

/-- An index that is a number of a grammar's. -/
theorem q_indexAddrI {t e : TypeId} {x ix : Operand} {p : Addr} {len cap m : Nat} {z : Int} (hu : P.underlying t = some (.slice e)) (hs : ∀ w, (sizeOf e).run P w = .ok m w)
    (hx : ev K x = some (.slice (some p) len cap)) (hi : ev K ix = some (.int .i64 z)) (h0 : 0 ≤ z) (h1 : z < len) :
    Qt P n K C ⟨dst, .indexAddr t x ix, T, pos, af, g⟩ (.pointer (some (p.add (z.toNat * m)))) := by
  obtain ⟨i, rfl⟩ := Int.eq_ofNat_of_zero_le h0
  exact q_indexAddr hu hs hx hi (by omega)

theorem q_load_bools {t e : TypeId} {x : Operand} {b j : Nat} {l : List Bool} {u : Bool} (hA : ∀ w, (isAgg t).run P w = .ok false w) (hx : ev K x = some (.pointer (some ((⟨b, 0, none⟩ : Addr).add (j * 1)))))
    (s : Swap L (bools b e l) (bools b e l) L') (hj : l[j]? = some u) : Qt P n K (Sat R w0 L) ⟨dst, .load t x, T, pos, af, g⟩ (.bool u) :=
  q_load1 hA hx fun w hw => by
    rw [Addr.add_lit, Nat.mul_one, Nat.zero_add, hw.cell (cs := l.map vb) s j]; simp [hj]
theorem e_store_bools {t e : TypeId} {x y : Operand} {b j : Nat} {l : List Bool} {u : Bool} (hs : ∀ w, (sizeOf t).run P w = .ok 1 w) (hx : ev K x = some (.pointer (some ((⟨b, 0, none⟩ : Addr).add (j * 1))))) (hy : ev K y = some (.bool u))
    (s : Swap L (bools b e l) (bools b e (l.set j u)) L') (hj : j < l.length) :
    Ef P n K (Sat R w0 L) ⟨dst, .store t x y, T, pos, af, g⟩ (fun _ : Unit => undef) (fun _ => Sat R w0 L') := by
  rw [Addr.add_lit, Nat.mul_one, Nat.zero_add] at hx
  refine e_store_any hs hx hy rfl fun w hw => ⟨⟨vb l[j], by rw [hw.cell (cs := l.map vb) s j]; simp [hj]⟩, hw.unfrozen (cs := l.map vb) s j, ?_⟩
  have s' : Swap L (cel b e (l.map vb)) (cel b e ((l.map vb).set j (vb u))) L' := by rw [← List.map_set]; exact s
  exact hw.set_ s'

theorem e_makeB {t e : TypeId} {x y : Operand} {m : Int} {i : TypeInfo} (hu : P.underlying t = some (.slice e)) (hi : ∀ w, (typeInfo e).run P w = .ok i w) (hz : i.zero = some (.bool false)) (hsz : i.size = 1) (hby : i.bytes ≤ 32)
    (hx : ev K x = some (.int .i64 m)) (hy : ev K y = some (.int .i64 m)) (h0 : 0 ≤ m) (hm : m ≤ 1000000) :
    Ef P n K (Sat R w0 L) ⟨dst, .makeSlice t x y, T, pos, af, g⟩ (fun b : Nat => .slice (some ⟨b, 0, none⟩) m.toNat m.toNat) (fun b => Sat R w0 (bools b e (List.replicate m.toNat false) :: L)) := by
  obtain ⟨k, rfl⟩ := Int.eq_ofNat_of_zero_le h0
  have := e_make (P := P) (n := n) (K := K) (dst := dst) (T := T) (pos := pos) (af := af) (g := g) (R := R) (w0 := w0) (L := L) hu hi hz rfl hsz hby hx hy (by omega)
  unfold bools
  rw [List.map_replicate]
  exact this
end
end Go.Sy
/- What grammars, derivations and their sets are, in plain terms. No condition. -/
namespace Go.Sy
open Go

def inB (n below : Int) : Bool := decide (0 ≤ n) && decide (n < below)
def symB (g : Gram) (s : Sym) : Bool := if s.term then inB s.n g.terms else inB s.n g.names
def ruleB (g : Gram) (r : Rule) : Bool := inB r.left g.names && decide (r.right.length ≤ 8) && r.right.all (symB g)
/-- May a grammar be? -/
def mayB (g : Gram) : Bool := inB g.terms 9 && decide (1 ≤ g.names) && decide (g.names ≤ 12) && decide (g.rules.length ≤ 40) && g.rules.all (ruleB g)

theorem all_take_succ {α : Type} (p : α → Bool) {l : List α} {k : Nat} {x : α} (hx : l[k]? = some x) : (l.take (k + 1)).all p = ((l.take k).all p && p x) := by
  rw [List.take_add_one, hx]; simp
theorem get_of_lt {α : Type} {l : List α} {k : Nat} (h : k < l.length) : ∃ x, l[k]? = some x := ⟨l[k], List.getElem?_eq_getElem h⟩
theorem take_all {α : Type} {l : List α} {k : Nat} (h : ¬ k < l.length) : l.take k = l := List.take_of_length_le (by omega)

theorem inB_true {n b : Int} : inB n b = true ↔ 0 ≤ n ∧ n < b := by simp [inB]
theorem inB_false {n b : Int} : inB n b = false ↔ n < 0 ∨ b ≤ n := by
  rw [← Bool.not_eq_true, inB_true]; omega
theorem symB_true {g : Gram} {s : Sym} : symB g s = true ↔ 0 ≤ s.n ∧ (s.term = true → s.n < g.terms) ∧ (s.term = false → s.n < g.names) := by
  unfold symB
  cases s.term <;> simp [inB_true]
theorem ruleB_true {g : Gram} {r : Rule} : ruleB g r = true ↔ 0 ≤ r.left ∧ r.left < g.names ∧ r.right.length ≤ 8 ∧ r.right.all (symB g) = true := by
  simp only [ruleB, Bool.and_eq_true, inB_true, decide_eq_true_eq]
  constructor
  · rintro ⟨⟨⟨h1, h2⟩, h3⟩, h4⟩; exact ⟨h1, h2, h3, h4⟩
  · rintro ⟨h1, h2, h3, h4⟩; exact ⟨⟨⟨h1, h2⟩, h3⟩, h4⟩
theorem mayB_true {g : Gram} : mayB g = true ↔ 0 ≤ g.terms ∧ g.terms < 9 ∧ 1 ≤ g.names ∧ g.names ≤ 12 ∧ g.rules.length ≤ 40 ∧ g.rules.all (ruleB g) = true := by
  simp only [mayB, Bool.and_eq_true, inB_true, decide_eq_true_eq]
  constructor
  · rintro ⟨⟨⟨⟨⟨h1, h2⟩, h3⟩, h4⟩, h5⟩, h6⟩; exact ⟨h1, h2, h3, h4, h5, h6⟩
  · rintro ⟨h1, h2, h3, h4, h5, h6⟩; exact ⟨⟨⟨⟨⟨h1, h2⟩, h3⟩, h4⟩, h5⟩, h6⟩
theorem all_get {α : Type} {p : α → Bool} {l : List α} (h : l.all p = true) {k : Nat} {x : α} (hx : l[k]? = some x) : p x = true :=
  List.all_eq_true.1 h x (List.mem_of_getElem? hx)
theorem rt {B : Bool} (h : B = true) : Ending.returned (.bool true) = .returned (.bool B) := by rw [h]
theorem rf {B : Bool} (h : ¬ B = true) : Ending.returned (.bool false) = .returned (.bool B) := by rw [Bool.not_eq_true] at h; rw [h]
/-- In a grammar that may be: what a rule and its symbols are. -/
theorem may_rule {g : Gram} (h : mayB g = true) {k : Nat} {r : Rule} (hx : g.rules[k]? = some r) : 0 ≤ r.left ∧ r.left < g.names ∧ r.right.length ≤ 8 := by
  have := ruleB_true.1 (all_get (mayB_true.1 h).2.2.2.2.2 hx)
  exact ⟨this.1, this.2.1, this.2.2.1⟩
theorem may_sym {g : Gram} (h : mayB g = true) {k j : Nat} {r : Rule} {s : Sym} (hx : g.rules[k]? = some r) (hs : r.right[j]? = some s) : 0 ≤ s.n ∧ (s.term = true → s.n < g.terms) ∧ (s.term = false → s.n < g.names) :=
  symB_true.1 (all_get (ruleB_true.1 (all_get (mayB_true.1 h).2.2.2.2.2 hx)).2.2.2 hs)
end Go.Sy
