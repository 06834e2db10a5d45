/- A small calculus for walks: what is known of a frame is a list of slots with their values, what is known of a world is a list of owned blocks beside blocks that nobody writes. No condition. -/
import Derived.WalkKit
import Derived.OrdersHeld
import Derived.KernelRfl
namespace Go.Sy
open Go

abbrev Env := List (Nat × Value)

def look : Env → Nat → Option Value
  | [], _ => none
  | p :: K, j => bif Nat.beq p.1 j then some p.2 else look K j

def ev (K : Env) : Operand → Option Value
  | .tmp t => look K t
  | .const v => some v
  | .global g => some (.pointer (some ⟨g, 0, none⟩))
  | .func f => some (.func (.func f) #[] #[])

def Kn [Inhabited (List Deferred)] (n : Nat) (K : Env) (a : Act) : Prop :=
  a.tmps.size = n ∧ a.defers = default ∧ ∀ i v, look K i = some v → a.tmps.getD i undef = v

theorem Kn.ev [Inhabited (List Deferred)] {n : Nat} {K : Env} {a : Act} (h : Kn n K a) {x : Operand} {v : Value} (hx : ev K x = some v) : a.eval x = v := by
  cases x with
  | tmp t => exact h.2.2 t v hx
  | const u => simp only [Sy.ev, Option.some.injEq] at hx; subst hx; rfl
  | global g => simp only [Sy.ev, Option.some.injEq] at hx; subst hx; rfl
  | func f => simp only [Sy.ev, Option.some.injEq] at hx; subst hx; rfl

theorem look_cons {d : Nat} {v : Value} {K : Env} {i : Nat} {u : Value} (h : look ((d, v) :: K) i = some u) : (d = i ∧ v = u) ∨ (d ≠ i ∧ look K i = some u) := by
  unfold look at h
  cases hb : Nat.beq d i with
  | true =>
    rw [hb] at h
    simp only [cond_true, Option.some.injEq] at h
    exact .inl ⟨Nat.eq_of_beq_eq_true hb, h⟩
  | false =>
    rw [hb] at h
    simp only [cond_false] at h
    exact .inr ⟨Nat.ne_of_beq_eq_false hb, h⟩

theorem Kn.put [Inhabited (List Deferred)] {n : Nat} {K : Env} {a : Act} (h : Kn n K a) {d : Nat} (hd : Nat.blt d n = true) (v : Value) : Kn n ((d, v) :: K) (a.put (some d) v) := by
  have hd' : d < n := by simpa [Nat.blt_eq] using hd
  refine ⟨by simp [Act.put, h.1], h.2.1, fun i u hu => ?_⟩
  rcases look_cons hu with ⟨rfl, rfl⟩ | ⟨hne, hu⟩
  · have hs : d < a.tmps.size := by rw [h.1]; exact hd'
    simp [Act.put, hs]
  · have := h.2.2 i u hu
    simp only [Act.put, Array.getD_eq_getD_getElem?] at this ⊢
    rw [Array.getElem?_setIfInBounds_ne hne]
    exact this

theorem Kn.put_none [Inhabited (List Deferred)] {n : Nat} {K : Env} {a : Act} (h : Kn n K a) (v : Value) : Kn n K (a.put none v) := h

theorem Kn.sub [Inhabited (List Deferred)] {n : Nat} {K K' : Env} {a : Act} (h : Kn n K a) (hk : ∀ i v, look K' i = some v → look K i = some v) : Kn n K' a :=
  ⟨h.1, h.2.1, fun i v hv => h.2.2 i v (hk i v hv)⟩

def Sub : Env → Env → Prop
  | [], _ => True
  | p :: K', K => look K p.1 = some p.2 ∧ Sub K' K

theorem Sub.look {K' K : Env} (h : Sub K' K) : ∀ i v, look K' i = some v → Sy.look K i = some v := by
  induction K' with
  | nil => intro i v hv; cases hv
  | cons p K' ih =>
    intro i v hv
    obtain ⟨d, u⟩ := p
    rcases look_cons hv with ⟨rfl, rfl⟩ | ⟨_, hv⟩
    · exact h.1
    · exact ih h.2 i v hv

/-! ### Judgements -/

/-- Code from a known frame and a world of the class. -/
def CW [Inhabited (List Deferred)] (P : Program) (c : Code) (Q : Exit → Act → World → Prop) (n : Nat) (K : Env) (S : World → Prop) : Prop :=
  ∀ a w, Kn n K a → S w → c.wp P Q a w

/-- An end, reached. -/
def EW [Inhabited (List Deferred)] (e : Exit) (Q : Exit → Act → World → Prop) (n : Nat) (K : Env) (S : World → Prop) : Prop :=
  ∀ a w, Kn n K a → S w → Q e a w

/-- A list of operations in the order of the text. -/
def OW [Inhabited (List Deferred)] (P : Program) (ops : Array Oper) (Q : Exit → Act → World → Prop) (l : List Oper) (n : Nat) (K : Env) (S : World → Prop) : Prop :=
  ∀ a w, Kn n K a → S w → wpList P ops Q l a w

/-- An operation that hands back a value and leaves the world, in every world of the class. -/
def Qt [Inhabited (List Deferred)] (P : Program) (n : Nat) (K : Env) (C : World → Prop) (o : Oper) (v : Value) : Prop :=
  ∀ a, Kn n K a → ∀ w, C w → (execOp a.eval o).run P w = .ok (.value v) w

/-- An operation that turns the world: what comes of it hangs on 'x'. -/
def Ef [Inhabited (List Deferred)] (P : Program) (n : Nat) (K : Env) (S : World → Prop) (o : Oper) {ι : Type} (V : ι → Value) (S' : ι → World → Prop) : Prop :=
  ∀ a w, Kn n K a → S w → ∀ (next : Act → World → Prop) (Q : Exit → Act → World → Prop),
    (∀ x w', S' x w' → next (a.put o.dst (V x)) w') → o.wp P a w next Q

section
variable {P : Program} {Q : Exit → Act → World → Prop} {n : Nat} {K : Env} {S : World → Prop}

theorem CW.mono [Inhabited (List Deferred)] {c : Code} {Q' : Exit → Act → World → Prop} (h : CW P c Q n K S) (hq : ∀ e a w, Q e a w → Q' e a w) : CW P c Q' n K S :=
  fun a w ha hw => wp_mono (h a w ha hw) hq

theorem CW.weak [Inhabited (List Deferred)] {c : Code} {K' : Env} {S' : World → Prop} (h : CW P c Q n K' S') (hk : Sub K' K) (hs : ∀ w, S w → S' w) : CW P c Q n K S :=
  fun a w ha hw => h a w (ha.sub hk.look) (hs w hw)
theorem CW.cut [Inhabited (List Deferred)] {c : Code} (K' : Env) (S' : World → Prop) (hk : Sub K' K) (hs : ∀ w, S w → S' w) (h : CW P c Q n K' S') : CW P c Q n K S := h.weak hk hs
theorem EW.cut [Inhabited (List Deferred)] {e : Exit} (K' : Env) (S' : World → Prop) (hk : Sub K' K) (hs : ∀ w, S w → S' w) (h : EW e Q n K' S') : EW e Q n K S :=
  fun a w ha hw => h a w (ha.sub hk.look) (hs w hw)
theorem OW.world [Inhabited (List Deferred)] {ops : Array Oper} {l : List Oper} (S' : World → Prop) (hs : ∀ w, S w → S' w) (h : OW P ops Q l n K S') : OW P ops Q l n K S :=
  fun a w ha hw => h a w ha (hs w hw)
theorem CW.world [Inhabited (List Deferred)] {c : Code} (S' : World → Prop) (hs : ∀ w, S w → S' w) (h : CW P c Q n K S') : CW P c Q n K S :=
  fun a w ha hw => h a w ha (hs w hw)
theorem EW.world [Inhabited (List Deferred)] {e : Exit} (S' : World → Prop) (hs : ∀ w, S w → S' w) (h : EW e Q n K S') : EW e Q n K S :=
  fun a w ha hw => h a w ha (hs w hw)

/-- The exit's condition behind 'seq': the next code. -/
def thenQ (P : Program) (y : Code) (Q : Exit → Act → World → Prop) : Exit → Act → World → Prop := Exit.then (y.wp P Q) Q

theorem CW_seq [Inhabited (List Deferred)] {x y : Code} (h : CW P x (thenQ P y Q) n K S) : CW P (.seq x y) Q n K S := fun a w ha hw => wp_seq (h a w ha hw)
theorem EW_then [Inhabited (List Deferred)] {y : Code} (h : CW P y Q n K S) : EW .normal (thenQ P y Q) n K S := fun a w ha hw => h a w ha hw
theorem EW_then_exit [Inhabited (List Deferred)] {y : Code} {id : Nat} (h : EW (.exit id) Q n K S) : EW (.exit id) (thenQ P y Q) n K S := fun a w ha hw => h a w ha hw
theorem EW_then_ret [Inhabited (List Deferred)] {y : Code} (h : EW .ret Q n K S) : EW .ret (thenQ P y Q) n K S := fun a w ha hw => h a w ha hw
theorem EW_then_panic [Inhabited (List Deferred)] {y : Code} {ch : List PanicEntry} (h : EW (.panic ch) Q n K S) : EW (.panic ch) (thenQ P y Q) n K S := fun a w ha hw => h a w ha hw

theorem CW_block [Inhabited (List Deferred)] {id : Nat} {c : Code} (h : CW P c (Exit.inBlock id Q) n K S) : CW P (.block id c) Q n K S := fun a w ha hw => wp_block (h a w ha hw)
theorem EW_block_normal [Inhabited (List Deferred)] {id : Nat} (h : EW .normal Q n K S) : EW .normal (Exit.inBlock id Q) n K S := fun a w ha hw => h a w ha hw
theorem EW_block_ret [Inhabited (List Deferred)] {id : Nat} (h : EW .ret Q n K S) : EW .ret (Exit.inBlock id Q) n K S := fun a w ha hw => h a w ha hw
theorem EW_block_panic [Inhabited (List Deferred)] {id : Nat} {ch : List PanicEntry} (h : EW (.panic ch) Q n K S) : EW (.panic ch) (Exit.inBlock id Q) n K S := fun a w ha hw => h a w ha hw
theorem EW_block_exit [Inhabited (List Deferred)] {id : Nat} (h : EW .normal Q n K S) : EW (.exit id) (Exit.inBlock id Q) n K S := fun a w ha hw => by
  simp only [Exit.inBlock, if_true]; exact h a w ha hw
theorem EW_block_other [Inhabited (List Deferred)] {id id' : Nat} (hne : Nat.beq id' id = false) (h : EW (.exit id') Q n K S) : EW (.exit id') (Exit.inBlock id Q) n K S := fun a w ha hw => by
  simp only [Exit.inBlock, if_neg (Nat.ne_of_beq_eq_false hne)]; exact h a w ha hw

theorem CW_skip [Inhabited (List Deferred)] (h : EW .normal Q n K S) : CW P .skip Q n K S := fun a w ha hw => wp_skip (h a w ha hw)
theorem CW_label [Inhabited (List Deferred)] {l : Nat} (h : EW .normal Q n K S) : CW P (.label l) Q n K S := fun a w ha hw => wp_label (h a w ha hw)
theorem CW_exit [Inhabited (List Deferred)] {id : Nat} (h : EW (.exit id) Q n K S) : CW P (.exit id) Q n K S := fun a w ha hw => wp_exit (h a w ha hw)
theorem CW_ret [Inhabited (List Deferred)] (h : EW .ret Q n K S) : CW P .ret Q n K S := fun a w ha hw => wp_ret (h a w ha hw)

theorem CW_cond [Inhabited (List Deferred)] {c : Operand} {x y : Code} {t : Bool} (hc : ev K c = some (.bool t)) (ht : t = true → CW P x Q n K S) (hf : t = false → CW P y Q n K S) :
    CW P (.cond c x y) Q n K S := fun a w ha hw => wp_cond_split (ha.ev hc) (fun h => ht h a w ha hw) (fun h => hf h a w ha hw)
theorem CW_true [Inhabited (List Deferred)] {c : Operand} {x y : Code} {t : Bool} (hc : ev K c = some (.bool t)) (ht : t = true) (h : CW P x Q n K S) : CW P (.cond c x y) Q n K S :=
  CW_cond hc (fun _ => h) (fun hf => absurd (ht.symm.trans hf) (by decide))
theorem CW_false [Inhabited (List Deferred)] {c : Operand} {x y : Code} {t : Bool} (hc : ev K c = some (.bool t)) (ht : t = false) (h : CW P y Q n K S) : CW P (.cond c x y) Q n K S :=
  CW_cond hc (fun hf => absurd (ht.symm.trans hf) (by decide)) (fun _ => h)

/-- What holds at a loop's head: some state of the family, of lesser measure. -/
def Again [Inhabited (List Deferred)] {ι : Type} (n : Nat) (KI : ι → Env) (SI : ι → World → Prop) (p : ι → Prop) : Act → World → Prop := fun a w => ∃ j, p j ∧ Kn n (KI j) a ∧ SI j w

theorem CW_loop [Inhabited (List Deferred)] {ι : Type} (KI : ι → Env) (SI : ι → World → Prop) (μ : ι → Nat) (i0 : ι) {c : Code} (hk : Sub (KI i0) K) (hs : ∀ w, S w → SI i0 w)
    (round : ∀ i, CW P c (Exit.then (Again n KI SI (fun j => μ j < μ i)) Q) n (KI i) (SI i)) : CW P (.loop c) Q n K S := by
  intro a w ha hw b k cs
  have key : ∀ m i, μ i = m → ∀ a w, Kn n (KI i) a → SI i w →
      ∃ e a' w', Q e a' w' ∧ Arrives P (lone (b.at a (.code c :: .inLoop c :: k)) cs w) b k cs e a' w' := by
    intro m
    induction m using Nat.strongRecOn with
    | _ m ih =>
      intro i hm a w ha hw
      obtain ⟨e, a1, w1, hq, harr⟩ := round i a w ha hw b (.inLoop c :: k) cs
      cases e with
      | normal =>
        obtain ⟨j, hlt, hk1, hs1⟩ := hq
        obtain ⟨e2, a2, w2, hq2, harr2⟩ := ih (μ j) (hm ▸ hlt) j rfl a1 w1 hk1 hs1
        exact ⟨e2, a2, w2, hq2, .of_steps (Steps.trans harr (.one step_inLoop)) harr2⟩
      | exit id => exact ⟨_, a1, w1, hq, .pass (x := .inLoop c) rfl (fun _ _ => .inl (by simp)) harr⟩
      | goto l => exact ⟨_, a1, w1, hq, .pass (x := .inLoop c) rfl (fun _ _ => .inl (by simp)) harr⟩
      | ret => exact ⟨_, a1, w1, hq, .pass (x := .inLoop c) rfl (fun _ _ => .inl (by simp)) harr⟩
      | panic ch => exact ⟨_, a1, w1, hq, .pass (x := .inLoop c) rfl (fun _ _ => .inl (by simp)) harr⟩
      | outgrown => exact ⟨_, a1, w1, hq, .pass (x := .inLoop c) rfl (fun _ _ => .inl (by simp)) harr⟩
  obtain ⟨e, a', w', hq, harr⟩ := key _ i0 rfl a w (ha.sub hk.look) (hs w hw)
  exact ⟨e, a', w', hq, .of_steps (.one step_loop) harr⟩

/-! ### The loop's round: its ends -/
theorem EW_again [Inhabited (List Deferred)] {ι : Type} {KI : ι → Env} {SI : ι → World → Prop} {p : ι → Prop} (j : ι) (hp : p j) (hk : Sub (KI j) K) (hs : ∀ w, S w → SI j w) :
    EW .normal (Exit.then (Again n KI SI p) Q) n K S := fun _ w ha hw => ⟨j, hp, ha.sub hk.look, hs w hw⟩
theorem EW_out [Inhabited (List Deferred)] {A : Act → World → Prop} {id : Nat} (h : EW (.exit id) Q n K S) : EW (.exit id) (Exit.then A Q) n K S := fun a w ha hw => h a w ha hw
theorem EW_out_ret [Inhabited (List Deferred)] {A : Act → World → Prop} (h : EW .ret Q n K S) : EW .ret (Exit.then A Q) n K S := fun a w ha hw => h a w ha hw
theorem EW_out_panic [Inhabited (List Deferred)] {A : Act → World → Prop} {ch : List PanicEntry} (h : EW (.panic ch) Q n K S) : EW (.panic ch) (Exit.then A Q) n K S := fun a w ha hw => h a w ha hw

/-! ### Regions in the order of the text -/
theorem CW_region [Inhabited (List Deferred)] {id : Nat} {l : List Oper} (h : OW P l.toArray Q l n K S) : CW P (.region id l.toArray false) Q n K S := fun a w ha hw => wp_region_lit (h a w ha hw)
theorem OW_nil [Inhabited (List Deferred)] {ops : Array Oper} (h : EW .normal Q n K S) : OW P ops Q [] n K S := fun a w ha hw => wpList_nil (h a w ha hw)

theorem OW_q [Inhabited (List Deferred)] {ops : Array Oper} {d : Nat} {op : Op} {T : TypeId} {pos : String} {af : Array Edge} {rest : List Oper} {v : Value}
    (hq : Qt P n K S ⟨some d, op, T, pos, af, none⟩ v) (hd : Nat.blt d n = true) (h : OW P ops Q rest n ((d, v) :: K) S) :
    OW P ops Q (⟨some d, op, T, pos, af, none⟩ :: rest) n K S := by
  intro a w ha hw
  unfold wpList
  rw [if_pos (by simp [Region.wanted])]
  refine .inl ?_
  unfold Oper.wp
  rw [hq a ha w hw]
  exact h _ w (ha.put hd v) hw

theorem OW_e [Inhabited (List Deferred)] {ops : Array Oper} {d : Nat} {op : Op} {T : TypeId} {pos : String} {af : Array Edge} {rest : List Oper} {ι : Type} {V : ι → Value} {S' : ι → World → Prop}
    (he : Ef P n K S ⟨some d, op, T, pos, af, none⟩ V S') (hd : Nat.blt d n = true) (h : ∀ x, OW P ops Q rest n ((d, V x) :: K) (S' x)) :
    OW P ops Q (⟨some d, op, T, pos, af, none⟩ :: rest) n K S := by
  intro a w ha hw
  unfold wpList
  rw [if_pos (by simp [Region.wanted])]
  exact .inl (he a w ha hw _ _ fun x w' hx => h x _ w' (ha.put hd _) hx)

theorem OW_e0 [Inhabited (List Deferred)] {ops : Array Oper} {op : Op} {T : TypeId} {pos : String} {af : Array Edge} {rest : List Oper} {ι : Type} {V : ι → Value} {S' : ι → World → Prop}
    (he : Ef P n K S ⟨none, op, T, pos, af, none⟩ V S') (h : ∀ x, OW P ops Q rest n K (S' x)) :
    OW P ops Q (⟨none, op, T, pos, af, none⟩ :: rest) n K S := by
  intro a w ha hw
  unfold wpList
  rw [if_pos (by simp [Region.wanted])]
  exact .inl (he a w ha hw _ _ fun x w' hx => h x _ w' ha hx)

/-- A guarded operation: the guard's operation has left a truth in its slot. -/
theorem yielded_known [Inhabited (List Deferred)] {ops : Array Oper} {a : Act} (ha : Kn n K a) {j t : Nat} {b : Bool} (hj : ((ops[j]?).bind (·.dst)) = some t) (hb : look K t = some (.bool b)) : yielded ops a.tmps j = some b := by
  have := ha.2.2 t _ hb
  unfold yielded
  rw [hj]
  simp only [Array.getD_eq_getD_getElem?] at this
  cases h : a.tmps[t]? with
  | none => rw [h] at this; cases this
  | some u =>
    rw [h] at this
    simp only [Option.getD_some] at this
    subst this
    simp [h]

theorem yielded_undef [Inhabited (List Deferred)] {ops : Array Oper} {a : Act} (ha : Kn n K a) {j t : Nat} (hj : ((ops[j]?).bind (·.dst)) = some t) (hb : look K t = some undef) : yielded ops a.tmps j = none := by
  have := ha.2.2 t _ hb
  unfold yielded
  rw [hj]
  simp only [Array.getD_eq_getD_getElem?] at this
  cases h : a.tmps[t]? with
  | none => simp [h]
  | some u =>
    rw [h] at this
    simp only [Option.getD_some] at this
    subst this
    simp [h, undef]

theorem OW_skip [Inhabited (List Deferred)] {ops : Array Oper} {d : Nat} {op : Op} {T : TypeId} {pos : String} {af : Array Edge} {rest : List Oper} {j t : Nat} {want b : Bool}
    (hj : ((ops[j]?).bind (·.dst)) = some t) (hb : look K t = some (.bool b)) (hw : (b == want) = false) (hd : Nat.blt d n = true) (h : OW P ops Q rest n ((d, undef) :: K) S) :
    OW P ops Q (⟨some d, op, T, pos, af, some (j, want)⟩ :: rest) n K S := by
  intro a w ha hs
  unfold wpList
  rw [if_neg (by
    simp only [Region.wanted, yielded_known ha hj hb]
    simpa using hw)]
  exact h _ w (ha.put hd _) hs
theorem OW_skipU [Inhabited (List Deferred)] {ops : Array Oper} {d : Nat} {op : Op} {T : TypeId} {pos : String} {af : Array Edge} {rest : List Oper} {j t : Nat} {want : Bool}
    (hj : ((ops[j]?).bind (·.dst)) = some t) (hb : look K t = some undef) (hd : Nat.blt d n = true) (h : OW P ops Q rest n ((d, undef) :: K) S) :
    OW P ops Q (⟨some d, op, T, pos, af, some (j, want)⟩ :: rest) n K S := by
  intro a w ha hs
  unfold wpList
  rw [if_neg (by
    simp only [Region.wanted, yielded_undef ha hj hb]
    simp)]
  exact h _ w (ha.put hd _) hs

theorem OW_wanted [Inhabited (List Deferred)] {ops : Array Oper} {dst : Option Nat} {op : Op} {T : TypeId} {pos : String} {af : Array Edge} {rest : List Oper} {j t : Nat} {want b : Bool}
    (hj : ((ops[j]?).bind (·.dst)) = some t) (hb : look K t = some (.bool b)) (hw : (b == want) = true) (h : OW P ops Q (⟨dst, op, T, pos, af, none⟩ :: rest) n K S) :
    OW P ops Q (⟨dst, op, T, pos, af, some (j, want)⟩ :: rest) n K S := by
  intro a w ha hs
  have := h a w ha hs
  unfold wpList at this ⊢
  rw [if_pos (by simp [Region.wanted])] at this
  rw [if_pos (by
    simp only [Region.wanted, yielded_known ha hj hb]
    simpa using hw)]
  exact this
end
end Go.Sy
