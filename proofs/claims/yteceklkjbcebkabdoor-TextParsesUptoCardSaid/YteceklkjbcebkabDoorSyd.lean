/- The calculus for regions that draw their order: what only reads is taken ahead, what turns the world goes in a chain, and one walk serves every order. No condition. -/
import Derived.Test.YteceklkjbcebkabDoorSyf
import Derived.StillTail
namespace Go.Sy
open Go Go.RowKit

section
variable {P : Program} {ops : Array Oper} {Q : Exit → Act → World → Prop} {md : Region.Mode} {S : World → Prop} {z : Nat}

/-- Whatever order is picked from here on, and S holds behind every operation but the last one, 'z'. -/
def wpAnyE (P : Program) (md : Region.Mode) (ops : Array Oper) (Q : Exit → Act → World → Prop) (S : World → Prop) (z : Nat) : Nat → Array Bool → Act → World → Prop
  | 0, listed, a, w => Region.ready md ops listed = [] ∧ Q .normal a w
  | fuel + 1, listed, a, w =>
    (Region.ready md ops listed = [] → Q .normal a w) ∧
    ∀ i ∈ Region.ready md ops listed, wpOp P ops Q i (fun a' w' => (i = z ∨ S w') ∧ wpAnyE P md ops Q S z fuel (listed.setIfInBounds i true) a' w') a w

theorem wpAny_of_E : ∀ (fuel : Nat) (listed : Array Bool) (a : Act) (w : World), wpAnyE P md ops Q S z fuel listed a w → wpAny P md ops Q fuel listed a w
  | 0, _, _, _, h => h
  | fuel + 1, _, _, _, h => ⟨h.1, fun i hi => wpOp_mono (fun a' w' h' => wpAny_of_E fuel _ a' w' h'.2) (h.2 i hi)⟩

/-- No other is left when 'z' comes up. -/
def Sink (md : Region.Mode) (ops : Array Oper) (z : Nat) : Prop := z < ops.size → Region.sinkB md ops z = true ∧ Region.chainB md ops z = true

theorem wpAnyE_first {i : Nat} {oi : Oper} {v : Value} (hi : ops[i]? = some oi) (hsel : ∀ (j : Nat) (o : Oper) cs b, ops[j]? = some o → o.op ≠ .select cs b)
    (hQ : ∀ c a w, Q (.panic c) (a.put oi.dst v) w → Q (.panic c) a w) (hz : Sink md ops z) (hiz : i < z) :
    ∀ (fuel : Nat) (listed : Array Bool) (a : Act) (w : World), HeadInv md ops z listed →
      (∀ j oj, ops[j]? = some oj → j ≠ i → listed.getD j true = false → (∀ e ∈ oj.after, Region.binds md e = true → e.on ≠ i) → oi.apart ops oj = true) →
      i ∈ Region.ready md ops listed → YieldsIf P ops S oi v a → S w →
      wpAnyE P md ops Q S z fuel (listed.setIfInBounds i true) (a.put oi.dst v) w → wpAnyE P md ops Q S z (fuel + 1) listed a w := by
  have nz : ∀ (listed : Array Bool), HeadInv md ops z listed → i ∈ Region.ready md ops listed → ∀ j ∈ Region.ready md ops listed, j ≠ z := by
    intro listed inv hr j hj e
    subst e
    obtain ⟨hun, oj, hoj, _⟩ := mem_ready.1 hj
    have hlt : j < ops.size := (Array.getElem?_eq_some_iff.1 hoj).1
    obtain ⟨hs, hc⟩ := hz hlt
    exact tail_waits hs hc hlt inv _ i rfl hiz (mem_ready.1 hr).1 j (Nat.le_refl _) hj
  intro fuel
  induction fuel with
  | zero =>
    intro listed a w inv _ hr hy hS H
    refine ⟨fun h => (by rw [h] at hr; cases hr), fun j hj => ?_⟩
    by_cases hji : j = i
    · subst hji; exact hy.wpOp hi hS ⟨.inr hS, H⟩
    · have := ready_mono hj hji
      rw [H.1] at this
      cases this
  | succ fuel ih =>
    intro listed a w inv hfree hr hy hS H
    refine ⟨fun h => (by rw [h] at hr; cases hr), fun j hj => ?_⟩
    by_cases hji : j = i
    · subst hji; exact hy.wpOp hi hS ⟨.inr hS, H⟩
    · have hjz := nz listed inv hr j hj
      have h1 := H.2 j (ready_mono hj hji)
      obtain ⟨hjun, oj, hoj, hall⟩ := mem_ready.1 hj
      have hjlt : j < ops.size := (Array.getElem?_eq_some_iff.1 hoj).1
      have hnot : ∀ e ∈ oj.after, Region.binds md e = true → e.on ≠ i := fun e he hb heq => by
        have h1 := hall e he hb
        have h0 := (mem_ready.1 hr).1
        rw [heq] at h1
        rcases Nat.lt_or_ge i listed.size with h' | h'
        · simp [h'] at h0 h1; rw [h0] at h1; cases h1
        · simp [Array.getElem?_eq_none h'] at h1
      have h2 := wpOp_putIf hoj (hfree j oj hoj hji hjun hnot) (fun cs b => hsel i oi cs b hi) (fun cs b => hsel j oj cs b hoj) hQ hy h1
      have hfree' : ∀ k ok, ops[k]? = some ok → k ≠ i → (listed.setIfInBounds j true).getD k true = false →
          (∀ e ∈ ok.after, Region.binds md e = true → e.on ≠ i) → oi.apart ops ok = true := fun k ok hk hki hun hno => by
        refine hfree k ok hk hki ?_ hno
        by_cases hjk : j = k
        · subst hjk; exact hjun
        · rw [getD_set_ne true hjk] at hun; exact hun
      have hjz2 : j < z := by
        rcases Nat.lt_or_ge j z with h | h
        · exact h
        · have hzlt : z < ops.size := Nat.lt_of_le_of_lt h hjlt
          obtain ⟨hs, hc⟩ := hz hzlt
          exact absurd hj (tail_waits hs hc hzlt inv _ i rfl hiz (mem_ready.1 hr).1 j h)
      refine wpOp_mono (fun a' w' h3 => ?_) h2
      have hS' : S w' := h3.2.1.resolve_left hjz
      refine ⟨.inr hS', ih (listed.setIfInBounds j true) a' w' (inv.set hj hjz2) hfree' (ready_mono hr (Ne.symm hji)) h3.1 hS' ?_⟩
      rw [Array.setIfInBounds_comm _ _ hji]
      exact h3.2.2

/-- A walk in a given order: of each operation whether it turns the world. -/
def wpS (P : Program) (ops : Array Oper) (Q : Exit → Act → World → Prop) (S : World → Prop) (z : Nat) : List (Nat × Bool) → Act → World → Prop
  | [], a, w => Q .normal a w
  | (i, false) :: l, a, w => S w ∧ ∃ o v, ops[i]? = some o ∧ YieldsIf P ops S o v a ∧ wpS P ops Q S z l (a.put o.dst v) w
  | (i, true) :: l, a, w => wpOp P ops Q i (fun a' w' => (i = z ∨ S w') ∧ wpS P ops Q S z l a' w') a w

def schedB (md : Region.Mode) (ops : Array Oper) (z : Nat) : List (Nat × Bool) → Array Bool → Bool
  | [], listed => (Region.ready md ops listed).isEmpty
  | (i, false) :: l, listed => (Region.ready md ops listed).contains i && Region.free md ops listed i && Nat.blt i z && schedB md ops z l (listed.setIfInBounds i true)
  | (i, true) :: l, listed => (Region.ready md ops listed == [i]) && (Nat.blt i z || l.isEmpty) && schedB md ops z l (listed.setIfInBounds i true)

theorem wpAnyE_of_S (hsel : Region.noSelect ops = true) (hQ : ∀ c (a : Act) (d : Option Nat) (v : Value) w, Q (.panic c) (a.put d v) w → Q (.panic c) a w) (hz : Sink md ops z) : ∀ (l : List (Nat × Bool)) (listed : Array Bool) (a : Act) (w : World), (HeadInv md ops z listed ∨ l = []) → schedB md ops z l listed = true →
    wpS P ops Q S z l a w → wpAnyE P md ops Q S z l.length listed a w
  | [], listed, a, w, _, hB, h => ⟨by simpa [schedB] using hB, h⟩
  | (i, false) :: l, listed, a, w, inv, hB, h => by
    simp only [schedB, Bool.and_eq_true] at hB
    obtain ⟨⟨⟨hr, hf⟩, hi⟩, hB'⟩ := hB
    obtain ⟨hS, o, v, ho, hy, hrest⟩ := h
    have hiz : i < z := by simpa [Nat.blt_eq] using hi
    have inv' := inv.resolve_right (by simp)
    have hr' : i ∈ Region.ready md ops listed := by simpa using hr
    exact wpAnyE_first ho (Region.noSelect_spec hsel) (fun c a w hq => hQ c a _ _ w hq) hz hiz l.length listed a w inv' (Region.free_spec ho hf) hr' hy hS
      (wpAnyE_of_S hsel hQ hz l _ _ w (.inl (inv'.set hr' hiz)) hB' hrest)
  | (i, true) :: l, listed, a, w, inv, hB, h => by
    have hB2 : (Region.ready md ops listed == [i]) = true ∧ (Nat.blt i z || l.isEmpty) = true ∧ schedB md ops z l (listed.setIfInBounds i true) = true := by
      unfold schedB at hB
      simpa [and_assoc] using hB
    obtain ⟨hr, hi0, hB'⟩ := hB2
    have hi : Nat.blt i z = true ∨ l.isEmpty = true := by simpa using hi0
    have hr' : Region.ready md ops listed = [i] := by simpa using hr
    have inv' := inv.resolve_right (by simp)
    refine ⟨fun h0 => (by rw [h0] at hr'; cases hr'), fun j hj => ?_⟩
    rw [hr'] at hj
    have hji : j = i := by simpa using hj
    subst hji
    refine wpOp_mono (fun a' w' h' => ⟨h'.1, wpAnyE_of_S hsel hQ hz l _ a' w' ?_ hB' h'.2⟩) h
    rcases hi with hi | hi
    · have hiz : j < z := by simpa [Nat.blt_eq] using hi
      exact .inl (inv'.set (by rw [hr']; simp) hiz)
    · exact .inr (by simpa using hi)

def sinkOk (md : Region.Mode) (ops : Array Oper) (z : Nat) : Bool := Nat.ble ops.size z || (Region.sinkB md ops z && Region.chainB md ops z)

theorem sink_of_ok (h : sinkOk md ops z = true) : Sink md ops z := fun hlt => by
  simp only [sinkOk, Bool.or_eq_true, Bool.and_eq_true] at h
  rcases h with h | h
  · have := Nat.le_of_ble_eq_true h
    omega
  · exact h

/-- All that is asked of a schedule. -/
def drawOk (ops : Array Oper) (z : Nat) (l : List (Nat × Bool)) : Bool :=
  Region.noSelect ops && sinkOk .any ops z && (l.length == ops.size) && schedB .any ops z l (Array.replicate ops.size false)

theorem wp_region_S {id : Nat} {a : Act} {w : World} {l : List (Nat × Bool)} (hm : P.follows .mixedOrders = true) (hQ : ∀ c (a : Act) (d : Option Nat) (v : Value) w, Q (.panic c) (a.put d v) w → Q (.panic c) a w) (hB : drawOk ops z l = true)
    (h : wpS P ops Q S z l a { w with drawn := w.drawn + 1 }) : (Code.region id ops true).wp P Q a w := by
  simp only [drawOk, Bool.and_eq_true, beq_iff_eq] at hB
  obtain ⟨⟨⟨hsel, hs⟩, hl⟩, hB⟩ := hB
  refine wp_region_any hm (wpAny_of_E (S := S) (z := z) _ _ _ _ ?_)
  have inv : HeadInv .any ops z (Array.replicate ops.size false) := by
    refine ⟨by simp, fun j oj hj hl => ?_, fun t _ ht => by simp [ht]⟩
    rw [getD_replicate_false] at hl
    cases hl
  have := wpAnyE_of_S hsel hQ (sink_of_ok hs) l _ a _ (.inl inv) hB h
  rwa [hl] at this
end

/-! ### The same over what is known -/
/-- The list of a schedule, from a known frame and a world of the class; 'C': the class in which the readers read. -/
def DW (P : Program) (ops : Array Oper) (Q : Exit → Act → World → Prop) (C : World → Prop) (z : Nat) (l : List (Nat × Bool)) (n : Nat) (K : Env) (S : World → Prop) : Prop :=
  ∀ a w, Kn n K a → S w → wpS P ops Q C z l a w

/-- The exit's condition does not look at the frame where it panics. -/
def Blind (Q : Exit → Act → World → Prop) : Prop := ∀ c (a : Act) (d : Option Nat) (v : Value) w, Q (.panic c) (a.put d v) w → Q (.panic c) a w

section
variable {P : Program} {Q : Exit → Act → World → Prop} {n : Nat} {K : Env} {S C : World → Prop} {ops : Array Oper} {z : Nat} {l : List (Nat × Bool)}

theorem Blind.then {y : Code} (h : Blind Q) : Blind (thenQ P y Q) := fun c a d v w hq => h c a d v w hq
theorem Blind.again {A : Act → World → Prop} (h : Blind Q) : Blind (Exit.then A Q) := fun c a d v w hq => h c a d v w hq
theorem Blind.block {id : Nat} (h : Blind Q) : Blind (Exit.inBlock id Q) := fun c a d v w hq => h c a d v w hq
theorem Blind.body {fn : Func} {X : Ending → World → Prop} (h : ∀ c w, ¬ X (.panicked c) w) : Blind (bodyPost P fn X) := fun c _ _ _ w hq => absurd hq.2 (h c w)
theorem Blind.bodyP {fn : Func} {X : Ending → World → Prop} : Blind (bodyPost P fn X) := fun _ a d _ _ hq => ⟨(by have h := hq.1; cases d <;> exact h), hq.2⟩

theorem CW_draw {id : Nat} {lo : List Oper} (C : World → Prop) (z : Nat) (l : List (Nat × Bool)) (hm : P.follows .mixedOrders = true) (hQ : Blind Q) (hB : drawOk lo.toArray z l = true) (hS : ∀ w, S w → S w.drew)
    (h : DW P lo.toArray Q C z l n K S) : CW P (.region id lo.toArray true) Q n K S := fun a w ha hw => wp_region_S hm hQ hB (h a w.drew ha (hS w hw))

theorem DW_nil (h : EW .normal Q n K S) : DW P ops Q C z [] n K S := fun a w ha hw => h a w ha hw

theorem DW_q {i d : Nat} {op : Op} {T : TypeId} {pos : String} {af : Array Edge} {v : Value} (hi : ops[i]? = some ⟨some d, op, T, pos, af, none⟩) (hC : ∀ w, S w → C w)
    (hq : Qt P n K C ⟨some d, op, T, pos, af, none⟩ v) (hd : Nat.blt d n = true) (h : DW P ops Q C z l n ((d, v) :: K) S) :
    DW P ops Q C z ((i, false) :: l) n K S := fun a w ha hw =>
  ⟨hC w hw, _, v, hi, .inl ⟨by simp [Region.wanted], fun w' hw' => hq a ha w' hw'⟩, h _ w (ha.put hd v) hw⟩

/-- A guarded reader that is wanted. -/
theorem DW_qg {i d : Nat} {op : Op} {T : TypeId} {pos : String} {af : Array Edge} {v : Value} {j t : Nat} {want b : Bool} (hi : ops[i]? = some ⟨some d, op, T, pos, af, some (j, want)⟩) (hC : ∀ w, S w → C w)
    (hj : ((ops[j]?).bind (·.dst)) = some t) (hb : look K t = some (.bool b)) (hw : (b == want) = true)
    (hq : Qt P n K C ⟨some d, op, T, pos, af, some (j, want)⟩ v) (hd : Nat.blt d n = true) (h : DW P ops Q C z l n ((d, v) :: K) S) :
    DW P ops Q C z ((i, false) :: l) n K S := fun a w ha hs =>
  ⟨hC w hs, _, v, hi, .inl ⟨by simp only [Region.wanted, yielded_known ha hj hb]; simpa using hw, fun w' hw' => hq a ha w' hw'⟩, h _ w (ha.put hd v) hs⟩

theorem DW_skip {i d : Nat} {op : Op} {T : TypeId} {pos : String} {af : Array Edge} {j t : Nat} {want b : Bool} (hi : ops[i]? = some ⟨some d, op, T, pos, af, some (j, want)⟩) (hC : ∀ w, S w → C w)
    (hj : ((ops[j]?).bind (·.dst)) = some t) (hb : look K t = some (.bool b)) (hw : (b == want) = false) (hd : Nat.blt d n = true) (h : DW P ops Q C z l n ((d, undef) :: K) S) :
    DW P ops Q C z ((i, false) :: l) n K S := fun a w ha hs =>
  ⟨hC w hs, _, undef, hi, .inr ⟨by simp only [Region.wanted, yielded_known ha hj hb]; simpa using hw, rfl⟩, h _ w (ha.put hd _) hs⟩
theorem DW_skipU {i d : Nat} {op : Op} {T : TypeId} {pos : String} {af : Array Edge} {j t : Nat} {want : Bool} (hi : ops[i]? = some ⟨some d, op, T, pos, af, some (j, want)⟩) (hC : ∀ w, S w → C w)
    (hj : ((ops[j]?).bind (·.dst)) = some t) (hb : look K t = some undef) (hd : Nat.blt d n = true) (h : DW P ops Q C z l n ((d, undef) :: K) S) :
    DW P ops Q C z ((i, false) :: l) n K S := fun a w ha hs =>
  ⟨hC w hs, _, undef, hi, .inr ⟨by simp only [Region.wanted, yielded_undef ha hj hb]; simp, rfl⟩, h _ w (ha.put hd _) hs⟩

/-- An operation that turns the world, unless it is the last one: the class holds behind it. -/
theorem DW_e {i d : Nat} {op : Op} {T : TypeId} {pos : String} {af : Array Edge} {ι : Type} {V : ι → Value} {S' : ι → World → Prop} (hi : ops[i]? = some ⟨some d, op, T, pos, af, none⟩)
    (he : Ef P n K S ⟨some d, op, T, pos, af, none⟩ V S') (hd : Nat.blt d n = true) (hC : ∀ x w, S' x w → C w) (h : ∀ x, DW P ops Q C z l n ((d, V x) :: K) (S' x)) :
    DW P ops Q C z ((i, true) :: l) n K S := fun a w ha hw => by
  show wpOp P ops Q i _ a w
  unfold wpOp
  rw [hi]
  simp only [Region.wanted, if_true]
  exact .inl (he a w ha hw _ _ fun x w' hx => ⟨.inr (hC x w' hx), h x _ w' (ha.put hd _) hx⟩)

theorem DW_e0 {i : Nat} {op : Op} {T : TypeId} {pos : String} {af : Array Edge} {ι : Type} {V : ι → Value} {S' : ι → World → Prop} (hi : ops[i]? = some ⟨none, op, T, pos, af, none⟩)
    (he : Ef P n K S ⟨none, op, T, pos, af, none⟩ V S') (hC : ∀ x w, S' x w → C w) (h : ∀ x, DW P ops Q C z l n K (S' x)) :
    DW P ops Q C z ((i, true) :: l) n K S := fun a w ha hw => by
  show wpOp P ops Q i _ a w
  unfold wpOp
  rw [hi]
  simp only [Region.wanted, if_true]
  exact .inl (he a w ha hw _ _ fun x w' hx => ⟨.inr (hC x w' hx), h x _ w' ha hx⟩)

/-- The last one. -/
theorem DW_z0 {op : Op} {T : TypeId} {pos : String} {af : Array Edge} {ι : Type} {V : ι → Value} {S' : ι → World → Prop} (hi : ops[z]? = some ⟨none, op, T, pos, af, none⟩)
    (he : Ef P n K S ⟨none, op, T, pos, af, none⟩ V S') (h : ∀ x, EW .normal Q n K (S' x)) :
    DW P ops Q C z [(z, true)] n K S := fun a w ha hw => by
  show wpOp P ops Q z _ a w
  unfold wpOp
  rw [hi]
  simp only [Region.wanted, if_true]
  exact .inl (he a w ha hw _ _ fun x w' hx => ⟨.inl trivial, h x _ w' ha hx⟩)
theorem DW_z {d : Nat} {op : Op} {T : TypeId} {pos : String} {af : Array Edge} {ι : Type} {V : ι → Value} {S' : ι → World → Prop} (hi : ops[z]? = some ⟨some d, op, T, pos, af, none⟩)
    (he : Ef P n K S ⟨some d, op, T, pos, af, none⟩ V S') (hd : Nat.blt d n = true) (h : ∀ x, EW .normal Q n ((d, V x) :: K) (S' x)) :
    DW P ops Q C z [(z, true)] n K S := fun a w ha hw => by
  show wpOp P ops Q z _ a w
  unfold wpOp
  rw [hi]
  simp only [Region.wanted, if_true]
  exact .inl (he a w ha hw _ _ fun x w' hx => ⟨.inl trivial, h x _ w' (ha.put hd _) hx⟩)

theorem DW_part {t : Nat} {b : Bool} (hb : look K t = some (.bool b)) (ht : b = true → DW P ops Q C z l n ((t, .bool true) :: K) S) (hf : b = false → DW P ops Q C z l n ((t, .bool false) :: K) S) : DW P ops Q C z l n K S := by
  intro a w ha hw
  have hk : ∀ (c : Bool), b = c → Kn n ((t, .bool c) :: K) a := fun c hc => ⟨ha.1, ha.2.1, fun i v hv => by
    rcases look_cons hv with ⟨rfl, rfl⟩ | ⟨_, hv⟩
    · rw [ha.2.2 _ _ hb, hc]
    · exact ha.2.2 i v hv⟩
  cases b with
  | true => exact ht rfl a w (hk true rfl) hw
  | false => exact hf rfl a w (hk false rfl) hw

theorem DW_spell (t : Nat) {v : Value} (u : Value) (hb : look K t = some v) (he : v = u) (h : DW P ops Q C z l n ((t, u) :: K) S) : DW P ops Q C z l n K S := by
  subst he
  intro a w ha hw
  exact h a w ⟨ha.1, ha.2.1, fun i x hv => by
    rcases look_cons hv with ⟨rfl, rfl⟩ | ⟨_, hv⟩
    · exact ha.2.2 _ _ hb
    · exact ha.2.2 i x hv⟩ hw

/-- Whether one comes behind the other, a list keeps what is known. -/
theorem DW.world (S' : World → Prop) (hs : ∀ w, S w → S' w) (h : DW P ops Q C z l n K S') : DW P ops Q C z l n K S := fun a w ha hw => h a w ha (hs w hw)
end
end Go.Sy
