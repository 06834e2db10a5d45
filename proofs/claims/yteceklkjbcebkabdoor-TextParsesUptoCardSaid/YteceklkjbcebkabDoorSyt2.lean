/- Regions that draw their order and write more than once what is read in them: who writes waits for who reads. No condition. -/
import Derived.Test.YteceklkjbcebkabDoorSyw
namespace Go.Sy
open Go Go.RowKit

section
variable {P : Program} {ops : Array Oper} {Q : Exit → Act → World → Prop} {md : Region.Mode} {S : World → Prop} {br : List Nat}

/-- One of those that break the class is listed. -/
def Bk (br : List Nat) (listed : Array Bool) : Prop := ∃ k, k ∈ br ∧ listed.getD k false = true
theorem Bk.set {i : Nat} {listed : Array Bool} (h : Bk br listed) : Bk br (listed.setIfInBounds i true) := let ⟨k, h1, h2⟩ := h; ⟨k, h1, getD_set_true h2⟩
theorem Bk.unset {i : Nat} {listed : Array Bool} (h : Bk br (listed.setIfInBounds i true)) (hi : i ∉ br) : Bk br listed := by
  obtain ⟨k, h1, h2⟩ := h
  have hne : i ≠ k := fun e => hi (e ▸ h1)
  rw [getD_set_ne false hne] at h2
  exact ⟨k, h1, h2⟩

/-- Whatever order is picked from here on, and the class holds till one is listed that breaks it. -/
def wpAnyR (P : Program) (md : Region.Mode) (ops : Array Oper) (Q : Exit → Act → World → Prop) (S : World → Prop) (br : List Nat) : Nat → Array Bool → Act → World → Prop
  | 0, listed, a, w => Region.ready md ops listed = [] ∧ Q .normal a w
  | fuel + 1, listed, a, w =>
    (Region.ready md ops listed = [] → Q .normal a w) ∧
    ∀ i ∈ Region.ready md ops listed, wpOp P ops Q i (fun a' w' => (Bk br (listed.setIfInBounds i true) ∨ S w') ∧ wpAnyR P md ops Q S br fuel (listed.setIfInBounds i true) a' w') a w

theorem wpAny_of_R : ∀ (fuel : Nat) (listed : Array Bool) (a : Act) (w : World), wpAnyR P md ops Q S br fuel listed a w → wpAny P md ops Q fuel listed a w
  | 0, _, _, _, h => h
  | fuel + 1, _, _, _, h => ⟨h.1, fun i hi => wpOp_mono (fun a' w' h' => wpAny_of_R fuel _ a' w' h'.2) (h.2 i hi)⟩

/-- Every one that breaks the class waits for this one. -/
def waitsB (md : Region.Mode) (ops : Array Oper) (br : List Nat) (i : Nat) : Bool := br.all fun k => match ops[k]? with
  | some o => o.after.toList.any (fun e => Region.binds md e && e.on == i)
  | none => true

theorem waits_not {i j : Nat} {listed : Array Bool} (hw : waitsB md ops br i = true) (hun : listed.getD i true = false) (hj : j ∈ Region.ready md ops listed) : j ∉ br := by
  intro hb
  obtain ⟨_, oj, hoj, hall⟩ := mem_ready.1 hj
  have h1 := List.all_eq_true.1 hw j hb
  simp only [hoj] at h1
  obtain ⟨e, he, h2⟩ := List.any_eq_true.1 h1
  simp only [Bool.and_eq_true, beq_iff_eq] at h2
  have h3 := hall e (by simpa using he) h2.1
  rw [h2.2] at h3
  rcases Nat.lt_or_ge i listed.size with h' | h'
  · simp [h'] at hun h3; rw [hun] at h3; cases h3
  · simp [Array.getElem?_eq_none h'] at h3

theorem wpAnyR_first {i : Nat} {oi : Oper} {v : Value} {rd : Bool} (hi : ops[i]? = some oi) (hsel : ∀ (j : Nat) (o : Oper) cs b, ops[j]? = some o → o.op ≠ .select cs b)
    (hQ : ∀ c a w, Q (.panic c) (a.put oi.dst v) w → Q (.panic c) a w) (hbi : i ∉ br) (hwt : rd = true → waitsB md ops br i = true) :
    ∀ (fuel : Nat) (listed : Array Bool) (a : Act) (w : World), (rd = true → ¬ Bk br listed) →
      (∀ j oj, ops[j]? = some oj → j ≠ i → listed.getD j true = false → (∀ e ∈ oj.after, Region.binds md e = true → e.on ≠ i) → oi.apart ops oj = true) →
      i ∈ Region.ready md ops listed → YieldsIf P ops (fun w => rd = true → S w) oi v a → (Bk br listed ∨ S w) →
      wpAnyR P md ops Q S br fuel (listed.setIfInBounds i true) (a.put oi.dst v) w → wpAnyR P md ops Q S br (fuel + 1) listed a w := by
  intro fuel
  induction fuel with
  | zero =>
    intro listed a w hnb _ hr hy hS H
    refine ⟨fun h => (by rw [h] at hr; cases hr), fun j hj => ?_⟩
    by_cases hji : j = i
    · subst hji; exact hy.wpOp hi (fun h => hS.resolve_left (hnb h)) ⟨hS.imp Bk.set id, H⟩
    · have := ready_mono hj hji
      rw [H.1] at this
      cases this
  | succ fuel ih =>
    intro listed a w hnb hfree hr hy hS H
    refine ⟨fun h => (by rw [h] at hr; cases hr), fun j hj => ?_⟩
    by_cases hji : j = i
    · subst hji; exact hy.wpOp hi (fun h => hS.resolve_left (hnb h)) ⟨hS.imp Bk.set id, H⟩
    · have h1 := H.2 j (ready_mono hj hji)
      obtain ⟨hjun, oj, hoj, hall⟩ := mem_ready.1 hj
      have hiun := (mem_ready.1 hr).1
      have hnot : ∀ e ∈ oj.after, Region.binds md e = true → e.on ≠ i := fun e he hb heq => by
        have h1 := hall e he hb
        rw [heq] at h1
        rcases Nat.lt_or_ge i listed.size with h' | h'
        · simp [h'] at hiun h1; rw [hiun] at h1; cases h1
        · simp [Array.getElem?_eq_none h'] at h1
      have h2 := wpOp_putIf hoj (hfree j oj hoj hji hjun hnot) (fun cs b => hsel i oi cs b hi) (fun cs b => hsel j oj cs b hoj) hQ hy h1
      have hfree' : ∀ k ok, ops[k]? = some ok → k ≠ i → (listed.setIfInBounds j true).getD k true = false →
          (∀ e ∈ ok.after, Region.binds md e = true → e.on ≠ i) → oi.apart ops ok = true := fun k ok hk hki hun hno => by
        refine hfree k ok hk hki ?_ hno
        by_cases hjk : j = k
        · subst hjk; exact hjun
        · rw [getD_set_ne true hjk] at hun; exact hun
      refine wpOp_mono (fun a' w' h3 => ?_) h2
      have hnb' : rd = true → ¬ Bk br (listed.setIfInBounds j true) := fun h hb => hnb h (hb.unset (waits_not (hwt h) hiun hj))
      have hS' : Bk br (listed.setIfInBounds j true) ∨ S w' := by
        rcases h3.2.1 with hb | hs
        · rw [Array.setIfInBounds_comm _ _ (Ne.symm hji)] at hb
          exact .inl (hb.unset hbi)
        · exact .inr hs
      refine ⟨hS', ih (listed.setIfInBounds j true) a' w' hnb' hfree' (ready_mono hr (Ne.symm hji)) h3.1 hS' ?_⟩
      rw [Array.setIfInBounds_comm _ _ hji]
      exact h3.2.2

/-- A walk's order: of each operation whether it reads the world, only reckons, or turns the world; at a place two that turn it may come first. -/
inductive Sch
  | nil
  | q (i : Nat) (rd : Bool) (l : Sch)
  | e (i : Nat) (l : Sch)
  | alt (i : Nat) (l : Sch) (j : Nat) (l2 : Sch)
def Sch.len : Sch → Nat
  | nil => 0
  | q _ _ l => l.len + 1
  | e _ l => l.len + 1
  | alt _ l _ _ => l.len + 1
def wpT (P : Program) (ops : Array Oper) (Q : Exit → Act → World → Prop) (S : World → Prop) (br : List Nat) : Sch → Bool → Act → World → Prop
  | .nil, _, a, w => Q .normal a w
  | .q i rd l, bk, a, w => (bk = true ∨ S w) ∧ ∃ o v, ops[i]? = some o ∧ YieldsIf P ops (fun w => rd = true → S w) o v a ∧ wpT P ops Q S br l bk (a.put o.dst v) w
  | .e i l, bk, a, w => wpOp P ops Q i (fun a' w' => ((bk || br.contains i) = true ∨ S w') ∧ wpT P ops Q S br l (bk || br.contains i) a' w') a w
  | .alt i l j l2, bk, a, w => wpOp P ops Q i (fun a' w' => ((bk || br.contains i) = true ∨ S w') ∧ wpT P ops Q S br l (bk || br.contains i) a' w') a w ∧ wpOp P ops Q j (fun a' w' => ((bk || br.contains j) = true ∨ S w') ∧ wpT P ops Q S br l2 (bk || br.contains j) a' w') a w

def schedT (md : Region.Mode) (ops : Array Oper) (br : List Nat) : Sch → Bool → Array Bool → Bool
  | .nil, _, listed => (Region.ready md ops listed).isEmpty
  | .q i rd l, bk, listed => (Region.ready md ops listed).contains i && Region.free md ops listed i && !br.contains i && (!rd || (!bk && waitsB md ops br i)) && schedT md ops br l bk (listed.setIfInBounds i true)
  | .e i l, bk, listed => (Region.ready md ops listed == [i]) && Nat.blt i listed.size && schedT md ops br l (bk || br.contains i) (listed.setIfInBounds i true)
  | .alt i l j l2, bk, listed => (Region.ready md ops listed == [i, j]) && Nat.blt i listed.size && Nat.blt j listed.size && Nat.beq l.len l2.len && schedT md ops br l (bk || br.contains i) (listed.setIfInBounds i true) && schedT md ops br l2 (bk || br.contains j) (listed.setIfInBounds j true)

theorem bk_next {bk : Bool} {listed : Array Bool} {i : Nat} (hbk : bk = true ↔ Bk br listed) (hlt : i < listed.size) : (bk || br.contains i) = true ↔ Bk br (listed.setIfInBounds i true) := by
  rw [Bool.or_eq_true]
  constructor
  · rintro (h | h)
    · exact (hbk.1 h).set
    · exact ⟨i, by simpa using h, by simp [hlt]⟩
  · intro h
    by_cases hb : i ∈ br
    · exact .inr (by simpa using hb)
    · exact .inl (hbk.2 (h.unset hb))
theorem wpAnyR_of_T (hsel : Region.noSelect ops = true) (hQ : ∀ c (a : Act) (d : Option Nat) (v : Value) w, Q (.panic c) (a.put d v) w → Q (.panic c) a w) : ∀ (l : Sch) (bk : Bool) (listed : Array Bool) (a : Act) (w : World), (bk = true ↔ Bk br listed) → schedT md ops br l bk listed = true →
    wpT P ops Q S br l bk a w → wpAnyR P md ops Q S br l.len listed a w
  | .nil, bk, listed, a, w, _, hB, h => ⟨by simpa [schedT] using hB, h⟩
  | .q i rd l, bk, listed, a, w, hbk, hB, h => by
    have hB2 : (Region.ready md ops listed).contains i = true ∧ Region.free md ops listed i = true ∧ br.contains i = false ∧ (rd = true → bk = false ∧ waitsB md ops br i = true) ∧ schedT md ops br l bk (listed.setIfInBounds i true) = true := by
      unfold schedT at hB
      simp only [Bool.and_eq_true, Bool.or_eq_true, Bool.not_eq_true'] at hB
      obtain ⟨⟨⟨⟨h1, h2⟩, h3⟩, h4⟩, h5⟩ := hB
      exact ⟨h1, h2, h3, fun hr => h4.resolve_left (by rw [hr]; decide), h5⟩
    obtain ⟨hr, hf, hb, hrd, hB'⟩ := hB2
    obtain ⟨hS, o, v, ho, hy, hrest⟩ := h
    have hbi : i ∉ br := by simpa using hb
    have hr' : i ∈ Region.ready md ops listed := by simpa using hr
    exact wpAnyR_first ho (Region.noSelect_spec hsel) (fun c a w hq => hQ c a _ _ w hq) hbi (fun h => (hrd h).2) l.len listed a w (fun h hb => by have := hbk.2 hb; rw [(hrd h).1] at this; cases this) (Region.free_spec ho hf) hr' hy (hS.imp hbk.1 id)
      (wpAnyR_of_T hsel hQ l bk _ _ w ⟨fun h => (hbk.1 h).set, fun h => hbk.2 (h.unset hbi)⟩ hB' hrest)
  | .e i l, bk, listed, a, w, hbk, hB, h => by
    have hB2 : (Region.ready md ops listed == [i]) = true ∧ Nat.blt i listed.size = true ∧ schedT md ops br l (bk || br.contains i) (listed.setIfInBounds i true) = true := by
      unfold schedT at hB
      simpa [and_assoc] using hB
    obtain ⟨hr, hi0, hB'⟩ := hB2
    have hr' : Region.ready md ops listed = [i] := by simpa using hr
    have hlt : i < listed.size := by simpa [Nat.blt_eq] using hi0
    have hbk' := bk_next hbk hlt
    refine ⟨fun h0 => (by rw [h0] at hr'; cases hr'), fun j hj => ?_⟩
    rw [hr'] at hj
    have hji : j = i := by simpa using hj
    subst hji
    exact wpOp_mono (fun a' w' h2 => ⟨h2.1.imp hbk'.1 id, wpAnyR_of_T hsel hQ l _ _ a' w' hbk' hB' h2.2⟩) h
  | .alt i l j l2, bk, listed, a, w, hbk, hB, h => by
    unfold schedT at hB
    simp only [Bool.and_eq_true] at hB
    obtain ⟨⟨⟨⟨⟨hr, hi0⟩, hj0⟩, hl⟩, hB1⟩, hB2⟩ := hB
    have hr' : Region.ready md ops listed = [i, j] := by simpa using hr
    have hlti : i < listed.size := by simpa [Nat.blt_eq] using hi0
    have hltj : j < listed.size := by simpa [Nat.blt_eq] using hj0
    have hll : l.len = l2.len := Nat.eq_of_beq_eq_true hl
    have hbki := bk_next hbk hlti
    have hbkj := bk_next hbk hltj
    refine ⟨fun h0 => (by rw [h0] at hr'; cases hr'), fun k hk => ?_⟩
    rw [hr'] at hk
    rcases List.mem_cons.1 hk with rfl | hk
    · exact wpOp_mono (fun a' w' h2 => ⟨h2.1.imp hbki.1 id, wpAnyR_of_T hsel hQ l _ _ a' w' hbki hB1 h2.2⟩) h.1
    · have hkj : k = j := by simpa using hk
      subst hkj
      rw [hll]
      exact wpOp_mono (fun a' w' h2 => ⟨h2.1.imp hbkj.1 id, wpAnyR_of_T hsel hQ l2 _ _ a' w' hbkj hB2 h2.2⟩) h.2

def drawT (ops : Array Oper) (br : List Nat) (l : Sch) : Bool :=
  Region.noSelect ops && Nat.beq l.len ops.size && schedT .any ops br l false (Array.replicate ops.size false)

theorem wp_region_T {id : Nat} {a : Act} {w : World} {l : Sch} (hm : P.follows .mixedOrders = true) (hQ : ∀ c (a : Act) (d : Option Nat) (v : Value) w, Q (.panic c) (a.put d v) w → Q (.panic c) a w) (hB : drawT ops br l = true)
    (h : wpT P ops Q S br l false a { w with drawn := w.drawn + 1 }) : (Code.region id ops true).wp P Q a w := by
  simp only [drawT, Bool.and_eq_true] at hB
  obtain ⟨⟨hsel, hl⟩, hB⟩ := hB
  refine wp_region_any hm (wpAny_of_R (S := S) (br := br) _ _ _ _ ?_)
  have := wpAnyR_of_T hsel hQ l false (Array.replicate ops.size false) a _ ⟨(fun h => by cases h), (fun ⟨k, _, hk⟩ => by simp [Array.getElem?_replicate] at hk; split at hk <;> cases hk)⟩ hB h
  rwa [Nat.eq_of_beq_eq_true hl] at this
end

/-- The rest of a schedule, from a known frame and a world of the class. -/
def DT (P : Program) (ops : Array Oper) (Q : Exit → Act → World → Prop) (C : World → Prop) (br : List Nat) (bk : Bool) (l : Sch) (n : Nat) (K : Env) (S : World → Prop) : Prop :=
  ∀ a w, Kn n K a → S w → wpT P ops Q C br l bk a w

section
variable {P : Program} {Q : Exit → Act → World → Prop} {n : Nat} {K : Env} {S C : World → Prop} {ops : Array Oper} {br : List Nat} {bk : Bool} {l l2 : Sch}
theorem CW_drawT {id : Nat} {lo : List Oper} (C : World → Prop) (br : List Nat) (l : Sch) (hm : P.follows .mixedOrders = true) (hQ : Blind Q) (hB : drawT lo.toArray br l = true) (hS : ∀ w, S w → S w.drew)
    (h : DT P lo.toArray Q C br false l n K S) : CW P (.region id lo.toArray true) Q n K S := fun a w ha hw => wp_region_T hm hQ hB (h a w.drew ha (hS w hw))
theorem DT_nil (h : EW .normal Q n K S) : DT P ops Q C br bk .nil n K S := fun a w ha hw => h a w ha hw
/-- Either may come first. -/
theorem DT_alt {i j : Nat} (h : DT P ops Q C br bk (.e i l) n K S) (h2 : DT P ops Q C br bk (.e j l2) n K S) : DT P ops Q C br bk (.alt i l j l2) n K S := fun a w ha hw => ⟨h a w ha hw, h2 a w ha hw⟩
/-- One that reads; one that only reckons. -/
theorem DT_q {i d : Nat} {op : Op} {T : TypeId} {pos : String} {af : Array Edge} {v : Value} (hi : ops[i]? = some ⟨some d, op, T, pos, af, none⟩) (hC : ∀ w, S w → C w)
    (hq : Qt P n K C ⟨some d, op, T, pos, af, none⟩ v) (hd : Nat.blt d n = true) (h : DT P ops Q C br bk l n ((d, v) :: K) S) : DT P ops Q C br bk (.q i true l) n K S := fun a w ha hw =>
  ⟨.inr (hC w hw), _, v, hi, .inl ⟨by simp [Region.wanted], fun w' hw' => hq a ha w' (hw' rfl)⟩, h _ w (ha.put hd v) hw⟩
theorem DT_p {i d : Nat} {op : Op} {T : TypeId} {pos : String} {af : Array Edge} {v : Value} (hi : ops[i]? = some ⟨some d, op, T, pos, af, none⟩) (hC : bk = true ∨ ∀ w, S w → C w)
    (hq : Qt P n K (fun _ => True) ⟨some d, op, T, pos, af, none⟩ v) (hd : Nat.blt d n = true) (h : DT P ops Q C br bk l n ((d, v) :: K) S) : DT P ops Q C br bk (.q i false l) n K S := fun a w ha hw =>
  ⟨hC.imp id (fun h => h w hw), _, v, hi, .inl ⟨by simp [Region.wanted], fun w' _ => hq a ha w' trivial⟩, h _ w (ha.put hd v) hw⟩
theorem DT_e {i d : Nat} {op : Op} {T : TypeId} {pos : String} {af : Array Edge} {ι : Type} {V : ι → Value} {S' : ι → World → Prop} (hi : ops[i]? = some ⟨some d, op, T, pos, af, none⟩)
    (he : Ef P n K S ⟨some d, op, T, pos, af, none⟩ V S') (hd : Nat.blt d n = true) (hC : (bk || br.contains i) = true ∨ ∀ x w, S' x w → C w) (h : ∀ x, DT P ops Q C br (bk || br.contains i) l n ((d, V x) :: K) (S' x)) :
    DT P ops Q C br bk (.e i l) n K S := fun a w ha hw => by
  show wpOp P ops Q i (fun a' w' => ((bk || br.contains i) = true ∨ C w') ∧ wpT P ops Q C br l (bk || br.contains i) a' w') a w
  unfold wpOp
  rw [hi]
  simp only [Region.wanted, if_true]
  exact .inl (he a w ha hw _ _ fun x w' hx => ⟨hC.imp id (fun h => h x w' hx), h x _ w' (ha.put hd _) hx⟩)
theorem DT_e0 {i : Nat} {op : Op} {T : TypeId} {pos : String} {af : Array Edge} {ι : Type} {V : ι → Value} {S' : ι → World → Prop} (hi : ops[i]? = some ⟨none, op, T, pos, af, none⟩)
    (he : Ef P n K S ⟨none, op, T, pos, af, none⟩ V S') (hC : (bk || br.contains i) = true ∨ ∀ x w, S' x w → C w) (h : ∀ x, DT P ops Q C br (bk || br.contains i) l n K (S' x)) :
    DT P ops Q C br bk (.e i l) n K S := fun a w ha hw => by
  show wpOp P ops Q i (fun a' w' => ((bk || br.contains i) = true ∨ C w') ∧ wpT P ops Q C br l (bk || br.contains i) a' w') a w
  unfold wpOp
  rw [hi]
  simp only [Region.wanted, if_true]
  exact .inl (he a w ha hw _ _ fun x w' hx => ⟨hC.imp id (fun h => h x w' hx), h x _ w' ha hx⟩)
theorem DT_fact {p : Prop} (hp : ∀ w, S w → p) (h : p → DT P ops Q C br bk l n K S) : DT P ops Q C br bk l n K S := fun a w ha hw => h (hp w hw) a w ha hw
end
end Go.Sy
