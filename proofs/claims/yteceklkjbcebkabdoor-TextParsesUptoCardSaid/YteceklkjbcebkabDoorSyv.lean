/- One assertion of many, turned by a call; tables of truths. No condition. -/
import Derived.Test.YteceklkjbcebkabDoorSyu
namespace Go.Sy
open Go Go.RowKit

/-- Where one assertion stands, and what the list is with another one there. -/
inductive Hole : List HP → HP → (HP → List HP) → Prop
  | head {A : HP} {L : List HP} : Hole (A :: L) A (fun X => X :: L)
  | tail {A B : HP} {L : List HP} {K : HP → List HP} : Hole L A K → Hole (B :: L) A (fun X => B :: K X)
  | big {A : HP} {M L : List HP} {K : HP → List HP} : Hole M A K → Hole (stars M :: L) A (fun X => stars (K X) :: L)

theorem Hole.swap {L : List HP} {A : HP} {K : HP → List HP} (o : Hole L A K) (X : HP) : Swap L A X (K X) := by
  induction o with
  | head => exact .head
  | tail _ ih => exact .tail ih
  | big _ ih => exact .big ih
theorem Hole.idx {M : List HP} {A : HP} : ∀ {i : Nat}, M[i]? = some A → Hole M A (fun X => M.set i X) := by
  induction M with
  | nil => intro i h; simp at h
  | cons B M ih =>
    intro i h
    cases i with
    | zero => simp at h; subst h; exact .head
    | succ i => exact .tail (ih (by simpa using h))
theorem Hole.focus {L : List HP} {A : HP} {K : HP → List HP} (o : Hole L A K) : ∀ h, stars L h → ∃ h1 h2, Dis h1 h2 ∧ h = uni h1 h2 ∧ A h1 ∧ ∀ (X : HP) h3, Dis h3 h2 → X h3 → stars (K X) (uni h3 h2) := by
  induction o with
  | head =>
    rintro h ⟨h1, h2, hd, rfl, hA, hL⟩
    exact ⟨h1, h2, hd, rfl, hA, fun X h3 hd3 hA' => ⟨h3, h2, hd3, rfl, hA', hL⟩⟩
  | tail s ih =>
    rintro h ⟨h1, h2, hd, rfl, hB, hL⟩
    obtain ⟨h3, h4, hd', rfl, hA, hk⟩ := ih h2 hL
    refine ⟨h3, uni h1 h4, (Dis.join hd.symm.left.symm hd'.symm).symm, ?_, hA, fun X h5 hd5 hA' => ?_⟩
    · rw [← uni_assoc, uni_comm hd.symm.left.symm, uni_assoc]
    · refine ⟨h1, uni h5 h4, (Dis.join hd5.symm.left.symm (hd.symm.right)).symm, ?_, hB, hk X h5 hd5.symm.right.symm hA'⟩
      rw [← uni_assoc, uni_comm hd5.symm.left.symm, uni_assoc]
  | big s ih =>
    rintro h ⟨h1, h2, hd, rfl, hM, hL⟩
    obtain ⟨h3, h4, hd', rfl, hA, hk⟩ := ih h1 hM
    refine ⟨h3, uni h4 h2, (Dis.join hd'.symm hd.left.symm).symm, uni_assoc _ _ _, hA, fun X h5 hd5 hA' => ?_⟩
    rw [← uni_assoc]
    exact ⟨uni h5 h4, h2, Dis.join hd5.symm.right.symm hd.right, rfl, hk X h5 hd5.symm.left.symm hA', hL⟩

section
variable {P : Program} {R : Nat → Prop} {w0 w : World} {L L' L1 M : List HP} {A : HP} {K' : HP → List HP}
theorem lift_hole {f : FuncId} {vs : Array Value} {ι : Type} {V : ι → Value} {p : ι → Prop} {A' : ι → HP} (o : Hole L A K') (hS : Sat R w0 L w)
    (h : ∀ F, Sat R w0 [A, F] w → Calls P f vs w (fun e w' => ∃ x, e = .returned (V x) ∧ p x ∧ Sat R w0 [A' x, F] w')) :
    Calls P f vs w (fun e w' => ∃ x, e = .returned (V x) ∧ (p x ∧ Sat R w0 (K' (A' x)) w')) := by
  obtain ⟨x, hx, hy⟩ := hS.own
  obtain ⟨h1, h2, hd, rfl, hA, hk⟩ := o.focus x hx
  have hS' : Sat R w0 [A, fun h => h = h2] w := ⟨hS.os, hS.tape, hS.output, hS.size, hS.ro, uni h1 h2, ⟨h1, h2, hd, rfl, hA, h2, emp0, dis_emp h2, (uni_emp h2).symm, rfl, rfl⟩, hy⟩
  refine (h _ hS').mono fun e w' ⟨x, he, hp, hw⟩ => ⟨x, he, hp, hw.imp_ fun y ⟨h3, h4, hd3, e3, hA3, h5, h6, hd5, e5, h5e, h6e⟩ => ?_⟩
  have e6 : h6 = emp0 := h6e
  subst e6
  have e7 : h5 = h2 := h5e
  subst e7
  rw [uni_emp] at e5
  subst e5
  rw [e3]
  exact hk _ h3 hd3 hA3
end

/-- A table: its rows' blocks, each a made slice of 'm' truths. -/
abbrev encR (m : Nat) : Nat → List Value := fun b => [.slice (some ⟨b, 0, none⟩) m m]
def tabL (T : TypeId) (bl : List Nat) (tab : List (List Bool)) : List HP := List.zipWith (fun b l => bools b T l) bl tab
def tabA (T : TypeId) (bl : List Nat) (tab : List (List Bool)) : HP := stars (tabL T bl tab)
theorem tabL_get {T : TypeId} : ∀ {bl : List Nat} {tab : List (List Bool)} {i b : Nat} {l : List Bool}, bl[i]? = some b → tab[i]? = some l → (tabL T bl tab)[i]? = some (bools b T l)
  | [], _, _, _, _, h, _ => by cases h
  | _ :: _, [], _, _, _, _, h => by cases h
  | b' :: bl, l' :: tab, 0, b, l, h, h' => by
    simp only [List.getElem?_cons_zero, Option.some.injEq] at h h'
    subst h; subst h'; rfl
  | b' :: bl, l' :: tab, i + 1, b, l, h, h' => by
    show (tabL T bl tab)[i]? = _
    exact tabL_get (by simpa using h) (by simpa using h')
theorem tabL_set {T : TypeId} : ∀ {bl : List Nat} {tab : List (List Bool)} {i b : Nat} {l : List Bool}, bl[i]? = some b → (tabL T bl tab).set i (bools b T l) = tabL T bl (tab.set i l)
  | [], _, _, _, _, h => by cases h
  | _ :: _, [], _, _, _, _ => rfl
  | b' :: bl, l' :: tab, 0, b, l, h => by
    simp only [List.getElem?_cons_zero, Option.some.injEq] at h
    subst h; rfl
  | b' :: bl, l' :: tab, i + 1, b, l, h => by
    show _ :: (tabL T bl tab).set i _ = _ :: tabL T bl (tab.set i l)
    rw [tabL_set (by simpa using h)]
theorem tabL_add {T : TypeId} : ∀ {bl : List Nat} {tab : List (List Bool)} (b : Nat) (l : List Bool), bl.length = tab.length → tabL T (bl ++ [b]) (tab ++ [l]) = tabL T bl tab ++ [bools b T l]
  | [], [], b, l, _ => rfl
  | _ :: bl, _ :: tab, b, l, h => by
    show _ :: tabL T (bl ++ [b]) (tab ++ [l]) = _ :: (tabL T bl tab ++ _)
    rw [tabL_add b l (by simpa using h)]

theorem Hole.tab {T : TypeId} {bl : List Nat} {tab : List (List Bool)} {i b : Nat} {l : List Bool} {L : List HP} (h : bl[i]? = some b) (h' : tab[i]? = some l) : Hole (tabA T bl tab :: L) (bools b T l) (fun X => stars ((tabL T bl tab).set i X) :: L) :=
  .big (.idx (tabL_get h h'))

theorem add_twice (p : Addr) (i j : Nat) : (p.add i).add j = p.add (i + j) := by
  by_cases h1 : i = 0
  · subst h1; rw [Addr.add_zero', Nat.zero_add]
  · by_cases h2 : j = 0
    · subst h2; rw [Addr.add_zero', Nat.add_zero]
    · unfold Addr.add
      rw [if_neg h1, if_neg h2, if_neg (by omega)]
      simp only [Nat.add_assoc]
/-- A part of what reads as a list. -/
theorem SlAt.sub {ρ : Addr → Value → Prop} {sz : Nat} {α : Type} {at_ : Addr → α → Prop} {l : List α} {a : Option Addr} {c lo hi : Nat} (h : SlAt ρ sz (.slice a l.length c) at_ l) (h1 : lo ≤ hi) (h2 : hi ≤ l.length) :
    SlAt ρ sz (.slice (if c = lo then a else a.map (·.add (lo * sz))) (hi - lo) (c - lo)) at_ ((l.take hi).drop lo) := by
  obtain ⟨a', c', hv, h3, h4, hk⟩ := h
  injection hv with e1 _ e2
  subst e1
  subst e2
  have hlen : ((l.take hi).drop lo).length = hi - lo := by rw [List.length_drop, List.length_take]; omega
  refine ⟨_, _, by rw [hlen], by rw [hlen]; omega, by omega, fun k x hx => ?_⟩
  have hlt := (List.getElem?_eq_some_iff.1 hx).1
  rw [hlen] at hlt
  rw [List.getElem?_drop, List.getElem?_take, if_pos (by omega)] at hx
  obtain ⟨p, rfl, hp⟩ := hk (lo + k) x hx
  refine ⟨p.add (lo * sz), by rw [if_neg (by omega)]; rfl, ?_⟩
  rw [add_twice, ← Nat.add_mul]
  exact hp

/-- What a table reads as. -/
def TabAt (ρ : Addr → Value → Prop) (v : Value) (tab : List (List Bool)) : Prop := SlAt ρ 1 v (fun p l => ∃ rv, ρ p rv ∧ BoolsAt ρ rv l) tab
theorem TabAt.mono {ρ ρ' : Addr → Value → Prop} {v : Value} {tab : List (List Bool)} (h : TabAt ρ v tab) (f : ∀ a v, ρ a v → ρ' a v) : TabAt ρ' v tab := SlAt.mono h fun _ _ ⟨rv, h1, h2⟩ => ⟨rv, f _ _ h1, h2.mono f⟩

section
variable {P : Program} {n : Nat} {K : Env} {dst : Option Nat} {T : TypeId} {pos : String} {af : Array Edge} {g : Option (Nat × Bool)} {R : Nat → Prop} {w0 w : World} {L L' L1 : List HP} {Q : Exit → Act → World → Prop} {S S' : World → Prop}
variable {α : Type} {enc : α → List Value} {e : TypeId} {v : Value} {l : List α}
/-- Ways that part meet again behind a piece of code. -/
theorem CW_seqJ {ι : Type} (pre : ι → Prop) (KI : ι → Env) (SI : ι → World → Prop) {x y : Code} (h1 : CW P x (Exit.then (Again n KI SI pre) Q) n K S) (h2 : ∀ i, pre i → CW P y Q n (KI i) (SI i)) : CW P (.seq x y) Q n K S := by
  refine CW_seq fun a w ha hw => wp_mono (h1 a w ha hw) fun e a w h => ?_
  cases e <;> first
    | (obtain ⟨j, h3, h4, h5⟩ := h; exact h2 j h3 a w h4 h5)
    | exact h
theorem retc2 {fn : Func} {X : Ending → World → Prop} {c u m : Nat} {t : TypeId} {p : Addr} {vs : List Value} {x : Value} (hr : fn.results = #[.cell c t, .tmp u]) (hA : ∀ w, (isAgg t).run P w = .ok true w) (hs : ∀ w, (sizeOf t).run P w = .ok m w) (hp : look K c = some (.pointer (some p))) (hl : vs.length = m)
    (hc : ∀ w, S w → ∀ j v, vs[j]? = some v → w.cell? (p.add j) = some v) (hx : look K u = some x) (h : ∀ w, S w → X (.returned (.tuple #[.agg vs.toArray, x])) w) : EW .ret (bodyPost P fn X) n K S := fun a w ha hw =>
  ⟨ha.2.1, .tuple #[.agg vs.toArray, x], by
    subst hl
    have h1 := ha.2.2 c _ hp
    have h2 := ha.2.2 u x hx
    have h3 := run_loadCells_list (P := P) w p vs (hc w hw)
    simp only [Array.getD_eq_getD_getElem?] at h1 h2
    simp [results, hr, h1, h2, loadVar, hA, hs, h3, asAddr], h w hw⟩
theorem retc1a {fn : Func} {X : Ending → World → Prop} {c m : Nat} {t : TypeId} {p : Addr} {vs : List Value} (hr : fn.results = #[.cell c t]) (hA : ∀ w, (isAgg t).run P w = .ok true w) (hs : ∀ w, (sizeOf t).run P w = .ok m w) (hp : look K c = some (.pointer (some p))) (hl : vs.length = m)
    (hc : ∀ w, S w → ∀ j v, vs[j]? = some v → w.cell? (p.add j) = some v) (h : ∀ w, S w → X (.returned (.agg vs.toArray)) w) : EW .ret (bodyPost P fn X) n K S := fun a w ha hw =>
  ⟨ha.2.1, .agg vs.toArray, by
    subst hl
    have h1 := ha.2.2 c _ hp
    have h3 := run_loadCells_list (P := P) w p vs (hc w hw)
    simp only [Array.getD_eq_getD_getElem?] at h1
    simp [results, hr, h1, loadVar, hA, hs, h3, asAddr], h w hw⟩
theorem retc1 {fn : Func} {X : Ending → World → Prop} {c : Nat} {t : TypeId} {p : Addr} {v : Value} (hr : fn.results = #[.cell c t]) (hA : ∀ w, (isAgg t).run P w = .ok false w) (hp : look K c = some (.pointer (some p)))
    (hc : ∀ w, S w → w.cell? p = some v) (h : ∀ w, S w → X (.returned v) w) : EW .ret (bodyPost P fn X) n K S := fun a w ha hw =>
  ⟨ha.2.1, v, by
    have h1 := ha.2.2 c _ hp
    have h3 := hc w hw
    simp only [Array.getD_eq_getD_getElem?] at h1
    simp [results, hr, h1, loadVar, hA, h3, asAddr], h w hw⟩
theorem DW_fact {ops : Array Oper} {C : World → Prop} {z : Nat} {l : List (Nat × Bool)} {p : Prop} (hp : ∀ w, S w → p) (h : p → DW P ops Q C z l n K S) : DW P ops Q C z l n K S := fun a w ha hw => h (hp w hw) a w ha hw
theorem q_load_t1 {t : TypeId} {x : Operand} {b len cap k : Nat} {y : α} {u : Value} (hA : ∀ w, (isAgg t).run P w = .ok false w) (he : ∀ x, (enc x).length = 1)
    (hx : ev K x = some (.pointer (some ((⟨b, 0, none⟩ : Addr).add (k * 1))))) (s : Swap L (trow e 1 enc v l) (trow e 1 enc v l) L') (hv : v = .slice (some ⟨b, 0, none⟩) len cap) (hk : l[k]? = some y) (hj : enc y = [u]) :
    Qt P n K (Sat R w0 L) ⟨dst, .load t x, T, pos, af, g⟩ u :=
  q_load1 hA hx fun w hw => by have := hw.tget he s hv hk 0 u (by rw [hj]; rfl); rwa [Addr.add_zero'] at this

theorem Sat.tabAt {T T2 : TypeId} {bl : List Nat} {tab : List (List Bool)} {m : Nat} {L2 : List HP} (s : Swap L (trow T2 1 (encR m) v bl) (trow T2 1 (encR m) v bl) L') (s2 : Swap L (tabA T bl tab) (tabA T bl tab) L2) (h : Sat R w0 L w) (hl : bl.length = tab.length) (hm : ∀ l ∈ tab, l.length = m) (hm2 : m ≤ 9223372036854775807) : TabAt (Cl w) v tab := by
  obtain ⟨a, c, rfl, h1, h2, h3⟩ := h.tform s
  refine ⟨a, c, by rw [hl], by omega, h2, fun k x hx => ?_⟩
  have hk : k < bl.length := by rw [hl]; exact (List.getElem?_eq_some_iff.1 hx).1
  obtain ⟨b, rfl⟩ := h3 (by omega)
  have hb : bl[k]? = some bl[k] := List.getElem?_eq_getElem hk
  refine ⟨_, rfl, _, by have := h.tget (enc := encR m) (fun _ => rfl) s rfl hb 0 _ rfl; rwa [Addr.add_zero'] at this, ?_⟩
  obtain ⟨y, hy, hz⟩ := h.own
  obtain ⟨g1, g2, hd, rfl, hA, _⟩ := s2.focus y hy
  have hh : Sat R w0 [tabA T bl tab] w := ⟨h.os, h.tape, h.output, h.size, h.ro, g1, ⟨g1, emp0, dis_emp g1, (uni_emp g1).symm, hA, rfl⟩, fun b o hb => hz b o (by simp [uni, hb])⟩
  exact hh.boolsAt ((Hole.tab (L := []) hb hx).swap (bools 0 0 [])) (hm x (List.mem_of_getElem? hx)) (Nat.le_refl _) hm2
end
end Go.Sy
