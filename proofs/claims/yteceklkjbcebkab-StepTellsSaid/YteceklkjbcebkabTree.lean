/- Trees as they lie in memory. No condition. -/
import Derived.Test.YteceklkjbcebkabSyx
import Derived.Test.YteceklkjbcebkabPTree
namespace Go.Sy
open Go Go.RowKit

abbrev encP : Nat → List Value := fun b => [.pointer (some ⟨b, 0, none⟩)]
/-- Trees that are a function's own. -/
def kidsA : For → List Nat → HP
  | .nil, bs => fun h => bs = [] ∧ h = emp0
  | .cons x ks r, bs => fun h => ∃ b bs' v kb, bs = b :: bs' ∧ stars [cel b 99 [vi x, v], trow 80 1 encP v kb, kidsA ks kb, kidsA r bs'] h
/-- Trees that are there. -/
def KidsAt (ρ : Addr → Value → Prop) : For → List Nat → Prop
  | .nil, bs => bs = []
  | .cons x ks r, bs => ∃ b bs' v kb, bs = b :: bs' ∧ Row ρ ⟨b, 0, none⟩ [vi x, v] ∧ SlAt ρ 1 v (fun p b => ρ p (.pointer (some ⟨b, 0, none⟩))) kb ∧ KidsAt ρ ks kb ∧ KidsAt ρ r bs'

theorem kids_app : ∀ {f f' : For} {bs bs' : List Nat} {h1 h2 : Heap}, Dis h1 h2 → kidsA f bs h1 → kidsA f' bs' h2 → kidsA (f.app f') (bs ++ bs') (uni h1 h2)
  | .nil, f', bs, bs', h1, h2, _, ⟨e1, e2⟩, hb => by subst e1; subst e2; rw [emp_uni]; exact hb
  | .cons x ks r, f', bs, bs', h1, h2, hd, ⟨b, cs, v, kb, e, hs⟩, hb => by
    subst e
    obtain ⟨g1, g2, hd1, rfl, hc, g3, g4, hd2, rfl, ht, g5, g6, hd3, rfl, hk, g7, g8, hd4, rfl, hr, he⟩ := hs
    have e8 : g8 = emp0 := he
    subst e8
    rw [uni_emp] at *
    have h7 : Dis g7 h2 := hd.right.right.right
    have hr' := kids_app h7 hr hb
    refine ⟨b, cs ++ bs', v, kb, rfl, g1, uni g3 (uni g5 (uni g7 h2)), ?_, ?_, hc, g3, uni g5 (uni g7 h2), ?_, rfl, ht, g5, uni g7 h2, ?_, rfl, hk, uni g7 h2, emp0, dis_emp _, (uni_emp _).symm, hr', rfl⟩
    · have := Dis.join hd1.symm hd.left.symm
      simp only [uni_assoc] at this
      exact this.symm
    · simp only [uni_assoc]
    · have := Dis.join hd2.symm hd.right.left.symm
      simp only [uni_assoc] at this
      exact this.symm
    · exact (Dis.join hd3.symm hd.right.right.left.symm).symm

theorem kids_at {R' : Nat → Prop} {w : World} : ∀ {f : For} {bs : List Nat} {h : Heap}, kidsA f bs h → (∀ k o, h k = some o → R' k ∧ w.heap[k]? = some o) → KidsAt (Rd R' w) f bs
  | .nil, bs, h, ⟨e, _⟩, _ => e
  | .cons x ks r, bs, h, ⟨b, cs, v, kb, e, hs⟩, hh => by
    obtain ⟨g1, g2, hd1, rfl, hc, g3, g4, hd2, rfl, ht, g5, g6, hd3, rfl, hk, g7, g8, hd4, rfl, hr, he⟩ := hs
    have e8 : g8 = emp0 := he
    subst e8
    rw [uni_emp] at *
    have up : ∀ {a c : Heap}, Dis a c → (∀ k o, uni a c k = some o → R' k ∧ w.heap[k]? = some o) → (∀ k o, a k = some o → R' k ∧ w.heap[k]? = some o) ∧ (∀ k o, c k = some o → R' k ∧ w.heap[k]? = some o) := by
      intro a c hd h
      refine ⟨fun k o hk => h k o (by simp [uni, hk]), fun k o hk => h k o ?_⟩
      rw [uni_comm hd]; simp [uni, hk]
    obtain ⟨h1, h2⟩ := up hd1 hh
    obtain ⟨h3, h4⟩ := up hd2 h2
    obtain ⟨h5, h6⟩ := up hd3 h4
    obtain ⟨a, c, rfl, hc1, hc2, hcc⟩ := rd_row ht h3
    refine ⟨b, cs, _, kb, e, rd_cel hc h1, ⟨a, c, rfl, hc1, hc2, fun j y hj => ?_⟩, kids_at hk h5, kids_at hr h6⟩
    have hlt := (List.getElem?_eq_some_iff.1 hj).1
    obtain ⟨b', rfl, hb'⟩ := hcc (by omega)
    refine ⟨_, rfl, ?_⟩
    rw [Addr.add_lit, Nat.zero_add]
    have := hb' (j * 1 + 0) (.pointer (some ⟨y, 0, none⟩)) (by rw [flat_get (enc := encP) (size := 1) (fun _ => rfl) hj (by omega)]; rfl)
    exact this

section
variable {R : Nat → Prop} {w0 w : World} {L L1 : List HP}
theorem Sat.kidsNil (h : Sat R w0 L w) : Sat R w0 (kidsA .nil [] :: L) w := h.addEmp ⟨rfl, rfl⟩
theorem Sat.kidNew {b : Nat} {x : Int} {v : Value} {kb : List Nat} {ks : For} (h : Sat R w0 (cel b 99 [vi x, v] :: trow 80 1 encP v kb :: kidsA ks kb :: L) w) : Sat R w0 (kidsA (.cons x ks .nil) [b] :: L) w :=
  h.imp_ fun y hy => by
    obtain ⟨h1, h2, hd, e, ha, hb⟩ := (stars_append [cel b 99 [vi x, v], trow 80 1 encP v kb, kidsA ks kb] L y).1 hy
    refine ⟨h1, h2, hd, e, ⟨b, [], v, kb, rfl, ?_⟩, hb⟩
    exact (stars_append [cel b 99 [vi x, v], trow 80 1 encP v kb, kidsA ks kb] [kidsA .nil []] h1).2 ⟨h1, emp0, dis_emp h1, (uni_emp h1).symm, ha, emp0, emp0, dis_emp _, (uni_emp _).symm, ⟨rfl, rfl⟩, rfl⟩
theorem Sat.kidsApp {f f' : For} {bs bs' : List Nat} (h : Sat R w0 (kidsA f bs :: kidsA f' bs' :: L) w) : Sat R w0 (kidsA (f.app f') (bs ++ bs') :: L) w :=
  h.imp_ fun y ⟨h1, h2, hd, e, ha, h3, h4, hd', e', hb, hL⟩ => by
    subst e'
    refine ⟨uni h1 h3, h4, Dis.join hd.symm.right.symm hd', by rw [e, uni_assoc], kids_app hd.symm.left.symm ha hb, hL⟩

theorem lift_mut2 {P : Program} {f : FuncId} {vs : Array Value} {ι : Type} {V : ι → Value} {p : ι → Prop} {Zp : List PanicEntry → Prop} {A : HP} {M : ι → List HP} (pk : Pick L A L1) (hS : Sat R w0 L w)
    (h : ∀ F, Sat R w0 [A, F] w → Calls P f vs w (fun e w' => (∃ x, e = .returned (V x) ∧ p x ∧ Sat R w0 (M x ++ [F]) w') ∨ ∃ ch, e = .panicked ch ∧ Zp ch ∧ Sat R w0 [F] w')) :
    Calls P f vs w (fun e w' => (∃ x, e = .returned (V x) ∧ (p x ∧ Sat R w0 (M x ++ L1) w')) ∨ ∃ ch, e = .panicked ch ∧ (Zp ch ∧ Sat R w0 L1 w')) := by
  have one : ∀ y, stars [stars L1] y → stars L1 y := fun y ⟨h3, h4, _, e5, hL, e4⟩ => by
    have e6 : h4 = emp0 := e4
    subst e6
    rw [uni_emp] at e5
    subst e5
    exact hL
  refine (h _ (hS.pick pk).pack).mono fun e w' hp => ?_
  rcases hp with ⟨x, he, hp, hw⟩ | ⟨ch, he, hz, hw⟩
  · refine .inl ⟨x, he, hp, hw.imp_ fun y hy => ?_⟩
    obtain ⟨h1, h2, hd, e, ha, hb⟩ := (stars_append (M x) [stars L1] y).1 hy
    exact (stars_append (M x) L1 y).2 ⟨h1, h2, hd, e, ha, one _ hb⟩
  · exact .inr ⟨ch, he, hz, hw.imp_ one⟩
theorem lift_mutL {P : Program} {f : FuncId} {vs : Array Value} {ι : Type} {V : ι → Value} {p : ι → Prop} {M0 : List HP} {M : ι → List HP} (hS : Sat R w0 (M0 ++ L1) w)
    (h : ∀ F, Sat R w0 (M0 ++ [F]) w → Calls P f vs w (fun e w' => ∃ x, e = .returned (V x) ∧ p x ∧ Sat R w0 (M x ++ [F]) w')) :
    Calls P f vs w (fun e w' => ∃ x, e = .returned (V x) ∧ (p x ∧ Sat R w0 (M x ++ L1) w')) := by
  have hS' : Sat R w0 (M0 ++ [stars L1]) w := hS.imp_ fun y hy => by
    obtain ⟨h1, h2, hd, e, ha, hb⟩ := (stars_append M0 L1 y).1 hy
    exact (stars_append M0 [stars L1] y).2 ⟨h1, h2, hd, e, ha, h2, emp0, dis_emp h2, (uni_emp h2).symm, hb, rfl⟩
  refine (h _ hS').mono fun e w' ⟨x, he, hp, hw⟩ => ⟨x, he, hp, hw.imp_ fun y hy => ?_⟩
  obtain ⟨h1, h2, hd, e, ha, h3, h4, _, e5, hL, e4⟩ := (stars_append (M x) [stars L1] y).1 hy
  have e6 : h4 = emp0 := e4
  subst e6
  rw [uni_emp] at e5
  subst e5
  exact (stars_append (M x) L1 y).2 ⟨h1, h2, hd, e, ha, hL⟩
end

/-- What is owned is frozen, and the way goes on in the world as it is. -/
theorem CW_freeze [Inhabited (List Deferred)] {P : Program} {Q : Exit → Act → World → Prop} {n : Nat} {K : Env} {c : Code} {R : Nat → Prop} {w0 : World} {A : HP} {L : List HP}
    (h : ∀ (R' : Nat → Prop) (w1 : World), (∀ b, R b → R' b) → Sat R w0 (A :: L) w1 → (∃ h1, A h1 ∧ ∀ b o, h1 b = some o → R' b ∧ w1.heap[b]? = some o) → (∀ a v, Rd R w0 a v → Rd R' w1 a v) → CW P c Q n K (Sat R' w1 L)) : CW P c Q n K (Sat R w0 (A :: L)) := by
  intro a w ha hw
  obtain ⟨R', h1, h2, h3, h4⟩ := hw.freeze
  exact h R' w h1 hw h3 h4 a w ha h2
end Go.Sy
