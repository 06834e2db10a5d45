/- Derivations as trees, in plain terms: read off a list of rules, gone through, and what the list's other reading says. No condition. -/
import Derived.Test.YteceklkjbcebkabPThru
namespace Go.Sy
open Go

/-- Trees in a row: the first one's rule, what it has become, the others. -/
inductive For
  | nil
  | cons (rule : Int) (kids rest : For)
def For.app : For → For → For
  | .nil, f => f
  | .cons x k r, f => .cons x k (r.app f)
theorem For.app_nil : ∀ f : For, f.app .nil = f
  | .nil => rfl
  | .cons x k r => by show For.cons x k (r.app .nil) = _; rw [For.app_nil r]
theorem For.app_assoc : ∀ a b c : For, (a.app b).app c = a.app (b.app c)
  | .nil, _, _ => rfl
  | .cons x k r, b, c => by show For.cons x k ((r.app b).app c) = For.cons x k (r.app (b.app c)); rw [For.app_assoc r]
def For.flat : For → List Int
  | .nil => []
  | .cons x k r => x :: (k.flat ++ r.flat)

/-- Symbols, read off a list of rules: the trees of their names, and what is left; or nothing. -/
inductive PS (g : Gram) : List Sym → List Int → Option (For × List Int) → Prop
  | nil {d : List Int} : PS g [] d (some (.nil, d))
  | term {s : Sym} {l : List Sym} {d : List Int} {r : Option (For × List Int)} : s.term = true → PS g l d r → PS g (s :: l) d r
  | bad {s : Sym} {l : List Sym} {d : List Int} : s.term = false → (∀ x d' q, d = x :: d' → 0 ≤ x → g.rules[x.toNat]? = some q → q.left ≠ s.n) → PS g (s :: l) d none
  | deep {s : Sym} {l : List Sym} {x : Int} {d : List Int} {q : Rule} : s.term = false → 0 ≤ x → g.rules[x.toNat]? = some q → q.left = s.n → PS g q.right d none → PS g (s :: l) (x :: d) none
  | late {s : Sym} {l : List Sym} {x : Int} {d d1 : List Int} {q : Rule} {ks : For} : s.term = false → 0 ≤ x → g.rules[x.toNat]? = some q → q.left = s.n → PS g q.right d (some (ks, d1)) → PS g l d1 none → PS g (s :: l) (x :: d) none
  | ok {s : Sym} {l : List Sym} {x : Int} {d d1 d2 : List Int} {q : Rule} {ks fs : For} : s.term = false → 0 ≤ x → g.rules[x.toNat]? = some q → q.left = s.n → PS g q.right d (some (ks, d1)) → PS g l d1 (some (fs, d2)) → PS g (s :: l) (x :: d) (some (.cons x ks fs, d2))

theorem ps_join {g : Gram} {s : Sym} {d d2 : List Int} {f : For} (h : PS g [s] d (some (f, d2))) (ht : s.term = false) {l : List Sym} {r : Option (For × List Int)} (h2 : PS g l d2 r) : PS g (s :: l) d (r.map fun p => (f.app p.1, p.2)) := by
  cases h with
  | term h1 _ => rw [ht] at h1; cases h1
  | ok _ h0 hq hl hk he =>
    cases he
    cases r with
    | none => exact .late ht h0 hq hl hk h2
    | some p => exact .ok ht h0 hq hl hk h2
theorem ps_none {g : Gram} {s : Sym} {d : List Int} (h : PS g [s] d none) (ht : s.term = false) (l : List Sym) : PS g (s :: l) d none := by
  cases h with
  | term h1 _ => rw [ht] at h1; cases h1
  | bad _ h1 => exact .bad ht h1
  | deep _ h0 hq hl hk => exact .deep ht h0 hq hl hk
  | late _ _ _ _ _ h1 => cases h1
theorem ps_flat {g : Gram} {l : List Sym} {d : List Int} {r : Option (For × List Int)} (h : PS g l d r) : ∀ f d2, r = some (f, d2) → d = f.flat ++ d2 := by
  induction h with
  | nil => intro f d2 h; cases h; rfl
  | term _ _ ih => exact ih
  | bad _ _ => intro f d2 h; cases h
  | deep _ _ _ _ _ _ => intro f d2 h; cases h
  | late _ _ _ _ _ _ _ _ => intro f d2 h; cases h
  | ok _ _ _ _ _ _ ih1 ih2 =>
    intro f d2 h
    cases h
    rw [ih1 _ _ rfl, ih2 _ _ rfl]
    simp [For.flat]

/-- Symbols and their trees, gone through. -/
inductive WS (g : Gram) : List Sym → For → List Int → List Spn → List Int → List Spn → Prop
  | nil {o : List Int} {s : List Spn} : WS g [] .nil o s o s
  | term {y : Sym} {l : List Sym} {f : For} {o o2 : List Int} {s s2 : List Spn} : y.term = true → WS g l f (o ++ [y.n]) s o2 s2 → WS g (y :: l) f o s o2 s2
  | name {y : Sym} {l : List Sym} {x : Int} {q : Rule} {ks fs : For} {o o1 o2 : List Int} {s s1 s2 : List Spn} {z : Spn} : y.term = false → 0 ≤ x → g.rules[x.toNat]? = some q → WS g q.right ks o (s ++ [⟨x, o.length, 0⟩]) o1 s1 → s1[s.length]? = some z →
      WS g l fs o1 (s1.set s.length ⟨z.rule, z.frm, o1.length⟩) o2 s2 → WS g (y :: l) (.cons x ks fs) o s o2 s2

theorem ws_det {g : Gram} {l : List Sym} {f : For} {o o2 : List Int} {s s2 : List Spn} (h : WS g l f o s o2 s2) : ∀ o3 s3, WS g l f o s o3 s3 → o2 = o3 ∧ s2 = s3 := by
  induction h with
  | nil => intro o3 s3 h'; cases h'; exact ⟨rfl, rfl⟩
  | term ht _ ih =>
    intro o3 s3 h'
    cases h' with
    | term _ h2 => exact ih _ _ h2
    | name h1 _ _ _ _ _ => rw [ht] at h1; cases h1
  | name ht h0 hq _ hz _ ih1 ih2 =>
    intro o3 s3 h'
    cases h' with
    | term h1 _ => rw [ht] at h1; cases h1
    | name _ _ hq' h3 hz' h4 =>
      rw [hq] at hq'
      cases hq'
      obtain ⟨rfl, rfl⟩ := ih1 _ _ h3
      rw [hz] at hz'
      cases hz'
      exact ih2 _ _ h4

theorem ps_thru {g : Gram} {D : List Int} {l : List Sym} {d : List Int} {r : Option (For × List Int)} (h : PS g l d r) : ∀ used : Nat, d = D.drop used → used ≤ D.length →
    (r = none → ∀ st out sp, sp.length = used → Thru g D (l.map mkS ++ st) used out sp none) ∧
    (∀ f d2, r = some (f, d2) → ∃ used2 : Nat, d2 = D.drop used2 ∧ used ≤ used2 ∧ used2 ≤ D.length ∧ ∀ out sp, sp.length = used → ∃ out2 sp2, WS g l f out sp out2 sp2 ∧ sp2.length = used2 ∧ ∀ st R, Thru g D st used2 out2 sp2 R → Thru g D (l.map mkS ++ st) used out sp R) := by
  have step : ∀ {x : Int} {d : List Int} {used : Nat}, x :: d = D.drop used → D[used]? = some x ∧ d = D.drop (used + 1) ∧ used + 1 ≤ D.length := by
    intro x d used h
    have h1 : D[used]? = some x := by
      have := List.getElem?_drop (xs := D) (i := used) (j := 0)
      rw [← h] at this; simpa using this.symm
    have hlt := (List.getElem?_eq_some_iff.1 h1).1
    refine ⟨h1, ?_, hlt⟩
    rw [List.drop_eq_getElem_cons hlt] at h
    exact (List.cons.inj h).2
  induction h with
  | nil =>
    intro used hd hu
    refine ⟨(fun h => by cases h), fun f d2 h => ?_⟩
    cases h
    exact ⟨used, hd, Nat.le_refl _, hu, fun out sp hs => ⟨out, sp, .nil, hs, fun st R h => h⟩⟩
  | term ht _ ih =>
    intro used hd hu
    obtain ⟨h1, h2⟩ := ih used hd hu
    refine ⟨fun h st out sp hs => .term rfl ht (h1 h st _ sp hs), fun f d2 h => ?_⟩
    obtain ⟨u2, a1, a2, a3, a4⟩ := h2 f d2 h
    refine ⟨u2, a1, a2, a3, fun out sp hs => ?_⟩
    obtain ⟨o2, s2, b1, b2, b3⟩ := a4 _ sp hs
    exact ⟨o2, s2, .term ht b1, b2, fun st R h => .term rfl ht (b3 st R h)⟩
  | @bad s l d ht hb =>
    intro used hd hu
    refine ⟨fun _ st out sp _ => .bad rfl ht fun x q hx h0 hq => ?_, fun f d2 h => by cases h⟩
    have hlt := (List.getElem?_eq_some_iff.1 hx).1
    refine hb x (D.drop (used + 1)) q ?_ h0 hq
    rw [hd, List.drop_eq_getElem_cons hlt]
    rw [List.getElem?_eq_getElem hlt] at hx
    rw [Option.some.inj hx]
  | deep ht h0 hq hl _ ih =>
    intro used hd hu
    obtain ⟨e1, e2, e3⟩ := step hd
    obtain ⟨h1, _⟩ := ih (used + 1) e2 e3
    refine ⟨fun _ st out sp hs => .rule rfl ht e1 h0 hq hl (h1 rfl _ _ _ (by rw [List.length_append, hs]; rfl)), fun f d2 h => by cases h⟩
  | @late s l x d d1 q ks ht h0 hq hl _ _ ih1 ih2 =>
    intro used hd hu
    obtain ⟨e1, e2, e3⟩ := step hd
    obtain ⟨_, h1⟩ := ih1 (used + 1) e2 e3
    obtain ⟨u1, a1, a2, a3, a4⟩ := h1 _ _ rfl
    obtain ⟨h2, _⟩ := ih2 u1 a1 a3
    refine ⟨fun _ st out sp hs => ?_, fun f d2 h => by cases h⟩
    obtain ⟨o1, s1, b1, b2, b3⟩ := a4 out (sp ++ [⟨x, out.length, 0⟩]) (by rw [List.length_append, hs]; rfl)
    obtain ⟨z, hz⟩ : ∃ z, s1[used]? = some z := ⟨s1[used]'(by omega), List.getElem?_eq_getElem _⟩
    exact .rule rfl ht e1 h0 hq hl (b3 _ _ (.close rfl hz (h2 rfl st _ _ (by rw [List.length_set]; exact b2))))
  | @ok s l x d d1 d2 q ks fs ht h0 hq hl _ _ ih1 ih2 =>
    intro used hd hu
    obtain ⟨e1, e2, e3⟩ := step hd
    obtain ⟨_, h1⟩ := ih1 (used + 1) e2 e3
    obtain ⟨u1, a1, a2, a3, a4⟩ := h1 _ _ rfl
    obtain ⟨_, h2⟩ := ih2 u1 a1 a3
    obtain ⟨u2, c1, c2, c3, c4⟩ := h2 _ _ rfl
    refine ⟨(fun h => by cases h), fun f d3 h => ?_⟩
    cases h
    refine ⟨u2, c1, by omega, c3, fun out sp hs => ?_⟩
    obtain ⟨o1, s1, b1, b2, b3⟩ := a4 out (sp ++ [⟨x, out.length, 0⟩]) (by rw [List.length_append, hs]; rfl)
    obtain ⟨z, hz⟩ : ∃ z, s1[used]? = some z := ⟨s1[used]'(by omega), List.getElem?_eq_getElem _⟩
    obtain ⟨o2, s2, p1, p2, p3⟩ := c4 o1 (s1.set used ⟨z.rule, z.frm, o1.length⟩) (by rw [List.length_set]; exact b2)
    subst hs
    exact ⟨o2, s2, .name ht h0 hq b1 hz p1, p2, fun st R h => .rule rfl ht e1 h0 hq hl (b3 _ _ (.close rfl hz (p3 st R h)))⟩

abbrev top0 : List Sym := [⟨false, 0⟩]
theorem ps_top_ok {g : Gram} {d : List Int} {f : For} {o : List Int} {s : List Spn} (h : PS g top0 d (some (f, []))) (hw : WS g top0 f [] [] o s) : Thru g d open0 0 [] [] (some (o, s)) := by
  obtain ⟨_, h2⟩ := ps_thru (D := d) h 0 rfl (Nat.zero_le _)
  obtain ⟨u, h3, _, h5, h6⟩ := h2 _ _ rfl
  obtain ⟨o2, s2, h7, _, h9⟩ := h6 [] [] rfl
  obtain ⟨rfl, rfl⟩ := ws_det hw _ _ h7
  have hu : u = d.length := by
    have := congrArg List.length h3
    simp only [List.length_nil, List.length_drop] at this
    omega
  exact h9 [] _ (.done hu)
theorem ps_top_no {g : Gram} {d : List Int} {r : Option (For × List Int)} (h : PS g top0 d r) (hr : ∀ f, r ≠ some (f, [])) : Thru g d open0 0 [] [] none := by
  obtain ⟨h1, h2⟩ := ps_thru (D := d) h 0 rfl (Nat.zero_le _)
  cases r with
  | none => exact h1 rfl [] [] [] rfl
  | some p =>
    obtain ⟨f, d2⟩ := p
    obtain ⟨u, h3, _, h5, h6⟩ := h2 _ _ rfl
    obtain ⟨o2, s2, h7, _, h9⟩ := h6 [] [] rfl
    refine h9 [] _ (.short fun e => hr f ?_)
    rw [h3, e, List.drop_length]
theorem ps_ws {g : Gram} {d d2 : List Int} {l : List Sym} {f : For} (h : PS g l d (some (f, d2))) : ∃ o s, WS g l f [] [] o s := by
  obtain ⟨_, h2⟩ := ps_thru (D := d) h 0 rfl (Nat.zero_le _)
  obtain ⟨u, h3, _, h5, h6⟩ := h2 _ _ rfl
  obtain ⟨o2, s2, h7, _⟩ := h6 [] [] rfl
  exact ⟨o2, s2, h7⟩

/-! ### What stands where -/
theorem ws_span {g : Gram} {l : List Sym} {f : For} {o o2 : List Int} {s s2 : List Spn} (h : WS g l f o s o2 s2) : o.length ≤ o2.length ∧ s2.length = s.length + f.flat.length ∧ (∀ i, i < s.length → s2[i]? = s[i]?) ∧
    (∀ i x, s.length ≤ i → s2[i]? = some x → (o.length : Int) ≤ x.frm ∧ x.frm ≤ x.to ∧ x.to ≤ o2.length ∧ f.flat[i - s.length]? = some x.rule) ∧
    (∀ i j x y, s.length ≤ i → i ≤ j → s2[i]? = some x → s2[j]? = some y → x.frm ≤ y.frm) := by
  induction h with
  | @nil o s =>
    refine ⟨Nat.le_refl _, by simp [For.flat], fun i _ => rfl, fun i x h1 h2 => ?_, fun i j x y h1 _ h2 _ => ?_⟩
    · have := (List.getElem?_eq_some_iff.1 h2).1; omega
    · have := (List.getElem?_eq_some_iff.1 h2).1; omega
  | @term y l f o o2 s s2 ht _ ih =>
    obtain ⟨a1, a2, a3, a4, a5⟩ := ih
    rw [List.length_append, List.length_singleton] at a1 a4
    refine ⟨by omega, a2, a3, fun i x h1 h2 => ?_, a5⟩
    have := a4 i x h1 h2
    exact ⟨by omega, this.2⟩
  | @name y l x q ks fs o o1 o2 s s1 s2 z ht h0 hq _ hz _ ih1 ih2 =>
    obtain ⟨a1, a2, a3, a4, a5⟩ := ih1
    obtain ⟨b1, b2, b3, b4, b5⟩ := ih2
    rw [List.length_append, List.length_singleton] at a2 a3 a4 a5
    rw [List.length_set] at b2 b3 b4 b5
    have hzz : z = ⟨x, o.length, 0⟩ := by
      have := a3 s.length (by omega)
      rw [hz, List.getElem?_append_right (Nat.le_refl _), Nat.sub_self] at this
      exact Option.some.inj this
    subst hzz
    have hlt := (List.getElem?_eq_some_iff.1 hz).1
    have key : ∀ i u, s.length ≤ i → s2[i]? = some u → (i = s.length ∧ u = ⟨x, o.length, o1.length⟩) ∨ (s.length < i ∧ i < s1.length ∧ s1[i]? = some u) ∨ s1.length ≤ i := by
      intro i u h1 h2
      by_cases e : i = s.length
      · subst e
        rw [b3 _ hlt, List.getElem?_set_self hlt] at h2
        exact .inl ⟨rfl, (Option.some.inj h2).symm⟩
      · by_cases e2 : i < s1.length
        · rw [b3 _ e2, List.getElem?_set_ne (Ne.symm e)] at h2
          exact .inr (.inl ⟨by omega, e2, h2⟩)
        · exact .inr (.inr (by omega))
    refine ⟨by omega, by simp only [For.flat, List.length_cons, List.length_append]; omega, fun i hi => ?_, fun i u h1 h2 => ?_, fun i j u v h1 h2 h3 h4 => ?_⟩
    · rw [b3 i (by omega), List.getElem?_set_ne (by omega), a3 i (by omega), List.getElem?_append_left hi]
    · rcases key i u h1 h2 with ⟨rfl, rfl⟩ | ⟨k1, k2, k3⟩ | k1
      · refine ⟨Int.le_refl _, ?_, ?_, ?_⟩
        · show (o.length : Int) ≤ (o1.length : Int); omega
        · show (o1.length : Int) ≤ (o2.length : Int); omega
        · rw [Nat.sub_self]; rfl
      · have := a4 i u (by omega) k3
        refine ⟨this.1, this.2.1, by omega, ?_⟩
        rw [show i - s.length = (i - (s.length + 1)) + 1 by omega]
        show (ks.flat ++ fs.flat)[i - (s.length + 1)]? = _
        rw [List.getElem?_append_left (by omega)]
        exact this.2.2.2
      · have := b4 i u k1 h2
        refine ⟨by omega, this.2.1, this.2.2.1, ?_⟩
        rw [show i - s.length = (i - (s.length + 1)) + 1 by omega]
        show (ks.flat ++ fs.flat)[i - (s.length + 1)]? = _
        rw [List.getElem?_append_right (by omega), show i - (s.length + 1) - ks.flat.length = i - s1.length by omega]
        exact this.2.2.2
    · have hv : (o.length : Int) ≤ v.frm := by
        rcases key j v (by omega) h4 with ⟨rfl, rfl⟩ | ⟨k1, k2, k3⟩ | k1
        · exact Int.le_refl _
        · exact (a4 j v (by omega) k3).1
        · have := (b4 j v k1 h4).1; omega
      rcases key i u h1 h3 with ⟨rfl, rfl⟩ | ⟨k1, k2, k3⟩ | k1
      · exact hv
      · rcases key j v (by omega) h4 with ⟨rfl, rfl⟩ | ⟨m1, m2, m3⟩ | m1
        · omega
        · exact a5 i j u v (by omega) h2 k3 m3
        · have := a4 i u (by omega) k3
          have := b4 j v m1 h4
          omega
      · rcases key j v (by omega) h4 with ⟨rfl, rfl⟩ | ⟨m1, m2, m3⟩ | m1
        · omega
        · omega
        · exact b5 i j u v k1 h2 h3 h4
end Go.Sy
