/- Walks and plain laws, part 12. No condition. -/
import Derived.Test.YteceklkjbcebkabM9
import Derived.Test.YteceklkjbcebkabM11
/- pollardingref8.Do. No condition. -/
namespace Go.Sy
open Go Go.RowKit Go.Proofs

theorem one_any (gv : Value) (g : Gram) (s : SStep) (k : Nat) (q : Rule) (w : World) (hm : mayB g = true) (hs : mayS g s = true) (hq : g.rules[k]? = some q) (hg : GramAt (Cl w) gv g) : Calls Try.prog 22 #[gv, stepV s, .int .i64 (k : Int)] w (fun e w' => ∃ x : Value × List RV × List Bool × List Bool, e = .returned x.1 ∧ ((s.op = 5 → MksOk g x.2.2.1 ∧ CmsOk g x.2.2.2) ∧ plainR x.2.1 = oneR g s x.2.2.1 x.2.2.2 k q) ∧ Sat (Old w) w [rulesA x.1 x.2.1, symsA x.2.1] w') := by
 rcases mayS_op hs with h | h | h | h | h
 · exact one1_any gv g s k q w hm hs h hq hg
 · exact one2_any gv g s k q w hm hs h hq hg
 · exact one3_any gv g s k q w hm hs h hq hg
 · exact one4_any gv g s k q w hm hs h hq hg
 · exact one5_any gv g s k q w hm hs h hq hg
def upR (g : Gram) (s : SStep) (ms cs : List Bool) : Nat → List Rule
 | 0 => []
 | k + 1 => upR g s ms cs k ++ (match g.rules[k]? with | some q => oneR g s ms cs k q | none => [])
theorem upR_next {g : Gram} {s : SStep} {ms cs : List Bool} {k : Nat} {q : Rule} (h : g.rules[k]? = some q) : upR g s ms cs (k + 1) = upR g s ms cs k ++ oneR g s ms cs k q := by
 show _ ++ _ = _
 rw [h]
theorem oneR_other {g : Gram} {s : SStep} {ms cs ms' cs' : List Bool} {k : Nat} {q : Rule} (h : s.op ≠ 5 ∨ (ms = ms' ∧ cs = cs')) (hs : mayS g s = true) : oneR g s ms cs k q = oneR g s ms' cs' k q := by
 rcases h with h | ⟨rfl, rfl⟩
 · unfold oneR
   rcases mayS_op hs with h1 | h1 | h1 | h1 | h1
   · simp [h1]
   · simp [h1]
   · simp [h1]
   · simp [h1]
   · exact absurd h1 h
 · rfl
theorem upR_other {g : Gram} {s : SStep} {ms cs ms' cs' : List Bool} (hs : mayS g s = true) : ∀ k, (s.op ≠ 5 ∨ k = 0 ∨ (ms = ms' ∧ cs = cs')) → upR g s ms cs k = upR g s ms' cs' k
 | 0, _ => rfl
 | k + 1, h => by
   have h' : s.op ≠ 5 ∨ (ms = ms' ∧ cs = cs') := by
     rcases h with h | h | h
     · exact .inl h
     · cases h
     · exact .inr h
   have ih := upR_other (g := g) hs k (h'.imp_right .inr)
   unfold upR
   rw [ih]
   cases hq : g.rules[k]? with
   | none => rfl
   | some q => exact congrArg (upR g s ms' cs' k ++ ·) (oneR_other h' hs)
theorem oneR_len {g : Gram} {s : SStep} {ms cs : List Bool} {k : Nat} {q : Rule} : (oneR g s ms cs k q).length ≤ g.rules.length + 1 := by
 unfold oneR inlL
 have := List.length_filter_le (fun q => decide (some q.left = (ruleAt g s.a).right[s.b.toNat]?.map (·.n))) g.rules
 split
 · simp
 split
 · split <;> simp
 split
 · split
   · rw [List.length_map]; omega
   · simp
 split
 · simp
 split <;> simp
theorem mks_unique {g : Gram} {ms cs ms' cs' : List Bool} (h : MksOk g ms ∧ CmsOk g cs) (h' : MksOk g ms' ∧ CmsOk g cs') : ms = ms' ∧ cs = cs' := by
 obtain ⟨⟨l1, lm, cm⟩, l2, m, l3, lm2, cm2, lc, cc, c0⟩ := h
 obtain ⟨⟨l1', lm', cm'⟩, l2', m', l3', lm2', cm2', lc', cc', c0'⟩ := h'
 have e1 : ms = ms' := makes_unique l1 l1' lm cm lm' cm'
 have e2 : m = ms := makes_unique l3 l1 lm2 cm2 lm cm
 have e3 : m' = ms := makes_unique l3' l1 lm2' cm2' lm cm
 subst e2
 subst e3
 exact ⟨e1, comes_unique l2 l2' lc cc c0 lc' cc' c0'⟩
def extraR (g : Gram) (s : SStep) : List Rule := if s.op = 2 then [⟨g.names, ((ruleAt g s.a).right.drop s.b.toNat).take (s.c.toNat - s.b.toNat)⟩] else if s.op = 4 then [⟨g.names, []⟩] else []
theorem upR_full {g : Gram} {s : SStep} {ms cs : List Bool} (hs : mayS g s = true) : upR g s ms cs g.rules.length ++ extraR g s = (stepG g s ms cs).rules := by
 have key : ∀ (L : List Rule), (∀ k q, g.rules[k]? = some q → ∃ r, L[k]? = some r ∧ oneR g s ms cs k q = [r]) → ∀ k, k ≤ g.rules.length → upR g s ms cs k = L.take k := fun L hL k => by
   induction k with
   | zero => intro _; simp [upR]
   | succ k ih =>
     intro hk
     obtain ⟨q, hq⟩ := get_of_lt (l := g.rules) (k := k) (by omega)
     obtain ⟨r, h1, h2⟩ := hL k q hq
     rw [upR_next hq, ih (by omega), h2, take_next h1]
 rcases mayS_op hs with h | h | h | h | h
 · have e : stepG g s ms cs = ⟨g.terms, g.names, g.rules.map (swapR s.a s.b)⟩ := by unfold stepG; rw [if_pos h]
   rw [e, key (g.rules.map (swapR s.a s.b)) (fun k q hq => ⟨swapR s.a s.b q, by rw [List.getElem?_map, hq]; rfl, by unfold oneR; rw [if_pos h]⟩) _ (Nat.le_refl _)]
   unfold extraR
   rw [if_neg (by omega), if_neg (by omega), List.append_nil, List.take_of_length_le (by rw [List.length_map]; exact Nat.le_refl _)]
 · have e : stepG g s ms cs = ⟨g.terms, g.names + 1, g.rules.set s.a.toNat (extR (ruleAt g s.a) s.b.toNat s.c.toNat (nameS g.names)) ++ [⟨g.names, ((ruleAt g s.a).right.drop s.b.toNat).take (s.c.toNat - s.b.toNat)⟩]⟩ := by unfold stepG; rw [if_neg (by omega), if_pos h]
   have hs2 := hs
   unfold mayS at hs2
   rw [if_neg (by omega), if_pos h] at hs2
   simp only [Bool.and_eq_true, inR_true, decide_eq_true_eq] at hs2
   obtain ⟨⟨⟨ha0, ha1⟩, _⟩, _⟩ := hs2
   rw [e, key (g.rules.set s.a.toNat (extR (ruleAt g s.a) s.b.toNat s.c.toNat (nameS g.names))) (fun k q hq => by
     by_cases ek : s.a.toNat = k
     · subst ek
       refine ⟨extR (ruleAt g s.a) s.b.toNat s.c.toNat (nameS g.names), List.getElem?_set_self (List.getElem?_eq_some_iff.1 hq).1, ?_⟩
       unfold oneR
       rw [if_neg (by omega), if_pos h, if_pos (by omega), ruleAt_get hq]
     · refine ⟨q, by rw [List.getElem?_set_ne ek]; exact hq, ?_⟩
       unfold oneR
       rw [if_neg (by omega), if_pos h, if_neg (by omega)]) _ (Nat.le_refl _)]
   unfold extraR
   rw [if_pos h, List.take_of_length_le (by rw [List.length_set]; exact Nat.le_refl _)]
 · have e : stepG g s ms cs = ⟨g.terms, g.names, g.rules.take s.a.toNat ++ inlL g s ++ g.rules.drop (s.a.toNat + 1)⟩ := by unfold stepG; rw [if_neg (by omega), if_neg (by omega), if_pos h]
   have hs2 := hs
   unfold mayS at hs2
   rw [if_neg (by omega), if_neg (by omega), if_pos h] at hs2
   simp only [Bool.and_eq_true, inR_true, decide_eq_true_eq] at hs2
   obtain ⟨⟨⟨⟨ha0, ha1⟩, _⟩, _⟩, _⟩ := hs2
   have k1 : ∀ k, k ≤ s.a.toNat → upR g s ms cs k = g.rules.take k := fun k => by
     induction k with
     | zero => intro _; simp [upR]
     | succ k ih =>
       intro hk
       obtain ⟨q, hq⟩ := get_of_lt (l := g.rules) (k := k) (by omega)
       rw [upR_next hq, ih (by omega), take_next hq]
       congr 1
       unfold oneR
       rw [if_neg (by omega), if_neg (by omega), if_pos h, if_neg (by omega)]
   have k2 : ∀ j, s.a.toNat + 1 + j ≤ g.rules.length → upR g s ms cs (s.a.toNat + 1 + j) = g.rules.take s.a.toNat ++ inlL g s ++ (g.rules.drop (s.a.toNat + 1)).take j := fun j => by
     induction j with
     | zero =>
       intro _
       obtain ⟨q, hq⟩ := get_of_lt (l := g.rules) (k := s.a.toNat) (by omega)
       rw [Nat.add_zero, upR_next hq, k1 _ (Nat.le_refl _)]
       unfold oneR
       rw [if_neg (by omega), if_neg (by omega), if_pos h, if_pos (by omega)]
       simp
     | succ j ih =>
       intro hj
       obtain ⟨q, hq⟩ := get_of_lt (l := g.rules) (k := s.a.toNat + 1 + j) (by omega)
       rw [show s.a.toNat + 1 + (j + 1) = s.a.toNat + 1 + j + 1 by omega, upR_next hq, ih (by omega), take_next (l := g.rules.drop (s.a.toNat + 1)) (by rw [List.getElem?_drop]; exact hq)]
       unfold oneR
       rw [if_neg (by omega), if_neg (by omega), if_pos h, if_neg (by omega), List.append_assoc]
   have := k2 (g.rules.length - (s.a.toNat + 1)) (by omega)
   rw [show s.a.toNat + 1 + (g.rules.length - (s.a.toNat + 1)) = g.rules.length by omega, show (g.rules.drop (s.a.toNat + 1)).take (g.rules.length - (s.a.toNat + 1)) = g.rules.drop (s.a.toNat + 1) from List.take_of_length_le (by rw [List.length_drop]; exact Nat.le_refl _)] at this
   rw [e, this]
   unfold extraR
   rw [if_neg (by omega), if_neg (by omega), List.append_nil]
 · have e : stepG g s ms cs = ⟨g.terms, g.names + 1, g.rules.map (leftR g s.a) ++ [⟨g.names, []⟩]⟩ := by unfold stepG; rw [if_neg (by omega), if_neg (by omega), if_neg (by omega), if_pos h]
   rw [e, key (g.rules.map (leftR g s.a)) (fun k q hq => ⟨leftR g s.a q, by rw [List.getElem?_map, hq]; rfl, by unfold oneR; rw [if_neg (by omega), if_neg (by omega), if_neg (by omega), if_pos h]⟩) _ (Nat.le_refl _)]
   unfold extraR
   rw [if_neg (by omega), if_pos h, List.take_of_length_le (by rw [List.length_map]; exact Nat.le_refl _)]
 · have e : stepG g s ms cs = ⟨g.terms, g.names, g.rules.filter (keptB ms cs)⟩ := by unfold stepG; rw [if_neg (by omega), if_neg (by omega), if_neg (by omega), if_neg (by omega)]
   have k1 : ∀ k, k ≤ g.rules.length → upR g s ms cs k = (g.rules.take k).filter (keptB ms cs) := fun k => by
     induction k with
     | zero => intro _; simp [upR]
     | succ k ih =>
       intro hk
       obtain ⟨q, hq⟩ := get_of_lt (l := g.rules) (k := k) (by omega)
       rw [upR_next hq, ih (by omega), take_next hq, List.filter_append]
       congr 1
       unfold oneR
       rw [if_neg (by omega), if_neg (by omega), if_neg (by omega), if_neg (by omega)]
       cases hk : keptB ms cs q <;> simp [hk]
   rw [e, k1 _ (Nat.le_refl _), List.take_length]
   unfold extraR
   rw [if_neg (by omega), if_neg (by omega), List.append_nil]
def DoOk8 (g : Gram) (s : SStep) (h : Gram) (e : Int) : Prop :=
 ((mayB g && mayS g s) = false → e = 2 ∧ h = noneG) ∧ (mayB g = true → mayS g s = true → ∃ ms cs, (s.op = 5 → 0 < g.rules.length → MksOk g ms ∧ CmsOk g cs) ∧ (mayB (stepG g s ms cs) = true → e = 0 ∧ h = stepG g s ms cs) ∧ (mayB (stepG g s ms cs) = false → e = 1 ∧ h = noneG))
theorem do_same {g h h' : Gram} {s : SStep} {e e' : Int} (hd : DoOk g s h e) (hd' : DoOk8 g s h' e') : e = e' ∧ h = h' := by
 cases hb : mayB g && mayS g s with
 | false =>
   obtain ⟨a1, a2⟩ := hd.1 hb
   obtain ⟨b1, b2⟩ := hd'.1 hb
   exact ⟨a1.trans b1.symm, a2.trans b2.symm⟩
 | true =>
   obtain ⟨hm, hs⟩ := Bool.and_eq_true _ _ |>.mp hb
   obtain ⟨ms, cs, h5, h0, h1⟩ := hd.2 hm hs
   obtain ⟨ms', cs', h5', h0', h1'⟩ := hd'.2 hm hs
   have es : stepG g s ms cs = stepG g s ms' cs' := by
     have e0 : (stepG g s ms cs).rules = (stepG g s ms' cs').rules := by
       rw [← upR_full hs, ← upR_full hs]
       congr 1
       refine upR_other hs _ ?_
       by_cases e5 : s.op = 5
       · rcases Nat.eq_zero_or_pos g.rules.length with e6 | e6
         · exact .inr (.inl e6)
         · exact .inr (.inr (mks_unique (h5 e5) (h5' e5 e6)))
       · exact .inl e5
     have e1 : (stepG g s ms cs).names = (stepG g s ms' cs').names := by
       rcases mayS_op hs with h | h | h | h | h <;> simp [stepG, h]
     have e2 : (stepG g s ms cs).terms = (stepG g s ms' cs').terms := by rw [stepG_terms, stepG_terms]
     cases hA : stepG g s ms cs with
     | mk t n rs =>
       cases hB : stepG g s ms' cs' with
       | mk t' n' rs' =>
         rw [hA, hB] at e0 e1 e2
         simp only at e0 e1 e2
         rw [e0, e1, e2]
   rw [← es] at h0' h1'
   cases ho : mayB (stepG g s ms cs) with
   | true => exact ⟨(h0 ho).1.trans (h0' ho).1.symm, (h0 ho).2.trans (h0' ho).2.symm⟩
   | false => exact ⟨(h1 ho).1.trans (h1' ho).1.symm, (h1 ho).2.trans (h1' ho).2.symm⟩

theorem step_eq {g : Gram} {s : SStep} {ms cs : List Bool} {n : Int} {R : List Rule} (hn : n = (stepG g s ms cs).names) (hR : R = (stepG g s ms cs).rules) : (⟨g.terms, n, R⟩ : Gram) = stepG g s ms cs := by
 subst hn
 subst hR
 rw [← stepG_terms g s ms cs]
set_option maxRecDepth 20000 in
theorem do8x_any (gv : Value) (g : Gram) (s : SStep) (w : World) (ho2 : s.op ≠ 2) (ho4 : s.op ≠ 4) (hg : GramAt (Cl w) gv g) : Calls Try.prog 9 #[gv, stepV s] w (fun e w' => ∃ x : Value × Gram × List RV × Int, e = .returned (.tuple #[.agg #[.int .i64 x.2.1.terms, .int .i64 x.2.1.names, x.1], .int .i64 x.2.2.2]) ∧ (DoOk8 g s x.2.1 x.2.2.2 ∧ plainR x.2.2.1 = x.2.1.rules) ∧ Sat (Old w) w [rulesA x.1 x.2.2.1, symsA x.2.2.1] w') := by
 have hg0 := hg
 obtain ⟨rv, rfl, hr⟩ := hg.mono old_rd
 obtain ⟨a, c, rfl, hc1, hc2, hrs⟩ := id hr
 clear hg
 refine calls_CW Try.func9 rfl Try.ntmps9 rfl (Sat.start w) ?_
 refine nx3 ?_
 refine OW_e (e_box rfl rfl) rfl (fun b2 => ?_)
 refine OW_e (e_box rfl rfl) rfl (fun b3 => ?_)
 refine OW_e (e_alloc Try.zeroValue24 rfl) rfl (fun b4 => ?_)
 refine aO ?_
 refine nx4 ?_
 refine OW_q (q_build (ps := #[]) (v := .agg #[.int .i64 0, .int .i64 0, .slice none 0 0]) rfl (fun w => by kernel_rfl)) rfl ?_
 refine OW_e (e_alloc Try.zeroValue24 rfl) rfl (fun b6 => ?_)
 refine OW_e0 (e_storeN Try.sizeOf24 rfl rfl rfl rfl (by simp [Value.oneCell']) swt (by rfl)) (fun _ => ?_)
 refine nx2 ?_
 refine CW_seq ?_
 refine nx3 ?_
 refine OW_q (q_loadN_own Try.isAgg24 Try.sizeOf24 rfl rfl swt (by rfl)) rfl ?_
 refine OW_e (e_call Try.call12 rfl (fun w hw => lift_ro (may1_any _ g w (hg0.mono (fun _ _ h => hw.rd (Rd.old h)))) hw)) rfl (fun x12 => ?_)
 refine OW_q (q_not rfl) rfl ?_
 refine mO ?_
 refine OW_part (t := 14) rfl (fun hg14 => ?_) (fun hg14 => ?_)
 · skip
   have hm : mayB g = false := by simpa using hg14
   refine kO ?_
   refine kO ?_
   refine kO ?_
   refine kO ?_
   refine OW_q (q_pick_t rfl rfl) rfl ?_
   refine nx2 ?_
   refine CW_true rfl rfl ?_
   refine nx3 ?_
   refine OW_q (q_loadN_own Try.isAgg24 Try.sizeOf24 rfl rfl swt (by rfl)) rfl ?_
   refine OW_e0 (e_storeN Try.sizeOf24 rfl rfl rfl rfl (by simp [Value.oneCell']) swt (by rfl)) (fun _ => ?_)
   refine aO ?_
   refine nx2 ?_
   refine CW_ret ?_
   refine EW_then_ret ?_
   refine retc2 (vs := [.int .i64 0, .int .i64 0, .slice none 0 0]) Try.results9 Try.isAgg24 Try.sizeOf24 rfl rfl (fun w hw j u hj => by rw [Addr.add_lit, hw.cell (t := 24) (cs := [.int .i64 0, .int .i64 0, .slice none 0 0]) (A' := cel b4 24 [.int .i64 0, .int .i64 0, .slice none 0 0]) swt, Nat.zero_add]; exact hj) rfl (fun w hw => ?_)
   exact ⟨(.slice none 0 0, noneG, [], 2), rfl, ⟨⟨fun _ => ⟨rfl, rfl⟩, (fun h1 => by rw [hm] at h1; cases h1)⟩, rfl⟩, ((hw.tnil 49 2 encRV).addEmp (A := symsA []) rfl).sub sbt⟩
 have hm : mayB g = true := by simpa using hg14
 have hM := mayB_true.1 hm
 refine wO ?_
 refine OW_q (q_loadN_own Try.isAgg24 Try.sizeOf24 rfl rfl swt (by rfl)) rfl ?_
 refine wO ?_
 refine OW_q (q_loadN_own Try.isAgg26 Try.sizeOf26 rfl rfl swt (by rfl)) rfl ?_
 refine wO ?_
 refine OW_e (e_call Try.call21 rfl (fun w hw => lift_ro (may8_any _ g s w (hg0.mono (fun _ _ h => hw.rd (Rd.old h)))) hw)) rfl (fun x17 => ?_)
 refine wO ?_
 refine OW_q (q_not rfl) rfl ?_
 refine OW_q (q_pick_f rfl rfl) rfl ?_
 refine nx2 ?_
 refine CW_cond rfl (fun h19 => ?_) (fun h19 => ?_)
 · skip
   have hms : mayS g s = false := by simpa using h19
   refine nx3 ?_
   refine OW_q (q_loadN_own Try.isAgg24 Try.sizeOf24 rfl rfl swt (by rfl)) rfl ?_
   refine OW_e0 (e_storeN Try.sizeOf24 rfl rfl rfl rfl (by simp [Value.oneCell']) swt (by rfl)) (fun _ => ?_)
   refine aO ?_
   refine nx2 ?_
   refine CW_ret ?_
   refine EW_then_ret ?_
   refine retc2 (vs := [.int .i64 0, .int .i64 0, .slice none 0 0]) Try.results9 Try.isAgg24 Try.sizeOf24 rfl rfl (fun w hw j u hj => by rw [Addr.add_lit, hw.cell (t := 24) (cs := [.int .i64 0, .int .i64 0, .slice none 0 0]) (A' := cel b4 24 [.int .i64 0, .int .i64 0, .slice none 0 0]) swt, Nat.zero_add]; exact hj) rfl (fun w hw => ?_)
   exact ⟨(.slice none 0 0, noneG, [], 2), rfl, ⟨⟨fun _ => ⟨rfl, rfl⟩, (fun _ h2 => by rw [hms] at h2; cases h2)⟩, rfl⟩, ((hw.tnil 49 2 encRV).addEmp (A := symsA []) rfl).sub sbt⟩
 have hms : mayS g s = true := by simpa using h19
 refine CW_skip ?_
 refine EW_then ?_
 refine nx3 ?_
 refine OW_q (q_fieldAddr Try.underlying24 rfl rfl Try.sizeOf3 rfl rfl) rfl ?_
 refine OW_q (q_load1_own Try.isAgg3 rfl rfl swt (by rfl)) rfl ?_
 refine OW_q (q_fieldAddr Try.underlying24 rfl rfl Try.sizeOf3 rfl rfl) rfl ?_
 refine OW_q (q_load1_own Try.isAgg3 rfl rfl swt (by rfl)) rfl ?_
 refine OW_q (q_build (ps := #[(0, .int .i64 g.terms), (1, .int .i64 g.names)]) (v := .agg #[.int .i64 g.terms, .int .i64 g.names, .slice none 0 0]) rfl (fun w => by kernel_rfl)) rfl ?_
 refine OW_e (e_alloc Try.zeroValue24 rfl) rfl (fun b7 => ?_)
 refine OW_e0 (e_storeN Try.sizeOf24 rfl rfl rfl rfl (by simp [Value.oneCell']) swt (by rfl)) (fun _ => ?_)
 refine nx2 ?_
 refine CW_seq ?_
 refine nx3 ?_
 refine aO ?_
 refine nx2 ?_
 refine CW_block ?_
 refine CW_weak (S' := Sat (Old w) w [cel b7 24 [.int .i64 g.terms, .int .i64 g.names, .slice none 0 0], rulesA (.slice none 0 0) [], symsA [], cel b6 24 [.int .i64 0, .int .i64 0, .slice none 0 0], cel b4 24 [.int .i64 0, .int .i64 0, .slice none 0 0], cel b3 26 [.int .i64 s.op, .int .i64 s.a, .int .i64 s.b, .int .i64 s.c], cel b2 24 [.int .i64 g.terms, .int .i64 g.names, .slice a g.rules.length c]]) (fun w hw => ((hw.tnil 49 2 encRV).addEmp (A := symsA []) rfl).sub sbt) ?_
 refine CW_loopP (ι := Nat × Value × List RV × List Bool × List Bool) (fun i_ => i_.1 ≤ g.rules.length ∧ plainR i_.2.2.1 = upR g s i_.2.2.2.1 i_.2.2.2.2 i_.1 ∧ (s.op = 5 → 0 < i_.1 → MksOk g i_.2.2.2.1 ∧ CmsOk g i_.2.2.2.2) ∧ i_.2.2.1.length ≤ i_.1 * 41) (fun i_ => [(2, .pointer (some ⟨b2, 0, none⟩)), (3, .pointer (some ⟨b3, 0, none⟩)), (4, .pointer (some ⟨b4, 0, none⟩)), (5, .int .i64 0), (6, .pointer (some ⟨b6, 0, none⟩)), (7, .pointer (some ⟨b7, 0, none⟩)), (8, .int .i64 (i_.1 : Int))]) (fun i_ => Sat (Old w) w [cel b7 24 [.int .i64 g.terms, .int .i64 g.names, i_.2.1], rulesA i_.2.1 i_.2.2.1, symsA i_.2.2.1, cel b6 24 [.int .i64 0, .int .i64 0, .slice none 0 0], cel b4 24 [.int .i64 0, .int .i64 0, .slice none 0 0], cel b3 26 [.int .i64 s.op, .int .i64 s.a, .int .i64 s.b, .int .i64 s.c], cel b2 24 [.int .i64 g.terms, .int .i64 g.names, .slice a g.rules.length c]]) (fun i_ => g.rules.length - i_.1) (0, .slice none 0 0, [], [], []) ?_ ⟨rfl, rfl, rfl, rfl, rfl, rfl, rfl, trivial⟩ sft ?_
 · exact ⟨Nat.zero_le _, rfl, fun _ h => absurd h (Nat.lt_irrefl 0), Nat.zero_le _⟩
 intro i_ hpre
 obtain ⟨k, ov, rs, ms, cs⟩ := i_
 replace hpre : k ≤ g.rules.length ∧ plainR rs = upR g s ms cs k ∧ (s.op = 5 → 0 < k → MksOk g ms ∧ CmsOk g cs) ∧ rs.length ≤ k * 41 := hpre
 change CW _ _ _ _ [(2, .pointer (some ⟨b2, 0, none⟩)), (3, .pointer (some ⟨b3, 0, none⟩)), (4, .pointer (some ⟨b4, 0, none⟩)), (5, .int .i64 0), (6, .pointer (some ⟨b6, 0, none⟩)), (7, .pointer (some ⟨b7, 0, none⟩)), (8, .int .i64 (k : Int))] (Sat (Old w) w [cel b7 24 [.int .i64 g.terms, .int .i64 g.names, ov], rulesA ov rs, symsA rs, cel b6 24 [.int .i64 0, .int .i64 0, .slice none 0 0], cel b4 24 [.int .i64 0, .int .i64 0, .slice none 0 0], cel b3 26 [.int .i64 s.op, .int .i64 s.a, .int .i64 s.b, .int .i64 s.c], cel b2 24 [.int .i64 g.terms, .int .i64 g.names, .slice a g.rules.length c]])
 obtain ⟨hk, hrl, h5, hrsl⟩ := hpre
 refine CW_seq ?_
 refine nx3 ?_
 refine mO ?_
 refine OW_q (q_fieldAddr Try.underlying24 rfl rfl Try.sizeOf22 rfl rfl) rfl ?_
 refine OW_q (q_load1_own Try.isAgg22 rfl rfl swt (by rfl)) rfl ?_
 refine OW_q (q_len Try.underlying22 rfl) rfl ?_
 refine OW_q (q_lss rfl rfl) rfl ?_
 refine nx2 ?_
 refine CW_cond rfl (fun h30 => ?_) (fun h30 => ?_)
 · skip
   have hlk : k < g.rules.length := by have := of_decide_eq_true h30; omega
   obtain ⟨q, hq⟩ := get_of_lt hlk
   refine CW_skip ?_
   refine EW_then ?_
   refine CW_seq ?_
   refine CW_block ?_
   refine nx3 ?_
   refine OW_q (q_loadN_own Try.isAgg24 Try.sizeOf24 rfl rfl swt (by rfl)) rfl ?_
   refine OW_q (q_loadN_own Try.isAgg26 Try.sizeOf26 rfl rfl swt (by rfl)) rfl ?_
   refine mO ?_
   refine OW_e (e_call Try.call22 rfl (fun w hw => lift_oldP (one_any _ g s k q w hm hms hq (hg0.mono (fun _ _ h => hw.rd (Rd.old h)))) hw)) rfl (fun x36 => ?_)
   refine OW_pure fun hx36 => ?_
   obtain ⟨ov1, rs1, ms1, cs1⟩ := x36
   obtain ⟨hmc1, hrl1⟩ := hx36
   have hrl1 : plainR rs1 = oneR g s ms1 cs1 k q := hrl1
   have hl1 : rs1.length ≤ g.rules.length + 1 := by have h1 := congrArg List.length hrl1; unfold plainR at h1; rw [List.length_map] at h1; rw [h1]; exact oneR_len
   refine OW_weak (S' := Sat (Old w) w [rulesA ov1 rs1, symsA rs1, cel b7 24 [.int .i64 g.terms, .int .i64 g.names, ov], rulesA ov rs, symsA rs, cel b6 24 [.int .i64 0, .int .i64 0, .slice none 0 0], cel b4 24 [.int .i64 0, .int .i64 0, .slice none 0 0], cel b3 26 [.int .i64 s.op, .int .i64 s.a, .int .i64 s.b, .int .i64 s.c], cel b2 24 [.int .i64 g.terms, .int .i64 g.names, .slice a g.rules.length c]]) (fun w hw => hw) ?_
   refine OW_fact (fun w hw => hw.tform (v := ov1) (l := rs1) (enc := encRV) swt) (fun hf => ?_)
   obtain ⟨an, cn, rfl, _, _, hbn⟩ := hf
   refine OW_fact (fun w hw => Sat.symsOne (rs := rs1) hw swt) (fun hone1 => ?_)
   refine OW_spell 36 (.slice an rs1.length cn) rfl rfl ?_
   refine aO ?_
   refine nx2 ?_
   refine CW_region ?_
   refine OW_q (q_fieldAddr Try.underlying24 rfl rfl Try.sizeOf22 rfl rfl) rfl ?_
   refine OW_q (q_load1_own Try.isAgg22 rfl rfl swt (by rfl)) rfl ?_
   refine mO ?_
   refine OW_e (e_appendG (enc := encRV) (size := 2) (v := ov) (l := rs) (ys := rs1) (sa := an) (fun _ => rfl) Try.underlying22 Try.typeInfo49 rfl rfl rfl rfl rfl rfl rfl pkt rfl (fun w hw => hw.vin (F := rulesA (.slice an rs1.length cn) rs1) swt VIn.trow) (encRV_one hone1) (by omega) (by decide)) rfl (fun v40 => ?_)
   refine OW_fact (fun w hw => hw.tform (v := v40) (l := (rs ++ rs1)) (enc := encRV) swt) (fun hf => ?_)
   obtain ⟨a40, c40, rfl, _, _, hb40⟩ := hf
   refine OW_q (q_fieldAddr Try.underlying24 rfl rfl Try.sizeOf22 rfl rfl) rfl ?_
   refine OW_e0 (e_store Try.sizeOf22 rfl rfl rfl rfl swt (by rfl)) (fun _ => ?_)
   refine OW_nil ?_
   refine EW_block_normal ?_
   refine EW_then ?_
   refine CW_region ?_
   refine mO ?_
   refine OW_q (q_add rfl rfl (by omega) (by omega)) rfl ?_
   refine aO ?_
   refine OW_nil ?_
   refine EW_weak (S' := Sat (Old _) _ [cel b7 24 [.int .i64 g.terms, .int .i64 g.names, .slice a40 (rs ++ rs1).length c40], rulesA (.slice a40 (rs ++ rs1).length c40) (rs ++ rs1), symsA (rs ++ rs1), cel b6 24 [.int .i64 0, .int .i64 0, .slice none 0 0], cel b4 24 [.int .i64 0, .int .i64 0, .slice none 0 0], cel b3 26 [.int .i64 s.op, .int .i64 s.a, .int .i64 s.b, .int .i64 s.c], cel b2 24 [.int .i64 g.terms, .int .i64 g.names, .slice a g.rules.length c]]) (fun w hw => by
     have h1 : Sat _ _ (symsA rs :: symsA rs1 :: [cel b7 24 [.int .i64 g.terms, .int .i64 g.names, .slice a40 (rs ++ rs1).length c40], rulesA (.slice a40 (rs ++ rs1).length c40) (rs ++ rs1), cel b6 24 [.int .i64 0, .int .i64 0, .slice none 0 0], cel b4 24 [.int .i64 0, .int .i64 0, .slice none 0 0], cel b3 26 [.int .i64 s.op, .int .i64 s.a, .int .i64 s.b, .int .i64 s.c], cel b2 24 [.int .i64 g.terms, .int .i64 g.names, .slice a g.rules.length c]]) w := hw.sub sbt
     exact h1.symsJoin.sub sbt) ?_
   refine EW_again ((k + 1, .slice a40 (rs ++ rs1).length c40, rs ++ rs1, ms1, cs1)) ⟨?_, ?_⟩ ⟨rfl, rfl, rfl, rfl, rfl, rfl, rfl, trivial⟩ sft
   · show g.rules.length - (k + 1) < g.rules.length - k; omega
   · refine ⟨by show k + 1 ≤ _; omega, ?_, fun h _ => hmc1 h, by show (rs ++ rs1).length ≤ _; rw [List.length_append]; omega⟩
     show plainR (rs ++ rs1) = upR g s ms1 cs1 (k + 1)
     have hu : upR g s ms cs k = upR g s ms1 cs1 k := by
       refine upR_other hms k ?_
       by_cases e5 : s.op = 5
       · rcases Nat.eq_zero_or_pos k with e6 | e6
         · exact .inr (.inl e6)
         · exact .inr (.inr (mks_unique (h5 e5 e6) (hmc1 e5)))
       · exact .inl e5
     rw [upR_next hq, ← hu, ← hrl, ← hrl1]
     simp [plainR]
 have hke : k = g.rules.length := by have := of_decide_eq_false h30; omega
 refine CW_fact (fun w hw => hw.tform (v := ov) (l := rs) (enc := encRV) swt) (fun hf => ?_)
 obtain ⟨ao, co, rfl, _, _, hbo⟩ := hf
 refine CW_exit ?_
 refine EW_then_exit ?_
 refine EW_out ?_
 refine EW_block_exit ?_
 refine EW_then ?_
 refine CW_seq ?_
 refine nx3 ?_
 refine OW_q (q_fieldAddr Try.underlying26 rfl rfl Try.sizeOf3 rfl rfl) rfl ?_
 refine OW_q (q_load1_own Try.isAgg3 rfl rfl swt (by rfl)) rfl ?_
 refine OW_q (q_eqi rfl rfl) rfl ?_
 refine nx2 ?_
 refine CW_false rfl (by simp [ho2]) ?_
 refine CW_skip ?_
 refine EW_then ?_
 refine CW_seq ?_
 refine nx3 ?_
 refine OW_q (q_fieldAddr Try.underlying26 rfl rfl Try.sizeOf3 rfl rfl) rfl ?_
 refine OW_q (q_load1_own Try.isAgg3 rfl rfl swt (by rfl)) rfl ?_
 refine OW_q (q_eqi rfl rfl) rfl ?_
 refine nx2 ?_
 refine CW_false rfl (by simp [ho4]) ?_
 refine CW_skip ?_
 refine EW_then ?_
 refine CW_seq ?_
 refine nx3 ?_
 refine OW_q (q_loadN_own Try.isAgg24 Try.sizeOf24 rfl rfl swt (by rfl)) rfl ?_
 refine OW_e (e_call Try.call12 rfl (fun w hw => lift_ro (may1_any _ (⟨g.terms, g.names, plainR rs⟩ : Gram) w (hw.gramIn swt swt)) hw)) rfl (fun x86 => ?_)
 refine OW_q (q_not rfl) rfl ?_
 refine nx2 ?_
 refine CW_cond rfl (fun h87 => ?_) (fun h87 => ?_)
 · skip
   have he : (⟨g.terms, g.names, plainR rs⟩ : Gram) = stepG g s ms cs := step_eq (by simp [stepG, ho2, ho4] <;> (repeat' split) <;> rfl) (by rw [← upR_full hms, ← hke, ← hrl]; simp [plainR, extraR, ho2, ho4])
   have hmo : mayB (stepG g s ms cs) = false := by rw [← he]; simpa using h87
   refine nx3 ?_
   refine OW_q (q_loadN_own Try.isAgg24 Try.sizeOf24 rfl rfl swt (by rfl)) rfl ?_
   refine OW_e0 (e_storeN Try.sizeOf24 rfl rfl rfl rfl (by simp [Value.oneCell']) swt (by rfl)) (fun _ => ?_)
   refine aO ?_
   refine nx2 ?_
   refine CW_ret ?_
   refine EW_then_ret ?_
   refine retc2 (vs := [.int .i64 0, .int .i64 0, .slice none 0 0]) Try.results9 Try.isAgg24 Try.sizeOf24 rfl rfl (fun w hw j u hj => by rw [Addr.add_lit, hw.cell (t := 24) (cs := [.int .i64 0, .int .i64 0, .slice none 0 0]) (A' := cel b4 24 [.int .i64 0, .int .i64 0, .slice none 0 0]) swt, Nat.zero_add]; exact hj) rfl (fun w hw => ?_)
   exact ⟨(.slice none 0 0, noneG, [], 1), rfl, ⟨⟨(fun h => by rw [hm, hms] at h; cases h), fun _ _ => ⟨ms, cs, (fun e1 e2 => h5 e1 (by omega)), (fun h => by rw [hmo] at h; cases h), fun _ => ⟨rfl, rfl⟩⟩⟩, rfl⟩, ((hw.tnil 49 2 encRV).addEmp (A := symsA []) rfl).sub sbt⟩
 have he : (⟨g.terms, g.names, plainR rs⟩ : Gram) = stepG g s ms cs := step_eq (by simp [stepG, ho2, ho4] <;> (repeat' split) <;> rfl) (by rw [← upR_full hms, ← hke, ← hrl]; simp [plainR, extraR, ho2, ho4])
 have hmo : mayB (stepG g s ms cs) = true := by rw [← he]; simpa using h87
 refine CW_skip ?_
 refine EW_then ?_
 refine nx3 ?_
 refine OW_q (q_loadN_own Try.isAgg24 Try.sizeOf24 rfl rfl swt (by rfl)) rfl ?_
 refine OW_e0 (e_storeN Try.sizeOf24 rfl rfl rfl rfl (by simp [Value.oneCell']) swt (by rfl)) (fun _ => ?_)
 refine aO ?_
 refine nx2 ?_
 refine CW_ret ?_
 refine retc2 (vs := [.int .i64 g.terms, .int .i64 g.names, .slice ao rs.length co]) Try.results9 Try.isAgg24 Try.sizeOf24 rfl rfl (fun w hw j u hj => by rw [Addr.add_lit, hw.cell (t := 24) (cs := [.int .i64 g.terms, .int .i64 g.names, .slice ao rs.length co]) (A' := cel b4 24 [.int .i64 g.terms, .int .i64 g.names, .slice ao rs.length co]) swt, Nat.zero_add]; exact hj) rfl (fun w hw => ?_)
 refine ⟨(.slice ao rs.length co, (⟨g.terms, g.names, plainR rs⟩ : Gram), rs, 0), rfl, ⟨⟨(fun h => by rw [hm, hms] at h; cases h), fun _ _ => ⟨ms, cs, (fun e1 e2 => h5 e1 (by omega)), fun _ => ⟨rfl, he⟩, (fun h => by rw [hmo] at h; cases h)⟩⟩, rfl⟩, hw.sub sbt⟩

set_option maxRecDepth 20000 in
theorem do82_any (gv : Value) (g : Gram) (s : SStep) (w : World) (hop : s.op = 2) (hg : GramAt (Cl w) gv g) : Calls Try.prog 9 #[gv, stepV s] w (fun e w' => ∃ x : Value × Gram × List RV × Int, e = .returned (.tuple #[.agg #[.int .i64 x.2.1.terms, .int .i64 x.2.1.names, x.1], .int .i64 x.2.2.2]) ∧ (DoOk8 g s x.2.1 x.2.2.2 ∧ plainR x.2.2.1 = x.2.1.rules) ∧ Sat (Old w) w [rulesA x.1 x.2.2.1, symsA x.2.2.1] w') := by
 have hg0 := hg
 obtain ⟨rv, rfl, hr⟩ := hg.mono old_rd
 obtain ⟨a, c, rfl, hc1, hc2, hrs⟩ := id hr
 clear hg
 refine calls_CW Try.func9 rfl Try.ntmps9 rfl (Sat.start w) ?_
 refine nx3 ?_
 refine OW_e (e_box rfl rfl) rfl (fun b2 => ?_)
 refine OW_e (e_box rfl rfl) rfl (fun b3 => ?_)
 refine OW_e (e_alloc Try.zeroValue24 rfl) rfl (fun b4 => ?_)
 refine aO ?_
 refine nx4 ?_
 refine OW_q (q_build (ps := #[]) (v := .agg #[.int .i64 0, .int .i64 0, .slice none 0 0]) rfl (fun w => by kernel_rfl)) rfl ?_
 refine OW_e (e_alloc Try.zeroValue24 rfl) rfl (fun b6 => ?_)
 refine OW_e0 (e_storeN Try.sizeOf24 rfl rfl rfl rfl (by simp [Value.oneCell']) swt (by rfl)) (fun _ => ?_)
 refine nx2 ?_
 refine CW_seq ?_
 refine nx3 ?_
 refine OW_q (q_loadN_own Try.isAgg24 Try.sizeOf24 rfl rfl swt (by rfl)) rfl ?_
 refine OW_e (e_call Try.call12 rfl (fun w hw => lift_ro (may1_any _ g w (hg0.mono (fun _ _ h => hw.rd (Rd.old h)))) hw)) rfl (fun x12 => ?_)
 refine OW_q (q_not rfl) rfl ?_
 refine mO ?_
 refine OW_part (t := 14) rfl (fun hg14 => ?_) (fun hg14 => ?_)
 · skip
   have hm : mayB g = false := by simpa using hg14
   refine kO ?_
   refine kO ?_
   refine kO ?_
   refine kO ?_
   refine OW_q (q_pick_t rfl rfl) rfl ?_
   refine nx2 ?_
   refine CW_true rfl rfl ?_
   refine nx3 ?_
   refine OW_q (q_loadN_own Try.isAgg24 Try.sizeOf24 rfl rfl swt (by rfl)) rfl ?_
   refine OW_e0 (e_storeN Try.sizeOf24 rfl rfl rfl rfl (by simp [Value.oneCell']) swt (by rfl)) (fun _ => ?_)
   refine aO ?_
   refine nx2 ?_
   refine CW_ret ?_
   refine EW_then_ret ?_
   refine retc2 (vs := [.int .i64 0, .int .i64 0, .slice none 0 0]) Try.results9 Try.isAgg24 Try.sizeOf24 rfl rfl (fun w hw j u hj => by rw [Addr.add_lit, hw.cell (t := 24) (cs := [.int .i64 0, .int .i64 0, .slice none 0 0]) (A' := cel b4 24 [.int .i64 0, .int .i64 0, .slice none 0 0]) swt, Nat.zero_add]; exact hj) rfl (fun w hw => ?_)
   exact ⟨(.slice none 0 0, noneG, [], 2), rfl, ⟨⟨fun _ => ⟨rfl, rfl⟩, (fun h1 => by rw [hm] at h1; cases h1)⟩, rfl⟩, ((hw.tnil 49 2 encRV).addEmp (A := symsA []) rfl).sub sbt⟩
 have hm : mayB g = true := by simpa using hg14
 have hM := mayB_true.1 hm
 refine wO ?_
 refine OW_q (q_loadN_own Try.isAgg24 Try.sizeOf24 rfl rfl swt (by rfl)) rfl ?_
 refine wO ?_
 refine OW_q (q_loadN_own Try.isAgg26 Try.sizeOf26 rfl rfl swt (by rfl)) rfl ?_
 refine wO ?_
 refine OW_e (e_call Try.call21 rfl (fun w hw => lift_ro (may8_any _ g s w (hg0.mono (fun _ _ h => hw.rd (Rd.old h)))) hw)) rfl (fun x17 => ?_)
 refine wO ?_
 refine OW_q (q_not rfl) rfl ?_
 refine OW_q (q_pick_f rfl rfl) rfl ?_
 refine nx2 ?_
 refine CW_cond rfl (fun h19 => ?_) (fun h19 => ?_)
 · skip
   have hms : mayS g s = false := by simpa using h19
   refine nx3 ?_
   refine OW_q (q_loadN_own Try.isAgg24 Try.sizeOf24 rfl rfl swt (by rfl)) rfl ?_
   refine OW_e0 (e_storeN Try.sizeOf24 rfl rfl rfl rfl (by simp [Value.oneCell']) swt (by rfl)) (fun _ => ?_)
   refine aO ?_
   refine nx2 ?_
   refine CW_ret ?_
   refine EW_then_ret ?_
   refine retc2 (vs := [.int .i64 0, .int .i64 0, .slice none 0 0]) Try.results9 Try.isAgg24 Try.sizeOf24 rfl rfl (fun w hw j u hj => by rw [Addr.add_lit, hw.cell (t := 24) (cs := [.int .i64 0, .int .i64 0, .slice none 0 0]) (A' := cel b4 24 [.int .i64 0, .int .i64 0, .slice none 0 0]) swt, Nat.zero_add]; exact hj) rfl (fun w hw => ?_)
   exact ⟨(.slice none 0 0, noneG, [], 2), rfl, ⟨⟨fun _ => ⟨rfl, rfl⟩, (fun _ h2 => by rw [hms] at h2; cases h2)⟩, rfl⟩, ((hw.tnil 49 2 encRV).addEmp (A := symsA []) rfl).sub sbt⟩
 have hms : mayS g s = true := by simpa using h19
 refine CW_skip ?_
 refine EW_then ?_
 refine nx3 ?_
 refine OW_q (q_fieldAddr Try.underlying24 rfl rfl Try.sizeOf3 rfl rfl) rfl ?_
 refine OW_q (q_load1_own Try.isAgg3 rfl rfl swt (by rfl)) rfl ?_
 refine OW_q (q_fieldAddr Try.underlying24 rfl rfl Try.sizeOf3 rfl rfl) rfl ?_
 refine OW_q (q_load1_own Try.isAgg3 rfl rfl swt (by rfl)) rfl ?_
 refine OW_q (q_build (ps := #[(0, .int .i64 g.terms), (1, .int .i64 g.names)]) (v := .agg #[.int .i64 g.terms, .int .i64 g.names, .slice none 0 0]) rfl (fun w => by kernel_rfl)) rfl ?_
 refine OW_e (e_alloc Try.zeroValue24 rfl) rfl (fun b7 => ?_)
 refine OW_e0 (e_storeN Try.sizeOf24 rfl rfl rfl rfl (by simp [Value.oneCell']) swt (by rfl)) (fun _ => ?_)
 refine nx2 ?_
 refine CW_seq ?_
 refine nx3 ?_
 refine aO ?_
 refine nx2 ?_
 refine CW_block ?_
 refine CW_weak (S' := Sat (Old w) w [cel b7 24 [.int .i64 g.terms, .int .i64 g.names, .slice none 0 0], rulesA (.slice none 0 0) [], symsA [], cel b6 24 [.int .i64 0, .int .i64 0, .slice none 0 0], cel b4 24 [.int .i64 0, .int .i64 0, .slice none 0 0], cel b3 26 [.int .i64 s.op, .int .i64 s.a, .int .i64 s.b, .int .i64 s.c], cel b2 24 [.int .i64 g.terms, .int .i64 g.names, .slice a g.rules.length c]]) (fun w hw => ((hw.tnil 49 2 encRV).addEmp (A := symsA []) rfl).sub sbt) ?_
 refine CW_loopP (ι := Nat × Value × List RV × List Bool × List Bool) (fun i_ => i_.1 ≤ g.rules.length ∧ plainR i_.2.2.1 = upR g s i_.2.2.2.1 i_.2.2.2.2 i_.1 ∧ (s.op = 5 → 0 < i_.1 → MksOk g i_.2.2.2.1 ∧ CmsOk g i_.2.2.2.2) ∧ i_.2.2.1.length ≤ i_.1 * 41) (fun i_ => [(2, .pointer (some ⟨b2, 0, none⟩)), (3, .pointer (some ⟨b3, 0, none⟩)), (4, .pointer (some ⟨b4, 0, none⟩)), (5, .int .i64 0), (6, .pointer (some ⟨b6, 0, none⟩)), (7, .pointer (some ⟨b7, 0, none⟩)), (8, .int .i64 (i_.1 : Int))]) (fun i_ => Sat (Old w) w [cel b7 24 [.int .i64 g.terms, .int .i64 g.names, i_.2.1], rulesA i_.2.1 i_.2.2.1, symsA i_.2.2.1, cel b6 24 [.int .i64 0, .int .i64 0, .slice none 0 0], cel b4 24 [.int .i64 0, .int .i64 0, .slice none 0 0], cel b3 26 [.int .i64 s.op, .int .i64 s.a, .int .i64 s.b, .int .i64 s.c], cel b2 24 [.int .i64 g.terms, .int .i64 g.names, .slice a g.rules.length c]]) (fun i_ => g.rules.length - i_.1) (0, .slice none 0 0, [], [], []) ?_ ⟨rfl, rfl, rfl, rfl, rfl, rfl, rfl, trivial⟩ sft ?_
 · exact ⟨Nat.zero_le _, rfl, fun _ h => absurd h (Nat.lt_irrefl 0), Nat.zero_le _⟩
 intro i_ hpre
 obtain ⟨k, ov, rs, ms, cs⟩ := i_
 replace hpre : k ≤ g.rules.length ∧ plainR rs = upR g s ms cs k ∧ (s.op = 5 → 0 < k → MksOk g ms ∧ CmsOk g cs) ∧ rs.length ≤ k * 41 := hpre
 change CW _ _ _ _ [(2, .pointer (some ⟨b2, 0, none⟩)), (3, .pointer (some ⟨b3, 0, none⟩)), (4, .pointer (some ⟨b4, 0, none⟩)), (5, .int .i64 0), (6, .pointer (some ⟨b6, 0, none⟩)), (7, .pointer (some ⟨b7, 0, none⟩)), (8, .int .i64 (k : Int))] (Sat (Old w) w [cel b7 24 [.int .i64 g.terms, .int .i64 g.names, ov], rulesA ov rs, symsA rs, cel b6 24 [.int .i64 0, .int .i64 0, .slice none 0 0], cel b4 24 [.int .i64 0, .int .i64 0, .slice none 0 0], cel b3 26 [.int .i64 s.op, .int .i64 s.a, .int .i64 s.b, .int .i64 s.c], cel b2 24 [.int .i64 g.terms, .int .i64 g.names, .slice a g.rules.length c]])
 obtain ⟨hk, hrl, h5, hrsl⟩ := hpre
 refine CW_seq ?_
 refine nx3 ?_
 refine mO ?_
 refine OW_q (q_fieldAddr Try.underlying24 rfl rfl Try.sizeOf22 rfl rfl) rfl ?_
 refine OW_q (q_load1_own Try.isAgg22 rfl rfl swt (by rfl)) rfl ?_
 refine OW_q (q_len Try.underlying22 rfl) rfl ?_
 refine OW_q (q_lss rfl rfl) rfl ?_
 refine nx2 ?_
 refine CW_cond rfl (fun h30 => ?_) (fun h30 => ?_)
 · skip
   have hlk : k < g.rules.length := by have := of_decide_eq_true h30; omega
   obtain ⟨q, hq⟩ := get_of_lt hlk
   refine CW_skip ?_
   refine EW_then ?_
   refine CW_seq ?_
   refine CW_block ?_
   refine nx3 ?_
   refine OW_q (q_loadN_own Try.isAgg24 Try.sizeOf24 rfl rfl swt (by rfl)) rfl ?_
   refine OW_q (q_loadN_own Try.isAgg26 Try.sizeOf26 rfl rfl swt (by rfl)) rfl ?_
   refine mO ?_
   refine OW_e (e_call Try.call22 rfl (fun w hw => lift_oldP (one_any _ g s k q w hm hms hq (hg0.mono (fun _ _ h => hw.rd (Rd.old h)))) hw)) rfl (fun x36 => ?_)
   refine OW_pure fun hx36 => ?_
   obtain ⟨ov1, rs1, ms1, cs1⟩ := x36
   obtain ⟨hmc1, hrl1⟩ := hx36
   have hrl1 : plainR rs1 = oneR g s ms1 cs1 k q := hrl1
   have hl1 : rs1.length ≤ g.rules.length + 1 := by have h1 := congrArg List.length hrl1; unfold plainR at h1; rw [List.length_map] at h1; rw [h1]; exact oneR_len
   refine OW_weak (S' := Sat (Old w) w [rulesA ov1 rs1, symsA rs1, cel b7 24 [.int .i64 g.terms, .int .i64 g.names, ov], rulesA ov rs, symsA rs, cel b6 24 [.int .i64 0, .int .i64 0, .slice none 0 0], cel b4 24 [.int .i64 0, .int .i64 0, .slice none 0 0], cel b3 26 [.int .i64 s.op, .int .i64 s.a, .int .i64 s.b, .int .i64 s.c], cel b2 24 [.int .i64 g.terms, .int .i64 g.names, .slice a g.rules.length c]]) (fun w hw => hw) ?_
   refine OW_fact (fun w hw => hw.tform (v := ov1) (l := rs1) (enc := encRV) swt) (fun hf => ?_)
   obtain ⟨an, cn, rfl, _, _, hbn⟩ := hf
   refine OW_fact (fun w hw => Sat.symsOne (rs := rs1) hw swt) (fun hone1 => ?_)
   refine OW_spell 36 (.slice an rs1.length cn) rfl rfl ?_
   refine aO ?_
   refine nx2 ?_
   refine CW_region ?_
   refine OW_q (q_fieldAddr Try.underlying24 rfl rfl Try.sizeOf22 rfl rfl) rfl ?_
   refine OW_q (q_load1_own Try.isAgg22 rfl rfl swt (by rfl)) rfl ?_
   refine mO ?_
   refine OW_e (e_appendG (enc := encRV) (size := 2) (v := ov) (l := rs) (ys := rs1) (sa := an) (fun _ => rfl) Try.underlying22 Try.typeInfo49 rfl rfl rfl rfl rfl rfl rfl pkt rfl (fun w hw => hw.vin (F := rulesA (.slice an rs1.length cn) rs1) swt VIn.trow) (encRV_one hone1) (by omega) (by decide)) rfl (fun v40 => ?_)
   refine OW_fact (fun w hw => hw.tform (v := v40) (l := (rs ++ rs1)) (enc := encRV) swt) (fun hf => ?_)
   obtain ⟨a40, c40, rfl, _, _, hb40⟩ := hf
   refine OW_q (q_fieldAddr Try.underlying24 rfl rfl Try.sizeOf22 rfl rfl) rfl ?_
   refine OW_e0 (e_store Try.sizeOf22 rfl rfl rfl rfl swt (by rfl)) (fun _ => ?_)
   refine OW_nil ?_
   refine EW_block_normal ?_
   refine EW_then ?_
   refine CW_region ?_
   refine mO ?_
   refine OW_q (q_add rfl rfl (by omega) (by omega)) rfl ?_
   refine aO ?_
   refine OW_nil ?_
   refine EW_weak (S' := Sat (Old _) _ [cel b7 24 [.int .i64 g.terms, .int .i64 g.names, .slice a40 (rs ++ rs1).length c40], rulesA (.slice a40 (rs ++ rs1).length c40) (rs ++ rs1), symsA (rs ++ rs1), cel b6 24 [.int .i64 0, .int .i64 0, .slice none 0 0], cel b4 24 [.int .i64 0, .int .i64 0, .slice none 0 0], cel b3 26 [.int .i64 s.op, .int .i64 s.a, .int .i64 s.b, .int .i64 s.c], cel b2 24 [.int .i64 g.terms, .int .i64 g.names, .slice a g.rules.length c]]) (fun w hw => by
     have h1 : Sat _ _ (symsA rs :: symsA rs1 :: [cel b7 24 [.int .i64 g.terms, .int .i64 g.names, .slice a40 (rs ++ rs1).length c40], rulesA (.slice a40 (rs ++ rs1).length c40) (rs ++ rs1), cel b6 24 [.int .i64 0, .int .i64 0, .slice none 0 0], cel b4 24 [.int .i64 0, .int .i64 0, .slice none 0 0], cel b3 26 [.int .i64 s.op, .int .i64 s.a, .int .i64 s.b, .int .i64 s.c], cel b2 24 [.int .i64 g.terms, .int .i64 g.names, .slice a g.rules.length c]]) w := hw.sub sbt
     exact h1.symsJoin.sub sbt) ?_
   refine EW_again ((k + 1, .slice a40 (rs ++ rs1).length c40, rs ++ rs1, ms1, cs1)) ⟨?_, ?_⟩ ⟨rfl, rfl, rfl, rfl, rfl, rfl, rfl, trivial⟩ sft
   · show g.rules.length - (k + 1) < g.rules.length - k; omega
   · refine ⟨by show k + 1 ≤ _; omega, ?_, fun h _ => hmc1 h, by show (rs ++ rs1).length ≤ _; rw [List.length_append]; omega⟩
     show plainR (rs ++ rs1) = upR g s ms1 cs1 (k + 1)
     have hu : upR g s ms cs k = upR g s ms1 cs1 k := by
       refine upR_other hms k ?_
       by_cases e5 : s.op = 5
       · rcases Nat.eq_zero_or_pos k with e6 | e6
         · exact .inr (.inl e6)
         · exact .inr (.inr (mks_unique (h5 e5 e6) (hmc1 e5)))
       · exact .inl e5
     rw [upR_next hq, ← hu, ← hrl, ← hrl1]
     simp [plainR]
 have hke : k = g.rules.length := by have := of_decide_eq_false h30; omega
 refine CW_fact (fun w hw => hw.tform (v := ov) (l := rs) (enc := encRV) swt) (fun hf => ?_)
 obtain ⟨ao, co, rfl, _, _, hbo⟩ := hf
 refine CW_exit ?_
 refine EW_then_exit ?_
 refine EW_out ?_
 refine EW_block_exit ?_
 refine EW_then ?_
 refine CW_seq ?_
 refine nx3 ?_
 refine OW_q (q_fieldAddr Try.underlying26 rfl rfl Try.sizeOf3 rfl rfl) rfl ?_
 refine OW_q (q_load1_own Try.isAgg3 rfl rfl swt (by rfl)) rfl ?_
 refine OW_q (q_eqi rfl rfl) rfl ?_
 refine nx2 ?_
 refine CW_true rfl (by simp [hop]) ?_
 refine nx3 ?_
 refine OW_q (q_fieldAddr Try.underlying24 rfl rfl Try.sizeOf3 rfl rfl) rfl ?_
 refine OW_q (q_load1_own Try.isAgg3 rfl rfl swt (by rfl)) rfl ?_
 refine OW_q (q_add rfl rfl (by omega) (by omega)) rfl ?_
 refine OW_q (q_fieldAddr Try.underlying24 rfl rfl Try.sizeOf3 rfl rfl) rfl ?_
 refine OW_e0 (e_store Try.sizeOf3 rfl rfl rfl rfl swt (by rfl)) (fun _ => ?_)
 refine nx2 ?_
 have hs2 := hms
 unfold mayS at hs2
 rw [if_neg (by omega), if_pos hop] at hs2
 simp only [Bool.and_eq_true, inR_true, decide_eq_true_eq] at hs2
 obtain ⟨⟨⟨ha0, ha1⟩, hb0, hbc⟩, hcr⟩ := hs2
 obtain ⟨q, hq⟩ := get_of_lt (l := g.rules) (k := s.a.toNat) (by omega)
 rw [ruleAt_get hq] at hcr
 have hq8 := (may_rule hm hq).2.2
 obtain ⟨p, rfl, rvq, hsy, hrow⟩ := hrs s.a.toNat q hq
 obtain ⟨ya, yc, rfl, hy1, hy2, hys⟩ := id hsy
 obtain ⟨pt, hpt⟩ : ∃ pt, pt = (q.right.take s.c.toNat).drop s.b.toNat := ⟨_, rfl⟩
 have hptl : pt.length = s.c.toNat - s.b.toNat := by rw [hpt, List.length_drop, List.length_take]; omega
 refine CW_draw (Sat (Old w) w [cel b7 24 [.int .i64 g.terms, .int .i64 (g.names + 1), .slice ao rs.length co], cel b3 26 [.int .i64 s.op, .int .i64 s.a, .int .i64 s.b, .int .i64 s.c], cel b2 24 [.int .i64 g.terms, .int .i64 g.names, .slice (some p) g.rules.length c]]) 21 [(0, false), (1, false), (2, false), (3, false), (4, false), (5, false), (6, false), (7, false), (8, false), (9, false), (10, false), (11, false), (12, false), (13, false), (14, false), (15, false), (16, true), (17, false), (18, true), (19, true), (20, false), (21, true)] (by kernel_rfl) (Blind.then (Blind.body (by intro c w h; simp at h))) (by kernel_rfl) (fun w hw => hw.drew) ?_
 refine DW_q rfl sft (q_fieldAddr Try.underlying24 rfl rfl Try.sizeOf22 rfl rfl) rfl ?_
 refine DW_q rfl sft (q_load1_own Try.isAgg22 rfl rfl swt (by rfl)) rfl ?_
 refine DW_q rfl sft (q_fieldAddr Try.underlying24 rfl rfl Try.sizeOf3 rfl rfl) rfl ?_
 refine DW_q rfl sft (q_load1_own Try.isAgg3 rfl rfl swt (by rfl)) rfl ?_
 refine DW_q rfl sft (q_fieldAddr Try.underlying24 rfl rfl Try.sizeOf22 rfl rfl) rfl ?_
 refine DW_q rfl sft (q_load1_own Try.isAgg22 rfl rfl swt (by rfl)) rfl ?_
 refine DW_q rfl sft (q_fieldAddr Try.underlying26 rfl rfl Try.sizeOf3 rfl rfl) rfl ?_
 refine DW_q rfl sft (q_load1_own Try.isAgg3 rfl rfl swt (by rfl)) rfl ?_
 refine DW_q rfl sft (q_indexAddrI Try.underlying22 Try.sizeOf49 rfl rfl (by omega) (by omega)) rfl ?_
 refine DW_q rfl sft (q_fieldAddr Try.underlying49 rfl rfl Try.sizeOf46 rfl rfl) rfl ?_
 refine DW_q rfl sft (q_load1_ro Try.isAgg46 rfl (by exact hrow.at_ (j := 1) rfl)) rfl ?_
 refine DW_q rfl sft (q_fieldAddr Try.underlying26 rfl rfl Try.sizeOf3 rfl rfl) rfl ?_
 refine DW_q rfl sft (q_load1_own Try.isAgg3 rfl rfl swt (by rfl)) rfl ?_
 refine DW_q rfl sft (q_fieldAddr Try.underlying26 rfl rfl Try.sizeOf3 rfl rfl) rfl ?_
 refine DW_q rfl sft (q_load1_own Try.isAgg3 rfl rfl swt (by rfl)) rfl ?_
 refine DW_spell 61 (.int .i64 ((s.b.toNat : Nat) : Int)) rfl (congrArg (Value.int .i64) (by omega)) ?_
 refine DW_spell 63 (.int .i64 ((s.c.toNat : Nat) : Int)) rfl (congrArg (Value.int .i64) (by omega)) ?_
 refine DW_q rfl sft (q_slice Try.underlying46 Try.sizeOf51 rfl (.inr ⟨_, rfl, rfl⟩) (.inr ⟨_, rfl, rfl⟩) (by omega) (by omega) (by omega)) rfl ?_
 refine DW_e rfl (e_call Try.call23 rfl (fun w hw => lift_old (copied_any _ pt w (by omega) (by rw [hpt]; exact SlAt.sub (hsy.mono fun _ _ h => hw.rd h) (by omega) (by omega))) hw)) rfl (fun _ w hw => by first | exact hw.sub sbt | exact hw.2.sub sbt) (fun x65 => ?_)
 refine DW_fact (fun w hw => hw.tform (v := x65) (l := pt) (enc := encY) swt) (fun hf => ?_)
 obtain ⟨a65, c65, rfl, _, _, hb65⟩ := hf
 refine DW_q rfl sft (q_build (ps := #[(0, .int .i64 g.names), (1, .slice a65 pt.length c65)]) (v := .agg #[.int .i64 g.names, .slice a65 pt.length c65]) rfl (fun w => by kernel_rfl)) rfl ?_
 refine DW_e rfl (e_single Try.underlying22 Try.sizeOf49 Try.zeroValue49 (e := 49) (v := .agg #[.int .i64 g.names, .slice a65 pt.length c65]) (cs := [.int .i64 g.names, .slice a65 pt.length c65]) rfl rfl rfl rfl (by decide) (by decide)) rfl (fun _ => sft) (fun b67 => ?_)
 refine DW_e rfl (e_append_t (x0 := (⟨⟨g.names, pt⟩, .slice a65 pt.length c65⟩ : RV)) (enc := encRV) (v := .slice ao rs.length co) (l := rs) Try.underlying22 Try.typeInfo49 rfl rfl rfl rfl rfl rfl rfl pkt rfl (by exact fun w hw => hw.news swt) (by simp [Value.oneCell']) (by omega) (by decide)) rfl (fun _ => sft) (fun v68 => ?_)
 refine DW_fact (fun w hw => hw.tform (v := v68) (l := (rs ++ [(⟨⟨g.names, pt⟩, .slice a65 pt.length c65⟩ : RV)])) (enc := encRV) swt) (fun hf => ?_)
 obtain ⟨a68, c68, rfl, _, _, hb68⟩ := hf
 refine DW_q rfl sft (q_fieldAddr Try.underlying24 rfl rfl Try.sizeOf22 rfl rfl) rfl ?_
 refine DW_z0 rfl (e_store Try.sizeOf22 rfl rfl rfl rfl swt (by rfl)) (fun _ => ?_)
 refine EW_then ?_
 refine CW_seq ?_
 refine nx3 ?_
 refine OW_q (q_fieldAddr Try.underlying26 rfl rfl Try.sizeOf3 rfl rfl) rfl ?_
 refine OW_q (q_load1_own Try.isAgg3 rfl rfl swt (by rfl)) rfl ?_
 refine OW_q (q_eqi rfl rfl) rfl ?_
 refine nx2 ?_
 refine CW_false rfl (by simp [hop]) ?_
 refine CW_skip ?_
 refine EW_then ?_
 refine CW_seq ?_
 refine CW_seq ?_
 refine CW_weak (S' := Sat (Old w) w [symsA (rs ++ [(⟨⟨g.names, pt⟩, .slice a65 pt.length c65⟩ : RV)]), rulesA (.slice a68 (rs ++ [(⟨⟨g.names, pt⟩, .slice a65 pt.length c65⟩ : RV)]).length c68) (rs ++ [(⟨⟨g.names, pt⟩, .slice a65 pt.length c65⟩ : RV)]), cel b7 24 [.int .i64 g.terms, .int .i64 (g.names + 1), .slice a68 (rs ++ [(⟨⟨g.names, pt⟩, .slice a65 pt.length c65⟩ : RV)]).length c68], cel b6 24 [.int .i64 0, .int .i64 0, .slice none 0 0], cel b4 24 [.int .i64 0, .int .i64 0, .slice none 0 0]]) (fun w hw => by
   have h1 : Sat _ _ (symsA rs :: symA (⟨⟨g.names, pt⟩, .slice a65 pt.length c65⟩ : RV) :: [rulesA (.slice a68 (rs ++ [(⟨⟨g.names, pt⟩, .slice a65 pt.length c65⟩ : RV)]).length c68) (rs ++ [(⟨⟨g.names, pt⟩, .slice a65 pt.length c65⟩ : RV)]), cel b7 24 [.int .i64 g.terms, .int .i64 (g.names + 1), .slice a68 (rs ++ [(⟨⟨g.names, pt⟩, .slice a65 pt.length c65⟩ : RV)]).length c68], cel b6 24 [.int .i64 0, .int .i64 0, .slice none 0 0], cel b4 24 [.int .i64 0, .int .i64 0, .slice none 0 0]]) w := hw.sub sbt
   exact h1.symsPush.sub sbt) ?_
 refine CW_region ?_
 refine OW_q (q_loadN_own Try.isAgg24 Try.sizeOf24 rfl rfl swt (by rfl)) rfl ?_
 refine OW_e (e_call Try.call12 rfl (fun w hw => lift_ro (may1_any _ (⟨g.terms, (g.names + 1), plainR (rs ++ [(⟨⟨g.names, pt⟩, .slice a65 pt.length c65⟩ : RV)])⟩ : Gram) w (hw.gramIn swt swt)) hw)) rfl (fun x86 => ?_)
 refine OW_q (q_not rfl) rfl ?_
 refine nx2 ?_
 refine CW_cond rfl (fun h87 => ?_) (fun h87 => ?_)
 · skip
   have he : (⟨g.terms, (g.names + 1), plainR (rs ++ [(⟨⟨g.names, pt⟩, .slice a65 pt.length c65⟩ : RV)])⟩ : Gram) = stepG g s ms cs := step_eq (by simp [stepG, hop] <;> (repeat' split) <;> rfl) (by rw [← upR_full hms, ← hke, ← hrl]; simp [plainR, extraR, hop, ruleAt_get hq, hpt, List.drop_take])
   have hmo : mayB (stepG g s ms cs) = false := by rw [← he]; simpa using h87
   refine nx3 ?_
   refine OW_q (q_loadN_own Try.isAgg24 Try.sizeOf24 rfl rfl swt (by rfl)) rfl ?_
   refine OW_e0 (e_storeN Try.sizeOf24 rfl rfl rfl rfl (by simp [Value.oneCell']) swt (by rfl)) (fun _ => ?_)
   refine aO ?_
   refine nx2 ?_
   refine CW_ret ?_
   refine EW_then_ret ?_
   refine retc2 (vs := [.int .i64 0, .int .i64 0, .slice none 0 0]) Try.results9 Try.isAgg24 Try.sizeOf24 rfl rfl (fun w hw j u hj => by rw [Addr.add_lit, hw.cell (t := 24) (cs := [.int .i64 0, .int .i64 0, .slice none 0 0]) (A' := cel b4 24 [.int .i64 0, .int .i64 0, .slice none 0 0]) swt, Nat.zero_add]; exact hj) rfl (fun w hw => ?_)
   exact ⟨(.slice none 0 0, noneG, [], 1), rfl, ⟨⟨(fun h => by rw [hm, hms] at h; cases h), fun _ _ => ⟨ms, cs, (fun e1 e2 => h5 e1 (by omega)), (fun h => by rw [hmo] at h; cases h), fun _ => ⟨rfl, rfl⟩⟩⟩, rfl⟩, ((hw.tnil 49 2 encRV).addEmp (A := symsA []) rfl).sub sbt⟩
 have he : (⟨g.terms, (g.names + 1), plainR (rs ++ [(⟨⟨g.names, pt⟩, .slice a65 pt.length c65⟩ : RV)])⟩ : Gram) = stepG g s ms cs := step_eq (by simp [stepG, hop] <;> (repeat' split) <;> rfl) (by rw [← upR_full hms, ← hke, ← hrl]; simp [plainR, extraR, hop, ruleAt_get hq, hpt, List.drop_take])
 have hmo : mayB (stepG g s ms cs) = true := by rw [← he]; simpa using h87
 refine CW_skip ?_
 refine EW_then ?_
 refine nx3 ?_
 refine OW_q (q_loadN_own Try.isAgg24 Try.sizeOf24 rfl rfl swt (by rfl)) rfl ?_
 refine OW_e0 (e_storeN Try.sizeOf24 rfl rfl rfl rfl (by simp [Value.oneCell']) swt (by rfl)) (fun _ => ?_)
 refine aO ?_
 refine nx2 ?_
 refine CW_ret ?_
 refine retc2 (vs := [.int .i64 g.terms, .int .i64 (g.names + 1), .slice a68 (rs ++ [(⟨⟨g.names, pt⟩, .slice a65 pt.length c65⟩ : RV)]).length c68]) Try.results9 Try.isAgg24 Try.sizeOf24 rfl rfl (fun w hw j u hj => by rw [Addr.add_lit, hw.cell (t := 24) (cs := [.int .i64 g.terms, .int .i64 (g.names + 1), .slice a68 (rs ++ [(⟨⟨g.names, pt⟩, .slice a65 pt.length c65⟩ : RV)]).length c68]) (A' := cel b4 24 [.int .i64 g.terms, .int .i64 (g.names + 1), .slice a68 (rs ++ [(⟨⟨g.names, pt⟩, .slice a65 pt.length c65⟩ : RV)]).length c68]) swt, Nat.zero_add]; exact hj) rfl (fun w hw => ?_)
 refine ⟨(.slice a68 (rs ++ [(⟨⟨g.names, pt⟩, .slice a65 pt.length c65⟩ : RV)]).length c68, (⟨g.terms, (g.names + 1), plainR (rs ++ [(⟨⟨g.names, pt⟩, .slice a65 pt.length c65⟩ : RV)])⟩ : Gram), (rs ++ [(⟨⟨g.names, pt⟩, .slice a65 pt.length c65⟩ : RV)]), 0), rfl, ⟨⟨(fun h => by rw [hm, hms] at h; cases h), fun _ _ => ⟨ms, cs, (fun e1 e2 => h5 e1 (by omega)), fun _ => ⟨rfl, he⟩, (fun h => by rw [hmo] at h; cases h)⟩⟩, rfl⟩, hw.sub sbt⟩

set_option maxRecDepth 20000 in
theorem do84_any (gv : Value) (g : Gram) (s : SStep) (w : World) (hop : s.op = 4) (hg : GramAt (Cl w) gv g) : Calls Try.prog 9 #[gv, stepV s] w (fun e w' => ∃ x : Value × Gram × List RV × Int, e = .returned (.tuple #[.agg #[.int .i64 x.2.1.terms, .int .i64 x.2.1.names, x.1], .int .i64 x.2.2.2]) ∧ (DoOk8 g s x.2.1 x.2.2.2 ∧ plainR x.2.2.1 = x.2.1.rules) ∧ Sat (Old w) w [rulesA x.1 x.2.2.1, symsA x.2.2.1] w') := by
 have hg0 := hg
 obtain ⟨rv, rfl, hr⟩ := hg.mono old_rd
 obtain ⟨a, c, rfl, hc1, hc2, hrs⟩ := id hr
 clear hg
 refine calls_CW Try.func9 rfl Try.ntmps9 rfl (Sat.start w) ?_
 refine nx3 ?_
 refine OW_e (e_box rfl rfl) rfl (fun b2 => ?_)
 refine OW_e (e_box rfl rfl) rfl (fun b3 => ?_)
 refine OW_e (e_alloc Try.zeroValue24 rfl) rfl (fun b4 => ?_)
 refine aO ?_
 refine nx4 ?_
 refine OW_q (q_build (ps := #[]) (v := .agg #[.int .i64 0, .int .i64 0, .slice none 0 0]) rfl (fun w => by kernel_rfl)) rfl ?_
 refine OW_e (e_alloc Try.zeroValue24 rfl) rfl (fun b6 => ?_)
 refine OW_e0 (e_storeN Try.sizeOf24 rfl rfl rfl rfl (by simp [Value.oneCell']) swt (by rfl)) (fun _ => ?_)
 refine nx2 ?_
 refine CW_seq ?_
 refine nx3 ?_
 refine OW_q (q_loadN_own Try.isAgg24 Try.sizeOf24 rfl rfl swt (by rfl)) rfl ?_
 refine OW_e (e_call Try.call12 rfl (fun w hw => lift_ro (may1_any _ g w (hg0.mono (fun _ _ h => hw.rd (Rd.old h)))) hw)) rfl (fun x12 => ?_)
 refine OW_q (q_not rfl) rfl ?_
 refine mO ?_
 refine OW_part (t := 14) rfl (fun hg14 => ?_) (fun hg14 => ?_)
 · skip
   have hm : mayB g = false := by simpa using hg14
   refine kO ?_
   refine kO ?_
   refine kO ?_
   refine kO ?_
   refine OW_q (q_pick_t rfl rfl) rfl ?_
   refine nx2 ?_
   refine CW_true rfl rfl ?_
   refine nx3 ?_
   refine OW_q (q_loadN_own Try.isAgg24 Try.sizeOf24 rfl rfl swt (by rfl)) rfl ?_
   refine OW_e0 (e_storeN Try.sizeOf24 rfl rfl rfl rfl (by simp [Value.oneCell']) swt (by rfl)) (fun _ => ?_)
   refine aO ?_
   refine nx2 ?_
   refine CW_ret ?_
   refine EW_then_ret ?_
   refine retc2 (vs := [.int .i64 0, .int .i64 0, .slice none 0 0]) Try.results9 Try.isAgg24 Try.sizeOf24 rfl rfl (fun w hw j u hj => by rw [Addr.add_lit, hw.cell (t := 24) (cs := [.int .i64 0, .int .i64 0, .slice none 0 0]) (A' := cel b4 24 [.int .i64 0, .int .i64 0, .slice none 0 0]) swt, Nat.zero_add]; exact hj) rfl (fun w hw => ?_)
   exact ⟨(.slice none 0 0, noneG, [], 2), rfl, ⟨⟨fun _ => ⟨rfl, rfl⟩, (fun h1 => by rw [hm] at h1; cases h1)⟩, rfl⟩, ((hw.tnil 49 2 encRV).addEmp (A := symsA []) rfl).sub sbt⟩
 have hm : mayB g = true := by simpa using hg14
 have hM := mayB_true.1 hm
 refine wO ?_
 refine OW_q (q_loadN_own Try.isAgg24 Try.sizeOf24 rfl rfl swt (by rfl)) rfl ?_
 refine wO ?_
 refine OW_q (q_loadN_own Try.isAgg26 Try.sizeOf26 rfl rfl swt (by rfl)) rfl ?_
 refine wO ?_
 refine OW_e (e_call Try.call21 rfl (fun w hw => lift_ro (may8_any _ g s w (hg0.mono (fun _ _ h => hw.rd (Rd.old h)))) hw)) rfl (fun x17 => ?_)
 refine wO ?_
 refine OW_q (q_not rfl) rfl ?_
 refine OW_q (q_pick_f rfl rfl) rfl ?_
 refine nx2 ?_
 refine CW_cond rfl (fun h19 => ?_) (fun h19 => ?_)
 · skip
   have hms : mayS g s = false := by simpa using h19
   refine nx3 ?_
   refine OW_q (q_loadN_own Try.isAgg24 Try.sizeOf24 rfl rfl swt (by rfl)) rfl ?_
   refine OW_e0 (e_storeN Try.sizeOf24 rfl rfl rfl rfl (by simp [Value.oneCell']) swt (by rfl)) (fun _ => ?_)
   refine aO ?_
   refine nx2 ?_
   refine CW_ret ?_
   refine EW_then_ret ?_
   refine retc2 (vs := [.int .i64 0, .int .i64 0, .slice none 0 0]) Try.results9 Try.isAgg24 Try.sizeOf24 rfl rfl (fun w hw j u hj => by rw [Addr.add_lit, hw.cell (t := 24) (cs := [.int .i64 0, .int .i64 0, .slice none 0 0]) (A' := cel b4 24 [.int .i64 0, .int .i64 0, .slice none 0 0]) swt, Nat.zero_add]; exact hj) rfl (fun w hw => ?_)
   exact ⟨(.slice none 0 0, noneG, [], 2), rfl, ⟨⟨fun _ => ⟨rfl, rfl⟩, (fun _ h2 => by rw [hms] at h2; cases h2)⟩, rfl⟩, ((hw.tnil 49 2 encRV).addEmp (A := symsA []) rfl).sub sbt⟩
 have hms : mayS g s = true := by simpa using h19
 refine CW_skip ?_
 refine EW_then ?_
 refine nx3 ?_
 refine OW_q (q_fieldAddr Try.underlying24 rfl rfl Try.sizeOf3 rfl rfl) rfl ?_
 refine OW_q (q_load1_own Try.isAgg3 rfl rfl swt (by rfl)) rfl ?_
 refine OW_q (q_fieldAddr Try.underlying24 rfl rfl Try.sizeOf3 rfl rfl) rfl ?_
 refine OW_q (q_load1_own Try.isAgg3 rfl rfl swt (by rfl)) rfl ?_
 refine OW_q (q_build (ps := #[(0, .int .i64 g.terms), (1, .int .i64 g.names)]) (v := .agg #[.int .i64 g.terms, .int .i64 g.names, .slice none 0 0]) rfl (fun w => by kernel_rfl)) rfl ?_
 refine OW_e (e_alloc Try.zeroValue24 rfl) rfl (fun b7 => ?_)
 refine OW_e0 (e_storeN Try.sizeOf24 rfl rfl rfl rfl (by simp [Value.oneCell']) swt (by rfl)) (fun _ => ?_)
 refine nx2 ?_
 refine CW_seq ?_
 refine nx3 ?_
 refine aO ?_
 refine nx2 ?_
 refine CW_block ?_
 refine CW_weak (S' := Sat (Old w) w [cel b7 24 [.int .i64 g.terms, .int .i64 g.names, .slice none 0 0], rulesA (.slice none 0 0) [], symsA [], cel b6 24 [.int .i64 0, .int .i64 0, .slice none 0 0], cel b4 24 [.int .i64 0, .int .i64 0, .slice none 0 0], cel b3 26 [.int .i64 s.op, .int .i64 s.a, .int .i64 s.b, .int .i64 s.c], cel b2 24 [.int .i64 g.terms, .int .i64 g.names, .slice a g.rules.length c]]) (fun w hw => ((hw.tnil 49 2 encRV).addEmp (A := symsA []) rfl).sub sbt) ?_
 refine CW_loopP (ι := Nat × Value × List RV × List Bool × List Bool) (fun i_ => i_.1 ≤ g.rules.length ∧ plainR i_.2.2.1 = upR g s i_.2.2.2.1 i_.2.2.2.2 i_.1 ∧ (s.op = 5 → 0 < i_.1 → MksOk g i_.2.2.2.1 ∧ CmsOk g i_.2.2.2.2) ∧ i_.2.2.1.length ≤ i_.1 * 41) (fun i_ => [(2, .pointer (some ⟨b2, 0, none⟩)), (3, .pointer (some ⟨b3, 0, none⟩)), (4, .pointer (some ⟨b4, 0, none⟩)), (5, .int .i64 0), (6, .pointer (some ⟨b6, 0, none⟩)), (7, .pointer (some ⟨b7, 0, none⟩)), (8, .int .i64 (i_.1 : Int))]) (fun i_ => Sat (Old w) w [cel b7 24 [.int .i64 g.terms, .int .i64 g.names, i_.2.1], rulesA i_.2.1 i_.2.2.1, symsA i_.2.2.1, cel b6 24 [.int .i64 0, .int .i64 0, .slice none 0 0], cel b4 24 [.int .i64 0, .int .i64 0, .slice none 0 0], cel b3 26 [.int .i64 s.op, .int .i64 s.a, .int .i64 s.b, .int .i64 s.c], cel b2 24 [.int .i64 g.terms, .int .i64 g.names, .slice a g.rules.length c]]) (fun i_ => g.rules.length - i_.1) (0, .slice none 0 0, [], [], []) ?_ ⟨rfl, rfl, rfl, rfl, rfl, rfl, rfl, trivial⟩ sft ?_
 · exact ⟨Nat.zero_le _, rfl, fun _ h => absurd h (Nat.lt_irrefl 0), Nat.zero_le _⟩
 intro i_ hpre
 obtain ⟨k, ov, rs, ms, cs⟩ := i_
 replace hpre : k ≤ g.rules.length ∧ plainR rs = upR g s ms cs k ∧ (s.op = 5 → 0 < k → MksOk g ms ∧ CmsOk g cs) ∧ rs.length ≤ k * 41 := hpre
 change CW _ _ _ _ [(2, .pointer (some ⟨b2, 0, none⟩)), (3, .pointer (some ⟨b3, 0, none⟩)), (4, .pointer (some ⟨b4, 0, none⟩)), (5, .int .i64 0), (6, .pointer (some ⟨b6, 0, none⟩)), (7, .pointer (some ⟨b7, 0, none⟩)), (8, .int .i64 (k : Int))] (Sat (Old w) w [cel b7 24 [.int .i64 g.terms, .int .i64 g.names, ov], rulesA ov rs, symsA rs, cel b6 24 [.int .i64 0, .int .i64 0, .slice none 0 0], cel b4 24 [.int .i64 0, .int .i64 0, .slice none 0 0], cel b3 26 [.int .i64 s.op, .int .i64 s.a, .int .i64 s.b, .int .i64 s.c], cel b2 24 [.int .i64 g.terms, .int .i64 g.names, .slice a g.rules.length c]])
 obtain ⟨hk, hrl, h5, hrsl⟩ := hpre
 refine CW_seq ?_
 refine nx3 ?_
 refine mO ?_
 refine OW_q (q_fieldAddr Try.underlying24 rfl rfl Try.sizeOf22 rfl rfl) rfl ?_
 refine OW_q (q_load1_own Try.isAgg22 rfl rfl swt (by rfl)) rfl ?_
 refine OW_q (q_len Try.underlying22 rfl) rfl ?_
 refine OW_q (q_lss rfl rfl) rfl ?_
 refine nx2 ?_
 refine CW_cond rfl (fun h30 => ?_) (fun h30 => ?_)
 · skip
   have hlk : k < g.rules.length := by have := of_decide_eq_true h30; omega
   obtain ⟨q, hq⟩ := get_of_lt hlk
   refine CW_skip ?_
   refine EW_then ?_
   refine CW_seq ?_
   refine CW_block ?_
   refine nx3 ?_
   refine OW_q (q_loadN_own Try.isAgg24 Try.sizeOf24 rfl rfl swt (by rfl)) rfl ?_
   refine OW_q (q_loadN_own Try.isAgg26 Try.sizeOf26 rfl rfl swt (by rfl)) rfl ?_
   refine mO ?_
   refine OW_e (e_call Try.call22 rfl (fun w hw => lift_oldP (one_any _ g s k q w hm hms hq (hg0.mono (fun _ _ h => hw.rd (Rd.old h)))) hw)) rfl (fun x36 => ?_)
   refine OW_pure fun hx36 => ?_
   obtain ⟨ov1, rs1, ms1, cs1⟩ := x36
   obtain ⟨hmc1, hrl1⟩ := hx36
   have hrl1 : plainR rs1 = oneR g s ms1 cs1 k q := hrl1
   have hl1 : rs1.length ≤ g.rules.length + 1 := by have h1 := congrArg List.length hrl1; unfold plainR at h1; rw [List.length_map] at h1; rw [h1]; exact oneR_len
   refine OW_weak (S' := Sat (Old w) w [rulesA ov1 rs1, symsA rs1, cel b7 24 [.int .i64 g.terms, .int .i64 g.names, ov], rulesA ov rs, symsA rs, cel b6 24 [.int .i64 0, .int .i64 0, .slice none 0 0], cel b4 24 [.int .i64 0, .int .i64 0, .slice none 0 0], cel b3 26 [.int .i64 s.op, .int .i64 s.a, .int .i64 s.b, .int .i64 s.c], cel b2 24 [.int .i64 g.terms, .int .i64 g.names, .slice a g.rules.length c]]) (fun w hw => hw) ?_
   refine OW_fact (fun w hw => hw.tform (v := ov1) (l := rs1) (enc := encRV) swt) (fun hf => ?_)
   obtain ⟨an, cn, rfl, _, _, hbn⟩ := hf
   refine OW_fact (fun w hw => Sat.symsOne (rs := rs1) hw swt) (fun hone1 => ?_)
   refine OW_spell 36 (.slice an rs1.length cn) rfl rfl ?_
   refine aO ?_
   refine nx2 ?_
   refine CW_region ?_
   refine OW_q (q_fieldAddr Try.underlying24 rfl rfl Try.sizeOf22 rfl rfl) rfl ?_
   refine OW_q (q_load1_own Try.isAgg22 rfl rfl swt (by rfl)) rfl ?_
   refine mO ?_
   refine OW_e (e_appendG (enc := encRV) (size := 2) (v := ov) (l := rs) (ys := rs1) (sa := an) (fun _ => rfl) Try.underlying22 Try.typeInfo49 rfl rfl rfl rfl rfl rfl rfl pkt rfl (fun w hw => hw.vin (F := rulesA (.slice an rs1.length cn) rs1) swt VIn.trow) (encRV_one hone1) (by omega) (by decide)) rfl (fun v40 => ?_)
   refine OW_fact (fun w hw => hw.tform (v := v40) (l := (rs ++ rs1)) (enc := encRV) swt) (fun hf => ?_)
   obtain ⟨a40, c40, rfl, _, _, hb40⟩ := hf
   refine OW_q (q_fieldAddr Try.underlying24 rfl rfl Try.sizeOf22 rfl rfl) rfl ?_
   refine OW_e0 (e_store Try.sizeOf22 rfl rfl rfl rfl swt (by rfl)) (fun _ => ?_)
   refine OW_nil ?_
   refine EW_block_normal ?_
   refine EW_then ?_
   refine CW_region ?_
   refine mO ?_
   refine OW_q (q_add rfl rfl (by omega) (by omega)) rfl ?_
   refine aO ?_
   refine OW_nil ?_
   refine EW_weak (S' := Sat (Old _) _ [cel b7 24 [.int .i64 g.terms, .int .i64 g.names, .slice a40 (rs ++ rs1).length c40], rulesA (.slice a40 (rs ++ rs1).length c40) (rs ++ rs1), symsA (rs ++ rs1), cel b6 24 [.int .i64 0, .int .i64 0, .slice none 0 0], cel b4 24 [.int .i64 0, .int .i64 0, .slice none 0 0], cel b3 26 [.int .i64 s.op, .int .i64 s.a, .int .i64 s.b, .int .i64 s.c], cel b2 24 [.int .i64 g.terms, .int .i64 g.names, .slice a g.rules.length c]]) (fun w hw => by
     have h1 : Sat _ _ (symsA rs :: symsA rs1 :: [cel b7 24 [.int .i64 g.terms, .int .i64 g.names, .slice a40 (rs ++ rs1).length c40], rulesA (.slice a40 (rs ++ rs1).length c40) (rs ++ rs1), cel b6 24 [.int .i64 0, .int .i64 0, .slice none 0 0], cel b4 24 [.int .i64 0, .int .i64 0, .slice none 0 0], cel b3 26 [.int .i64 s.op, .int .i64 s.a, .int .i64 s.b, .int .i64 s.c], cel b2 24 [.int .i64 g.terms, .int .i64 g.names, .slice a g.rules.length c]]) w := hw.sub sbt
     exact h1.symsJoin.sub sbt) ?_
   refine EW_again ((k + 1, .slice a40 (rs ++ rs1).length c40, rs ++ rs1, ms1, cs1)) ⟨?_, ?_⟩ ⟨rfl, rfl, rfl, rfl, rfl, rfl, rfl, trivial⟩ sft
   · show g.rules.length - (k + 1) < g.rules.length - k; omega
   · refine ⟨by show k + 1 ≤ _; omega, ?_, fun h _ => hmc1 h, by show (rs ++ rs1).length ≤ _; rw [List.length_append]; omega⟩
     show plainR (rs ++ rs1) = upR g s ms1 cs1 (k + 1)
     have hu : upR g s ms cs k = upR g s ms1 cs1 k := by
       refine upR_other hms k ?_
       by_cases e5 : s.op = 5
       · rcases Nat.eq_zero_or_pos k with e6 | e6
         · exact .inr (.inl e6)
         · exact .inr (.inr (mks_unique (h5 e5 e6) (hmc1 e5)))
       · exact .inl e5
     rw [upR_next hq, ← hu, ← hrl, ← hrl1]
     simp [plainR]
 have hke : k = g.rules.length := by have := of_decide_eq_false h30; omega
 refine CW_fact (fun w hw => hw.tform (v := ov) (l := rs) (enc := encRV) swt) (fun hf => ?_)
 obtain ⟨ao, co, rfl, _, _, hbo⟩ := hf
 refine CW_exit ?_
 refine EW_then_exit ?_
 refine EW_out ?_
 refine EW_block_exit ?_
 refine EW_then ?_
 refine CW_seq ?_
 refine nx3 ?_
 refine OW_q (q_fieldAddr Try.underlying26 rfl rfl Try.sizeOf3 rfl rfl) rfl ?_
 refine OW_q (q_load1_own Try.isAgg3 rfl rfl swt (by rfl)) rfl ?_
 refine OW_q (q_eqi rfl rfl) rfl ?_
 refine nx2 ?_
 refine CW_false rfl (by simp [hop]) ?_
 refine CW_skip ?_
 refine EW_then ?_
 refine CW_seq ?_
 refine nx3 ?_
 refine OW_q (q_fieldAddr Try.underlying26 rfl rfl Try.sizeOf3 rfl rfl) rfl ?_
 refine OW_q (q_load1_own Try.isAgg3 rfl rfl swt (by rfl)) rfl ?_
 refine OW_q (q_eqi rfl rfl) rfl ?_
 refine nx2 ?_
 refine CW_true rfl (by simp [hop]) ?_
 refine nx3 ?_
 refine OW_q (q_fieldAddr Try.underlying24 rfl rfl Try.sizeOf3 rfl rfl) rfl ?_
 refine OW_q (q_load1_own Try.isAgg3 rfl rfl swt (by rfl)) rfl ?_
 refine OW_q (q_add rfl rfl (by omega) (by omega)) rfl ?_
 refine OW_q (q_fieldAddr Try.underlying24 rfl rfl Try.sizeOf3 rfl rfl) rfl ?_
 refine OW_e0 (e_store Try.sizeOf3 rfl rfl rfl rfl swt (by rfl)) (fun _ => ?_)
 refine nx2 ?_
 refine CW_region ?_
 refine OW_q (q_fieldAddr Try.underlying24 rfl rfl Try.sizeOf22 rfl rfl) rfl ?_
 refine OW_q (q_load1_own Try.isAgg22 rfl rfl swt (by rfl)) rfl ?_
 refine OW_q (q_fieldAddr Try.underlying24 rfl rfl Try.sizeOf3 rfl rfl) rfl ?_
 refine OW_q (q_load1_own Try.isAgg3 rfl rfl swt (by rfl)) rfl ?_
 refine OW_q (q_build (ps := #[(0, .int .i64 g.names)]) (v := .agg #[.int .i64 g.names, .slice none 0 0]) rfl (fun w => by kernel_rfl)) rfl ?_
 refine OW_e (e_single Try.underlying22 Try.sizeOf49 Try.zeroValue49 (e := 49) (v := .agg #[.int .i64 g.names, .slice none 0 0]) (cs := [.int .i64 g.names, .slice none 0 0]) rfl rfl rfl rfl (by decide) (by decide)) rfl (fun b82 => ?_)
 refine OW_e (e_append_t (x0 := (⟨⟨g.names, []⟩, .slice none 0 0⟩ : RV)) (enc := encRV) (v := .slice ao rs.length co) (l := rs) Try.underlying22 Try.typeInfo49 rfl rfl rfl rfl rfl rfl rfl pkt rfl (by exact fun w hw => hw.news swt) (by simp [Value.oneCell']) (by omega) (by decide)) rfl (fun v83 => ?_)
 refine OW_fact (fun w hw => hw.tform (v := v83) (l := (rs ++ [(⟨⟨g.names, []⟩, .slice none 0 0⟩ : RV)])) (enc := encRV) swt) (fun hf => ?_)
 obtain ⟨a83, c83, rfl, _, _, hb83⟩ := hf
 refine OW_q (q_fieldAddr Try.underlying24 rfl rfl Try.sizeOf22 rfl rfl) rfl ?_
 refine OW_e0 (e_store Try.sizeOf22 rfl rfl rfl rfl swt (by rfl)) (fun _ => ?_)
 refine nx2 ?_
 refine CW_seq ?_
 refine CW_seq ?_
 refine CW_weak (S' := Sat (Old w) w [symsA (rs ++ [(⟨⟨g.names, []⟩, .slice none 0 0⟩ : RV)]), rulesA (.slice a83 (rs ++ [(⟨⟨g.names, []⟩, .slice none 0 0⟩ : RV)]).length c83) (rs ++ [(⟨⟨g.names, []⟩, .slice none 0 0⟩ : RV)]), cel b7 24 [.int .i64 g.terms, .int .i64 (g.names + 1), .slice a83 (rs ++ [(⟨⟨g.names, []⟩, .slice none 0 0⟩ : RV)]).length c83], cel b6 24 [.int .i64 0, .int .i64 0, .slice none 0 0], cel b4 24 [.int .i64 0, .int .i64 0, .slice none 0 0]]) (fun w hw => by
   have h1 : Sat _ _ (symsA rs :: symA (⟨⟨g.names, []⟩, .slice none 0 0⟩ : RV) :: [rulesA (.slice a83 (rs ++ [(⟨⟨g.names, []⟩, .slice none 0 0⟩ : RV)]).length c83) (rs ++ [(⟨⟨g.names, []⟩, .slice none 0 0⟩ : RV)]), cel b7 24 [.int .i64 g.terms, .int .i64 (g.names + 1), .slice a83 (rs ++ [(⟨⟨g.names, []⟩, .slice none 0 0⟩ : RV)]).length c83], cel b6 24 [.int .i64 0, .int .i64 0, .slice none 0 0], cel b4 24 [.int .i64 0, .int .i64 0, .slice none 0 0]]) w := (hw.tnil 51 2 encY).sub sbt
   exact h1.symsPush.sub sbt) ?_
 refine CW_region ?_
 refine OW_q (q_loadN_own Try.isAgg24 Try.sizeOf24 rfl rfl swt (by rfl)) rfl ?_
 refine OW_e (e_call Try.call12 rfl (fun w hw => lift_ro (may1_any _ (⟨g.terms, (g.names + 1), plainR (rs ++ [(⟨⟨g.names, []⟩, .slice none 0 0⟩ : RV)])⟩ : Gram) w (hw.gramIn swt swt)) hw)) rfl (fun x86 => ?_)
 refine OW_q (q_not rfl) rfl ?_
 refine nx2 ?_
 refine CW_cond rfl (fun h87 => ?_) (fun h87 => ?_)
 · skip
   have he : (⟨g.terms, (g.names + 1), plainR (rs ++ [(⟨⟨g.names, []⟩, .slice none 0 0⟩ : RV)])⟩ : Gram) = stepG g s ms cs := step_eq (by simp [stepG, hop] <;> (repeat' split) <;> rfl) (by rw [← upR_full hms, ← hke, ← hrl]; simp [plainR, extraR, hop])
   have hmo : mayB (stepG g s ms cs) = false := by rw [← he]; simpa using h87
   refine nx3 ?_
   refine OW_q (q_loadN_own Try.isAgg24 Try.sizeOf24 rfl rfl swt (by rfl)) rfl ?_
   refine OW_e0 (e_storeN Try.sizeOf24 rfl rfl rfl rfl (by simp [Value.oneCell']) swt (by rfl)) (fun _ => ?_)
   refine aO ?_
   refine nx2 ?_
   refine CW_ret ?_
   refine EW_then_ret ?_
   refine retc2 (vs := [.int .i64 0, .int .i64 0, .slice none 0 0]) Try.results9 Try.isAgg24 Try.sizeOf24 rfl rfl (fun w hw j u hj => by rw [Addr.add_lit, hw.cell (t := 24) (cs := [.int .i64 0, .int .i64 0, .slice none 0 0]) (A' := cel b4 24 [.int .i64 0, .int .i64 0, .slice none 0 0]) swt, Nat.zero_add]; exact hj) rfl (fun w hw => ?_)
   exact ⟨(.slice none 0 0, noneG, [], 1), rfl, ⟨⟨(fun h => by rw [hm, hms] at h; cases h), fun _ _ => ⟨ms, cs, (fun e1 e2 => h5 e1 (by omega)), (fun h => by rw [hmo] at h; cases h), fun _ => ⟨rfl, rfl⟩⟩⟩, rfl⟩, ((hw.tnil 49 2 encRV).addEmp (A := symsA []) rfl).sub sbt⟩
 have he : (⟨g.terms, (g.names + 1), plainR (rs ++ [(⟨⟨g.names, []⟩, .slice none 0 0⟩ : RV)])⟩ : Gram) = stepG g s ms cs := step_eq (by simp [stepG, hop] <;> (repeat' split) <;> rfl) (by rw [← upR_full hms, ← hke, ← hrl]; simp [plainR, extraR, hop])
 have hmo : mayB (stepG g s ms cs) = true := by rw [← he]; simpa using h87
 refine CW_skip ?_
 refine EW_then ?_
 refine nx3 ?_
 refine OW_q (q_loadN_own Try.isAgg24 Try.sizeOf24 rfl rfl swt (by rfl)) rfl ?_
 refine OW_e0 (e_storeN Try.sizeOf24 rfl rfl rfl rfl (by simp [Value.oneCell']) swt (by rfl)) (fun _ => ?_)
 refine aO ?_
 refine nx2 ?_
 refine CW_ret ?_
 refine retc2 (vs := [.int .i64 g.terms, .int .i64 (g.names + 1), .slice a83 (rs ++ [(⟨⟨g.names, []⟩, .slice none 0 0⟩ : RV)]).length c83]) Try.results9 Try.isAgg24 Try.sizeOf24 rfl rfl (fun w hw j u hj => by rw [Addr.add_lit, hw.cell (t := 24) (cs := [.int .i64 g.terms, .int .i64 (g.names + 1), .slice a83 (rs ++ [(⟨⟨g.names, []⟩, .slice none 0 0⟩ : RV)]).length c83]) (A' := cel b4 24 [.int .i64 g.terms, .int .i64 (g.names + 1), .slice a83 (rs ++ [(⟨⟨g.names, []⟩, .slice none 0 0⟩ : RV)]).length c83]) swt, Nat.zero_add]; exact hj) rfl (fun w hw => ?_)
 refine ⟨(.slice a83 (rs ++ [(⟨⟨g.names, []⟩, .slice none 0 0⟩ : RV)]).length c83, (⟨g.terms, (g.names + 1), plainR (rs ++ [(⟨⟨g.names, []⟩, .slice none 0 0⟩ : RV)])⟩ : Gram), (rs ++ [(⟨⟨g.names, []⟩, .slice none 0 0⟩ : RV)]), 0), rfl, ⟨⟨(fun h => by rw [hm, hms] at h; cases h), fun _ _ => ⟨ms, cs, (fun e1 e2 => h5 e1 (by omega)), fun _ => ⟨rfl, he⟩, (fun h => by rw [hmo] at h; cases h)⟩⟩, rfl⟩, hw.sub sbt⟩

end Go.Sy
/- Who carries trees over, made. No condition. -/
namespace Go.Sy
open Go Go.RowKit Go.Proofs

def CarOk (g : Gram) (s : SStep) (ls : List Nat) (ms cs : List Bool) : Prop := (s.op = 3 → ls = ofL g.rules ((ruleAt g s.a).right.getD s.b.toNat ⟨false, 0⟩).n) ∧ (s.op = 5 → MksOk g ms ∧ CmsOk g cs ∧ ls = krng (keptB ms cs) g.rules)
abbrev natV (ls : List Nat) : List Int := ls.map (fun (z : Nat) => (z : Int))
abbrev carV (g : Gram) (s : SStep) (rv lv : Value) : List Value := [.int .i64 g.terms, .int .i64 g.names, rv, .int .i64 s.op, .int .i64 s.a, .int .i64 s.b, .int .i64 s.c, .int .i64 0, lv]
/-- One that carries trees over, as it lies there. -/
structure CarAt (ρ : Addr → Value → Prop) (cb : Nat) (g : Gram) (s : SStep) (ls : List Nat) : Prop where
 ex : ∃ rv lv, Row ρ ⟨cb, 0, none⟩ (carV g s rv lv) ∧ RulesAt ρ rv g.rules ∧ IntsAt ρ lv (natV ls)
theorem CarAt.mono {ρ ρ' : Addr → Value → Prop} {cb : Nat} {g : Gram} {s : SStep} {ls : List Nat} (h : CarAt ρ cb g s ls) (f : ∀ a v, ρ a v → ρ' a v) : CarAt ρ' cb g s ls := by
 obtain ⟨rv, lv, h1, h2, h3⟩ := h.ex
 exact ⟨rv, lv, h1.mono f, h2.mono f, h3.mono f⟩
/-- What a step that may be done says of its rule. -/
theorem may_inl {g : Gram} {s : SStep} (hm : mayB g = true) (hs : mayS g s = true) (hop : s.op = 3) : 0 ≤ s.a ∧ 0 ≤ s.b ∧ ∃ q y, g.rules[s.a.toNat]? = some q ∧ q.right[s.b.toNat]? = some y ∧ y.term = false ∧ y.n ≠ q.left ∧ ruleAt g s.a = q ∧ (ruleAt g s.a).right.getD s.b.toNat ⟨false, 0⟩ = y := by
 unfold mayS at hs
 rw [if_neg (by omega), if_neg (by omega), if_pos hop] at hs
 simp only [Bool.and_eq_true, inR_true, decide_eq_true_eq] at hs
 obtain ⟨⟨⟨⟨ha0, ha1⟩, hc0⟩, hb0, hb1⟩, hil⟩ := hs
 obtain ⟨q, hq⟩ := get_of_lt (l := g.rules) (k := s.a.toNat) (by omega)
 have hra := ruleAt_get hq
 unfold inlB at hil
 rw [hra] at hb1 hil
 obtain ⟨y, hy⟩ := get_of_lt (l := q.right) (k := s.b.toNat) (by omega)
 rw [hy] at hil
 simp only [Bool.and_eq_true, decide_eq_true_eq] at hil
 exact ⟨ha0, hb0, q, y, hq, hy, by simpa using hil.1, hil.2, hra, by rw [hra, List.getD_eq_getElem?_getD, hy]; rfl⟩
theorem may_ext {g : Gram} {s : SStep} (hs : mayS g s = true) (hop : s.op = 2) : 0 ≤ s.a ∧ 0 ≤ s.b ∧ s.b < s.c ∧ ∃ q, g.rules[s.a.toNat]? = some q ∧ ruleAt g s.a = q ∧ s.c ≤ q.right.length := by
 unfold mayS at hs
 rw [if_neg (by omega), if_pos hop] at hs
 simp only [Bool.and_eq_true, inR_true, decide_eq_true_eq] at hs
 obtain ⟨⟨⟨ha0, ha1⟩, hb0, hbc⟩, hcr⟩ := hs
 obtain ⟨q, hq⟩ := get_of_lt (l := g.rules) (k := s.a.toNat) (by omega)
 have hra := ruleAt_get hq
 rw [hra] at hcr
 exact ⟨ha0, hb0, hbc, q, hq, hra, hcr⟩
set_option maxRecDepth 20000 in
theorem carO_any (rv : Value) (g : Gram) (s : SStep) (w : World) (hm : mayB g = true) (hs : mayS g s = true) (ho3 : s.op ≠ 3) (ho5 : s.op ≠ 5) (hr : RulesAt (Cl w) rv g.rules) : Calls Try.prog 42 #[.agg #[.int .i64 g.terms, .int .i64 g.names, rv], stepV s] w (fun e w' => ∃ x : Nat × Value × List Nat × List Bool × List Bool, e = .returned (.pointer (some ⟨x.1, 0, none⟩)) ∧ CarOk g s x.2.2.1 x.2.2.2.1 x.2.2.2.2 ∧ Sat (Old w) w [cel x.1 96 (carV g s rv x.2.1), trow 3 1 encN x.2.1 (natV x.2.2.1)] w') := by
 have hg0 : GramAt (Cl w) (.agg #[.int .i64 g.terms, .int .i64 g.names, rv]) g := ⟨rv, rfl, hr⟩
 obtain ⟨a, c, rfl, hc1, hc2, hrs⟩ := hr.mono old_rd
 have hM := mayB_true.1 hm
 
 refine calls_CW Try.func42 rfl Try.ntmps42 rfl (Sat.start w) ?_
 refine nx3 ?_
 refine OW_e (e_box rfl rfl) rfl (fun b2 => ?_)
 refine OW_e (e_box rfl rfl) rfl (fun b3 => ?_)
 refine aO ?_
 refine nx4 ?_
 refine OW_q (q_loadN_own Try.isAgg24 Try.sizeOf24 rfl rfl swt (by rfl)) rfl ?_
 refine OW_q (q_loadN_own Try.isAgg26 Try.sizeOf26 rfl rfl swt (by rfl)) rfl ?_
 refine OW_q (q_build (ps := #[(0, .agg #[.int .i64 g.terms, .int .i64 g.names, .slice a g.rules.length c]), (1, stepV s)]) (v := .agg #[.int .i64 g.terms, .int .i64 g.names, .slice a g.rules.length c, .int .i64 s.op, .int .i64 s.a, .int .i64 s.b, .int .i64 s.c, .int .i64 0, .slice none 0 0]) rfl (fun w => by kernel_rfl)) rfl ?_
 refine OW_e (e_box rfl rfl) rfl (fun b9 => ?_)
 refine aO ?_
 refine nx2 ?_
 refine CW_seq ?_
 refine nx3 ?_
 refine OW_q (q_fieldAddr Try.underlying26 rfl rfl Try.sizeOf3 rfl rfl) rfl ?_
 refine OW_q (q_load1_own Try.isAgg3 rfl rfl swt (by rfl)) rfl ?_
 refine nx2 ?_
 refine CW_block ?_
 refine nx3 ?_
 refine OW_q (q_eqi rfl rfl) rfl ?_
 refine aO ?_
 refine nx2 ?_
 refine CW_false rfl (by simp [ho3, ho5]) ?_
 refine nx3 ?_
 refine OW_q (q_eqi rfl rfl) rfl ?_
 refine aO ?_
 refine nx2 ?_
 refine CW_false rfl (by simp [ho3, ho5]) ?_
 refine CW_skip ?_
 refine EW_block_normal ?_
 refine EW_then ?_
 refine nx3 ?_
 refine mO ?_
 refine aO ?_
 refine nx2 ?_
 refine CW_ret ?_
 refine ret1 Try.results42 rfl (fun w hw => ?_)
 exact ⟨(b9, .slice none 0 0, [], [], []), rfl, ⟨fun h => absurd h ho3, fun h => absurd h ho5⟩, (hw.tnil 3 1 encN).sub sbt⟩

set_option maxRecDepth 20000 in
theorem carP_any (rv : Value) (g : Gram) (s : SStep) (w : World) (hm : mayB g = true) (hs : mayS g s = true) (hop : s.op = 5) (hr : RulesAt (Cl w) rv g.rules) : Calls Try.prog 42 #[.agg #[.int .i64 g.terms, .int .i64 g.names, rv], stepV s] w (fun e w' => ∃ x : Nat × Value × List Nat × List Bool × List Bool, e = .returned (.pointer (some ⟨x.1, 0, none⟩)) ∧ CarOk g s x.2.2.1 x.2.2.2.1 x.2.2.2.2 ∧ Sat (Old w) w [cel x.1 96 (carV g s rv x.2.1), trow 3 1 encN x.2.1 (natV x.2.2.1)] w') := by
 have hg0 : GramAt (Cl w) (.agg #[.int .i64 g.terms, .int .i64 g.names, rv]) g := ⟨rv, rfl, hr⟩
 obtain ⟨a, c, rfl, hc1, hc2, hrs⟩ := hr.mono old_rd
 have hM := mayB_true.1 hm
 
 refine calls_CW Try.func42 rfl Try.ntmps42 rfl (Sat.start w) ?_
 refine nx3 ?_
 refine OW_e (e_box rfl rfl) rfl (fun b2 => ?_)
 refine OW_e (e_box rfl rfl) rfl (fun b3 => ?_)
 refine aO ?_
 refine nx4 ?_
 refine OW_q (q_loadN_own Try.isAgg24 Try.sizeOf24 rfl rfl swt (by rfl)) rfl ?_
 refine OW_q (q_loadN_own Try.isAgg26 Try.sizeOf26 rfl rfl swt (by rfl)) rfl ?_
 refine OW_q (q_build (ps := #[(0, .agg #[.int .i64 g.terms, .int .i64 g.names, .slice a g.rules.length c]), (1, stepV s)]) (v := .agg #[.int .i64 g.terms, .int .i64 g.names, .slice a g.rules.length c, .int .i64 s.op, .int .i64 s.a, .int .i64 s.b, .int .i64 s.c, .int .i64 0, .slice none 0 0]) rfl (fun w => by kernel_rfl)) rfl ?_
 refine OW_e (e_box rfl rfl) rfl (fun b9 => ?_)
 refine aO ?_
 refine nx2 ?_
 refine CW_seq ?_
 refine nx3 ?_
 refine OW_q (q_fieldAddr Try.underlying26 rfl rfl Try.sizeOf3 rfl rfl) rfl ?_
 refine OW_q (q_load1_own Try.isAgg3 rfl rfl swt (by rfl)) rfl ?_
 refine nx2 ?_
 refine CW_block ?_
 refine nx3 ?_
 refine OW_q (q_eqi rfl rfl) rfl ?_
 refine aO ?_
 refine nx2 ?_
 refine CW_false rfl (by simp [hop]) ?_
 refine nx3 ?_
 refine OW_q (q_eqi rfl rfl) rfl ?_
 refine aO ?_
 refine nx2 ?_
 refine CW_true rfl (by simp [hop]) ?_
 refine CW_region ?_
 refine mO ?_
 refine OW_q (q_loadN_own Try.isAgg24 Try.sizeOf24 rfl rfl swt (by rfl)) rfl ?_
 refine OW_e (e_call Try.call36 rfl (fun w hw => lift_oldP (kept_any _ g w hm (hg0.mono (fun _ _ h => hw.rd (Rd.old h)))) hw)) rfl (fun x35 => ?_)
 refine OW_pure fun hx35 => ?_
 obtain ⟨lv, ms, cs⟩ := x35
 have hx35 : MksOk g ms ∧ CmsOk g cs := hx35
 refine OW_fact (fun w hw => hw.tform (v := lv) (l := (keptK g ms cs g.rules.length).map (fun (z : Nat) => (z : Int))) (enc := encN) swt) (fun hf => ?_)
 obtain ⟨al, cl, rfl, _, _, hbl⟩ := hf
 refine OW_q (q_nilCheck rfl) rfl ?_
 refine OW_q (q_fieldAddr Try.underlying96 rfl rfl Try.sizeOf32 rfl rfl) rfl ?_
 refine OW_e0 (e_store Try.sizeOf32 rfl rfl rfl rfl swt (by rfl)) (fun _ => ?_)
 refine OW_nil ?_
 refine EW_block_normal ?_
 refine EW_then ?_
 refine nx3 ?_
 refine mO ?_
 refine aO ?_
 refine nx2 ?_
 refine CW_ret ?_
 refine ret1 Try.results42 rfl (fun w hw => ?_)
 exact ⟨(b9, _, krng (keptB ms cs) g.rules, ms, cs), rfl, ⟨fun h => by omega, fun _ => ⟨hx35.1, hx35.2, rfl⟩⟩, hw.sub sbt⟩

set_option maxRecDepth 20000 in
theorem carI_any (rv : Value) (g : Gram) (s : SStep) (w : World) (hm : mayB g = true) (hs : mayS g s = true) (hop : s.op = 3) (hr : RulesAt (Cl w) rv g.rules) : Calls Try.prog 42 #[.agg #[.int .i64 g.terms, .int .i64 g.names, rv], stepV s] w (fun e w' => ∃ x : Nat × Value × List Nat × List Bool × List Bool, e = .returned (.pointer (some ⟨x.1, 0, none⟩)) ∧ CarOk g s x.2.2.1 x.2.2.2.1 x.2.2.2.2 ∧ Sat (Old w) w [cel x.1 96 (carV g s rv x.2.1), trow 3 1 encN x.2.1 (natV x.2.2.1)] w') := by
 have hg0 : GramAt (Cl w) (.agg #[.int .i64 g.terms, .int .i64 g.names, rv]) g := ⟨rv, rfl, hr⟩
 obtain ⟨a, c, rfl, hc1, hc2, hrs⟩ := hr.mono old_rd
 have hM := mayB_true.1 hm
 obtain ⟨ha0, hb0, q, y, hq, hy, hyt, hyn, hra, hry0⟩ := may_inl hm hs hop
 have hq8 := (may_rule hm hq).2.2
 obtain ⟨p, rfl, rvq, hsy, hrow⟩ := hrs s.a.toNat q hq
 obtain ⟨ya, yc, rfl, hy1, hy2, hys⟩ := id hsy
 obtain ⟨py, rfl, hry⟩ := hys s.b.toNat y hy
 have hal := (List.getElem?_eq_some_iff.1 hq).1
 have hbl := (List.getElem?_eq_some_iff.1 hy).1
 refine calls_CW Try.func42 rfl Try.ntmps42 rfl (Sat.start w) ?_
 refine nx3 ?_
 refine OW_e (e_box rfl rfl) rfl (fun b2 => ?_)
 refine OW_e (e_box rfl rfl) rfl (fun b3 => ?_)
 refine aO ?_
 refine nx4 ?_
 refine OW_q (q_loadN_own Try.isAgg24 Try.sizeOf24 rfl rfl swt (by rfl)) rfl ?_
 refine OW_q (q_loadN_own Try.isAgg26 Try.sizeOf26 rfl rfl swt (by rfl)) rfl ?_
 refine OW_q (q_build (ps := #[(0, .agg #[.int .i64 g.terms, .int .i64 g.names, .slice (some p) g.rules.length c]), (1, stepV s)]) (v := .agg #[.int .i64 g.terms, .int .i64 g.names, .slice (some p) g.rules.length c, .int .i64 s.op, .int .i64 s.a, .int .i64 s.b, .int .i64 s.c, .int .i64 0, .slice none 0 0]) rfl (fun w => by kernel_rfl)) rfl ?_
 refine OW_e (e_box rfl rfl) rfl (fun b9 => ?_)
 refine aO ?_
 refine nx2 ?_
 refine CW_seq ?_
 refine nx3 ?_
 refine OW_q (q_fieldAddr Try.underlying26 rfl rfl Try.sizeOf3 rfl rfl) rfl ?_
 refine OW_q (q_load1_own Try.isAgg3 rfl rfl swt (by rfl)) rfl ?_
 refine nx2 ?_
 refine CW_block ?_
 refine nx3 ?_
 refine OW_q (q_eqi rfl rfl) rfl ?_
 refine aO ?_
 refine nx2 ?_
 refine CW_true rfl (by simp [hop]) ?_
 refine CW_draw (Sat (Old w) w [cel b9 96 (carV g s (.slice (some p) g.rules.length c) (.slice none 0 0)), cel b3 26 [.int .i64 s.op, .int .i64 s.a, .int .i64 s.b, .int .i64 s.c], cel b2 24 [.int .i64 g.terms, .int .i64 g.names, .slice (some p) g.rules.length c]]) 17 [(0, false), (1, false), (2, false), (3, false), (4, false), (5, false), (6, false), (7, false), (8, false), (9, false), (10, false), (11, false), (12, false), (13, false), (14, true), (15, false), (16, false), (17, true)] (by kernel_rfl) (Blind.block (Blind.then (Blind.body (by intro c w h; simp at h)))) (by kernel_rfl) (fun w hw => hw.drew) ?_
 refine mD ?_
 refine DW_q rfl sft (q_loadN_own Try.isAgg24 Try.sizeOf24 rfl rfl swt (by rfl)) rfl ?_
 refine DW_q rfl sft (q_fieldAddr Try.underlying24 rfl rfl Try.sizeOf22 rfl rfl) rfl ?_
 refine DW_q rfl sft (q_load1_own Try.isAgg22 rfl rfl swt (by rfl)) rfl ?_
 refine DW_q rfl sft (q_fieldAddr Try.underlying26 rfl rfl Try.sizeOf3 rfl rfl) rfl ?_
 refine DW_q rfl sft (q_load1_own Try.isAgg3 rfl rfl swt (by rfl)) rfl ?_
 refine DW_spell 19 (.int .i64 ((s.a.toNat : Nat) : Int)) rfl (congrArg (Value.int .i64) (by omega)) ?_
 refine DW_q rfl sft (q_indexAddr Try.underlying22 Try.sizeOf49 rfl rfl (by omega)) rfl ?_
 refine DW_q rfl sft (q_fieldAddr Try.underlying49 rfl rfl Try.sizeOf46 rfl rfl) rfl ?_
 refine DW_q rfl sft (q_load1_ro Try.isAgg46 rfl (by exact hrow.at_ (j := 1) rfl)) rfl ?_
 refine DW_q rfl sft (q_fieldAddr Try.underlying26 rfl rfl Try.sizeOf3 rfl rfl) rfl ?_
 refine DW_q rfl sft (q_load1_own Try.isAgg3 rfl rfl swt (by rfl)) rfl ?_
 refine DW_spell 24 (.int .i64 ((s.b.toNat : Nat) : Int)) rfl (congrArg (Value.int .i64) (by omega)) ?_
 refine DW_q rfl sft (q_indexAddr Try.underlying46 Try.sizeOf51 rfl rfl (by omega)) rfl ?_
 refine DW_q rfl sft (q_fieldAddr Try.underlying51 rfl rfl Try.sizeOf3 rfl rfl) rfl ?_
 refine DW_q rfl sft (q_load1_ro Try.isAgg3 rfl (by exact hry.at_ (j := 1) rfl)) rfl ?_
 refine DW_e rfl (e_call Try.call28 rfl (fun w hw => lift_old (ofS_any _ g y.n w (by omega) (hg0.mono (fun _ _ h => hw.rd (Rd.old h)))) hw)) rfl (fun _ w hw => by first | exact hw.sub sbt | exact hw.2.sub sbt) (fun x28 => ?_)
 refine DW_fact (fun w hw => hw.tform (v := x28) (l := (ofL g.rules y.n).map (fun (z : Nat) => (z : Int))) (enc := encN) swt) (fun hf => ?_)
 obtain ⟨aq, cq, rfl, _, _, hbq⟩ := hf
 refine DW_q rfl sft (q_nilCheck rfl) rfl ?_
 refine DW_q rfl sft (q_fieldAddr Try.underlying96 rfl rfl Try.sizeOf32 rfl rfl) rfl ?_
 refine DW_z0 rfl (e_store Try.sizeOf32 rfl rfl rfl rfl swt (by rfl)) (fun _ => ?_)
 refine EW_block_normal ?_
 refine EW_then ?_
 refine nx3 ?_
 refine mO ?_
 refine aO ?_
 refine nx2 ?_
 refine CW_ret ?_
 refine ret1 Try.results42 rfl (fun w hw => ?_)
 exact ⟨(b9, _, ofL g.rules y.n, [], []), rfl, ⟨fun _ => by rw [hry0], fun h => by omega⟩, hw.sub sbt⟩

theorem car_any (rv : Value) (g : Gram) (s : SStep) (w : World) (hm : mayB g = true) (hs : mayS g s = true) (hr : RulesAt (Cl w) rv g.rules) : Calls Try.prog 42 #[.agg #[.int .i64 g.terms, .int .i64 g.names, rv], stepV s] w (fun e w' => ∃ x : Nat × Value × List Nat × List Bool × List Bool, e = .returned (.pointer (some ⟨x.1, 0, none⟩)) ∧ CarOk g s x.2.2.1 x.2.2.2.1 x.2.2.2.2 ∧ Sat (Old w) w [cel x.1 96 (carV g s rv x.2.1), trow 3 1 encN x.2.1 (natV x.2.2.1)] w') := by
 by_cases h3 : s.op = 3
 · exact carI_any rv g s w hm hs h3 hr
 by_cases h5 : s.op = 5
 · exact carP_any rv g s w hm hs h5 hr
 · exact carO_any rv g s w hm hs h3 h5 hr
theorem car_at {R : Nat → Prop} {w0 w : World} {L L1 L2 : List HP} {cb : Nat} {rv lv : Value} {g : Gram} {s : SStep} {ls : List Nat} (hw : Sat R w0 L w) (h1 : Swap L (cel cb 96 (carV g s rv lv)) (cel cb 96 (carV g s rv lv)) L1) (h2 : Swap L (trow 3 1 encN lv (natV ls)) (trow 3 1 encN lv (natV ls)) L2) (hr : RulesAt (Cl w) rv g.rules) : CarAt (Cl w) cb g s ls :=
 ⟨rv, lv, fun j u hj => by rw [Addr.add_lit]; show w.cell? _ = _; rw [hw.cell (A' := cel cb 96 (carV g s rv lv)) h1, Nat.zero_add]; exact hj, hr, hw.tints h2⟩

end Go.Sy
