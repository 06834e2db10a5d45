/- StepTwice. No condition. -/
import Derived.Test.YteceklkjbcebkabW50
import Derived.Test.YteceklkjbcebkabW51
namespace Go.Sy
open Go Go.RowKit Go.Proofs

theorem mayS_prune (g : Gram) : mayS g ⟨5, 0, 0, 0⟩ = true := by simp [mayS]
theorem stepG_prune (g : Gram) (ms cs : List Bool) : stepG g ⟨5, 0, 0, 0⟩ ms cs = ⟨g.terms, g.names, g.rules.filter (keptB ms cs)⟩ := by simp [stepG]
theorem stepG_swap (g : Gram) (a b : Int) (ms cs : List Bool) : stepG g ⟨1, a, b, 0⟩ ms cs = ⟨g.terms, g.names, g.rules.map (swapR a b)⟩ := by simp [stepG]
theorem mayS_swap {g : Gram} {a b : Int} : mayS g ⟨1, a, b, 0⟩ = true ↔ (1 ≤ a ∧ a < g.names) ∧ (1 ≤ b ∧ b < g.names) := by simp [mayS, inR]
theorem may_filter {g : Gram} (h : mayB g = true) (f : Rule → Bool) : mayB ⟨g.terms, g.names, g.rules.filter f⟩ = true := by
  obtain ⟨h1, h2, h3, h4, h5, h6⟩ := mayB_true.1 h
  refine mayB_true.2 ⟨h1, h2, h3, h4, Nat.le_trans (List.length_filter_le _ _) h5, ?_⟩
  rw [List.all_eq_true] at h6 ⊢
  intro r hr
  exact h6 r (List.mem_filter.1 hr).1
theorem swapN_in {a b n k : Int} (ha : 1 ≤ a ∧ a < k) (hb : 1 ≤ b ∧ b < k) (h : 0 ≤ n ∧ n < k) : 0 ≤ swapN a b n ∧ swapN a b n < k := by
  unfold swapN
  split
  · omega
  split <;> omega
theorem swapN_twice (a b n : Int) : swapN a b (swapN a b n) = n := by
  unfold swapN
  by_cases h1 : n = a
  · rw [if_pos h1]
    by_cases h2 : b = a
    · rw [if_pos h2]; omega
    · rw [if_neg h2, if_pos rfl]; exact h1.symm
  · rw [if_neg h1]
    by_cases h2 : n = b
    · rw [if_pos h2, if_pos rfl]; exact h2.symm
    · rw [if_neg h2, if_neg h1, if_neg h2]
theorem swapY_twice (a b : Int) (s : Sym) : swapY a b (swapY a b s) = s := by
  obtain ⟨t, n⟩ := s
  unfold swapY
  cases t with
  | true => simp
  | false => simp [swapN_twice]
theorem swapR_twice (a b : Int) (r : Rule) : swapR a b (swapR a b r) = r := by
  obtain ⟨l, y⟩ := r
  unfold swapR
  simp only [swapN_twice, List.map_map]
  congr 1
  conv => rhs; rw [← List.map_id y]
  apply List.map_congr_left
  intro s _
  exact swapY_twice a b s
theorem may_swap {g : Gram} (h : mayB g = true) {a b : Int} (ha : 1 ≤ a ∧ a < g.names) (hb : 1 ≤ b ∧ b < g.names) : mayB ⟨g.terms, g.names, g.rules.map (swapR a b)⟩ = true := by
  obtain ⟨h1, h2, h3, h4, h5, h6⟩ := mayB_true.1 h
  refine mayB_true.2 ⟨h1, h2, h3, h4, by rw [List.length_map]; exact h5, ?_⟩
  rw [List.all_eq_true] at h6 ⊢
  intro r hr
  obtain ⟨q, hq, rfl⟩ := List.mem_map.1 hr
  obtain ⟨k1, k2, k3, k4⟩ := ruleB_true.1 (h6 q hq)
  have k5 := swapN_in ha hb ⟨k1, k2⟩
  refine ruleB_true.2 ⟨k5.1, k5.2, by show (q.right.map _).length ≤ 8; rw [List.length_map]; exact k3, ?_⟩
  rw [List.all_eq_true] at k4 ⊢
  intro s hs
  obtain ⟨y, hy, rfl⟩ := List.mem_map.1 hs
  have k6 := symB_true.1 (k4 y hy)
  refine symB_true.2 ?_
  unfold swapY
  show 0 ≤ (if y.term = true then y else ⟨false, swapN a b y.n⟩ : Sym).n ∧ _
  cases ht : y.term with
  | true => simp only [if_true]; exact ⟨k6.1, fun _ => k6.2.1 ht, fun h => by rw [ht] at h; cases h⟩
  | false =>
    have k7 := swapN_in ha hb ⟨k6.1, k6.2.2 ht⟩
    simp only [Bool.false_eq_true, if_false]
    exact ⟨k7.1, (fun h => by cases h), fun _ => k7.2⟩
/-- Who prunes twice has pruned once. -/
theorem prune_twice {g : Gram} (hm : mayB g = true) {ms cs ms' cs' : List Bool} (h1 : MksOk g ms) (h2 : CmsOk g cs) (h3 : MksOk ⟨g.terms, g.names, g.rules.filter (keptB ms cs)⟩ ms') (h4 : CmsOk ⟨g.terms, g.names, g.rules.filter (keptB ms cs)⟩ cs') :
    (g.rules.filter (keptB ms cs)).filter (keptB ms' cs') = g.rules.filter (keptB ms cs) := by
  obtain ⟨l1, lm, cm⟩ := h1
  obtain ⟨l2, m, l3, lm2, cm2, lc, cc, c0⟩ := h2
  have em : m = ms := makes_unique l3 l1 lm2 cm2 lm cm
  subst em
  obtain ⟨l1', lm', cm'⟩ := h3
  obtain ⟨l2', m', l3', lm2', cm2', lc', cc', c0'⟩ := h4
  have em' : m' = ms' := makes_unique l3' l1' lm2' cm2' lm' cm'
  subst em'
  -- what makes, and comes, makes still
  have k1 : ∀ n : Nat, m[n]? = some true → atB m (n : Int) = true ∧ (atB cs (n : Int) = true → atB m' (n : Int) = true) := lm (fun n => atB m n = true ∧ (atB cs n = true → atB m' n = true)) fun r hr hs => by
    have ha : allB m r.right = true := allB_iff.2 fun s hs' ht => (hs s hs' ht).1
    have hl := cm r hr ha
    refine ⟨hl, fun hc => ?_⟩
    have hk : r ∈ g.rules.filter (keptB m cs) := List.mem_filter.2 ⟨hr, by unfold keptB; rw [hl, hc, ha]; rfl⟩
    exact cm' r hk (allB_iff.2 fun s hs' ht => (hs s hs' ht).2 (cc r hr hc ha s hs' ht))
  have k1' : ∀ n : Int, 0 ≤ n → atB m n = true → atB cs n = true → atB m' n = true := fun n h0 h hc => by
    obtain ⟨i, rfl⟩ := Int.eq_ofNat_of_zero_le h0
    exact (k1 i (by have := atB_true h; exact this)).2 hc
  have hrng : ∀ r ∈ g.rules, 0 ≤ r.left ∧ ∀ s ∈ r.right, 0 ≤ s.n := fun r hr => by
    obtain ⟨k, hk⟩ := List.getElem?_of_mem hr
    refine ⟨(may_rule hm hk).1, fun s hs => ?_⟩
    obtain ⟨j, hj⟩ := List.getElem?_of_mem hs
    exact (may_sym hm hk hj).1
  have k2 : ∀ n : Nat, cs[n]? = some true → 0 ≤ (n : Int) ∧ (atB m (n : Int) = true → atB cs (n : Int) = true → atB cs' (n : Int) = true) := by
    have := lc (fun n => atB cs n = true ∧ (atB m n = true → atB cs' n = true)) (fun h => ⟨c0 h, fun _ => c0' (k1' 0 (Int.le_refl _) h (c0 h))⟩) (fun r hr hl ha s hs ht => by
      have hc := cc r hr hl.1 ha s hs ht
      refine ⟨hc, fun hms => ?_⟩
      have hml := cm r hr ha
      have hk : r ∈ g.rules.filter (keptB m cs) := List.mem_filter.2 ⟨hr, by unfold keptB; rw [hml, hl.1, ha]; rfl⟩
      exact cc' r hk (hl.2 hml) (allB_iff.2 fun s' hs' ht' => k1' _ ((hrng r hr).2 s' hs') (allB_iff.1 ha s' hs' ht') (cc r hr hl.1 ha s' hs' ht')) s hs ht)
    exact fun n hn => ⟨Int.natCast_nonneg n, fun h _ => (this n hn).2 h⟩
  rw [List.filter_eq_self]
  intro r hr
  obtain ⟨hr1, hr2⟩ := List.mem_filter.1 hr
  unfold keptB at hr2 ⊢
  simp only [Bool.and_eq_true] at hr2 ⊢
  obtain ⟨⟨a1, a2⟩, a3⟩ := hr2
  have h0 := (hrng r hr1).1
  refine ⟨⟨k1' _ h0 a1 a2, ?_⟩, allB_iff.2 fun s hs ht => k1' _ ((hrng r hr1).2 s hs) (allB_iff.1 a3 s hs ht) (cc r hr1 a2 a3 s hs ht)⟩
  obtain ⟨i, hi⟩ := Int.eq_ofNat_of_zero_le h0
  rw [hi] at a1 a2 ⊢
  exact (k2 i (by have := atB_true a2; exact this)).2 a1 a2
theorem Sat.gramIn2 {R : Nat → Prop} {w0 w : World} {L L' L2 : List HP} {v : Value} {rs : List RV} {h : Gram} (hp : plainR rs = h.rules) (hs : Sat R w0 L w) (s : Swap L (rulesA v rs) (rulesA v rs) L') (s2 : Swap L (symsA rs) (symsA rs) L2) : GramAt (Cl w) (.agg #[.int .i64 h.terms, .int .i64 h.names, v]) h := by
  have := hs.gramIn (t := h.terms) (n := h.names) s s2
  rw [hp] at this
  exact this
theorem do_prune {g h : Gram} {e : Int} (hd : DoOk g ⟨5, 0, 0, 0⟩ h e) : (mayB g = false ∧ e = 2) ∨ (mayB g = true ∧ e = 0 ∧ ∃ ms cs, MksOk g ms ∧ CmsOk g cs ∧ h = ⟨g.terms, g.names, g.rules.filter (keptB ms cs)⟩) := by
  cases hm : mayB g with
  | false => exact .inl ⟨rfl, (hd.1 (by rw [hm]; rfl)).1⟩
  | true =>
    obtain ⟨ms, cs, h5, h0, _⟩ := hd.2 hm (mayS_prune g)
    rw [stepG_prune] at h0
    obtain ⟨e0, h1⟩ := h0 (may_filter hm _)
    exact .inr ⟨rfl, e0, ms, cs, (h5 rfl).1, (h5 rfl).2, h1⟩
theorem do_swap {g h : Gram} {e a b : Int} (hd : DoOk g ⟨1, a, b, 0⟩ h e) : ((mayB g = false ∨ ¬ ((1 ≤ a ∧ a < g.names) ∧ (1 ≤ b ∧ b < g.names))) ∧ e = 2) ∨ (mayB g = true ∧ ((1 ≤ a ∧ a < g.names) ∧ (1 ≤ b ∧ b < g.names)) ∧ e = 0 ∧ h = ⟨g.terms, g.names, g.rules.map (swapR a b)⟩) := by
  cases hm : mayB g with
  | false => exact .inl ⟨.inl rfl, (hd.1 (by rw [hm]; rfl)).1⟩
  | true =>
    cases hs : mayS g ⟨1, a, b, 0⟩ with
    | false => exact .inl ⟨.inr fun h => (by rw [mayS_swap.2 h] at hs; cases hs), (hd.1 (by rw [hm, hs]; rfl)).1⟩
    | true =>
      have hab := mayS_swap.1 hs
      obtain ⟨ms, cs, _, h0, _⟩ := hd.2 hm hs
      rw [stepG_swap] at h0
      obtain ⟨e0, h1⟩ := h0 (may_swap hm hab.1 hab.2)
      exact .inr ⟨rfl, hab, e0, h1⟩
set_option maxRecDepth 20000 in
theorem stepTwice_any (gv : Value) (g : Gram) (a0 b0 : Int) (w : World) (hg : GramAt (Cl w) gv g) : Calls Try.prog 5 #[gv, .int .i64 a0, .int .i64 b0] w (fun e w' => e = .returned (.bool true) ∧ Sat (Old w) w [] w') := by
  have hg0 := hg
  obtain ⟨rv, rfl, hr⟩ := hg.mono old_rd
  obtain ⟨a, c, rfl, hc1, hc2, hrs⟩ := id hr
  clear hg
  refine calls_CW Try.func5 rfl Try.ntmps5 rfl (Sat.start w) ?_
  refine CW_seq ?_
  refine CW_region ?_
  refine OW_e (e_box rfl rfl) rfl (fun b3 => ?_)
  refine OW_q (q_assign rfl) rfl ?_
  refine OW_nil ?_
  refine EW_then ?_
  refine CW_seq ?_
  refine CW_region ?_
  refine OW_q (q_move rfl) rfl ?_
  refine OW_q (q_move rfl) rfl ?_
  refine OW_q (q_build (ps := #[(0, .int .i64 1), (1, .int .i64 a0), (2, .int .i64 b0)]) (v := stepV ⟨1, a0, b0, 0⟩) rfl (fun w => by kernel_rfl)) rfl ?_
  refine OW_e (e_alloc Try.zeroValue26 rfl) rfl (fun b7 => ?_)
  refine OW_e0 (e_storeN Try.sizeOf26 rfl rfl rfl rfl (by simp [Value.oneCell']) (by (repeat (first | exact .head | apply Swap.tail))) (by rfl)) (fun _ => ?_)
  refine OW_nil ?_
  refine EW_then ?_
  refine CW_seq ?_
  refine CW_region ?_
  first | (refine OW_q (q_loadN_own Try.isAgg24 Try.sizeOf24 rfl rfl (by (repeat (first | exact .head | apply Swap.tail))) (by rfl)) rfl ?_) | (refine OW_q (q_loadN_ro Try.isAgg24 Try.sizeOf24 rfl (by first | assumption | exact Row.at_ (by assumption) rfl) (by rfl)) rfl ?_)
  first | (refine OW_q (q_loadN_own Try.isAgg26 Try.sizeOf26 rfl rfl (by (repeat (first | exact .head | apply Swap.tail))) (by rfl)) rfl ?_) | (refine OW_q (q_loadN_ro Try.isAgg26 Try.sizeOf26 rfl (by first | assumption | exact Row.at_ (by assumption) rfl) (by rfl)) rfl ?_)
  refine OW_e (e_call Try.call8 rfl (fun w hw => lift_oldP (do_any _ g ⟨1, a0, b0, 0⟩ w (hg0.mono (fun _ _ h => hw.rd (Rd.old h)))) hw)) rfl (fun x22 => ?_)
  refine OW_pure fun hx22 => ?_
  obtain ⟨vx, gx, rsx, ex⟩ := x22
  obtain ⟨hd_x, hp_x⟩ := hx22
  have hpx : plainR rsx = gx.rules := hp_x
  have hdx : DoOk _ _ gx ex := hd_x
  refine OW_fact (fun w hw => hw.tform (v := vx) (l := rsx) (enc := encRV) (by repeat (first | exact .head | apply Swap.tail))) (fun hf => ?_)
  obtain ⟨ax, cx, rfl, _, _, hbx⟩ := hf
  refine OW_spell 22 (.tuple #[.agg #[.int .i64 gx.terms, .int .i64 gx.names, .slice ax rsx.length cx], .int .i64 ex]) rfl rfl ?_
  refine OW_q (q_move rfl) rfl ?_
  refine OW_q (q_extract rfl rfl) rfl ?_
  refine OW_q (q_extract rfl rfl) rfl ?_
  refine OW_e (e_alloc Try.zeroValue24 rfl) rfl (fun b8 => ?_)
  refine OW_e0 (e_storeN Try.sizeOf24 rfl rfl rfl rfl (by simp [Value.oneCell']) (by (repeat (first | exact .head | apply Swap.tail))) (by rfl)) (fun _ => ?_)
  refine OW_q (q_assign rfl) rfl ?_
  refine OW_nil ?_
  refine EW_then ?_
  refine CW_seq ?_
  refine CW_region ?_
  first | (refine OW_q (q_loadN_own Try.isAgg24 Try.sizeOf24 rfl rfl (by (repeat (first | exact .head | apply Swap.tail))) (by rfl)) rfl ?_) | (refine OW_q (q_loadN_ro Try.isAgg24 Try.sizeOf24 rfl (by first | assumption | exact Row.at_ (by assumption) rfl) (by rfl)) rfl ?_)
  refine OW_q (q_build (ps := #[(0, .int .i64 5)]) (v := stepV ⟨5, 0, 0, 0⟩) rfl (fun w => by kernel_rfl)) rfl ?_
  refine OW_e (e_call Try.call8 rfl (fun w hw => lift_oldP (do_any _ g ⟨5, 0, 0, 0⟩ w (hg0.mono (fun _ _ h => hw.rd (Rd.old h)))) hw)) rfl (fun x28 => ?_)
  refine OW_pure fun hx28 => ?_
  obtain ⟨vp, gp, rsp, ep⟩ := x28
  obtain ⟨hd_p, hp_p⟩ := hx28
  have hpp : plainR rsp = gp.rules := hp_p
  have hdp : DoOk _ _ gp ep := hd_p
  refine OW_fact (fun w hw => hw.tform (v := vp) (l := rsp) (enc := encRV) (by repeat (first | exact .head | apply Swap.tail))) (fun hf => ?_)
  obtain ⟨ap, cp, rfl, _, _, hbp⟩ := hf
  refine OW_spell 28 (.tuple #[.agg #[.int .i64 gp.terms, .int .i64 gp.names, .slice ap rsp.length cp], .int .i64 ep]) rfl rfl ?_
  refine OW_q (q_move rfl) rfl ?_
  refine OW_q (q_extract rfl rfl) rfl ?_
  refine OW_q (q_extract rfl rfl) rfl ?_
  refine OW_e (e_alloc Try.zeroValue24 rfl) rfl (fun b10 => ?_)
  refine OW_e0 (e_storeN Try.sizeOf24 rfl rfl rfl rfl (by simp [Value.oneCell']) (by (repeat (first | exact .head | apply Swap.tail))) (by rfl)) (fun _ => ?_)
  refine OW_q (q_assign rfl) rfl ?_
  refine OW_nil ?_
  refine EW_then ?_
  refine CW_seq ?_
  refine CW_seq ?_
  refine CW_region ?_
  refine OW_q (q_move rfl) rfl ?_
  refine OW_q (q_nei rfl rfl) rfl ?_
  refine OW_nil ?_
  refine EW_then ?_
  refine CW_cond rfl (fun h32 => ?_) (fun h32 => ?_)
  · skip
    have hfp : mayB g = false ∧ ep = 2 := (do_prune hdp).resolve_right fun h => by simp at h32; exact h32 h.2.1
    have hfx : ex = 2 := ((do_swap hdx).resolve_right fun h => by rw [hfp.1] at h; cases h.1).2
    refine CW_seq ?_
    refine CW_region ?_
    refine OW_q (q_move rfl) rfl ?_
    refine OW_q (q_eqi rfl rfl) rfl ?_
    refine OW_q (q_move rfl) rfl ?_
    refine OW_part (t := 35) rfl (fun hg35 => ?_) (fun hg35 => ?_)
    · skip
      refine OW_wanted rfl rfl rfl ?_
      refine OW_q (q_move rfl) rfl ?_
      refine OW_wanted rfl rfl rfl ?_
      refine OW_q (q_eqi rfl rfl) rfl ?_
      refine OW_q (q_pick_t rfl rfl) rfl ?_
      refine OW_q (q_move rfl) rfl ?_
      refine OW_part (t := 39) rfl (fun hg39 => ?_) (fun hg39 => ?_)
      · skip
        refine OW_wanted rfl rfl rfl ?_
        first | (refine OW_q (q_loadN_own Try.isAgg24 Try.sizeOf24 rfl rfl (by (repeat (first | exact .head | apply Swap.tail))) (by rfl)) rfl ?_) | (refine OW_q (q_loadN_ro Try.isAgg24 Try.sizeOf24 rfl (by first | assumption | exact Row.at_ (by assumption) rfl) (by rfl)) rfl ?_)
        refine OW_wanted rfl rfl rfl ?_
        refine OW_e (e_call Try.call14 rfl (fun w hw => lift_ro (may_any _ g w (hg0.mono (fun _ _ h => hw.rd (Rd.old h)))) hw)) rfl (fun x41 => ?_)
        refine OW_wanted rfl rfl rfl ?_
        refine OW_q (q_not rfl) rfl ?_
        refine OW_q (q_pick_t rfl rfl) rfl ?_
        refine OW_q (q_assign rfl) rfl ?_
        refine OW_nil ?_
        refine EW_then ?_
        refine CW_ret ?_
        refine EW_then_ret ?_
        refine ret1 Try.results5 rfl (fun w hw => ?_)
        exact ⟨by simp [hfp.1], hw.sub .nil⟩
      · skip
        exact absurd hg39 (by simp [hfx]) --stop
    · skip
      exact absurd hg35 (by simp [hfp.2]) --stop
  · skip
    obtain ⟨hm, _, ms, cs, hms, hcs, hgp⟩ := (do_prune hdp).resolve_left fun h => by simp at h32; rw [h.2] at h32; cases h32
    have hmp : mayB gp = true := by rw [hgp]; exact may_filter hm (keptB ms cs)
    refine CW_skip ?_
    refine EW_then ?_
    refine CW_seq ?_
    refine CW_region ?_
    first | (refine OW_q (q_loadN_own Try.isAgg24 Try.sizeOf24 rfl rfl (by (repeat (first | exact .head | apply Swap.tail))) (by rfl)) rfl ?_) | (refine OW_q (q_loadN_ro Try.isAgg24 Try.sizeOf24 rfl (by first | assumption | exact Row.at_ (by assumption) rfl) (by rfl)) rfl ?_)
    refine OW_q (q_build (ps := #[(0, .int .i64 5)]) (v := stepV ⟨5, 0, 0, 0⟩) rfl (fun w => by kernel_rfl)) rfl ?_
    refine OW_e (e_call Try.call8 rfl (fun w hw => lift_oldP (do_any _ gp ⟨5, 0, 0, 0⟩ w (hw.gramIn2 hpp (by repeat (first | exact .head | apply Swap.tail)) (by repeat (first | exact .head | apply Swap.tail)))) hw)) rfl (fun x47 => ?_)
    refine OW_pure fun hx47 => ?_
    obtain ⟨vq, gq, rsq, eq⟩ := x47
    obtain ⟨hd_q, hp_q⟩ := hx47
    have hpq : plainR rsq = gq.rules := hp_q
    have hdq : DoOk _ _ gq eq := hd_q
    refine OW_fact (fun w hw => hw.tform (v := vq) (l := rsq) (enc := encRV) (by repeat (first | exact .head | apply Swap.tail))) (fun hf => ?_)
    obtain ⟨aq, cq, rfl, _, _, hbq⟩ := hf
    refine OW_spell 47 (.tuple #[.agg #[.int .i64 gq.terms, .int .i64 gq.names, .slice aq rsq.length cq], .int .i64 eq]) rfl rfl ?_
    obtain ⟨_, eq0, ms', cs', hms', hcs', hgq⟩ := (do_prune hdq).resolve_left fun h => by rw [hmp] at h; cases h.1
    have hgq' : gq = gp := by
      subst hgp
      rw [hgq]
      exact congrArg (Gram.mk g.terms g.names) (prune_twice hm hms hcs hms' hcs')
    refine OW_q (q_move rfl) rfl ?_
    refine OW_q (q_extract rfl rfl) rfl ?_
    refine OW_q (q_extract rfl rfl) rfl ?_
    refine OW_e (e_alloc Try.zeroValue24 rfl) rfl (fun b12 => ?_)
    refine OW_e0 (e_storeN Try.sizeOf24 rfl rfl rfl rfl (by simp [Value.oneCell']) (by (repeat (first | exact .head | apply Swap.tail))) (by rfl)) (fun _ => ?_)
    refine OW_q (q_assign rfl) rfl ?_
    refine OW_nil ?_
    refine EW_then ?_
    refine CW_seq ?_
    refine CW_seq ?_
    refine CW_region ?_
    refine OW_q (q_move rfl) rfl ?_
    refine OW_q (q_nei rfl rfl) rfl ?_
    refine OW_q (q_move rfl) rfl ?_
    refine OW_part (t := 52) rfl (fun hg52 => ?_) (fun hg52 => ?_)
    · skip
      exact absurd hg52 (by simp [eq0]) --stop
    · skip
      refine OW_wanted rfl rfl rfl ?_
      first | (refine OW_q (q_loadN_own Try.isAgg24 Try.sizeOf24 rfl rfl (by (repeat (first | exact .head | apply Swap.tail))) (by rfl)) rfl ?_) | (refine OW_q (q_loadN_ro Try.isAgg24 Try.sizeOf24 rfl (by first | assumption | exact Row.at_ (by assumption) rfl) (by rfl)) rfl ?_)
      refine OW_wanted rfl rfl rfl ?_
      first | (refine OW_q (q_loadN_own Try.isAgg24 Try.sizeOf24 rfl rfl (by (repeat (first | exact .head | apply Swap.tail))) (by rfl)) rfl ?_) | (refine OW_q (q_loadN_ro Try.isAgg24 Try.sizeOf24 rfl (by first | assumption | exact Row.at_ (by assumption) rfl) (by rfl)) rfl ?_)
      refine OW_wanted rfl rfl rfl ?_
      refine OW_e (e_call Try.call10 rfl (fun w hw => lift_oldP (same_any _ _ gp gq w (hw.gramIn2 hpp (by repeat (first | exact .head | apply Swap.tail)) (by repeat (first | exact .head | apply Swap.tail))) (hw.gramIn2 hpq (by repeat (first | exact .head | apply Swap.tail)) (by repeat (first | exact .head | apply Swap.tail)))) hw)) rfl (fun x55 => ?_)
      refine OW_pure fun hx55 => ?_
      refine OW_wanted rfl rfl rfl ?_
      refine OW_q (q_not rfl) rfl ?_
      refine OW_q (q_pick_f rfl rfl) rfl ?_
      refine OW_q (q_move rfl) rfl ?_
      refine OW_part (t := 58) rfl (fun hg58 => ?_) (fun hg58 => ?_)
      · skip
        exact absurd hg58 (by simp [hx55.2 hgq'.symm]) --stop
      · skip
        refine OW_wanted rfl rfl rfl ?_
        first | (refine OW_q (q_loadN_own Try.isAgg24 Try.sizeOf24 rfl rfl (by (repeat (first | exact .head | apply Swap.tail))) (by rfl)) rfl ?_) | (refine OW_q (q_loadN_ro Try.isAgg24 Try.sizeOf24 rfl (by first | assumption | exact Row.at_ (by assumption) rfl) (by rfl)) rfl ?_)
        refine OW_wanted rfl rfl rfl ?_
        refine OW_e (e_call Try.call14 rfl (fun w hw => lift_ro (may_any _ gp w (hw.gramIn2 hpp (by repeat (first | exact .head | apply Swap.tail)) (by repeat (first | exact .head | apply Swap.tail)))) hw)) rfl (fun x60 => ?_)
        refine OW_wanted rfl rfl rfl ?_
        refine OW_q (q_not rfl) rfl ?_
        refine OW_q (q_pick_f rfl rfl) rfl ?_
        refine OW_nil ?_
        refine EW_then ?_
        refine CW_cond rfl (fun h62 => ?_) (fun h62 => ?_)
        · skip
          refine CW_seq ?_
          refine CW_region ?_
          refine OW_q (q_assign rfl) rfl ?_
          refine OW_nil ?_
          refine EW_then ?_
          refine CW_ret ?_
          refine EW_then_ret ?_
          refine ret1 Try.results5 rfl (fun w hw => ?_)
          exact absurd h62 (by simp [hmp])
        · skip
          refine CW_skip ?_
          refine EW_then ?_
          refine CW_seq ?_
          refine CW_seq ?_
          refine CW_region ?_
          refine OW_q (q_move rfl) rfl ?_
          refine OW_q (q_nei rfl rfl) rfl ?_
          refine OW_nil ?_
          refine EW_then ?_
          refine CW_cond rfl (fun h64 => ?_) (fun h64 => ?_)
          · skip
            have hfx := (do_swap hdx).resolve_right fun h => by simp at h64; exact h64 h.2.2.1
            refine CW_seq ?_
            refine CW_region ?_
            refine OW_q (q_move rfl) rfl ?_
            refine OW_q (q_eqi rfl rfl) rfl ?_
            refine OW_q (q_move rfl) rfl ?_
            refine OW_part (t := 67) rfl (fun hg67 => ?_) (fun hg67 => ?_)
            · skip
              refine OW_wanted rfl rfl rfl ?_
              refine OW_q (q_move rfl) rfl ?_
              refine OW_wanted rfl rfl rfl ?_
              refine OW_q (q_lss rfl rfl) rfl ?_
              refine OW_wanted rfl rfl rfl ?_
              refine OW_q (q_move rfl) rfl ?_
              refine OW_part (t := 70) rfl (fun hg70 => ?_) (fun hg70 => ?_)
              · skip
                refine OW_skip rfl rfl rfl rfl ?_
                refine OW_skip rfl rfl rfl rfl ?_
                refine OW_wanted rfl rfl rfl ?_
                refine OW_q (q_pick_t rfl rfl) rfl ?_
                refine OW_wanted rfl rfl rfl ?_
                refine OW_q (q_move rfl) rfl ?_
                refine OW_skip rfl rfl rfl rfl ?_
                refine OW_skip rfl rfl rfl rfl ?_
                refine OW_skip rfl rfl rfl rfl ?_
                refine OW_skip rfl rfl rfl rfl ?_
                refine OW_wanted rfl rfl rfl ?_
                refine OW_q (q_pick_t rfl rfl) rfl ?_
                refine OW_wanted rfl rfl rfl ?_
                refine OW_q (q_move rfl) rfl ?_
                refine OW_skip rfl rfl rfl rfl ?_
                refine OW_skip rfl rfl rfl rfl ?_
                refine OW_skip rfl rfl rfl rfl ?_
                refine OW_skip rfl rfl rfl rfl ?_
                refine OW_wanted rfl rfl rfl ?_
                refine OW_q (q_pick_t rfl rfl) rfl ?_
                refine OW_q (q_pick_t rfl rfl) rfl ?_
                refine OW_q (q_assign rfl) rfl ?_
                refine OW_nil ?_
                refine EW_then ?_
                refine CW_ret ?_
                refine EW_then_ret ?_
                refine ret1 Try.results5 rfl (fun w hw => ?_)
                exact ⟨rfl, hw.sub .nil⟩
              · skip
                refine OW_wanted rfl rfl rfl ?_
                refine OW_q (q_move rfl) rfl ?_
                refine OW_wanted rfl rfl rfl ?_
                refine OW_q (q_lss rfl rfl) rfl ?_
                refine OW_wanted rfl rfl rfl ?_
                refine OW_q (q_pick_f rfl rfl) rfl ?_
                refine OW_wanted rfl rfl rfl ?_
                refine OW_q (q_move rfl) rfl ?_
                refine OW_part (t := 74) rfl (fun hg74 => ?_) (fun hg74 => ?_)
                · skip
                  refine OW_skip rfl rfl rfl rfl ?_
                  refine OW_skip rfl rfl rfl rfl ?_
                  refine OW_skip rfl rfl rfl rfl ?_
                  refine OW_skip rfl rfl rfl rfl ?_
                  refine OW_wanted rfl rfl rfl ?_
                  refine OW_q (q_pick_t rfl rfl) rfl ?_
                  refine OW_wanted rfl rfl rfl ?_
                  refine OW_q (q_move rfl) rfl ?_
                  refine OW_skip rfl rfl rfl rfl ?_
                  refine OW_skip rfl rfl rfl rfl ?_
                  refine OW_skip rfl rfl rfl rfl ?_
                  refine OW_skip rfl rfl rfl rfl ?_
                  refine OW_wanted rfl rfl rfl ?_
                  refine OW_q (q_pick_t rfl rfl) rfl ?_
                  refine OW_q (q_pick_t rfl rfl) rfl ?_
                  refine OW_q (q_assign rfl) rfl ?_
                  refine OW_nil ?_
                  refine EW_then ?_
                  refine CW_ret ?_
                  refine EW_then_ret ?_
                  refine ret1 Try.results5 rfl (fun w hw => ?_)
                  exact ⟨rfl, hw.sub .nil⟩
                · skip
                  refine OW_wanted rfl rfl rfl ?_
                  refine OW_q (q_move rfl) rfl ?_
                  refine OW_wanted rfl rfl rfl ?_
                  refine OW_q (q_fieldAddr Try.underlying24 rfl rfl Try.sizeOf3 rfl rfl) rfl ?_
                  refine OW_wanted rfl rfl rfl ?_
                  first | (refine OW_q (q_load1_own Try.isAgg3 rfl rfl (by (repeat (first | exact .head | apply Swap.tail))) (by rfl)) rfl ?_) | (refine OW_q (q_load1_ro Try.isAgg3 rfl (by first | assumption | exact Row.at_ (by assumption) rfl)) rfl ?_)
                  refine OW_wanted rfl rfl rfl ?_
                  refine OW_q (q_geq rfl rfl) rfl ?_
                  refine OW_wanted rfl rfl rfl ?_
                  refine OW_q (q_pick_f rfl rfl) rfl ?_
                  refine OW_wanted rfl rfl rfl ?_
                  refine OW_q (q_move rfl) rfl ?_
                  refine OW_part (t := 80) rfl (fun hg80 => ?_) (fun hg80 => ?_)
                  · skip
                    refine OW_skip rfl rfl rfl rfl ?_
                    refine OW_skip rfl rfl rfl rfl ?_
                    refine OW_skip rfl rfl rfl rfl ?_
                    refine OW_skip rfl rfl rfl rfl ?_
                    refine OW_wanted rfl rfl rfl ?_
                    refine OW_q (q_pick_t rfl rfl) rfl ?_
                    refine OW_q (q_pick_t rfl rfl) rfl ?_
                    refine OW_q (q_assign rfl) rfl ?_
                    refine OW_nil ?_
                    refine EW_then ?_
                    refine CW_ret ?_
                    refine EW_then_ret ?_
                    refine ret1 Try.results5 rfl (fun w hw => ?_)
                    exact ⟨rfl, hw.sub .nil⟩
                  · skip
                    refine OW_wanted rfl rfl rfl ?_
                    refine OW_q (q_move rfl) rfl ?_
                    refine OW_wanted rfl rfl rfl ?_
                    refine OW_q (q_fieldAddr Try.underlying24 rfl rfl Try.sizeOf3 rfl rfl) rfl ?_
                    refine OW_wanted rfl rfl rfl ?_
                    first | (refine OW_q (q_load1_own Try.isAgg3 rfl rfl (by (repeat (first | exact .head | apply Swap.tail))) (by rfl)) rfl ?_) | (refine OW_q (q_load1_ro Try.isAgg3 rfl (by first | assumption | exact Row.at_ (by assumption) rfl)) rfl ?_)
                    refine OW_wanted rfl rfl rfl ?_
                    refine OW_q (q_geq rfl rfl) rfl ?_
                    refine OW_wanted rfl rfl rfl ?_
                    refine OW_q (q_pick_f rfl rfl) rfl ?_
                    refine OW_q (q_pick_t rfl rfl) rfl ?_
                    refine OW_q (q_assign rfl) rfl ?_
                    refine OW_nil ?_
                    refine EW_then ?_
                    refine CW_ret ?_
                    refine EW_then_ret ?_
                    refine ret1 Try.results5 rfl (fun w hw => ?_)
                    refine ⟨(rt (B := decide (g.names ≤ b0)) ?_).symm, hw.sub .nil⟩
                    have h1 : ¬ a0 < 1 := of_decide_eq_false hg70
                    have h2 : ¬ b0 < 1 := of_decide_eq_false hg74
                    have h3 : ¬ g.names ≤ a0 := of_decide_eq_false hg80
                    have h4 := hfx.1.resolve_left (fun h => by rw [hm] at h; cases h)
                    exact decide_eq_true (by omega)
            · skip
              exact absurd hg67 (by simp [hfx.2]) --stop
          · skip
            obtain ⟨_, hab, _, hgx⟩ := (do_swap hdx).resolve_left fun h => by simp at h64; rw [h.2] at h64; cases h64
            refine CW_skip ?_
            refine EW_then ?_
            refine CW_seq ?_
            refine CW_region ?_
            first | (refine OW_q (q_loadN_own Try.isAgg24 Try.sizeOf24 rfl rfl (by (repeat (first | exact .head | apply Swap.tail))) (by rfl)) rfl ?_) | (refine OW_q (q_loadN_ro Try.isAgg24 Try.sizeOf24 rfl (by first | assumption | exact Row.at_ (by assumption) rfl) (by rfl)) rfl ?_)
            first | (refine OW_q (q_loadN_own Try.isAgg26 Try.sizeOf26 rfl rfl (by (repeat (first | exact .head | apply Swap.tail))) (by rfl)) rfl ?_) | (refine OW_q (q_loadN_ro Try.isAgg26 Try.sizeOf26 rfl (by first | assumption | exact Row.at_ (by assumption) rfl) (by rfl)) rfl ?_)
            refine OW_e (e_call Try.call8 rfl (fun w hw => lift_oldP (do_any _ gx ⟨1, a0, b0, 0⟩ w (hw.gramIn2 hpx (by repeat (first | exact .head | apply Swap.tail)) (by repeat (first | exact .head | apply Swap.tail)))) hw)) rfl (fun x90 => ?_)
            refine OW_pure fun hx90 => ?_
            obtain ⟨vy, gy, rsy, ey⟩ := x90
            obtain ⟨hd_y, hp_y⟩ := hx90
            have hpy : plainR rsy = gy.rules := hp_y
            have hdy : DoOk _ _ gy ey := hd_y
            refine OW_fact (fun w hw => hw.tform (v := vy) (l := rsy) (enc := encRV) (by repeat (first | exact .head | apply Swap.tail))) (fun hf => ?_)
            obtain ⟨ay, cy, rfl, _, _, hby⟩ := hf
            refine OW_spell 90 (.tuple #[.agg #[.int .i64 gy.terms, .int .i64 gy.names, .slice ay rsy.length cy], .int .i64 ey]) rfl rfl ?_
            obtain ⟨_, _, ey0, hgy0⟩ := (do_swap hdy).resolve_left fun h => by
              subst hgx
              rcases h.1 with h1 | h1
              · rw [may_swap hm hab.1 hab.2] at h1; cases h1
              · exact h1 hab
            have hgy : gy = g := by
              rw [hgy0, hgx]
              obtain ⟨t, n, rs⟩ := g
              simp only [List.map_map]
              congr 1
              conv => rhs; rw [← List.map_id rs]
              apply List.map_congr_left
              intro r _
              exact swapR_twice a0 b0 r
            refine OW_q (q_move rfl) rfl ?_
            refine OW_q (q_extract rfl rfl) rfl ?_
            refine OW_q (q_extract rfl rfl) rfl ?_
            refine OW_e (e_alloc Try.zeroValue24 rfl) rfl (fun b14 => ?_)
            refine OW_e0 (e_storeN Try.sizeOf24 rfl rfl rfl rfl (by simp [Value.oneCell']) (by (repeat (first | exact .head | apply Swap.tail))) (by rfl)) (fun _ => ?_)
            refine OW_q (q_assign rfl) rfl ?_
            refine OW_nil ?_
            refine EW_then ?_
            refine CW_seq ?_
            refine CW_region ?_
            refine OW_q (q_move rfl) rfl ?_
            refine OW_q (q_eqi rfl rfl) rfl ?_
            refine OW_q (q_move rfl) rfl ?_
            refine OW_part (t := 95) rfl (fun hg95 => ?_) (fun hg95 => ?_)
            · skip
              refine OW_wanted rfl rfl rfl ?_
              first | (refine OW_q (q_loadN_own Try.isAgg24 Try.sizeOf24 rfl rfl (by (repeat (first | exact .head | apply Swap.tail))) (by rfl)) rfl ?_) | (refine OW_q (q_loadN_ro Try.isAgg24 Try.sizeOf24 rfl (by first | assumption | exact Row.at_ (by assumption) rfl) (by rfl)) rfl ?_)
              refine OW_wanted rfl rfl rfl ?_
              first | (refine OW_q (q_loadN_own Try.isAgg24 Try.sizeOf24 rfl rfl (by (repeat (first | exact .head | apply Swap.tail))) (by rfl)) rfl ?_) | (refine OW_q (q_loadN_ro Try.isAgg24 Try.sizeOf24 rfl (by first | assumption | exact Row.at_ (by assumption) rfl) (by rfl)) rfl ?_)
              refine OW_wanted rfl rfl rfl ?_
              refine OW_e (e_call Try.call10 rfl (fun w hw => lift_oldP (same_any _ _ gy g w (hw.gramIn2 hpy (by repeat (first | exact .head | apply Swap.tail)) (by repeat (first | exact .head | apply Swap.tail))) (hg0.mono (fun _ _ h => hw.rd (Rd.old h)))) hw)) rfl (fun x98 => ?_)
              refine OW_pure fun hx98 => ?_
              refine OW_q (q_pick_t rfl rfl) rfl ?_
              refine OW_q (q_assign rfl) rfl ?_
              refine OW_nil ?_
              refine EW_then ?_
              refine CW_ret ?_
              refine ret1 Try.results5 rfl (fun w hw => ?_)
              exact ⟨(rt (B := x98) (hx98.2 hgy)).symm, hw.sub .nil⟩
            · skip
              exact absurd hg95 (by simp [ey0]) --stop

end Go.Sy
