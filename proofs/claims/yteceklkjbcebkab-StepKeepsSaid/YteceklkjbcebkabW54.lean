/- StepKeeps. No condition. -/
import Derived.Test.YteceklkjbcebkabW50
import Derived.Test.YteceklkjbcebkabW34
import Derived.Test.YteceklkjbcebkabW52
import Derived.Test.YteceklkjbcebkabPKeep
namespace Go.Sy
open Go Go.RowKit Go.Proofs

theorem keep_step {g : Gram} {s : SStep} {ms cs : List Bool} (hm : mayB g = true) (hs : mayS g s = true) (h5 : s.op = 5 → MksOk g ms ∧ CmsOk g cs) {tk : List Int} {i j : Nat} : Yl g tk [⟨false, 0⟩] i j ↔ Yl (stepG g s ms cs) tk [⟨false, 0⟩] i j := by
  have hM := mayB_true.1 hm
  obtain ⟨t, n, rs⟩ := g
  have hrg : ∀ r ∈ rs, (0 ≤ r.left ∧ r.left < n) ∧ ∀ y ∈ r.right, 0 ≤ y.n ∧ (y.term = false → y.n < n) := fun r hr => by
    obtain ⟨k, hk⟩ := List.getElem?_of_mem hr
    have h1 := may_rule hm hk
    refine ⟨⟨h1.1, h1.2.1⟩, fun y hy => ?_⟩
    obtain ⟨z, hz⟩ := List.getElem?_of_mem hy
    have h2 := may_sym hm hk hz
    exact ⟨h2.1, h2.2.2⟩
  have h0n : (0 : Int) < n := by have h9 : (1 : Int) ≤ n := hM.2.2.1; omega
  rcases mayS_op hs with h | h | h | h | h
  · have hs2 := hs
    unfold mayS at hs2
    rw [if_pos h] at hs2
    simp only [Bool.and_eq_true, inR_true, decide_eq_true_eq] at hs2
    obtain ⟨⟨ha, hb⟩, _⟩ := hs2
    have e : stepG ⟨t, n, rs⟩ s ms cs = ⟨t, n, rs.map (swapR s.a s.b)⟩ := by unfold stepG; rw [if_pos h]
    have e0 : [(⟨false, 0⟩ : Sym)].map (swapY s.a s.b) = [⟨false, 0⟩] := by
      have h1 : swapN s.a s.b 0 = 0 := by unfold swapN; rw [if_neg (by omega), if_neg (by omega)]
      simp [swapY, h1]
    have e1 : (rs.map (swapR s.a s.b)).map (swapR s.a s.b) = rs := by
      rw [List.map_map]
      conv => rhs; rw [← List.map_id rs]
      apply List.map_congr_left
      intro r _
      exact swapR_twice s.a s.b r
    rw [e]
    constructor
    · intro hy
      have := yl_swap (a := s.a) (b := s.b) hy
      rw [e0] at this
      exact this
    · intro hy
      have := yl_swap (a := s.a) (b := s.b) hy
      rw [e0, e1] at this
      exact this
  · have hs2 := hs
    unfold mayS at hs2
    rw [if_neg (by omega), if_pos h] at hs2
    simp only [Bool.and_eq_true, inR_true, decide_eq_true_eq] at hs2
    obtain ⟨⟨⟨ha0, ha1⟩, hb0, hbc⟩, hcr⟩ := hs2
    obtain ⟨q, hq⟩ := get_of_lt (l := rs) (k := s.a.toNat) (by have : s.a < (rs.length : Int) := ha1; omega)
    have hra : ruleAt ⟨t, n, rs⟩ s.a = q := ruleAt_get hq
    have hbc' : s.b.toNat ≤ s.c.toNat := by omega
    have e : stepG ⟨t, n, rs⟩ s ms cs = ⟨t, n + 1, rs.set s.a.toNat (extR q s.b.toNat s.c.toNat (nameS n)) ++ [⟨n, partR q s.b.toNat s.c.toNat⟩]⟩ := by
      unfold stepG
      rw [if_neg (by omega), if_pos h, hra]
      unfold partR
      rw [List.drop_take]
    rw [e]
    constructor
    · exact yl_extract hq hbc'
    · intro hy
      have := yl_unextract hq hbc' (fun r hr => ⟨(hrg r hr).1.2, fun y hy ht => ((hrg r hr).2 y hy).2 ht⟩) hy
      rw [unF_id fun y hy ht => by rw [List.mem_singleton.1 hy]; exact h0n] at this
      exact this
  · have hs2 := hs
    unfold mayS at hs2
    rw [if_neg (by omega), if_neg (by omega), if_pos h] at hs2
    simp only [Bool.and_eq_true, inR_true, decide_eq_true_eq] at hs2
    obtain ⟨⟨⟨⟨ha0, ha1⟩, hc0⟩, hb0, hb1⟩, hil⟩ := hs2
    obtain ⟨q, hq⟩ := get_of_lt (l := rs) (k := s.a.toNat) (by have : s.a < (rs.length : Int) := ha1; omega)
    have hra : ruleAt ⟨t, n, rs⟩ s.a = q := ruleAt_get hq
    unfold inlB at hil
    rw [hra] at hb1 hil
    obtain ⟨y, hy⟩ := get_of_lt (l := q.right) (k := s.b.toNat) (by omega)
    rw [hy] at hil
    simp only [Bool.and_eq_true, decide_eq_true_eq] at hil
    have hyt : y.term = false := by simpa using hil.1
    have e : stepG ⟨t, n, rs⟩ s ms cs = ⟨t, n, rs.take s.a.toNat ++ inlS rs q s.b.toNat y ++ rs.drop (s.a.toNat + 1)⟩ := by
      unfold stepG
      rw [if_neg (by omega), if_neg (by omega), if_pos h]
      unfold inlL inlS
      rw [hra, hy]
      simp
    rw [e]
    exact ⟨yl_inline hq hy hyt hil.2, yl_uninline hq hy hyt⟩
  · have e : stepG ⟨t, n, rs⟩ s ms cs = ⟨t, n + 1, leftS rs n s.a⟩ := by
      unfold stepG
      rw [if_neg (by omega), if_neg (by omega), if_neg (by omega), if_pos h]
      rfl
    rw [e]
    constructor
    · exact yl_left fun r hr => (hrg r hr).1.2
    · intro hy
      exact (yl_unleft (fun r hr => ⟨(hrg r hr).1.2, fun y hy ht => ((hrg r hr).2 y hy).2 ht⟩) hy).1 fun y hy ht => by rw [List.mem_singleton.1 hy]; exact h0n
  · obtain ⟨⟨_, lm, cm⟩, l2, m, l3, lm2, cm2, lc, cc, c0⟩ := h5 h
    have em : m = ms := makes_unique l3 ‹_› lm2 cm2 lm cm
    subst em
    have e : stepG ⟨t, n, rs⟩ s m cs = ⟨t, n, rs.filter (keptB m cs)⟩ := by unfold stepG; rw [if_neg (by omega), if_neg (by omega), if_neg (by omega), if_neg (by omega)]
    rw [e]
    constructor
    · intro hy
      have ha := yl_makes cm hy
      have h0 : atB m 0 = true := allB_iff.1 ha ⟨false, 0⟩ (List.mem_singleton.2 rfl) rfl
      exact yl_prune cm cc hy fun y hy' _ => by rw [List.mem_singleton.1 hy']; exact c0 h0
    · exact yl_sub fun r hr => (List.mem_filter.1 hr).1
theorem do_keeps {g h : Gram} {s : SStep} {e : Int} (hd : DoOk g s h e) : (e = 2 ∨ e = 1) ∨ (e = 0 ∧ mayB g = true ∧ mayB h = true ∧ h.terms = g.terms ∧ ∀ (tk : List Int) (i j : Nat), Yl g tk [⟨false, 0⟩] i j ↔ Yl h tk [⟨false, 0⟩] i j) := by
  cases hb : mayB g && mayS g s with
  | false => exact .inl (.inl (hd.1 hb).1)
  | true =>
    obtain ⟨hm, hs⟩ := Bool.and_eq_true _ _ |>.mp hb
    obtain ⟨ms, cs, h5, h0, h1⟩ := hd.2 hm hs
    cases ho : mayB (stepG g s ms cs) with
    | false => exact .inl (.inr (h1 ho).1)
    | true =>
      obtain ⟨e0, rfl⟩ := h0 ho
      exact .inr ⟨e0, hm, ho, stepG_terms g s ms cs, fun tk i j => keep_step hm hs h5⟩
theorem wrong_ok2 {g : Gram} {tk : List Int} (h : wrongE g tk = 0) : mayB g = true ∧ tk.length ≤ 30 := by
  unfold wrongE at h
  split at h
  · cases h
  · rename_i h1
    split at h
    · cases h
    · exact ⟨by simpa using h1, by omega⟩
theorem wrong_same {g h : Gram} {tk : List Int} (hm : mayB g = true) (hh : mayB h = true) (ht : h.terms = g.terms) : wrongE h tk = wrongE g tk := by
  unfold wrongE
  rw [hm, hh, ht]
set_option maxRecDepth 20000 in
theorem stepKeeps_any (gv dv : Value) (g : Gram) (s : SStep) (d : List Int) (w : World) (hg : GramAt (Cl w) gv g) (hd : IntsAt (Cl w) dv d) : Calls Try.prog 4 #[gv, stepV s, dv] w (fun e w' => e = .returned (.bool true) ∧ Sat (Old w) w [] w') := by
  have hd0 := hd
  have hg0 := hg
  obtain ⟨rv, rfl, hr⟩ := hg.mono old_rd
  obtain ⟨a, c, rfl, hc1, hc2, hrs⟩ := id hr
  clear hg
  obtain ⟨da, dc, rfl, hd1, hd2, hds⟩ := hd.mono old_rd
  clear hd
  refine calls_CW Try.func4 rfl Try.ntmps4 rfl (Sat.start w) ?_
  refine CW_seq ?_
  refine CW_region ?_
  refine OW_e (e_box rfl rfl) rfl (fun b3 => ?_)
  refine OW_e (e_box rfl rfl) rfl (fun b4 => ?_)
  refine OW_q (q_assign rfl) rfl ?_
  refine OW_nil ?_
  refine EW_then ?_
  refine CW_seq ?_
  refine CW_region ?_
  first | (refine OW_q (q_loadN_own Try.isAgg24 Try.sizeOf24 rfl rfl (by (repeat (first | exact .head | apply Swap.tail))) (by rfl)) rfl ?_) | (refine OW_q (q_loadN_ro Try.isAgg24 Try.sizeOf24 rfl (by first | assumption | exact Row.at_ (by assumption) rfl) (by rfl)) rfl ?_)
  first | (refine OW_q (q_loadN_own Try.isAgg26 Try.sizeOf26 rfl rfl (by (repeat (first | exact .head | apply Swap.tail))) (by rfl)) rfl ?_) | (refine OW_q (q_loadN_ro Try.isAgg26 Try.sizeOf26 rfl (by first | assumption | exact Row.at_ (by assumption) rfl) (by rfl)) rfl ?_)
  refine OW_e (e_call Try.call8 rfl (fun w hw => lift_oldP (do_any _ g s w (hg0.mono (fun _ _ h => hw.rd (Rd.old h)))) hw)) rfl (fun x12 => ?_)
  refine OW_pure fun hx12 => ?_
  obtain ⟨vx, gx, rsx, ex⟩ := x12
  obtain ⟨hd_x, hp_x⟩ := hx12
  have hpx : plainR rsx = gx.rules := hp_x
  have hdx : DoOk _ _ gx ex := hd_x
  refine OW_fact (fun w hw => hw.tform (v := vx) (l := rsx) (enc := encRV) (by repeat (first | exact .head | apply Swap.tail))) (fun hf => ?_)
  obtain ⟨ax, cx, rfl, _, _, hbx⟩ := hf
  refine OW_spell 12 (.tuple #[.agg #[.int .i64 gx.terms, .int .i64 gx.names, .slice ax rsx.length cx], .int .i64 ex]) rfl rfl ?_
  have hdk := do_keeps hdx
  refine OW_q (q_move rfl) rfl ?_
  refine OW_q (q_extract rfl rfl) rfl ?_
  refine OW_q (q_extract rfl rfl) rfl ?_
  refine OW_e (e_alloc Try.zeroValue24 rfl) rfl (fun b7 => ?_)
  refine OW_e0 (e_storeN Try.sizeOf24 rfl rfl rfl rfl (by simp [Value.oneCell']) (by (repeat (first | exact .head | apply Swap.tail))) (by rfl)) (fun _ => ?_)
  refine OW_q (q_assign rfl) rfl ?_
  refine OW_nil ?_
  refine EW_then ?_
  refine CW_seq ?_
  refine CW_seq ?_
  refine CW_region ?_
  refine OW_q (q_move rfl) rfl ?_
  refine OW_q (q_nei rfl rfl) rfl ?_
  refine OW_nil ?_
  refine EW_then ?_
  refine CW_cond rfl (fun h16 => ?_) (fun h16 => ?_)
  · skip
    have hex := hdk.resolve_right fun h => by simp at h16; exact h16 h.1
    refine CW_seq ?_
    refine CW_region ?_
    refine OW_q (q_move rfl) rfl ?_
    refine OW_q (q_eqi rfl rfl) rfl ?_
    refine OW_q (q_move rfl) rfl ?_
    refine OW_part (t := 19) rfl (fun hg19 => ?_) (fun hg19 => ?_)
    · skip
      refine OW_skip rfl rfl rfl rfl ?_
      refine OW_skip rfl rfl rfl rfl ?_
      refine OW_q (q_pick_t rfl rfl) rfl ?_
      refine OW_q (q_assign rfl) rfl ?_
      refine OW_nil ?_
      refine EW_then ?_
      refine CW_ret ?_
      refine EW_then_ret ?_
      refine ret1 Try.results4 rfl (fun w hw => ?_)
      exact ⟨rfl, hw.sub .nil⟩
    · skip
      refine OW_wanted rfl rfl rfl ?_
      refine OW_q (q_move rfl) rfl ?_
      refine OW_wanted rfl rfl rfl ?_
      refine OW_q (q_eqi rfl rfl) rfl ?_
      refine OW_q (q_pick_f rfl rfl) rfl ?_
      refine OW_q (q_assign rfl) rfl ?_
      refine OW_nil ?_
      refine EW_then ?_
      refine CW_ret ?_
      refine EW_then_ret ?_
      refine ret1 Try.results4 rfl (fun w hw => ?_)
      exact ⟨(rt (B := ex == 1) (by rcases hex with h | h <;> simp_all)).symm, hw.sub .nil⟩
  · skip
    obtain ⟨_, hm, hmx, htt, hyl⟩ := hdk.resolve_left fun h => by simp at h16; omega
    have hMx := mayB_true.1 hmx
    refine CW_skip ?_
    refine EW_then ?_
    refine CW_seq ?_
    refine CW_seq ?_
    refine CW_region ?_
    first | (refine OW_q (q_loadN_own Try.isAgg24 Try.sizeOf24 rfl rfl (by (repeat (first | exact .head | apply Swap.tail))) (by rfl)) rfl ?_) | (refine OW_q (q_loadN_ro Try.isAgg24 Try.sizeOf24 rfl (by first | assumption | exact Row.at_ (by assumption) rfl) (by rfl)) rfl ?_)
    refine OW_q (q_move rfl) rfl ?_
    refine OW_e (e_call Try.call11 rfl (fun w hw => lift_ro (wrong_any _ _ g d w (hg0.mono (fun _ _ h => hw.rd (Rd.old h))) (hd0.mono (fun _ _ h => hw.rd (Rd.old h)))) hw)) rfl (fun x25 => ?_)
    refine OW_q (q_nei rfl rfl) rfl ?_
    refine OW_nil ?_
    refine EW_then ?_
    refine CW_cond rfl (fun h26 => ?_) (fun h26 => ?_)
    · skip
      refine CW_seq ?_
      refine CW_region ?_
      first | (refine OW_q (q_loadN_own Try.isAgg24 Try.sizeOf24 rfl rfl (by (repeat (first | exact .head | apply Swap.tail))) (by rfl)) rfl ?_) | (refine OW_q (q_loadN_ro Try.isAgg24 Try.sizeOf24 rfl (by first | assumption | exact Row.at_ (by assumption) rfl) (by rfl)) rfl ?_)
      refine OW_e (e_call Try.call12 rfl (fun w hw => lift_ro (may1_any _ g w (hg0.mono (fun _ _ h => hw.rd (Rd.old h)))) hw)) rfl (fun x28 => ?_)
      refine OW_q (q_move rfl) rfl ?_
      refine OW_part (t := 29) rfl (fun hg29 => ?_) (fun hg29 => ?_)
      · skip
        refine OW_wanted rfl rfl rfl ?_
        refine OW_q (q_fieldAddr Try.underlying24 rfl rfl Try.sizeOf22 rfl rfl) rfl ?_
        refine OW_wanted rfl rfl rfl ?_
        first | (refine OW_q (q_load1_own Try.isAgg22 rfl rfl (by (repeat (first | exact .head | apply Swap.tail))) (by rfl)) rfl ?_) | (refine OW_q (q_load1_ro Try.isAgg22 rfl (by first | assumption | exact Row.at_ (by assumption) rfl)) rfl ?_)
        refine OW_wanted rfl rfl rfl ?_
        refine OW_q (q_len Try.underlying22 rfl) rfl ?_
        refine OW_wanted rfl rfl rfl ?_
        refine OW_q (q_geq rfl rfl) rfl ?_
        refine OW_q (q_pick_t rfl rfl) rfl ?_
        refine OW_q (q_move rfl) rfl ?_
        refine OW_part (t := 35) rfl (fun hg35 => ?_) (fun hg35 => ?_)
        · skip
          refine OW_wanted rfl rfl rfl ?_
          refine OW_q (q_fieldAddr Try.underlying24 rfl rfl Try.sizeOf3 rfl rfl) rfl ?_
          refine OW_wanted rfl rfl rfl ?_
          first | (refine OW_q (q_load1_own Try.isAgg3 rfl rfl (by (repeat (first | exact .head | apply Swap.tail))) (by rfl)) rfl ?_) | (refine OW_q (q_load1_ro Try.isAgg3 rfl (by first | assumption | exact Row.at_ (by assumption) rfl)) rfl ?_)
          refine OW_wanted rfl rfl rfl ?_
          refine OW_q (q_gtr rfl rfl) rfl ?_
          refine OW_q (q_pick_t rfl rfl) rfl ?_
          refine OW_q (q_assign rfl) rfl ?_
          refine OW_nil ?_
          refine EW_then ?_
          refine CW_ret ?_
          refine EW_then_ret ?_
          refine ret1 Try.results4 rfl (fun w hw => ?_)
          exact ⟨(rt (B := decide (0 < gx.names)) (decide_eq_true (by omega))).symm, hw.sub .nil⟩
        · skip
          exact absurd hg35 (by simp) --stop
      · skip
        exact absurd hg29 (by simp [hm]) --stop
    · skip
      have hE : wrongE g d = 0 := by simpa using h26
      have hw0 := wrong_ok2 hE
      refine CW_skip ?_
      refine EW_then ?_
      refine CW_seq ?_
      refine CW_seq ?_
      refine CW_region ?_
      first | (refine OW_q (q_loadN_own Try.isAgg24 Try.sizeOf24 rfl rfl (by (repeat (first | exact .head | apply Swap.tail))) (by rfl)) rfl ?_) | (refine OW_q (q_loadN_ro Try.isAgg24 Try.sizeOf24 rfl (by first | assumption | exact Row.at_ (by assumption) rfl) (by rfl)) rfl ?_)
      refine OW_q (q_move rfl) rfl ?_
      refine OW_e (e_call Try.call11 rfl (fun w hw => lift_ro (wrong_any _ _ gx d w (hw.gramIn2 hpx (by repeat (first | exact .head | apply Swap.tail)) (by repeat (first | exact .head | apply Swap.tail))) (hd0.mono (fun _ _ h => hw.rd (Rd.old h)))) hw)) rfl (fun x42 => ?_)
      refine OW_q (q_nei rfl rfl) rfl ?_
      refine OW_nil ?_
      refine EW_then ?_
      refine CW_cond rfl (fun h43 => ?_) (fun h43 => ?_)
      · skip
        have hEx : wrongE gx d ≠ 0 := by simpa using h43
        refine CW_seq ?_
        refine CW_region ?_
        refine OW_q (q_assign rfl) rfl ?_
        refine OW_nil ?_
        refine EW_then ?_
        refine CW_ret ?_
        refine EW_then_ret ?_
        refine ret1 Try.results4 rfl (fun w hw => ?_)
        exact absurd (wrong_same hm hmx htt) (by rw [hE]; exact hEx)
      · skip
        refine CW_skip ?_
        refine EW_then ?_
        refine CW_seq ?_
        refine CW_drawS 8 [(0, false), (1, false), (3, false), (4, false), (2, true), (5, true), (6, false), (7, false)] (by kernel_rfl) (Blind.then (Blind.body (by intro c w h; simp at h))) (by kernel_rfl) (fun w hw => hw.drew) ?_
        first | (refine DW_q rfl (fun w hw => hw.sub (by (repeat (first | exact SubL.nil | exact Pick.head | apply Pick.tail | apply SubL.cons)))) (q_loadN_own Try.isAgg24 Try.sizeOf24 rfl rfl (by (repeat (first | exact .head | apply Swap.tail))) (by rfl)) rfl ?_) | (refine DW_q rfl (fun w hw => hw.sub (by (repeat (first | exact SubL.nil | exact Pick.head | apply Pick.tail | apply SubL.cons)))) (q_loadN_ro Try.isAgg24 Try.sizeOf24 rfl (by first | assumption | exact Row.at_ (by assumption) rfl) (by rfl)) rfl ?_)
        refine DW_q rfl (fun w hw => hw.sub (by (repeat (first | exact SubL.nil | exact Pick.head | apply Pick.tail | apply SubL.cons)))) (q_move rfl) rfl ?_
        first | (refine DW_q rfl (fun w hw => hw.sub (by (repeat (first | exact SubL.nil | exact Pick.head | apply Pick.tail | apply SubL.cons)))) (q_loadN_own Try.isAgg24 Try.sizeOf24 rfl rfl (by (repeat (first | exact .head | apply Swap.tail))) (by rfl)) rfl ?_) | (refine DW_q rfl (fun w hw => hw.sub (by (repeat (first | exact SubL.nil | exact Pick.head | apply Pick.tail | apply SubL.cons)))) (q_loadN_ro Try.isAgg24 Try.sizeOf24 rfl (by first | assumption | exact Row.at_ (by assumption) rfl) (by rfl)) rfl ?_)
        refine DW_q rfl (fun w hw => hw.sub (by (repeat (first | exact SubL.nil | exact Pick.head | apply Pick.tail | apply SubL.cons)))) (q_move rfl) rfl ?_
        refine DW_e rfl (e_call Try.call13 rfl (fun w hw => lift_oldP (has5_any _ _ g d w (hg0.mono (fun _ _ h => hw.rd (Rd.old h))) (hd0.mono (fun _ _ h => hw.rd (Rd.old h))) hm hw0.2) hw)) rfl (fun _ w hw => by first | exact hw.sub (by (repeat (first | exact SubL.nil | exact Pick.head | apply Pick.tail | apply SubL.cons))) | exact hw.2.sub (by (repeat (first | exact SubL.nil | exact Pick.head | apply Pick.tail | apply SubL.cons)))) (fun x46 => ?_)
        refine DW_pure fun hx46 => ?_
        refine DW_e rfl (e_call Try.call13 rfl (fun w hw => lift_oldP (has5_any _ _ gx d w (hw.gramIn2 hpx (by repeat (first | exact .head | apply Swap.tail)) (by repeat (first | exact .head | apply Swap.tail))) (hd0.mono (fun _ _ h => hw.rd (Rd.old h))) hmx hw0.2) hw)) rfl (fun _ w hw => by first | exact hw.sub (by (repeat (first | exact SubL.nil | exact Pick.head | apply Pick.tail | apply SubL.cons))) | exact hw.2.sub (by (repeat (first | exact SubL.nil | exact Pick.head | apply Pick.tail | apply SubL.cons)))) (fun x49 => ?_)
        refine DW_pure fun hx49 => ?_
        refine DW_q rfl (fun w hw => hw.sub (by (repeat (first | exact SubL.nil | exact Pick.head | apply Pick.tail | apply SubL.cons)))) (q_eqb Try.underlying4 rfl rfl) rfl ?_
        refine DW_q rfl (fun w hw => hw.sub (by (repeat (first | exact SubL.nil | exact Pick.head | apply Pick.tail | apply SubL.cons)))) (q_assign rfl) rfl ?_
        refine DW_nil ?_
        refine EW_then ?_
        refine CW_ret ?_
        refine ret1 Try.results4 rfl (fun w hw => ?_)
        refine ⟨(rt (B := x46 == x49) ?_).symm, hw.sub .nil⟩
        have e1 := (hx46.trans (hyl d 0 d.length)).trans hx49.symm
        cases x46 <;> cases x49 <;> simp_all

end Go.Sy
