/- step.may. No condition. -/
import Derived.Test.YteceklkjbcebkabW41
namespace Go.Sy
open Go Go.RowKit Go.Proofs

abbrev stepV (s : SStep) : Value := .agg #[.int .i64 s.op, .int .i64 s.a, .int .i64 s.b, .int .i64 s.c]
theorem leftB_iff {g : Gram} {a : Int} : leftB g a = true ↔ (∃ j ∈ ofL g.rules a, ∃ r, g.rules[j]? = some r ∧ loopsB r = true) ∧ ∀ j ∈ ofL g.rules a, ∀ r, g.rules[j]? = some r → loopsB r = true → r.right.length ≠ 1 := by
  unfold leftB
  rw [Bool.and_eq_true, List.any_eq_true, List.all_eq_true]
  constructor
  · rintro ⟨⟨r, h1, h2⟩, h3⟩
    simp only [Bool.and_eq_true, decide_eq_true_eq] at h2
    obtain ⟨j, hj⟩ := List.getElem?_of_mem h1
    refine ⟨⟨j, ofL_get hj h2.1, r, hj, h2.2⟩, fun j hj r hr hl e => ?_⟩
    have h4 := h3 r (List.mem_of_getElem? hr)
    obtain ⟨r', hr', hl'⟩ := ofL_mem hj
    rw [hr] at hr'
    cases hr'
    simp [hl', hl, e] at h4
  · rintro ⟨⟨j, h1, r, h2, h3⟩, h4⟩
    obtain ⟨r', hr', hl'⟩ := ofL_mem h1
    rw [h2] at hr'
    cases hr'
    refine ⟨⟨r, List.mem_of_getElem? h2, by simp [hl', h3]⟩, fun q hq => ?_⟩
    obtain ⟨k, hk⟩ := List.getElem?_of_mem hq
    by_cases e : q.left = a
    · cases hl : loopsB q with
      | false => simp
      | true =>
        have := h4 k (ofL_get hk e) q hk hl
        simp [this]
    · simp [e]
set_option maxRecDepth 20000 in
theorem mayS_any (gv : Value) (g : Gram) (s : SStep) (w : World) (hm : mayB g = true) (hg : GramAt (Cl w) gv g) : Calls Try.prog 19 #[gv, stepV s] w (fun e w' => e = .returned (.bool (mayS g s)) ∧ Sat (Old w) w [] w') := by
  have hg0 := hg
  obtain ⟨rv, rfl, hr⟩ := hg.mono old_rd
  obtain ⟨a, c, rfl, hc1, hc2, hrs⟩ := id hr
  clear hg
  have hM := mayB_true.1 hm
  refine calls_CW Try.func19 rfl Try.ntmps19 rfl (Sat.start w) ?_
  refine CW_seq ?_
  refine CW_region ?_
  refine OW_e (e_box rfl rfl) rfl (fun b2 => ?_)
  refine OW_e (e_box rfl rfl) rfl (fun b3 => ?_)
  refine OW_q (q_assign rfl) rfl ?_
  refine OW_nil ?_
  refine EW_then ?_
  refine CW_seq ?_
  refine CW_region ?_
  refine OW_q (q_fieldAddr Try.underlying26 rfl rfl Try.sizeOf3 rfl rfl) rfl ?_
  first | (refine OW_q (q_load1_own Try.isAgg3 rfl rfl (by (repeat (first | exact .head | apply Swap.tail))) (by rfl)) rfl ?_) | (refine OW_q (q_load1_ro Try.isAgg3 rfl (by first | assumption | exact Row.at_ (by assumption) rfl)) rfl ?_)
  refine OW_q (q_fieldAddr Try.underlying24 rfl rfl Try.sizeOf22 rfl rfl) rfl ?_
  first | (refine OW_q (q_load1_own Try.isAgg22 rfl rfl (by (repeat (first | exact .head | apply Swap.tail))) (by rfl)) rfl ?_) | (refine OW_q (q_load1_ro Try.isAgg22 rfl (by first | assumption | exact Row.at_ (by assumption) rfl)) rfl ?_)
  refine OW_q (q_len Try.underlying22 rfl) rfl ?_
  refine OW_e (e_call Try.call27 rfl (fun w hw => lift_same (inS_any _ _ _ w) hw)) rfl (fun x15 => ?_)
  refine OW_q (q_assign rfl) rfl ?_
  refine OW_nil ?_
  refine EW_then ?_
  refine CW_seq ?_
  refine CW_seq ?_
  refine CW_region ?_
  refine OW_q (q_fieldAddr Try.underlying26 rfl rfl Try.sizeOf3 rfl rfl) rfl ?_
  first | (refine OW_q (q_load1_own Try.isAgg3 rfl rfl (by (repeat (first | exact .head | apply Swap.tail))) (by rfl)) rfl ?_) | (refine OW_q (q_load1_ro Try.isAgg3 rfl (by first | assumption | exact Row.at_ (by assumption) rfl)) rfl ?_)
  refine OW_nil ?_
  refine EW_then ?_
  refine CW_block ?_
  refine CW_seq ?_
  refine CW_region ?_
  refine OW_q (q_eqi rfl rfl) rfl ?_
  refine OW_q (q_assign rfl) rfl ?_
  refine OW_nil ?_
  refine EW_then ?_
  refine CW_cond rfl (fun h18 => ?_) (fun h18 => ?_)
  · skip
    have hop : s.op = 1 := by simpa using h18
    refine CW_seq ?_
    refine CW_region ?_
    refine OW_q (q_fieldAddr Try.underlying26 rfl rfl Try.sizeOf3 rfl rfl) rfl ?_
    first | (refine OW_q (q_load1_own Try.isAgg3 rfl rfl (by (repeat (first | exact .head | apply Swap.tail))) (by rfl)) rfl ?_) | (refine OW_q (q_load1_ro Try.isAgg3 rfl (by first | assumption | exact Row.at_ (by assumption) rfl)) rfl ?_)
    refine OW_q (q_fieldAddr Try.underlying24 rfl rfl Try.sizeOf3 rfl rfl) rfl ?_
    first | (refine OW_q (q_load1_own Try.isAgg3 rfl rfl (by (repeat (first | exact .head | apply Swap.tail))) (by rfl)) rfl ?_) | (refine OW_q (q_load1_ro Try.isAgg3 rfl (by first | assumption | exact Row.at_ (by assumption) rfl)) rfl ?_)
    refine OW_e (e_call Try.call27 rfl (fun w hw => lift_same (inS_any _ _ _ w) hw)) rfl (fun x24 => ?_)
    refine OW_q (q_move rfl) rfl ?_
    refine OW_part (t := 25) rfl (fun hg25 => ?_) (fun hg25 => ?_)
    · skip
      refine OW_wanted rfl rfl rfl ?_
      refine OW_q (q_fieldAddr Try.underlying26 rfl rfl Try.sizeOf3 rfl rfl) rfl ?_
      refine OW_wanted rfl rfl rfl ?_
      first | (refine OW_q (q_load1_own Try.isAgg3 rfl rfl (by (repeat (first | exact .head | apply Swap.tail))) (by rfl)) rfl ?_) | (refine OW_q (q_load1_ro Try.isAgg3 rfl (by first | assumption | exact Row.at_ (by assumption) rfl)) rfl ?_)
      refine OW_wanted rfl rfl rfl ?_
      refine OW_q (q_fieldAddr Try.underlying24 rfl rfl Try.sizeOf3 rfl rfl) rfl ?_
      refine OW_wanted rfl rfl rfl ?_
      first | (refine OW_q (q_load1_own Try.isAgg3 rfl rfl (by (repeat (first | exact .head | apply Swap.tail))) (by rfl)) rfl ?_) | (refine OW_q (q_load1_ro Try.isAgg3 rfl (by first | assumption | exact Row.at_ (by assumption) rfl)) rfl ?_)
      refine OW_wanted rfl rfl rfl ?_
      refine OW_e (e_call Try.call27 rfl (fun w hw => lift_same (inS_any _ _ _ w) hw)) rfl (fun x30 => ?_)
      refine OW_q (q_pick_t rfl rfl) rfl ?_
      refine OW_q (q_move rfl) rfl ?_
      refine OW_part (t := 32) rfl (fun hg32 => ?_) (fun hg32 => ?_)
      · skip
        refine OW_wanted rfl rfl rfl ?_
        refine OW_q (q_fieldAddr Try.underlying26 rfl rfl Try.sizeOf3 rfl rfl) rfl ?_
        refine OW_wanted rfl rfl rfl ?_
        first | (refine OW_q (q_load1_own Try.isAgg3 rfl rfl (by (repeat (first | exact .head | apply Swap.tail))) (by rfl)) rfl ?_) | (refine OW_q (q_load1_ro Try.isAgg3 rfl (by first | assumption | exact Row.at_ (by assumption) rfl)) rfl ?_)
        refine OW_wanted rfl rfl rfl ?_
        refine OW_q (q_eqi rfl rfl) rfl ?_
        refine OW_q (q_pick_t rfl rfl) rfl ?_
        refine OW_q (q_assign rfl) rfl ?_
        refine OW_nil ?_
        refine EW_then ?_
        refine CW_ret ?_
        refine EW_block_ret ?_
        refine EW_then_ret ?_
        refine ret1 Try.results19 rfl (fun w hw => ?_)
        refine ⟨congrArg (fun b => Ending.returned (Value.bool b)) (?_ : _ = mayS g s), hw.sub .nil⟩
        clear hw
        first | (simp [mayS, *]; done) | (simp [mayS, *]; rfl) | (simp_all [mayS, inlB]; done) | (simp_all [mayS, inlB]; rfl)
      · skip
        refine OW_skip rfl rfl rfl rfl ?_
        refine OW_skip rfl rfl rfl rfl ?_
        refine OW_skip rfl rfl rfl rfl ?_
        refine OW_q (q_pick_f rfl rfl) rfl ?_
        refine OW_q (q_assign rfl) rfl ?_
        refine OW_nil ?_
        refine EW_then ?_
        refine CW_ret ?_
        refine EW_block_ret ?_
        refine EW_then_ret ?_
        refine ret1 Try.results19 rfl (fun w hw => ?_)
        refine ⟨congrArg (fun b => Ending.returned (Value.bool b)) (?_ : _ = mayS g s), hw.sub .nil⟩
        clear hw
        first | (simp [mayS, *]; done) | (simp [mayS, inlB, *]; rfl) | (simp_all [mayS, inlB]; done) | (simp_all [mayS, inlB]; rfl)
    · skip
      refine OW_skip rfl rfl rfl rfl ?_
      refine OW_skip rfl rfl rfl rfl ?_
      refine OW_skip rfl rfl rfl rfl ?_
      refine OW_skip rfl rfl rfl rfl ?_
      refine OW_skip rfl rfl rfl rfl ?_
      refine OW_q (q_pick_f rfl rfl) rfl ?_
      refine OW_q (q_move rfl) rfl ?_
      refine OW_skip rfl rfl rfl rfl ?_
      refine OW_skip rfl rfl rfl rfl ?_
      refine OW_skip rfl rfl rfl rfl ?_
      refine OW_q (q_pick_f rfl rfl) rfl ?_
      refine OW_q (q_assign rfl) rfl ?_
      refine OW_nil ?_
      refine EW_then ?_
      refine CW_ret ?_
      refine EW_block_ret ?_
      refine EW_then_ret ?_
      refine ret1 Try.results19 rfl (fun w hw => ?_)
      refine ⟨congrArg (fun b => Ending.returned (Value.bool b)) (?_ : _ = mayS g s), hw.sub .nil⟩
      clear hw
      first | (simp [mayS, *]; done) | (simp [mayS, inlB, *]; rfl) | (simp_all [mayS, inlB]; done) | (simp_all [mayS, inlB]; rfl)
  · skip
    refine CW_seq ?_
    refine CW_region ?_
    refine OW_q (q_eqi rfl rfl) rfl ?_
    refine OW_q (q_assign rfl) rfl ?_
    refine OW_nil ?_
    refine EW_then ?_
    refine CW_cond rfl (fun h37 => ?_) (fun h37 => ?_)
    · skip
      have hop : s.op = 2 := by simpa using h37
      refine CW_seq ?_
      refine CW_drawS 22 [(0, false), (1, false), (2, false), (3, false), (4, false), (5, false), (6, true), (7, false), (8, false), (9, false), (10, false), (11, false), (12, false), (13, false), (14, false), (15, false), (16, false), (17, false), (18, false), (19, false), (20, false), (21, false)] (by kernel_rfl) (Blind.then (Blind.block (Blind.then (Blind.body (by intro c w h; simp at h))))) (by kernel_rfl) (fun w hw => hw.drew) ?_
      refine DW_q rfl (fun w hw => hw.sub (by (repeat (first | exact SubL.nil | exact Pick.head | apply Pick.tail | apply SubL.cons)))) (q_move rfl) rfl ?_
      refine DW_q rfl (fun w hw => hw.sub (by (repeat (first | exact SubL.nil | exact Pick.head | apply Pick.tail | apply SubL.cons)))) (q_move rfl) rfl ?_
      refine DW_part (t := 40) rfl (fun hg40 => ?_) (fun hg40 => ?_)
      · skip
        obtain ⟨ha0, ha1⟩ := inR_true.1 hg40
        obtain ⟨q, hq⟩ := get_of_lt (l := g.rules) (k := s.a.toNat) (by omega)
        obtain ⟨p, rfl, rvq, hsy, hrow⟩ := hrs s.a.toNat q hq
        obtain ⟨ya, yc, rfl, hy1, hy2, hys⟩ := id hsy
        have hra := ruleAt_get hq
        refine DW_qg rfl (fun w hw => hw.sub (by (repeat (first | exact SubL.nil | exact Pick.head | apply Pick.tail | apply SubL.cons)))) rfl rfl rfl (q_fieldAddr Try.underlying26 rfl rfl Try.sizeOf3 rfl rfl) rfl ?_
        first | (refine DW_qg rfl (fun w hw => hw.sub (by (repeat (first | exact SubL.nil | exact Pick.head | apply Pick.tail | apply SubL.cons)))) rfl rfl rfl (q_load1_own Try.isAgg3 rfl rfl (by (repeat (first | exact .head | apply Swap.tail))) (by rfl)) rfl ?_) | (refine DW_qg rfl (fun w hw => hw.sub (by (repeat (first | exact SubL.nil | exact Pick.head | apply Pick.tail | apply SubL.cons)))) rfl rfl rfl (q_load1_ro Try.isAgg3 rfl (by first | assumption | exact Row.at_ (by assumption) rfl)) rfl ?_)
        refine DW_qg rfl (fun w hw => hw.sub (by (repeat (first | exact SubL.nil | exact Pick.head | apply Pick.tail | apply SubL.cons)))) rfl rfl rfl (q_fieldAddr Try.underlying26 rfl rfl Try.sizeOf3 rfl rfl) rfl ?_
        first | (refine DW_qg rfl (fun w hw => hw.sub (by (repeat (first | exact SubL.nil | exact Pick.head | apply Pick.tail | apply SubL.cons)))) rfl rfl rfl (q_load1_own Try.isAgg3 rfl rfl (by (repeat (first | exact .head | apply Swap.tail))) (by rfl)) rfl ?_) | (refine DW_qg rfl (fun w hw => hw.sub (by (repeat (first | exact SubL.nil | exact Pick.head | apply Pick.tail | apply SubL.cons)))) rfl rfl rfl (q_load1_ro Try.isAgg3 rfl (by first | assumption | exact Row.at_ (by assumption) rfl)) rfl ?_)
        refine DW_eg rfl rfl rfl rfl (e_call Try.call27 rfl (fun w hw => lift_same (inS_any _ _ _ w) hw)) rfl (fun _ w hw => by first | exact hw.sub (by (repeat (first | exact SubL.nil | exact Pick.head | apply Pick.tail | apply SubL.cons))) | exact hw.2.sub (by (repeat (first | exact SubL.nil | exact Pick.head | apply Pick.tail | apply SubL.cons)))) (fun x45 => ?_)
        refine DW_q rfl (fun w hw => hw.sub (by (repeat (first | exact SubL.nil | exact Pick.head | apply Pick.tail | apply SubL.cons)))) (q_pick_t rfl rfl) rfl ?_
        refine DW_q rfl (fun w hw => hw.sub (by (repeat (first | exact SubL.nil | exact Pick.head | apply Pick.tail | apply SubL.cons)))) (q_move rfl) rfl ?_
        refine DW_part (t := 47) rfl (fun hg47 => ?_) (fun hg47 => ?_)
        · skip
          refine DW_qg rfl (fun w hw => hw.sub (by (repeat (first | exact SubL.nil | exact Pick.head | apply Pick.tail | apply SubL.cons)))) rfl rfl rfl (q_fieldAddr Try.underlying26 rfl rfl Try.sizeOf3 rfl rfl) rfl ?_
          first | (refine DW_qg rfl (fun w hw => hw.sub (by (repeat (first | exact SubL.nil | exact Pick.head | apply Pick.tail | apply SubL.cons)))) rfl rfl rfl (q_load1_own Try.isAgg3 rfl rfl (by (repeat (first | exact .head | apply Swap.tail))) (by rfl)) rfl ?_) | (refine DW_qg rfl (fun w hw => hw.sub (by (repeat (first | exact SubL.nil | exact Pick.head | apply Pick.tail | apply SubL.cons)))) rfl rfl rfl (q_load1_ro Try.isAgg3 rfl (by first | assumption | exact Row.at_ (by assumption) rfl)) rfl ?_)
          refine DW_qg rfl (fun w hw => hw.sub (by (repeat (first | exact SubL.nil | exact Pick.head | apply Pick.tail | apply SubL.cons)))) rfl rfl rfl (q_fieldAddr Try.underlying24 rfl rfl Try.sizeOf22 rfl rfl) rfl ?_
          first | (refine DW_qg rfl (fun w hw => hw.sub (by (repeat (first | exact SubL.nil | exact Pick.head | apply Pick.tail | apply SubL.cons)))) rfl rfl rfl (q_load1_own Try.isAgg22 rfl rfl (by (repeat (first | exact .head | apply Swap.tail))) (by rfl)) rfl ?_) | (refine DW_qg rfl (fun w hw => hw.sub (by (repeat (first | exact SubL.nil | exact Pick.head | apply Pick.tail | apply SubL.cons)))) rfl rfl rfl (q_load1_ro Try.isAgg22 rfl (by first | assumption | exact Row.at_ (by assumption) rfl)) rfl ?_)
          refine DW_qg rfl (fun w hw => hw.sub (by (repeat (first | exact SubL.nil | exact Pick.head | apply Pick.tail | apply SubL.cons)))) rfl rfl rfl (q_fieldAddr Try.underlying26 rfl rfl Try.sizeOf3 rfl rfl) rfl ?_
          first | (refine DW_qg rfl (fun w hw => hw.sub (by (repeat (first | exact SubL.nil | exact Pick.head | apply Pick.tail | apply SubL.cons)))) rfl rfl rfl (q_load1_own Try.isAgg3 rfl rfl (by (repeat (first | exact .head | apply Swap.tail))) (by rfl)) rfl ?_) | (refine DW_qg rfl (fun w hw => hw.sub (by (repeat (first | exact SubL.nil | exact Pick.head | apply Pick.tail | apply SubL.cons)))) rfl rfl rfl (q_load1_ro Try.isAgg3 rfl (by first | assumption | exact Row.at_ (by assumption) rfl)) rfl ?_)
          refine DW_qg rfl (fun w hw => hw.sub (by (repeat (first | exact SubL.nil | exact Pick.head | apply Pick.tail | apply SubL.cons)))) rfl rfl rfl (q_indexAddrI Try.underlying22 Try.sizeOf49 rfl rfl (by first | omega | assumption) (by first | omega | assumption)) rfl ?_
          refine DW_qg rfl (fun w hw => hw.sub (by (repeat (first | exact SubL.nil | exact Pick.head | apply Pick.tail | apply SubL.cons)))) rfl rfl rfl (q_fieldAddr Try.underlying49 rfl rfl Try.sizeOf46 rfl rfl) rfl ?_
          refine DW_qg rfl (fun w hw => hw.sub (by (repeat (first | exact SubL.nil | exact Pick.head | apply Pick.tail | apply SubL.cons)))) rfl rfl rfl (q_load1_ro Try.isAgg46 rfl (by first | exact hrow.at_ (j := 1) rfl)) rfl ?_
          refine DW_qg rfl (fun w hw => hw.sub (by (repeat (first | exact SubL.nil | exact Pick.head | apply Pick.tail | apply SubL.cons)))) rfl rfl rfl (q_len Try.underlying46 rfl) rfl ?_
          refine DW_qg rfl (fun w hw => hw.sub (by (repeat (first | exact SubL.nil | exact Pick.head | apply Pick.tail | apply SubL.cons)))) rfl rfl rfl (q_leq rfl rfl) rfl ?_
          refine DW_q rfl (fun w hw => hw.sub (by (repeat (first | exact SubL.nil | exact Pick.head | apply Pick.tail | apply SubL.cons)))) (q_pick_t rfl rfl) rfl ?_
          refine DW_q rfl (fun w hw => hw.sub (by (repeat (first | exact SubL.nil | exact Pick.head | apply Pick.tail | apply SubL.cons)))) (q_assign rfl) rfl ?_
          refine DW_nil ?_
          refine EW_then ?_
          refine CW_ret ?_
          refine EW_block_ret ?_
          refine EW_then_ret ?_
          refine ret1 Try.results19 rfl (fun w hw => ?_)
          refine ⟨congrArg (fun b => Ending.returned (Value.bool b)) (?_ : _ = mayS g s), hw.sub .nil⟩
          clear hw
          first | (simp [mayS, *]; done) | (simp [mayS, inlB, *]; rfl) | (simp_all [mayS, inlB]; done) | (simp_all [mayS, inlB]; rfl)
        · skip
          refine DW_skip rfl (fun w hw => hw.sub (by (repeat (first | exact SubL.nil | exact Pick.head | apply Pick.tail | apply SubL.cons)))) rfl rfl rfl rfl ?_
          refine DW_skip rfl (fun w hw => hw.sub (by (repeat (first | exact SubL.nil | exact Pick.head | apply Pick.tail | apply SubL.cons)))) rfl rfl rfl rfl ?_
          refine DW_skip rfl (fun w hw => hw.sub (by (repeat (first | exact SubL.nil | exact Pick.head | apply Pick.tail | apply SubL.cons)))) rfl rfl rfl rfl ?_
          refine DW_skip rfl (fun w hw => hw.sub (by (repeat (first | exact SubL.nil | exact Pick.head | apply Pick.tail | apply SubL.cons)))) rfl rfl rfl rfl ?_
          refine DW_skip rfl (fun w hw => hw.sub (by (repeat (first | exact SubL.nil | exact Pick.head | apply Pick.tail | apply SubL.cons)))) rfl rfl rfl rfl ?_
          refine DW_skip rfl (fun w hw => hw.sub (by (repeat (first | exact SubL.nil | exact Pick.head | apply Pick.tail | apply SubL.cons)))) rfl rfl rfl rfl ?_
          refine DW_skip rfl (fun w hw => hw.sub (by (repeat (first | exact SubL.nil | exact Pick.head | apply Pick.tail | apply SubL.cons)))) rfl rfl rfl rfl ?_
          refine DW_skip rfl (fun w hw => hw.sub (by (repeat (first | exact SubL.nil | exact Pick.head | apply Pick.tail | apply SubL.cons)))) rfl rfl rfl rfl ?_
          refine DW_skip rfl (fun w hw => hw.sub (by (repeat (first | exact SubL.nil | exact Pick.head | apply Pick.tail | apply SubL.cons)))) rfl rfl rfl rfl ?_
          refine DW_skip rfl (fun w hw => hw.sub (by (repeat (first | exact SubL.nil | exact Pick.head | apply Pick.tail | apply SubL.cons)))) rfl rfl rfl rfl ?_
          refine DW_skip rfl (fun w hw => hw.sub (by (repeat (first | exact SubL.nil | exact Pick.head | apply Pick.tail | apply SubL.cons)))) rfl rfl rfl rfl ?_
          refine DW_q rfl (fun w hw => hw.sub (by (repeat (first | exact SubL.nil | exact Pick.head | apply Pick.tail | apply SubL.cons)))) (q_pick_f rfl rfl) rfl ?_
          refine DW_q rfl (fun w hw => hw.sub (by (repeat (first | exact SubL.nil | exact Pick.head | apply Pick.tail | apply SubL.cons)))) (q_assign rfl) rfl ?_
          refine DW_nil ?_
          refine EW_then ?_
          refine CW_ret ?_
          refine EW_block_ret ?_
          refine EW_then_ret ?_
          refine ret1 Try.results19 rfl (fun w hw => ?_)
          refine ⟨congrArg (fun b => Ending.returned (Value.bool b)) (?_ : _ = mayS g s), hw.sub .nil⟩
          clear hw
          first | (simp [mayS, *]; done) | (simp [mayS, inlB, *]; rfl) | (simp_all [mayS, inlB]; done) | (simp_all [mayS, inlB]; rfl)
      · skip
        refine DW_skip rfl (fun w hw => hw.sub (by (repeat (first | exact SubL.nil | exact Pick.head | apply Pick.tail | apply SubL.cons)))) rfl rfl rfl rfl ?_
        refine DW_skip rfl (fun w hw => hw.sub (by (repeat (first | exact SubL.nil | exact Pick.head | apply Pick.tail | apply SubL.cons)))) rfl rfl rfl rfl ?_
        refine DW_skip rfl (fun w hw => hw.sub (by (repeat (first | exact SubL.nil | exact Pick.head | apply Pick.tail | apply SubL.cons)))) rfl rfl rfl rfl ?_
        refine DW_skip rfl (fun w hw => hw.sub (by (repeat (first | exact SubL.nil | exact Pick.head | apply Pick.tail | apply SubL.cons)))) rfl rfl rfl rfl ?_
        refine DW_eskip rfl (fun w hw => hw.sub (by (repeat (first | exact SubL.nil | exact Pick.head | apply Pick.tail | apply SubL.cons)))) rfl rfl rfl rfl ?_
        refine DW_q rfl (fun w hw => hw.sub (by (repeat (first | exact SubL.nil | exact Pick.head | apply Pick.tail | apply SubL.cons)))) (q_pick_f rfl rfl) rfl ?_
        refine DW_q rfl (fun w hw => hw.sub (by (repeat (first | exact SubL.nil | exact Pick.head | apply Pick.tail | apply SubL.cons)))) (q_move rfl) rfl ?_
        refine DW_skip rfl (fun w hw => hw.sub (by (repeat (first | exact SubL.nil | exact Pick.head | apply Pick.tail | apply SubL.cons)))) rfl rfl rfl rfl ?_
        refine DW_skip rfl (fun w hw => hw.sub (by (repeat (first | exact SubL.nil | exact Pick.head | apply Pick.tail | apply SubL.cons)))) rfl rfl rfl rfl ?_
        refine DW_skip rfl (fun w hw => hw.sub (by (repeat (first | exact SubL.nil | exact Pick.head | apply Pick.tail | apply SubL.cons)))) rfl rfl rfl rfl ?_
        refine DW_skip rfl (fun w hw => hw.sub (by (repeat (first | exact SubL.nil | exact Pick.head | apply Pick.tail | apply SubL.cons)))) rfl rfl rfl rfl ?_
        refine DW_skip rfl (fun w hw => hw.sub (by (repeat (first | exact SubL.nil | exact Pick.head | apply Pick.tail | apply SubL.cons)))) rfl rfl rfl rfl ?_
        refine DW_skip rfl (fun w hw => hw.sub (by (repeat (first | exact SubL.nil | exact Pick.head | apply Pick.tail | apply SubL.cons)))) rfl rfl rfl rfl ?_
        refine DW_skip rfl (fun w hw => hw.sub (by (repeat (first | exact SubL.nil | exact Pick.head | apply Pick.tail | apply SubL.cons)))) rfl rfl rfl rfl ?_
        refine DW_skip rfl (fun w hw => hw.sub (by (repeat (first | exact SubL.nil | exact Pick.head | apply Pick.tail | apply SubL.cons)))) rfl rfl rfl rfl ?_
        refine DW_skip rfl (fun w hw => hw.sub (by (repeat (first | exact SubL.nil | exact Pick.head | apply Pick.tail | apply SubL.cons)))) rfl rfl rfl rfl ?_
        refine DW_skip rfl (fun w hw => hw.sub (by (repeat (first | exact SubL.nil | exact Pick.head | apply Pick.tail | apply SubL.cons)))) rfl rfl rfl rfl ?_
        refine DW_skip rfl (fun w hw => hw.sub (by (repeat (first | exact SubL.nil | exact Pick.head | apply Pick.tail | apply SubL.cons)))) rfl rfl rfl rfl ?_
        refine DW_q rfl (fun w hw => hw.sub (by (repeat (first | exact SubL.nil | exact Pick.head | apply Pick.tail | apply SubL.cons)))) (q_pick_f rfl rfl) rfl ?_
        refine DW_q rfl (fun w hw => hw.sub (by (repeat (first | exact SubL.nil | exact Pick.head | apply Pick.tail | apply SubL.cons)))) (q_assign rfl) rfl ?_
        refine DW_nil ?_
        refine EW_then ?_
        refine CW_ret ?_
        refine EW_block_ret ?_
        refine EW_then_ret ?_
        refine ret1 Try.results19 rfl (fun w hw => ?_)
        refine ⟨congrArg (fun b => Ending.returned (Value.bool b)) (?_ : _ = mayS g s), hw.sub .nil⟩
        clear hw
        first | (simp [mayS, *]; done) | (simp [mayS, inlB, *]; rfl) | (simp_all [mayS, inlB]; done) | (simp_all [mayS, inlB]; rfl)
    · skip
      refine CW_seq ?_
      refine CW_region ?_
      refine OW_q (q_eqi rfl rfl) rfl ?_
      refine OW_q (q_assign rfl) rfl ?_
      refine OW_nil ?_
      refine EW_then ?_
      refine CW_cond rfl (fun h60 => ?_) (fun h60 => ?_)
      · skip
        have hop : s.op = 3 := by simpa using h60
        refine CW_seq ?_
        refine CW_seq ?_
        refine CW_drawS 21 [(0, false), (1, false), (2, false), (3, false), (4, false), (5, false), (6, false), (7, false), (8, false), (9, false), (10, false), (11, false), (12, false), (13, false), (14, false), (15, false), (16, false), (17, false), (18, true), (19, false), (20, false)] (by kernel_rfl) (Blind.then (Blind.then (Blind.block (Blind.then (Blind.body (by intro c w h; simp at h)))))) (by kernel_rfl) (fun w hw => hw.drew) ?_
        refine DW_q rfl (fun w hw => hw.sub (by (repeat (first | exact SubL.nil | exact Pick.head | apply Pick.tail | apply SubL.cons)))) (q_move rfl) rfl ?_
        refine DW_q rfl (fun w hw => hw.sub (by (repeat (first | exact SubL.nil | exact Pick.head | apply Pick.tail | apply SubL.cons)))) (q_not rfl) rfl ?_
        refine DW_q rfl (fun w hw => hw.sub (by (repeat (first | exact SubL.nil | exact Pick.head | apply Pick.tail | apply SubL.cons)))) (q_move rfl) rfl ?_
        refine DW_part (t := 64) rfl (fun hg64 => ?_) (fun hg64 => ?_)
        · skip
          have hnr : inR s.a 0 g.rules.length = false := by simpa using hg64
          refine DW_skip rfl (fun w hw => hw.sub (by (repeat (first | exact SubL.nil | exact Pick.head | apply Pick.tail | apply SubL.cons)))) rfl rfl rfl rfl ?_
          refine DW_skip rfl (fun w hw => hw.sub (by (repeat (first | exact SubL.nil | exact Pick.head | apply Pick.tail | apply SubL.cons)))) rfl rfl rfl rfl ?_
          refine DW_skip rfl (fun w hw => hw.sub (by (repeat (first | exact SubL.nil | exact Pick.head | apply Pick.tail | apply SubL.cons)))) rfl rfl rfl rfl ?_
          refine DW_q rfl (fun w hw => hw.sub (by (repeat (first | exact SubL.nil | exact Pick.head | apply Pick.tail | apply SubL.cons)))) (q_pick_t rfl rfl) rfl ?_
          refine DW_q rfl (fun w hw => hw.sub (by (repeat (first | exact SubL.nil | exact Pick.head | apply Pick.tail | apply SubL.cons)))) (q_move rfl) rfl ?_
          refine DW_skip rfl (fun w hw => hw.sub (by (repeat (first | exact SubL.nil | exact Pick.head | apply Pick.tail | apply SubL.cons)))) rfl rfl rfl rfl ?_
          refine DW_skip rfl (fun w hw => hw.sub (by (repeat (first | exact SubL.nil | exact Pick.head | apply Pick.tail | apply SubL.cons)))) rfl rfl rfl rfl ?_
          refine DW_skip rfl (fun w hw => hw.sub (by (repeat (first | exact SubL.nil | exact Pick.head | apply Pick.tail | apply SubL.cons)))) rfl rfl rfl rfl ?_
          refine DW_skip rfl (fun w hw => hw.sub (by (repeat (first | exact SubL.nil | exact Pick.head | apply Pick.tail | apply SubL.cons)))) rfl rfl rfl rfl ?_
          refine DW_skip rfl (fun w hw => hw.sub (by (repeat (first | exact SubL.nil | exact Pick.head | apply Pick.tail | apply SubL.cons)))) rfl rfl rfl rfl ?_
          refine DW_skip rfl (fun w hw => hw.sub (by (repeat (first | exact SubL.nil | exact Pick.head | apply Pick.tail | apply SubL.cons)))) rfl rfl rfl rfl ?_
          refine DW_skip rfl (fun w hw => hw.sub (by (repeat (first | exact SubL.nil | exact Pick.head | apply Pick.tail | apply SubL.cons)))) rfl rfl rfl rfl ?_
          refine DW_skip rfl (fun w hw => hw.sub (by (repeat (first | exact SubL.nil | exact Pick.head | apply Pick.tail | apply SubL.cons)))) rfl rfl rfl rfl ?_
          refine DW_skip rfl (fun w hw => hw.sub (by (repeat (first | exact SubL.nil | exact Pick.head | apply Pick.tail | apply SubL.cons)))) rfl rfl rfl rfl ?_
          refine DW_skip rfl (fun w hw => hw.sub (by (repeat (first | exact SubL.nil | exact Pick.head | apply Pick.tail | apply SubL.cons)))) rfl rfl rfl rfl ?_
          refine DW_eskip rfl (fun w hw => hw.sub (by (repeat (first | exact SubL.nil | exact Pick.head | apply Pick.tail | apply SubL.cons)))) rfl rfl rfl rfl ?_
          refine DW_skip rfl (fun w hw => hw.sub (by (repeat (first | exact SubL.nil | exact Pick.head | apply Pick.tail | apply SubL.cons)))) rfl rfl rfl rfl ?_
          refine DW_q rfl (fun w hw => hw.sub (by (repeat (first | exact SubL.nil | exact Pick.head | apply Pick.tail | apply SubL.cons)))) (q_pick_t rfl rfl) rfl ?_
          refine DW_nil ?_
          refine EW_then ?_
          refine CW_true rfl rfl ?_
          refine CW_seq ?_
          refine CW_region ?_
          refine OW_q (q_assign rfl) rfl ?_
          refine OW_nil ?_
          refine EW_then ?_
          refine CW_ret ?_
          refine EW_then_ret ?_
          refine EW_block_ret ?_
          refine EW_then_ret ?_
          refine ret1 Try.results19 rfl (fun w hw => ?_)
          refine ⟨congrArg (fun b => Ending.returned (Value.bool b)) (?_ : _ = mayS g s), hw.sub .nil⟩
          clear hw
          first | (simp [mayS, inlB, *]; done) | (simp [mayS, inlB, *]; rfl) | (simp_all [mayS, inlB]; done) | (simp_all [mayS, inlB]; rfl)
        · skip
          have hir : inR s.a 0 g.rules.length = true := by simpa using hg64
          obtain ⟨ha0, ha1⟩ := inR_true.1 hir
          obtain ⟨q, hq⟩ := get_of_lt (l := g.rules) (k := s.a.toNat) (by omega)
          obtain ⟨p, rfl, rvq, hsy, hrow⟩ := hrs s.a.toNat q hq
          obtain ⟨ya, yc, rfl, hy1, hy2, hys⟩ := id hsy
          have hra := ruleAt_get hq
          refine DW_qg rfl (fun w hw => hw.sub (by (repeat (first | exact SubL.nil | exact Pick.head | apply Pick.tail | apply SubL.cons)))) rfl rfl rfl (q_fieldAddr Try.underlying26 rfl rfl Try.sizeOf3 rfl rfl) rfl ?_
          first | (refine DW_qg rfl (fun w hw => hw.sub (by (repeat (first | exact SubL.nil | exact Pick.head | apply Pick.tail | apply SubL.cons)))) rfl rfl rfl (q_load1_own Try.isAgg3 rfl rfl (by (repeat (first | exact .head | apply Swap.tail))) (by rfl)) rfl ?_) | (refine DW_qg rfl (fun w hw => hw.sub (by (repeat (first | exact SubL.nil | exact Pick.head | apply Pick.tail | apply SubL.cons)))) rfl rfl rfl (q_load1_ro Try.isAgg3 rfl (by first | assumption | exact Row.at_ (by assumption) rfl)) rfl ?_)
          refine DW_qg rfl (fun w hw => hw.sub (by (repeat (first | exact SubL.nil | exact Pick.head | apply Pick.tail | apply SubL.cons)))) rfl rfl rfl (q_nei rfl rfl) rfl ?_
          refine DW_q rfl (fun w hw => hw.sub (by (repeat (first | exact SubL.nil | exact Pick.head | apply Pick.tail | apply SubL.cons)))) (q_pick_f rfl rfl) rfl ?_
          refine DW_q rfl (fun w hw => hw.sub (by (repeat (first | exact SubL.nil | exact Pick.head | apply Pick.tail | apply SubL.cons)))) (q_move rfl) rfl ?_
          refine DW_part (t := 69) rfl (fun hg69 => ?_) (fun hg69 => ?_)
          · skip
            refine DW_skip rfl (fun w hw => hw.sub (by (repeat (first | exact SubL.nil | exact Pick.head | apply Pick.tail | apply SubL.cons)))) rfl rfl rfl rfl ?_
            refine DW_skip rfl (fun w hw => hw.sub (by (repeat (first | exact SubL.nil | exact Pick.head | apply Pick.tail | apply SubL.cons)))) rfl rfl rfl rfl ?_
            refine DW_skip rfl (fun w hw => hw.sub (by (repeat (first | exact SubL.nil | exact Pick.head | apply Pick.tail | apply SubL.cons)))) rfl rfl rfl rfl ?_
            refine DW_skip rfl (fun w hw => hw.sub (by (repeat (first | exact SubL.nil | exact Pick.head | apply Pick.tail | apply SubL.cons)))) rfl rfl rfl rfl ?_
            refine DW_skip rfl (fun w hw => hw.sub (by (repeat (first | exact SubL.nil | exact Pick.head | apply Pick.tail | apply SubL.cons)))) rfl rfl rfl rfl ?_
            refine DW_skip rfl (fun w hw => hw.sub (by (repeat (first | exact SubL.nil | exact Pick.head | apply Pick.tail | apply SubL.cons)))) rfl rfl rfl rfl ?_
            refine DW_skip rfl (fun w hw => hw.sub (by (repeat (first | exact SubL.nil | exact Pick.head | apply Pick.tail | apply SubL.cons)))) rfl rfl rfl rfl ?_
            refine DW_skip rfl (fun w hw => hw.sub (by (repeat (first | exact SubL.nil | exact Pick.head | apply Pick.tail | apply SubL.cons)))) rfl rfl rfl rfl ?_
            refine DW_skip rfl (fun w hw => hw.sub (by (repeat (first | exact SubL.nil | exact Pick.head | apply Pick.tail | apply SubL.cons)))) rfl rfl rfl rfl ?_
            refine DW_skip rfl (fun w hw => hw.sub (by (repeat (first | exact SubL.nil | exact Pick.head | apply Pick.tail | apply SubL.cons)))) rfl rfl rfl rfl ?_
            refine DW_eskip rfl (fun w hw => hw.sub (by (repeat (first | exact SubL.nil | exact Pick.head | apply Pick.tail | apply SubL.cons)))) rfl rfl rfl rfl ?_
            refine DW_skip rfl (fun w hw => hw.sub (by (repeat (first | exact SubL.nil | exact Pick.head | apply Pick.tail | apply SubL.cons)))) rfl rfl rfl rfl ?_
            refine DW_q rfl (fun w hw => hw.sub (by (repeat (first | exact SubL.nil | exact Pick.head | apply Pick.tail | apply SubL.cons)))) (q_pick_t rfl rfl) rfl ?_
            refine DW_nil ?_
            refine EW_then ?_
            refine CW_true rfl rfl ?_
            refine CW_seq ?_
            refine CW_region ?_
            refine OW_q (q_assign rfl) rfl ?_
            refine OW_nil ?_
            refine EW_then ?_
            refine CW_ret ?_
            refine EW_then_ret ?_
            refine EW_block_ret ?_
            refine EW_then_ret ?_
            refine ret1 Try.results19 rfl (fun w hw => ?_)
            refine ⟨congrArg (fun b => Ending.returned (Value.bool b)) (?_ : _ = mayS g s), hw.sub .nil⟩
            clear hw
            first | (simp [mayS, inlB, *]; done) | (simp [mayS, inlB, *]; rfl) | (simp_all [mayS, inlB]; done) | (simp_all [mayS, inlB]; rfl)
          · skip
            refine DW_qg rfl (fun w hw => hw.sub (by (repeat (first | exact SubL.nil | exact Pick.head | apply Pick.tail | apply SubL.cons)))) rfl rfl rfl (q_fieldAddr Try.underlying26 rfl rfl Try.sizeOf3 rfl rfl) rfl ?_
            first | (refine DW_qg rfl (fun w hw => hw.sub (by (repeat (first | exact SubL.nil | exact Pick.head | apply Pick.tail | apply SubL.cons)))) rfl rfl rfl (q_load1_own Try.isAgg3 rfl rfl (by (repeat (first | exact .head | apply Swap.tail))) (by rfl)) rfl ?_) | (refine DW_qg rfl (fun w hw => hw.sub (by (repeat (first | exact SubL.nil | exact Pick.head | apply Pick.tail | apply SubL.cons)))) rfl rfl rfl (q_load1_ro Try.isAgg3 rfl (by first | assumption | exact Row.at_ (by assumption) rfl)) rfl ?_)
            refine DW_qg rfl (fun w hw => hw.sub (by (repeat (first | exact SubL.nil | exact Pick.head | apply Pick.tail | apply SubL.cons)))) rfl rfl rfl (q_fieldAddr Try.underlying24 rfl rfl Try.sizeOf22 rfl rfl) rfl ?_
            first | (refine DW_qg rfl (fun w hw => hw.sub (by (repeat (first | exact SubL.nil | exact Pick.head | apply Pick.tail | apply SubL.cons)))) rfl rfl rfl (q_load1_own Try.isAgg22 rfl rfl (by (repeat (first | exact .head | apply Swap.tail))) (by rfl)) rfl ?_) | (refine DW_qg rfl (fun w hw => hw.sub (by (repeat (first | exact SubL.nil | exact Pick.head | apply Pick.tail | apply SubL.cons)))) rfl rfl rfl (q_load1_ro Try.isAgg22 rfl (by first | assumption | exact Row.at_ (by assumption) rfl)) rfl ?_)
            refine DW_qg rfl (fun w hw => hw.sub (by (repeat (first | exact SubL.nil | exact Pick.head | apply Pick.tail | apply SubL.cons)))) rfl rfl rfl (q_fieldAddr Try.underlying26 rfl rfl Try.sizeOf3 rfl rfl) rfl ?_
            first | (refine DW_qg rfl (fun w hw => hw.sub (by (repeat (first | exact SubL.nil | exact Pick.head | apply Pick.tail | apply SubL.cons)))) rfl rfl rfl (q_load1_own Try.isAgg3 rfl rfl (by (repeat (first | exact .head | apply Swap.tail))) (by rfl)) rfl ?_) | (refine DW_qg rfl (fun w hw => hw.sub (by (repeat (first | exact SubL.nil | exact Pick.head | apply Pick.tail | apply SubL.cons)))) rfl rfl rfl (q_load1_ro Try.isAgg3 rfl (by first | assumption | exact Row.at_ (by assumption) rfl)) rfl ?_)
            refine DW_qg rfl (fun w hw => hw.sub (by (repeat (first | exact SubL.nil | exact Pick.head | apply Pick.tail | apply SubL.cons)))) rfl rfl rfl (q_indexAddrI Try.underlying22 Try.sizeOf49 rfl rfl (by first | omega | assumption) (by first | omega | assumption)) rfl ?_
            refine DW_qg rfl (fun w hw => hw.sub (by (repeat (first | exact SubL.nil | exact Pick.head | apply Pick.tail | apply SubL.cons)))) rfl rfl rfl (q_fieldAddr Try.underlying49 rfl rfl Try.sizeOf46 rfl rfl) rfl ?_
            refine DW_qg rfl (fun w hw => hw.sub (by (repeat (first | exact SubL.nil | exact Pick.head | apply Pick.tail | apply SubL.cons)))) rfl rfl rfl (q_load1_ro Try.isAgg46 rfl (by first | exact hrow.at_ (j := 1) rfl)) rfl ?_
            refine DW_qg rfl (fun w hw => hw.sub (by (repeat (first | exact SubL.nil | exact Pick.head | apply Pick.tail | apply SubL.cons)))) rfl rfl rfl (q_len Try.underlying46 rfl) rfl ?_
            refine DW_eg rfl rfl rfl rfl (e_call Try.call27 rfl (fun w hw => lift_same (inS_any _ _ _ w) hw)) rfl (fun _ w hw => by first | exact hw.sub (by (repeat (first | exact SubL.nil | exact Pick.head | apply Pick.tail | apply SubL.cons))) | exact hw.2.sub (by (repeat (first | exact SubL.nil | exact Pick.head | apply Pick.tail | apply SubL.cons)))) (fun x80 => ?_)
            refine DW_qg rfl (fun w hw => hw.sub (by (repeat (first | exact SubL.nil | exact Pick.head | apply Pick.tail | apply SubL.cons)))) rfl rfl rfl (q_not rfl) rfl ?_
            refine DW_q rfl (fun w hw => hw.sub (by (repeat (first | exact SubL.nil | exact Pick.head | apply Pick.tail | apply SubL.cons)))) (q_pick_f rfl rfl) rfl ?_
            refine DW_nil ?_
            refine EW_then ?_
            refine CW_cond rfl (fun h82 => ?_) (fun h82 => ?_)
            · skip
              refine CW_seq ?_
              refine CW_region ?_
              refine OW_q (q_assign rfl) rfl ?_
              refine OW_nil ?_
              refine EW_then ?_
              refine CW_ret ?_
              refine EW_then_ret ?_
              refine EW_block_ret ?_
              refine EW_then_ret ?_
              refine ret1 Try.results19 rfl (fun w hw => ?_)
              refine ⟨congrArg (fun b => Ending.returned (Value.bool b)) (?_ : _ = mayS g s), hw.sub .nil⟩
              clear hw
              first | (simp [mayS, inlB, *]; done) | (simp [mayS, inlB, *]; rfl) | (simp_all [mayS, inlB]; done) | (simp_all [mayS, inlB]; rfl)
            · skip
              obtain ⟨hb0, hb1⟩ : 0 ≤ s.b ∧ s.b < (q.right.length : Int) := inR_true.1 (by simpa using h82)
              obtain ⟨y, hyx⟩ := get_of_lt (l := q.right) (k := s.b.toNat) (by omega)
              obtain ⟨py, rfl, hry⟩ := hys s.b.toNat y hyx
              refine CW_skip ?_
              refine EW_then ?_
              refine CW_seq ?_
              refine CW_drawS 12 [(0, false), (1, false), (2, false), (3, false), (4, false), (5, false), (6, false), (7, false), (8, false), (9, false), (10, false), (11, true), (12, true)] (by kernel_rfl) (Blind.then (Blind.block (Blind.then (Blind.body (by intro c w h; simp at h))))) (by kernel_rfl) (fun w hw => hw.drew) ?_
              refine DW_q rfl (fun w hw => hw.sub (by (repeat (first | exact SubL.nil | exact Pick.head | apply Pick.tail | apply SubL.cons)))) (q_fieldAddr Try.underlying24 rfl rfl Try.sizeOf22 rfl rfl) rfl ?_
              first | (refine DW_q rfl (fun w hw => hw.sub (by (repeat (first | exact SubL.nil | exact Pick.head | apply Pick.tail | apply SubL.cons)))) (q_load1_own Try.isAgg22 rfl rfl (by (repeat (first | exact .head | apply Swap.tail))) (by rfl)) rfl ?_) | (refine DW_q rfl (fun w hw => hw.sub (by (repeat (first | exact SubL.nil | exact Pick.head | apply Pick.tail | apply SubL.cons)))) (q_load1_ro Try.isAgg22 rfl (by first | assumption | exact Row.at_ (by assumption) rfl)) rfl ?_)
              refine DW_q rfl (fun w hw => hw.sub (by (repeat (first | exact SubL.nil | exact Pick.head | apply Pick.tail | apply SubL.cons)))) (q_fieldAddr Try.underlying26 rfl rfl Try.sizeOf3 rfl rfl) rfl ?_
              first | (refine DW_q rfl (fun w hw => hw.sub (by (repeat (first | exact SubL.nil | exact Pick.head | apply Pick.tail | apply SubL.cons)))) (q_load1_own Try.isAgg3 rfl rfl (by (repeat (first | exact .head | apply Swap.tail))) (by rfl)) rfl ?_) | (refine DW_q rfl (fun w hw => hw.sub (by (repeat (first | exact SubL.nil | exact Pick.head | apply Pick.tail | apply SubL.cons)))) (q_load1_ro Try.isAgg3 rfl (by first | assumption | exact Row.at_ (by assumption) rfl)) rfl ?_)
              refine DW_q rfl (fun w hw => hw.sub (by (repeat (first | exact SubL.nil | exact Pick.head | apply Pick.tail | apply SubL.cons)))) (q_indexAddrI Try.underlying22 Try.sizeOf49 rfl rfl (by first | omega | assumption) (by first | omega | assumption)) rfl ?_
              refine DW_q rfl (fun w hw => hw.sub (by (repeat (first | exact SubL.nil | exact Pick.head | apply Pick.tail | apply SubL.cons)))) (q_fieldAddr Try.underlying49 rfl rfl Try.sizeOf46 rfl rfl) rfl ?_
              refine DW_q rfl (fun w hw => hw.sub (by (repeat (first | exact SubL.nil | exact Pick.head | apply Pick.tail | apply SubL.cons)))) (q_load1_ro Try.isAgg46 rfl (by first | exact hrow.at_ (j := 1) rfl)) rfl ?_
              refine DW_q rfl (fun w hw => hw.sub (by (repeat (first | exact SubL.nil | exact Pick.head | apply Pick.tail | apply SubL.cons)))) (q_fieldAddr Try.underlying26 rfl rfl Try.sizeOf3 rfl rfl) rfl ?_
              first | (refine DW_q rfl (fun w hw => hw.sub (by (repeat (first | exact SubL.nil | exact Pick.head | apply Pick.tail | apply SubL.cons)))) (q_load1_own Try.isAgg3 rfl rfl (by (repeat (first | exact .head | apply Swap.tail))) (by rfl)) rfl ?_) | (refine DW_q rfl (fun w hw => hw.sub (by (repeat (first | exact SubL.nil | exact Pick.head | apply Pick.tail | apply SubL.cons)))) (q_load1_ro Try.isAgg3 rfl (by first | assumption | exact Row.at_ (by assumption) rfl)) rfl ?_)
              refine DW_q rfl (fun w hw => hw.sub (by (repeat (first | exact SubL.nil | exact Pick.head | apply Pick.tail | apply SubL.cons)))) (q_indexAddrI Try.underlying46 Try.sizeOf51 rfl rfl (by first | omega | assumption) (by first | omega | assumption)) rfl ?_
              refine DW_q rfl (fun w hw => hw.sub (by (repeat (first | exact SubL.nil | exact Pick.head | apply Pick.tail | apply SubL.cons)))) (q_loadN_ro Try.isAgg51 Try.sizeOf51 rfl (by first | exact hry) (by rfl)) rfl ?_
              refine DW_e rfl (e_alloc Try.zeroValue51 rfl) rfl (fun _ w hw => by first | exact hw.sub (by (repeat (first | exact SubL.nil | exact Pick.head | apply Pick.tail | apply SubL.cons))) | exact hw.2.sub (by (repeat (first | exact SubL.nil | exact Pick.head | apply Pick.tail | apply SubL.cons)))) (fun b6 => ?_)
              refine DW_z0 rfl (e_storeN Try.sizeOf51 rfl rfl rfl rfl (by simp [Value.oneCell']) (by (repeat (first | exact .head | apply Swap.tail))) (by rfl)) (fun _ => ?_)
              refine EW_then ?_
              refine CW_seq ?_
              refine CW_drawS 16 [(0, false), (1, false), (2, false), (3, false), (4, false), (5, false), (6, false), (7, false), (8, false), (9, false), (10, false), (11, false), (12, false), (13, false), (14, false), (15, false)] (by kernel_rfl) (Blind.then (Blind.block (Blind.then (Blind.body (by intro c w h; simp at h))))) (by kernel_rfl) (fun w hw => hw.drew) ?_
              refine DW_q rfl (fun w hw => hw.sub (by (repeat (first | exact SubL.nil | exact Pick.head | apply Pick.tail | apply SubL.cons)))) (q_fieldAddr Try.underlying51 rfl rfl Try.sizeOf4 rfl rfl) rfl ?_
              first | (refine DW_q rfl (fun w hw => hw.sub (by (repeat (first | exact SubL.nil | exact Pick.head | apply Pick.tail | apply SubL.cons)))) (q_load1_own Try.isAgg4 rfl rfl (by (repeat (first | exact .head | apply Swap.tail))) (by rfl)) rfl ?_) | (refine DW_q rfl (fun w hw => hw.sub (by (repeat (first | exact SubL.nil | exact Pick.head | apply Pick.tail | apply SubL.cons)))) (q_load1_ro Try.isAgg4 rfl (by first | assumption | exact Row.at_ (by assumption) rfl)) rfl ?_)
              refine DW_q rfl (fun w hw => hw.sub (by (repeat (first | exact SubL.nil | exact Pick.head | apply Pick.tail | apply SubL.cons)))) (q_not rfl) rfl ?_
              refine DW_q rfl (fun w hw => hw.sub (by (repeat (first | exact SubL.nil | exact Pick.head | apply Pick.tail | apply SubL.cons)))) (q_move rfl) rfl ?_
              refine DW_part (t := 97) rfl (fun hg97 => ?_) (fun hg97 => ?_)
              · skip
                refine DW_qg rfl (fun w hw => hw.sub (by (repeat (first | exact SubL.nil | exact Pick.head | apply Pick.tail | apply SubL.cons)))) rfl rfl rfl (q_fieldAddr Try.underlying51 rfl rfl Try.sizeOf3 rfl rfl) rfl ?_
                first | (refine DW_qg rfl (fun w hw => hw.sub (by (repeat (first | exact SubL.nil | exact Pick.head | apply Pick.tail | apply SubL.cons)))) rfl rfl rfl (q_load1_own Try.isAgg3 rfl rfl (by (repeat (first | exact .head | apply Swap.tail))) (by rfl)) rfl ?_) | (refine DW_qg rfl (fun w hw => hw.sub (by (repeat (first | exact SubL.nil | exact Pick.head | apply Pick.tail | apply SubL.cons)))) rfl rfl rfl (q_load1_ro Try.isAgg3 rfl (by first | assumption | exact Row.at_ (by assumption) rfl)) rfl ?_)
                refine DW_qg rfl (fun w hw => hw.sub (by (repeat (first | exact SubL.nil | exact Pick.head | apply Pick.tail | apply SubL.cons)))) rfl rfl rfl (q_fieldAddr Try.underlying24 rfl rfl Try.sizeOf22 rfl rfl) rfl ?_
                first | (refine DW_qg rfl (fun w hw => hw.sub (by (repeat (first | exact SubL.nil | exact Pick.head | apply Pick.tail | apply SubL.cons)))) rfl rfl rfl (q_load1_own Try.isAgg22 rfl rfl (by (repeat (first | exact .head | apply Swap.tail))) (by rfl)) rfl ?_) | (refine DW_qg rfl (fun w hw => hw.sub (by (repeat (first | exact SubL.nil | exact Pick.head | apply Pick.tail | apply SubL.cons)))) rfl rfl rfl (q_load1_ro Try.isAgg22 rfl (by first | assumption | exact Row.at_ (by assumption) rfl)) rfl ?_)
                refine DW_qg rfl (fun w hw => hw.sub (by (repeat (first | exact SubL.nil | exact Pick.head | apply Pick.tail | apply SubL.cons)))) rfl rfl rfl (q_fieldAddr Try.underlying26 rfl rfl Try.sizeOf3 rfl rfl) rfl ?_
                first | (refine DW_qg rfl (fun w hw => hw.sub (by (repeat (first | exact SubL.nil | exact Pick.head | apply Pick.tail | apply SubL.cons)))) rfl rfl rfl (q_load1_own Try.isAgg3 rfl rfl (by (repeat (first | exact .head | apply Swap.tail))) (by rfl)) rfl ?_) | (refine DW_qg rfl (fun w hw => hw.sub (by (repeat (first | exact SubL.nil | exact Pick.head | apply Pick.tail | apply SubL.cons)))) rfl rfl rfl (q_load1_ro Try.isAgg3 rfl (by first | assumption | exact Row.at_ (by assumption) rfl)) rfl ?_)
                refine DW_qg rfl (fun w hw => hw.sub (by (repeat (first | exact SubL.nil | exact Pick.head | apply Pick.tail | apply SubL.cons)))) rfl rfl rfl (q_indexAddrI Try.underlying22 Try.sizeOf49 rfl rfl (by first | omega | assumption) (by first | omega | assumption)) rfl ?_
                refine DW_qg rfl (fun w hw => hw.sub (by (repeat (first | exact SubL.nil | exact Pick.head | apply Pick.tail | apply SubL.cons)))) rfl rfl rfl (q_fieldAddr Try.underlying49 rfl rfl Try.sizeOf3 rfl rfl) rfl ?_
                refine DW_qg rfl (fun w hw => hw.sub (by (repeat (first | exact SubL.nil | exact Pick.head | apply Pick.tail | apply SubL.cons)))) rfl rfl rfl (q_load1_ro Try.isAgg3 rfl (by first | exact Row.at0 hrow)) rfl ?_
                refine DW_qg rfl (fun w hw => hw.sub (by (repeat (first | exact SubL.nil | exact Pick.head | apply Pick.tail | apply SubL.cons)))) rfl rfl rfl (q_nei rfl rfl) rfl ?_
                refine DW_q rfl (fun w hw => hw.sub (by (repeat (first | exact SubL.nil | exact Pick.head | apply Pick.tail | apply SubL.cons)))) (q_pick_t rfl rfl) rfl ?_
                refine DW_q rfl (fun w hw => hw.sub (by (repeat (first | exact SubL.nil | exact Pick.head | apply Pick.tail | apply SubL.cons)))) (q_assign rfl) rfl ?_
                refine DW_nil ?_
                refine EW_then ?_
                refine CW_ret ?_
                refine EW_block_ret ?_
                refine EW_then_ret ?_
                refine ret1 Try.results19 rfl (fun w hw => ?_)
                refine ⟨congrArg (fun b => Ending.returned (Value.bool b)) (?_ : _ = mayS g s), hw.sub .nil⟩
                clear hw
                first | (simp [mayS, inlB, *]; done) | (simp [mayS, inlB, *]; rfl) | (simp_all [mayS, inlB]; done) | (simp_all [mayS, inlB]; rfl)
              · skip
                refine DW_skip rfl (fun w hw => hw.sub (by (repeat (first | exact SubL.nil | exact Pick.head | apply Pick.tail | apply SubL.cons)))) rfl rfl rfl rfl ?_
                refine DW_skip rfl (fun w hw => hw.sub (by (repeat (first | exact SubL.nil | exact Pick.head | apply Pick.tail | apply SubL.cons)))) rfl rfl rfl rfl ?_
                refine DW_skip rfl (fun w hw => hw.sub (by (repeat (first | exact SubL.nil | exact Pick.head | apply Pick.tail | apply SubL.cons)))) rfl rfl rfl rfl ?_
                refine DW_skip rfl (fun w hw => hw.sub (by (repeat (first | exact SubL.nil | exact Pick.head | apply Pick.tail | apply SubL.cons)))) rfl rfl rfl rfl ?_
                refine DW_skip rfl (fun w hw => hw.sub (by (repeat (first | exact SubL.nil | exact Pick.head | apply Pick.tail | apply SubL.cons)))) rfl rfl rfl rfl ?_
                refine DW_skip rfl (fun w hw => hw.sub (by (repeat (first | exact SubL.nil | exact Pick.head | apply Pick.tail | apply SubL.cons)))) rfl rfl rfl rfl ?_
                refine DW_skip rfl (fun w hw => hw.sub (by (repeat (first | exact SubL.nil | exact Pick.head | apply Pick.tail | apply SubL.cons)))) rfl rfl rfl rfl ?_
                refine DW_skip rfl (fun w hw => hw.sub (by (repeat (first | exact SubL.nil | exact Pick.head | apply Pick.tail | apply SubL.cons)))) rfl rfl rfl rfl ?_
                refine DW_skip rfl (fun w hw => hw.sub (by (repeat (first | exact SubL.nil | exact Pick.head | apply Pick.tail | apply SubL.cons)))) rfl rfl rfl rfl ?_
                refine DW_skip rfl (fun w hw => hw.sub (by (repeat (first | exact SubL.nil | exact Pick.head | apply Pick.tail | apply SubL.cons)))) rfl rfl rfl rfl ?_
                refine DW_q rfl (fun w hw => hw.sub (by (repeat (first | exact SubL.nil | exact Pick.head | apply Pick.tail | apply SubL.cons)))) (q_pick_f rfl rfl) rfl ?_
                refine DW_q rfl (fun w hw => hw.sub (by (repeat (first | exact SubL.nil | exact Pick.head | apply Pick.tail | apply SubL.cons)))) (q_assign rfl) rfl ?_
                refine DW_nil ?_
                refine EW_then ?_
                refine CW_ret ?_
                refine EW_block_ret ?_
                refine EW_then_ret ?_
                refine ret1 Try.results19 rfl (fun w hw => ?_)
                refine ⟨congrArg (fun b => Ending.returned (Value.bool b)) (?_ : _ = mayS g s), hw.sub .nil⟩
                clear hw
                first | (simp [mayS, inlB, *]; done) | (simp [mayS, inlB, *]; rfl) | (simp_all [mayS, inlB]; done) | (simp_all [mayS, inlB]; rfl)
      · skip
        refine CW_seq ?_
        refine CW_region ?_
        refine OW_q (q_eqi rfl rfl) rfl ?_
        refine OW_q (q_assign rfl) rfl ?_
        refine OW_nil ?_
        refine EW_then ?_
        refine CW_cond rfl (fun h109 => ?_) (fun h109 => ?_)
        · skip
          have hop : s.op = 4 := by simpa using h109
          refine CW_seq ?_
          refine CW_region ?_
          refine OW_q (q_assign rfl) rfl ?_
          refine OW_nil ?_
          refine EW_then ?_
          refine CW_seq ?_
          refine CW_seq ?_
          refine CW_region ?_
          first | (refine OW_q (q_loadN_own Try.isAgg24 Try.sizeOf24 rfl rfl (by (repeat (first | exact .head | apply Swap.tail))) (by rfl)) rfl ?_) | (refine OW_q (q_loadN_ro Try.isAgg24 Try.sizeOf24 rfl (by first | assumption | exact Row.at_ (by assumption) rfl) (by rfl)) rfl ?_)
          refine OW_q (q_fieldAddr Try.underlying26 rfl rfl Try.sizeOf3 rfl rfl) rfl ?_
          first | (refine OW_q (q_load1_own Try.isAgg3 rfl rfl (by (repeat (first | exact .head | apply Swap.tail))) (by rfl)) rfl ?_) | (refine OW_q (q_load1_ro Try.isAgg3 rfl (by first | assumption | exact Row.at_ (by assumption) rfl)) rfl ?_)
          refine OW_e (e_call Try.call28 rfl (fun w hw => lift_old (ofS_any _ g s.a w (by omega) (hg0.mono (fun _ _ h => hw.rd (Rd.old h)))) hw)) rfl (fun x114 => ?_)
          refine OW_fact (fun w hw => hw.tform (v := x114) (l := ((ofL g.rules s.a).map (fun (z : Nat) => (z : Int)))) (enc := encN) (by repeat (first | exact .head | apply Swap.tail))) (fun hf => ?_)
          obtain ⟨aq, cq, rfl, _, _, hqb⟩ := hf
          rw [List.length_map] at hqb
          refine OW_spell 114 (.slice aq (ofL g.rules s.a).length cq) rfl (by rw [List.length_map]) ?_
          refine OW_weak (S' := Sat (Old w) w [trow 3 1 encN (.slice aq (ofL g.rules s.a).length cq) ((ofL g.rules s.a).map (fun (z : Nat) => (z : Int))), cel b3 26 [.int .i64 s.op, .int .i64 s.a, .int .i64 s.b, .int .i64 s.c], cel b2 24 [.int .i64 g.terms, .int .i64 g.names, .slice a g.rules.length c]]) (fun w hw => by rw [List.length_map] at hw; exact hw) ?_
          refine OW_q (q_len Try.underlying32 rfl) rfl ?_
          refine OW_q (q_move rfl) rfl ?_
          refine OW_nil ?_
          refine EW_then ?_
          refine CW_block ?_
          refine CW_loopP (ι := Nat × Bool) (fun i_ => i_.1 ≤ (ofL g.rules s.a).length ∧ (i_.2 = true ↔ ∃ j' ∈ (ofL g.rules s.a).take i_.1, ∃ r', g.rules[j']? = some r' ∧ loopsB r' = true) ∧ ∀ j' ∈ (ofL g.rules s.a).take i_.1, ∀ r', g.rules[j']? = some r' → loopsB r' = true → r'.right.length ≠ 1) (fun i_ => [(2, .pointer (some ⟨b2, 0, none⟩)), (3, .pointer (some ⟨b3, 0, none⟩)), (7, .bool i_.2), (114, .slice aq (ofL g.rules s.a).length cq), (115, .int .i64 ((ofL g.rules s.a).length : Int)), (116, .int .i64 (i_.1 : Int))]) (fun i_ => Sat (Old w) w [trow 3 1 encN (.slice aq (ofL g.rules s.a).length cq) ((ofL g.rules s.a).map (fun (z : Nat) => (z : Int))), cel b3 26 [.int .i64 s.op, .int .i64 s.a, .int .i64 s.b, .int .i64 s.c], cel b2 24 [.int .i64 g.terms, .int .i64 g.names, .slice a g.rules.length c]]) (fun i_ => (ofL g.rules s.a).length - i_.1) (0, false) ?_ ⟨rfl, rfl, rfl, rfl, rfl, rfl, trivial⟩ (fun w hw => hw.sub (by (repeat (first | exact SubL.nil | exact Pick.head | apply Pick.tail | apply SubL.cons)))) ?_
          · exact ⟨Nat.zero_le _, by simp, by simp⟩
          intro i_ hpre
          obtain ⟨k, sm⟩ := i_
          replace hpre : k ≤ (ofL g.rules s.a).length ∧ (sm = true ↔ ∃ j' ∈ (ofL g.rules s.a).take k, ∃ r', g.rules[j']? = some r' ∧ loopsB r' = true) ∧ ∀ j' ∈ (ofL g.rules s.a).take k, ∀ r', g.rules[j']? = some r' → loopsB r' = true → r'.right.length ≠ 1 := hpre
          change CW _ _ _ _ [(2, .pointer (some ⟨b2, 0, none⟩)), (3, .pointer (some ⟨b3, 0, none⟩)), (7, .bool sm), (114, .slice aq (ofL g.rules s.a).length cq), (115, .int .i64 ((ofL g.rules s.a).length : Int)), (116, .int .i64 (k : Int))] (Sat (Old w) w [trow 3 1 encN (.slice aq (ofL g.rules s.a).length cq) ((ofL g.rules s.a).map (fun (z : Nat) => (z : Int))), cel b3 26 [.int .i64 s.op, .int .i64 s.a, .int .i64 s.b, .int .i64 s.c], cel b2 24 [.int .i64 g.terms, .int .i64 g.names, .slice a g.rules.length c]])
          obtain ⟨hk, hsm, hno⟩ := hpre
          have hol : (ofL g.rules s.a).length ≤ g.rules.length := ofLk_len _ _ _
          refine CW_seq ?_
          refine CW_region ?_
          refine OW_q (q_lss rfl rfl) rfl ?_
          refine OW_nil ?_
          refine EW_then ?_
          refine CW_seq ?_
          refine CW_cond rfl (fun h117 => ?_) (fun h117 => ?_)
          · skip
            have hlk : k < (ofL g.rules s.a).length := by have := of_decide_eq_true h117; omega
            obtain ⟨j, hj⟩ := get_of_lt hlk
            have hjm : (((ofL g.rules s.a).map (fun (z : Nat) => (z : Int))))[k]? = some ((j : Nat) : Int) := by rw [List.getElem?_map, hj]; rfl
            obtain ⟨bq, rfl⟩ := hqb (by omega)
            obtain ⟨q, hq, hql⟩ := ofL_mem (List.mem_of_getElem? hj)
            have hqr := (List.getElem?_eq_some_iff.1 hq).1
            obtain ⟨p, rfl, rvq, hsy, hrow⟩ := hrs j q hq
            obtain ⟨ya, yc, rfl, hy1, hy2, hys⟩ := id hsy
            refine CW_skip ?_
            refine EW_then ?_
            refine CW_seq ?_
            refine CW_block ?_
            refine CW_seq ?_
            refine CW_region ?_
            refine OW_q (q_indexAddr Try.underlying32 Try.sizeOf3 rfl rfl (by first | omega | assumption)) rfl ?_
            refine OW_q (q_load_t1 (enc := encN) (k := k) (v := .slice (some ⟨bq, 0, none⟩) (ofL g.rules s.a).length cq) (l := ((ofL g.rules s.a).map (fun (z : Nat) => (z : Int)))) Try.isAgg3 (fun _ => rfl) rfl (by repeat (first | exact .head | apply Swap.tail)) rfl hjm rfl) rfl ?_
            refine OW_q (q_assign rfl) rfl ?_
            refine OW_nil ?_
            refine EW_then ?_
            refine CW_seq ?_
            refine CW_region ?_
            refine OW_q (q_move rfl) rfl ?_
            refine OW_q (q_move rfl) rfl ?_
            refine OW_part (t := 121) rfl (fun hg121 => ?_) (fun hg121 => ?_)
            · skip
              refine OW_skip rfl rfl rfl rfl ?_
              refine OW_skip rfl rfl rfl rfl ?_
              refine OW_skip rfl rfl rfl rfl ?_
              refine OW_skip rfl rfl rfl rfl ?_
              refine OW_skip rfl rfl rfl rfl ?_
              refine OW_skip rfl rfl rfl rfl ?_
              refine OW_q (q_pick_t rfl rfl) rfl ?_
              refine OW_q (q_assign rfl) rfl ?_
              refine OW_nil ?_
              refine EW_then ?_
              refine CW_seq ?_
              refine CW_region ?_
              refine OW_q (q_fieldAddr Try.underlying24 rfl rfl Try.sizeOf22 rfl rfl) rfl ?_
              first | (refine OW_q (q_load1_own Try.isAgg22 rfl rfl (by (repeat (first | exact .head | apply Swap.tail))) (by rfl)) rfl ?_) | (refine OW_q (q_load1_ro Try.isAgg22 rfl (by first | assumption | exact Row.at_ (by assumption) rfl)) rfl ?_)
              refine OW_q (q_move rfl) rfl ?_
              refine OW_q (q_indexAddr Try.underlying22 Try.sizeOf49 rfl rfl (by first | omega | assumption)) rfl ?_
              refine OW_q (q_loadN_ro Try.isAgg49 Try.sizeOf49 rfl (by first | exact hrow) (by rfl)) rfl ?_
              refine OW_e (e_call Try.call29 rfl (fun w hw => lift_ro (loops_any q _ w (hsy.mono fun _ _ h => hw.rd h)) hw)) rfl (fun x134 => ?_)
              refine OW_q (q_move rfl) rfl ?_
              refine OW_part (t := 135) rfl (fun hg135 => ?_) (fun hg135 => ?_)
              · skip
                refine OW_wanted rfl rfl rfl ?_
                refine OW_q (q_fieldAddr Try.underlying24 rfl rfl Try.sizeOf22 rfl rfl) rfl ?_
                refine OW_wanted rfl rfl rfl ?_
                first | (refine OW_q (q_load1_own Try.isAgg22 rfl rfl (by (repeat (first | exact .head | apply Swap.tail))) (by rfl)) rfl ?_) | (refine OW_q (q_load1_ro Try.isAgg22 rfl (by first | assumption | exact Row.at_ (by assumption) rfl)) rfl ?_)
                refine OW_wanted rfl rfl rfl ?_
                refine OW_q (q_move rfl) rfl ?_
                refine OW_wanted rfl rfl rfl ?_
                refine OW_q (q_indexAddr Try.underlying22 Try.sizeOf49 rfl rfl (by first | omega | assumption)) rfl ?_
                refine OW_wanted rfl rfl rfl ?_
                refine OW_q (q_fieldAddr Try.underlying49 rfl rfl Try.sizeOf46 rfl rfl) rfl ?_
                refine OW_wanted rfl rfl rfl ?_
                refine OW_q (q_load1_ro Try.isAgg46 rfl (by first | exact hrow.at_ (j := 1) rfl)) rfl ?_
                refine OW_wanted rfl rfl rfl ?_
                refine OW_q (q_len Try.underlying46 rfl) rfl ?_
                refine OW_wanted rfl rfl rfl ?_
                refine OW_q (q_eqi rfl rfl) rfl ?_
                refine OW_q (q_pick_t rfl rfl) rfl ?_
                refine OW_nil ?_
                refine EW_then ?_
                refine CW_cond rfl (fun h144 => ?_) (fun h144 => ?_)
                · skip
                  have hlb : leftB g s.a = false := Bool.eq_false_iff.2 fun h => (leftB_iff.1 h).2 j (List.mem_of_getElem? hj) q hq hg135 (by simp at h144; omega)
                  refine CW_seq ?_
                  refine CW_region ?_
                  refine OW_q (q_assign rfl) rfl ?_
                  refine OW_nil ?_
                  refine EW_then ?_
                  refine CW_ret ?_
                  refine EW_block_ret ?_
                  refine EW_then_ret ?_
                  refine EW_out_ret ?_
                  refine EW_block_ret ?_
                  refine EW_then_ret ?_
                  refine EW_block_ret ?_
                  refine EW_then_ret ?_
                  refine ret1 Try.results19 rfl (fun w hw => ?_)
                  refine ⟨congrArg (fun b => Ending.returned (Value.bool b)) (?_ : _ = mayS g s), hw.sub .nil⟩
                  clear hw
                  first | (simp [mayS, *]; done) | (simp [mayS, inlB, *]; rfl) | (simp_all [mayS, inlB]; done) | (simp_all [mayS, inlB]; rfl)
                · skip
                  refine CW_skip ?_
                  refine EW_block_normal ?_
                  refine EW_then ?_
                  refine CW_region ?_
                  first | refine OW_q (q_inc rfl rfl (by omega)) rfl ?_ | refine OW_q (q_add rfl rfl (by omega) (by omega)) rfl ?_
                  refine OW_q (q_move rfl) rfl ?_
                  refine OW_nil ?_
                  refine EW_again ((k + 1, true)) ⟨?_, ?_⟩ ⟨rfl, rfl, rfl, rfl, rfl, rfl, trivial⟩ (fun w hw => hw.sub (by (repeat (first | exact SubL.nil | exact Pick.head | apply Pick.tail | apply SubL.cons))))
                  · show (ofL g.rules s.a).length - (k + 1) < (ofL g.rules s.a).length - k; omega
                  · refine ⟨by show k + 1 ≤ _; omega, ?_, fun j' hj' r' hr' hl' => ?_⟩
                    · show (true : Bool) = true ↔ _
                      refine ⟨fun _ => ?_, fun _ => rfl⟩
                      obtain ⟨j', h1, r', h2, h3⟩ := hsm.1 hg121
                      exact ⟨j', by rw [take_next hj]; exact List.mem_append_left _ h1, r', h2, h3⟩
                    · have hj' : j' ∈ (ofL g.rules s.a).take (k + 1) := hj'
                      rw [take_next hj, List.mem_append] at hj'
                      rcases hj' with hj' | hj'
                      · exact hno j' hj' r' hr' hl'
                      · rw [List.mem_singleton.1 hj', hq] at hr'
                        cases hr'
                        (intro e; simp at h144; omega)
              · skip
                refine OW_skip rfl rfl rfl rfl ?_
                refine OW_skip rfl rfl rfl rfl ?_
                refine OW_skip rfl rfl rfl rfl ?_
                refine OW_skip rfl rfl rfl rfl ?_
                refine OW_skip rfl rfl rfl rfl ?_
                refine OW_skip rfl rfl rfl rfl ?_
                refine OW_skip rfl rfl rfl rfl ?_
                refine OW_skip rfl rfl rfl rfl ?_
                refine OW_q (q_pick_f rfl rfl) rfl ?_
                refine OW_nil ?_
                refine EW_then ?_
                refine CW_false rfl rfl ?_
                refine CW_skip ?_
                refine EW_block_normal ?_
                refine EW_then ?_
                refine CW_region ?_
                first | refine OW_q (q_inc rfl rfl (by omega)) rfl ?_ | refine OW_q (q_add rfl rfl (by omega) (by omega)) rfl ?_
                refine OW_q (q_move rfl) rfl ?_
                refine OW_nil ?_
                refine EW_again ((k + 1, true)) ⟨?_, ?_⟩ ⟨rfl, rfl, rfl, rfl, rfl, rfl, trivial⟩ (fun w hw => hw.sub (by (repeat (first | exact SubL.nil | exact Pick.head | apply Pick.tail | apply SubL.cons))))
                · show (ofL g.rules s.a).length - (k + 1) < (ofL g.rules s.a).length - k; omega
                · refine ⟨by show k + 1 ≤ _; omega, ?_, fun j' hj' r' hr' hl' => ?_⟩
                  · show (true : Bool) = true ↔ _
                    refine ⟨fun _ => ?_, fun _ => rfl⟩
                    obtain ⟨j', h1, r', h2, h3⟩ := hsm.1 hg121
                    exact ⟨j', by rw [take_next hj]; exact List.mem_append_left _ h1, r', h2, h3⟩
                  · have hj' : j' ∈ (ofL g.rules s.a).take (k + 1) := hj'
                    rw [take_next hj, List.mem_append] at hj'
                    rcases hj' with hj' | hj'
                    · exact hno j' hj' r' hr' hl'
                    · rw [List.mem_singleton.1 hj', hq] at hr'
                      cases hr'
                      exact absurd hl' (by simp [hg135])
            · skip
              refine OW_wanted rfl rfl rfl ?_
              refine OW_q (q_fieldAddr Try.underlying24 rfl rfl Try.sizeOf22 rfl rfl) rfl ?_
              refine OW_wanted rfl rfl rfl ?_
              first | (refine OW_q (q_load1_own Try.isAgg22 rfl rfl (by (repeat (first | exact .head | apply Swap.tail))) (by rfl)) rfl ?_) | (refine OW_q (q_load1_ro Try.isAgg22 rfl (by first | assumption | exact Row.at_ (by assumption) rfl)) rfl ?_)
              refine OW_wanted rfl rfl rfl ?_
              refine OW_q (q_move rfl) rfl ?_
              refine OW_wanted rfl rfl rfl ?_
              refine OW_q (q_indexAddr Try.underlying22 Try.sizeOf49 rfl rfl (by first | omega | assumption)) rfl ?_
              refine OW_wanted rfl rfl rfl ?_
              refine OW_q (q_loadN_ro Try.isAgg49 Try.sizeOf49 rfl (by first | exact hrow) (by rfl)) rfl ?_
              refine OW_wanted rfl rfl rfl ?_
              refine OW_e (e_call Try.call29 rfl (fun w hw => lift_ro (loops_any q _ w (hsy.mono fun _ _ h => hw.rd h)) hw)) rfl (fun x127 => ?_)
              refine OW_q (q_pick_f rfl rfl) rfl ?_
              refine OW_q (q_assign rfl) rfl ?_
              refine OW_nil ?_
              refine EW_then ?_
              refine CW_seq ?_
              refine CW_region ?_
              refine OW_q (q_fieldAddr Try.underlying24 rfl rfl Try.sizeOf22 rfl rfl) rfl ?_
              first | (refine OW_q (q_load1_own Try.isAgg22 rfl rfl (by (repeat (first | exact .head | apply Swap.tail))) (by rfl)) rfl ?_) | (refine OW_q (q_load1_ro Try.isAgg22 rfl (by first | assumption | exact Row.at_ (by assumption) rfl)) rfl ?_)
              refine OW_q (q_move rfl) rfl ?_
              refine OW_q (q_indexAddr Try.underlying22 Try.sizeOf49 rfl rfl (by first | omega | assumption)) rfl ?_
              refine OW_q (q_loadN_ro Try.isAgg49 Try.sizeOf49 rfl (by first | exact hrow) (by rfl)) rfl ?_
              refine OW_e (e_call Try.call29 rfl (fun w hw => lift_ro (loops_any q _ w (hsy.mono fun _ _ h => hw.rd h)) hw)) rfl (fun x134 => ?_)
              refine OW_q (q_move rfl) rfl ?_
              refine OW_part (t := 135) rfl (fun hg135 => ?_) (fun hg135 => ?_)
              · skip
                refine OW_wanted rfl rfl rfl ?_
                refine OW_q (q_fieldAddr Try.underlying24 rfl rfl Try.sizeOf22 rfl rfl) rfl ?_
                refine OW_wanted rfl rfl rfl ?_
                first | (refine OW_q (q_load1_own Try.isAgg22 rfl rfl (by (repeat (first | exact .head | apply Swap.tail))) (by rfl)) rfl ?_) | (refine OW_q (q_load1_ro Try.isAgg22 rfl (by first | assumption | exact Row.at_ (by assumption) rfl)) rfl ?_)
                refine OW_wanted rfl rfl rfl ?_
                refine OW_q (q_move rfl) rfl ?_
                refine OW_wanted rfl rfl rfl ?_
                refine OW_q (q_indexAddr Try.underlying22 Try.sizeOf49 rfl rfl (by first | omega | assumption)) rfl ?_
                refine OW_wanted rfl rfl rfl ?_
                refine OW_q (q_fieldAddr Try.underlying49 rfl rfl Try.sizeOf46 rfl rfl) rfl ?_
                refine OW_wanted rfl rfl rfl ?_
                refine OW_q (q_load1_ro Try.isAgg46 rfl (by first | exact hrow.at_ (j := 1) rfl)) rfl ?_
                refine OW_wanted rfl rfl rfl ?_
                refine OW_q (q_len Try.underlying46 rfl) rfl ?_
                refine OW_wanted rfl rfl rfl ?_
                refine OW_q (q_eqi rfl rfl) rfl ?_
                refine OW_q (q_pick_t rfl rfl) rfl ?_
                refine OW_nil ?_
                refine EW_then ?_
                refine CW_cond rfl (fun h144 => ?_) (fun h144 => ?_)
                · skip
                  have hlb : leftB g s.a = false := Bool.eq_false_iff.2 fun h => (leftB_iff.1 h).2 j (List.mem_of_getElem? hj) q hq hg135 (by simp at h144; omega)
                  refine CW_seq ?_
                  refine CW_region ?_
                  refine OW_q (q_assign rfl) rfl ?_
                  refine OW_nil ?_
                  refine EW_then ?_
                  refine CW_ret ?_
                  refine EW_block_ret ?_
                  refine EW_then_ret ?_
                  refine EW_out_ret ?_
                  refine EW_block_ret ?_
                  refine EW_then_ret ?_
                  refine EW_block_ret ?_
                  refine EW_then_ret ?_
                  refine ret1 Try.results19 rfl (fun w hw => ?_)
                  refine ⟨congrArg (fun b => Ending.returned (Value.bool b)) (?_ : _ = mayS g s), hw.sub .nil⟩
                  clear hw
                  first | (simp [mayS, *]; done) | (simp [mayS, inlB, *]; rfl) | (simp_all [mayS, inlB]; done) | (simp_all [mayS, inlB]; rfl)
                · skip
                  refine CW_skip ?_
                  refine EW_block_normal ?_
                  refine EW_then ?_
                  refine CW_region ?_
                  first | refine OW_q (q_inc rfl rfl (by omega)) rfl ?_ | refine OW_q (q_add rfl rfl (by omega) (by omega)) rfl ?_
                  refine OW_q (q_move rfl) rfl ?_
                  refine OW_nil ?_
                  refine EW_again ((k + 1, loopsB q)) ⟨?_, ?_⟩ ⟨rfl, rfl, rfl, rfl, rfl, rfl, trivial⟩ (fun w hw => hw.sub (by (repeat (first | exact SubL.nil | exact Pick.head | apply Pick.tail | apply SubL.cons))))
                  · show (ofL g.rules s.a).length - (k + 1) < (ofL g.rules s.a).length - k; omega
                  · refine ⟨by show k + 1 ≤ _; omega, ?_, fun j' hj' r' hr' hl' => ?_⟩
                    · show (loopsB q : Bool) = true ↔ _
                      refine ⟨fun h => ⟨j, by rw [take_next hj]; simp, q, hq, h⟩, fun h => ?_⟩
                      obtain ⟨j', h1, r', h2, h3⟩ := h
                      rw [take_next hj, List.mem_append] at h1
                      rcases h1 with h1 | h1
                      · exact absurd (hsm.2 ⟨j', h1, r', h2, h3⟩) (by simp [hg121])
                      · rw [List.mem_singleton.1 h1, hq] at h2
                        cases h2
                        exact h3
                    · have hj' : j' ∈ (ofL g.rules s.a).take (k + 1) := hj'
                      rw [take_next hj, List.mem_append] at hj'
                      rcases hj' with hj' | hj'
                      · exact hno j' hj' r' hr' hl'
                      · rw [List.mem_singleton.1 hj', hq] at hr'
                        cases hr'
                        (intro e; simp at h144; omega)
              · skip
                refine OW_skip rfl rfl rfl rfl ?_
                refine OW_skip rfl rfl rfl rfl ?_
                refine OW_skip rfl rfl rfl rfl ?_
                refine OW_skip rfl rfl rfl rfl ?_
                refine OW_skip rfl rfl rfl rfl ?_
                refine OW_skip rfl rfl rfl rfl ?_
                refine OW_skip rfl rfl rfl rfl ?_
                refine OW_skip rfl rfl rfl rfl ?_
                refine OW_q (q_pick_f rfl rfl) rfl ?_
                refine OW_nil ?_
                refine EW_then ?_
                refine CW_false rfl rfl ?_
                refine CW_skip ?_
                refine EW_block_normal ?_
                refine EW_then ?_
                refine CW_region ?_
                first | refine OW_q (q_inc rfl rfl (by omega)) rfl ?_ | refine OW_q (q_add rfl rfl (by omega) (by omega)) rfl ?_
                refine OW_q (q_move rfl) rfl ?_
                refine OW_nil ?_
                refine EW_again ((k + 1, loopsB q)) ⟨?_, ?_⟩ ⟨rfl, rfl, rfl, rfl, rfl, rfl, trivial⟩ (fun w hw => hw.sub (by (repeat (first | exact SubL.nil | exact Pick.head | apply Pick.tail | apply SubL.cons))))
                · show (ofL g.rules s.a).length - (k + 1) < (ofL g.rules s.a).length - k; omega
                · refine ⟨by show k + 1 ≤ _; omega, ?_, fun j' hj' r' hr' hl' => ?_⟩
                  · show (loopsB q : Bool) = true ↔ _
                    refine ⟨fun h => ⟨j, by rw [take_next hj]; simp, q, hq, h⟩, fun h => ?_⟩
                    obtain ⟨j', h1, r', h2, h3⟩ := h
                    rw [take_next hj, List.mem_append] at h1
                    rcases h1 with h1 | h1
                    · exact absurd (hsm.2 ⟨j', h1, r', h2, h3⟩) (by simp [hg121])
                    · rw [List.mem_singleton.1 h1, hq] at h2
                      cases h2
                      exact h3
                  · have hj' : j' ∈ (ofL g.rules s.a).take (k + 1) := hj'
                    rw [take_next hj, List.mem_append] at hj'
                    rcases hj' with hj' | hj'
                    · exact hno j' hj' r' hr' hl'
                    · rw [List.mem_singleton.1 hj', hq] at hr'
                      cases hr'
                      exact absurd hl' (by simp [hg135])
          · skip
            have hke : k = (ofL g.rules s.a).length := by have := of_decide_eq_false h117; omega
            have hlb : leftB g s.a = sm := by
              rw [hke, List.take_length] at hsm hno
              cases h : sm with
              | false => exact Bool.eq_false_iff.2 fun h' => by have := hsm.2 (leftB_iff.1 h').1; rw [h] at this; cases this
              | true => exact leftB_iff.2 ⟨hsm.1 h, hno⟩
            refine CW_exit ?_
            refine EW_then_exit ?_
            refine EW_out ?_
            refine EW_block_exit ?_
            refine EW_then ?_
            refine CW_seq ?_
            refine CW_region ?_
            refine OW_q (q_move rfl) rfl ?_
            refine OW_q (q_move rfl) rfl ?_
            refine OW_part (t := 147) rfl (fun hg147 => ?_) (fun hg147 => ?_)
            · skip
              refine OW_wanted rfl rfl rfl ?_
              refine OW_q (q_fieldAddr Try.underlying26 rfl rfl Try.sizeOf3 rfl rfl) rfl ?_
              refine OW_wanted rfl rfl rfl ?_
              first | (refine OW_q (q_load1_own Try.isAgg3 rfl rfl (by (repeat (first | exact .head | apply Swap.tail))) (by rfl)) rfl ?_) | (refine OW_q (q_load1_ro Try.isAgg3 rfl (by first | assumption | exact Row.at_ (by assumption) rfl)) rfl ?_)
              refine OW_wanted rfl rfl rfl ?_
              refine OW_q (q_eqi rfl rfl) rfl ?_
              refine OW_q (q_pick_t rfl rfl) rfl ?_
              refine OW_q (q_move rfl) rfl ?_
              refine OW_part (t := 152) rfl (fun hg152 => ?_) (fun hg152 => ?_)
              · skip
                refine OW_wanted rfl rfl rfl ?_
                refine OW_q (q_fieldAddr Try.underlying26 rfl rfl Try.sizeOf3 rfl rfl) rfl ?_
                refine OW_wanted rfl rfl rfl ?_
                first | (refine OW_q (q_load1_own Try.isAgg3 rfl rfl (by (repeat (first | exact .head | apply Swap.tail))) (by rfl)) rfl ?_) | (refine OW_q (q_load1_ro Try.isAgg3 rfl (by first | assumption | exact Row.at_ (by assumption) rfl)) rfl ?_)
                refine OW_wanted rfl rfl rfl ?_
                refine OW_q (q_eqi rfl rfl) rfl ?_
                refine OW_q (q_pick_t rfl rfl) rfl ?_
                refine OW_q (q_assign rfl) rfl ?_
                refine OW_nil ?_
                refine EW_then ?_
                refine CW_ret ?_
                refine EW_block_ret ?_
                refine EW_then_ret ?_
                refine ret1 Try.results19 rfl (fun w hw => ?_)
                refine ⟨congrArg (fun b => Ending.returned (Value.bool b)) (?_ : _ = mayS g s), hw.sub .nil⟩
                clear hw
                first | (simp [mayS, *]; done) | (simp [mayS, *]; rfl) | (simp_all [mayS]; done) | (simp_all [mayS]; rfl)
              · skip
                refine OW_skip rfl rfl rfl rfl ?_
                refine OW_skip rfl rfl rfl rfl ?_
                refine OW_skip rfl rfl rfl rfl ?_
                refine OW_q (q_pick_f rfl rfl) rfl ?_
                refine OW_q (q_assign rfl) rfl ?_
                refine OW_nil ?_
                refine EW_then ?_
                refine CW_ret ?_
                refine EW_block_ret ?_
                refine EW_then_ret ?_
                refine ret1 Try.results19 rfl (fun w hw => ?_)
                refine ⟨congrArg (fun b => Ending.returned (Value.bool b)) (?_ : _ = mayS g s), hw.sub .nil⟩
                clear hw
                first | (simp [mayS, *]; done) | (simp [mayS, *]; rfl) | (simp_all [mayS]; done) | (simp_all [mayS, inlB]; rfl)
            · skip
              refine OW_skip rfl rfl rfl rfl ?_
              refine OW_skip rfl rfl rfl rfl ?_
              refine OW_skip rfl rfl rfl rfl ?_
              refine OW_q (q_pick_f rfl rfl) rfl ?_
              refine OW_q (q_move rfl) rfl ?_
              refine OW_skip rfl rfl rfl rfl ?_
              refine OW_skip rfl rfl rfl rfl ?_
              refine OW_skip rfl rfl rfl rfl ?_
              refine OW_q (q_pick_f rfl rfl) rfl ?_
              refine OW_q (q_assign rfl) rfl ?_
              refine OW_nil ?_
              refine EW_then ?_
              refine CW_ret ?_
              refine EW_block_ret ?_
              refine EW_then_ret ?_
              refine ret1 Try.results19 rfl (fun w hw => ?_)
              refine ⟨congrArg (fun b => Ending.returned (Value.bool b)) (?_ : _ = mayS g s), hw.sub .nil⟩
              clear hw
              first | (simp [mayS, *]; done) | (simp [mayS, inlB, *]; rfl) | (simp_all [mayS, inlB]; done) | (simp_all [mayS, inlB]; rfl)
        · skip
          refine CW_seq ?_
          refine CW_region ?_
          refine OW_q (q_eqi rfl rfl) rfl ?_
          refine OW_q (q_assign rfl) rfl ?_
          refine OW_nil ?_
          refine EW_then ?_
          refine CW_cond rfl (fun h157 => ?_) (fun h157 => ?_)
          · skip
            have hop : s.op = 5 := by simpa using h157
            refine CW_seq ?_
            refine CW_region ?_
            refine OW_q (q_fieldAddr Try.underlying26 rfl rfl Try.sizeOf3 rfl rfl) rfl ?_
            first | (refine OW_q (q_load1_own Try.isAgg3 rfl rfl (by (repeat (first | exact .head | apply Swap.tail))) (by rfl)) rfl ?_) | (refine OW_q (q_load1_ro Try.isAgg3 rfl (by first | assumption | exact Row.at_ (by assumption) rfl)) rfl ?_)
            refine OW_q (q_eqi rfl rfl) rfl ?_
            refine OW_q (q_move rfl) rfl ?_
            refine OW_part (t := 162) rfl (fun hg162 => ?_) (fun hg162 => ?_)
            · skip
              refine OW_wanted rfl rfl rfl ?_
              refine OW_q (q_fieldAddr Try.underlying26 rfl rfl Try.sizeOf3 rfl rfl) rfl ?_
              refine OW_wanted rfl rfl rfl ?_
              first | (refine OW_q (q_load1_own Try.isAgg3 rfl rfl (by (repeat (first | exact .head | apply Swap.tail))) (by rfl)) rfl ?_) | (refine OW_q (q_load1_ro Try.isAgg3 rfl (by first | assumption | exact Row.at_ (by assumption) rfl)) rfl ?_)
              refine OW_wanted rfl rfl rfl ?_
              refine OW_q (q_eqi rfl rfl) rfl ?_
              refine OW_q (q_pick_t rfl rfl) rfl ?_
              refine OW_q (q_move rfl) rfl ?_
              refine OW_part (t := 167) rfl (fun hg167 => ?_) (fun hg167 => ?_)
              · skip
                refine OW_wanted rfl rfl rfl ?_
                refine OW_q (q_fieldAddr Try.underlying26 rfl rfl Try.sizeOf3 rfl rfl) rfl ?_
                refine OW_wanted rfl rfl rfl ?_
                first | (refine OW_q (q_load1_own Try.isAgg3 rfl rfl (by (repeat (first | exact .head | apply Swap.tail))) (by rfl)) rfl ?_) | (refine OW_q (q_load1_ro Try.isAgg3 rfl (by first | assumption | exact Row.at_ (by assumption) rfl)) rfl ?_)
                refine OW_wanted rfl rfl rfl ?_
                refine OW_q (q_eqi rfl rfl) rfl ?_
                refine OW_q (q_pick_t rfl rfl) rfl ?_
                refine OW_q (q_assign rfl) rfl ?_
                refine OW_nil ?_
                refine EW_then ?_
                refine CW_ret ?_
                refine EW_block_ret ?_
                refine EW_then_ret ?_
                refine ret1 Try.results19 rfl (fun w hw => ?_)
                refine ⟨congrArg (fun b => Ending.returned (Value.bool b)) (?_ : _ = mayS g s), hw.sub .nil⟩
                clear hw
                first | (simp [mayS, *]; done) | (simp [mayS, *]; rfl) | (simp_all [mayS]; done) | (simp_all [mayS]; rfl)
              · skip
                refine OW_skip rfl rfl rfl rfl ?_
                refine OW_skip rfl rfl rfl rfl ?_
                refine OW_skip rfl rfl rfl rfl ?_
                refine OW_q (q_pick_f rfl rfl) rfl ?_
                refine OW_q (q_assign rfl) rfl ?_
                refine OW_nil ?_
                refine EW_then ?_
                refine CW_ret ?_
                refine EW_block_ret ?_
                refine EW_then_ret ?_
                refine ret1 Try.results19 rfl (fun w hw => ?_)
                refine ⟨congrArg (fun b => Ending.returned (Value.bool b)) (?_ : _ = mayS g s), hw.sub .nil⟩
                clear hw
                first | (simp [mayS, *]; done) | (simp [mayS, *]; rfl) | (simp_all [mayS]; done) | (simp_all [mayS, inlB]; rfl)
            · skip
              refine OW_skip rfl rfl rfl rfl ?_
              refine OW_skip rfl rfl rfl rfl ?_
              refine OW_skip rfl rfl rfl rfl ?_
              refine OW_q (q_pick_f rfl rfl) rfl ?_
              refine OW_q (q_move rfl) rfl ?_
              refine OW_skip rfl rfl rfl rfl ?_
              refine OW_skip rfl rfl rfl rfl ?_
              refine OW_skip rfl rfl rfl rfl ?_
              refine OW_q (q_pick_f rfl rfl) rfl ?_
              refine OW_q (q_assign rfl) rfl ?_
              refine OW_nil ?_
              refine EW_then ?_
              refine CW_ret ?_
              refine EW_block_ret ?_
              refine EW_then_ret ?_
              refine ret1 Try.results19 rfl (fun w hw => ?_)
              refine ⟨congrArg (fun b => Ending.returned (Value.bool b)) (?_ : _ = mayS g s), hw.sub .nil⟩
              clear hw
              first | (simp [mayS, *]; done) | (simp [mayS, *]; rfl) | (simp_all [mayS]; done) | (simp_all [mayS, inlB]; rfl)
          · skip
            refine CW_skip ?_
            refine EW_block_normal ?_
            refine EW_then ?_
            refine CW_seq ?_
            refine CW_region ?_
            refine OW_q (q_assign rfl) rfl ?_
            refine OW_nil ?_
            refine EW_then ?_
            refine CW_ret ?_
            refine ret1 Try.results19 rfl (fun w hw => ?_)
            refine ⟨congrArg (fun b => Ending.returned (Value.bool b)) (?_ : _ = mayS g s), hw.sub .nil⟩
            clear hw
            first | (simp [mayS, inlB, *]; done) | (simp [mayS, inlB, *]; rfl) | (simp_all [mayS]; done) | (simp_all [mayS, inlB]; rfl)

end Go.Sy
