/- Walks and plain laws, part 5. No condition. -/
import Derived.Test.YteceklkjbcebkabM2
import Derived.Test.YteceklkjbcebkabM4
/- step.may. No condition. -/
namespace Go.Sy
open Go Go.RowKit Go.Proofs

abbrev stepV (s : SStep) : Value := .agg #[.int .i64 s.op, .int .i64 s.a, .int .i64 s.b, .int .i64 s.c]
theorem leftB_iff {g : Gram} {a : Int} : leftB g a = true ↔ (∃ j ∈ ofL g.rules a, ∃ r, g.rules[j]? = some r ∧ loopsB r = true) ∧ ∀ j ∈ ofL g.rules a, ∀ r, g.rules[j]? = some r → loopsB r = true → r.right.length ≠ 1 := by
 unfold leftB
 rw [Bool.and_eq_true, List.any_eq_true, List.all_eq_true]
 constructor
 · rintro ⟨⟨r, h1, h2⟩, h3⟩
   simp only [Bool.and_eq_true, decide_eq_true_eq] at h2
   obtain ⟨j, hj⟩ := List.getElem?_of_mem h1
   refine ⟨⟨j, ofL_get hj h2.1, r, hj, h2.2⟩, fun j hj r hr hl e => ?_⟩
   have h4 := h3 r (List.mem_of_getElem? hr)
   obtain ⟨r', hr', hl'⟩ := ofL_mem hj
   rw [hr] at hr'
   cases hr'
   simp [hl', hl, e] at h4
 · rintro ⟨⟨j, h1, r, h2, h3⟩, h4⟩
   obtain ⟨r', hr', hl'⟩ := ofL_mem h1
   rw [h2] at hr'
   cases hr'
   refine ⟨⟨r, List.mem_of_getElem? h2, by simp [hl', h3]⟩, fun q hq => ?_⟩
   obtain ⟨k, hk⟩ := List.getElem?_of_mem hq
   by_cases e : q.left = a
   · cases hl : loopsB q with
     | false => simp
     | true =>
       have := h4 k (ofL_get hk e) q hk hl
       simp [this]
   · simp [e]
set_option maxRecDepth 20000 in
theorem mayS_any (gv : Value) (g : Gram) (s : SStep) (w : World) (hm : mayB g = true) (hg : GramAt (Cl w) gv g) : Calls Try.prog 19 #[gv, stepV s] w (fun e w' => e = .returned (.bool (mayS g s)) ∧ Sat (Old w) w [] w') := by
 have hg0 := hg
 obtain ⟨rv, rfl, hr⟩ := hg.mono old_rd
 obtain ⟨a, c, rfl, hc1, hc2, hrs⟩ := id hr
 clear hg
 have hM := mayB_true.1 hm
 refine calls_CW Try.func19 rfl Try.ntmps19 rfl (Sat.start w) ?_
 refine nx3 ?_
 refine OW_e (e_box rfl rfl) rfl (fun b2 => ?_)
 refine OW_e (e_box rfl rfl) rfl (fun b3 => ?_)
 refine aO ?_
 refine nx4 ?_
 refine OW_q (q_fieldAddr Try.underlying26 rfl rfl Try.sizeOf3 rfl rfl) rfl ?_
 refine OW_q (q_load1_own Try.isAgg3 rfl rfl swt (by rfl)) rfl ?_
 refine OW_q (q_fieldAddr Try.underlying24 rfl rfl Try.sizeOf22 rfl rfl) rfl ?_
 refine OW_q (q_load1_own Try.isAgg22 rfl rfl swt (by rfl)) rfl ?_
 refine OW_q (q_len Try.underlying22 rfl) rfl ?_
 refine OW_e (e_call Try.call27 rfl (fun w hw => lift_same (inS_any _ _ _ w) hw)) rfl (fun x15 => ?_)
 refine aO ?_
 refine nx2 ?_
 refine CW_seq ?_
 refine nx3 ?_
 refine OW_q (q_fieldAddr Try.underlying26 rfl rfl Try.sizeOf3 rfl rfl) rfl ?_
 refine OW_q (q_load1_own Try.isAgg3 rfl rfl swt (by rfl)) rfl ?_
 refine nx2 ?_
 refine CW_block ?_
 refine nx3 ?_
 refine OW_q (q_eqi rfl rfl) rfl ?_
 refine aO ?_
 refine nx2 ?_
 refine CW_cond rfl (fun h18 => ?_) (fun h18 => ?_)
 · skip
   have hop : s.op = 1 := by simpa using h18
   refine nx3 ?_
   refine OW_q (q_fieldAddr Try.underlying26 rfl rfl Try.sizeOf3 rfl rfl) rfl ?_
   refine OW_q (q_load1_own Try.isAgg3 rfl rfl swt (by rfl)) rfl ?_
   refine OW_q (q_fieldAddr Try.underlying24 rfl rfl Try.sizeOf3 rfl rfl) rfl ?_
   refine OW_q (q_load1_own Try.isAgg3 rfl rfl swt (by rfl)) rfl ?_
   refine OW_e (e_call Try.call27 rfl (fun w hw => lift_same (inS_any _ _ _ w) hw)) rfl (fun x24 => ?_)
   refine mO ?_
   refine OW_part (t := 25) rfl (fun hg25 => ?_) (fun hg25 => ?_)
   · skip
     refine wO ?_
     refine OW_q (q_fieldAddr Try.underlying26 rfl rfl Try.sizeOf3 rfl rfl) rfl ?_
     refine wO ?_
     refine OW_q (q_load1_own Try.isAgg3 rfl rfl swt (by rfl)) rfl ?_
     refine wO ?_
     refine OW_q (q_fieldAddr Try.underlying24 rfl rfl Try.sizeOf3 rfl rfl) rfl ?_
     refine wO ?_
     refine OW_q (q_load1_own Try.isAgg3 rfl rfl swt (by rfl)) rfl ?_
     refine wO ?_
     refine OW_e (e_call Try.call27 rfl (fun w hw => lift_same (inS_any _ _ _ w) hw)) rfl (fun x30 => ?_)
     refine OW_q (q_pick_t rfl rfl) rfl ?_
     refine mO ?_
     refine OW_part (t := 32) rfl (fun hg32 => ?_) (fun hg32 => ?_)
     · skip
       refine wO ?_
       refine OW_q (q_fieldAddr Try.underlying26 rfl rfl Try.sizeOf3 rfl rfl) rfl ?_
       refine wO ?_
       refine OW_q (q_load1_own Try.isAgg3 rfl rfl swt (by rfl)) rfl ?_
       refine wO ?_
       refine OW_q (q_eqi rfl rfl) rfl ?_
       refine OW_q (q_pick_t rfl rfl) rfl ?_
       refine aO ?_
       refine nx2 ?_
       refine CW_ret ?_
       refine EW_block_ret ?_
       refine EW_then_ret ?_
       refine ret1 Try.results19 rfl (fun w hw => ?_)
       refine ⟨congrArg (fun b => Ending.returned (Value.bool b)) (?_ : _ = mayS g s), hw.sub .nil⟩
       clear hw
       simp [mayS, *]; rfl
     refine kO ?_
     refine kO ?_
     refine kO ?_
     refine OW_q (q_pick_f rfl rfl) rfl ?_
     refine aO ?_
     refine nx2 ?_
     refine CW_ret ?_
     refine EW_block_ret ?_
     refine EW_then_ret ?_
     refine ret1 Try.results19 rfl (fun w hw => ?_)
     refine ⟨congrArg (fun b => Ending.returned (Value.bool b)) (?_ : _ = mayS g s), hw.sub .nil⟩
     clear hw
     simp [mayS, *]; done
   refine kO ?_
   refine kO ?_
   refine kO ?_
   refine kO ?_
   refine kO ?_
   refine OW_q (q_pick_f rfl rfl) rfl ?_
   refine mO ?_
   refine kO ?_
   refine kO ?_
   refine kO ?_
   refine OW_q (q_pick_f rfl rfl) rfl ?_
   refine aO ?_
   refine nx2 ?_
   refine CW_ret ?_
   refine EW_block_ret ?_
   refine EW_then_ret ?_
   refine ret1 Try.results19 rfl (fun w hw => ?_)
   refine ⟨congrArg (fun b => Ending.returned (Value.bool b)) (?_ : _ = mayS g s), hw.sub .nil⟩
   clear hw
   simp [mayS, *]; done
 refine nx3 ?_
 refine OW_q (q_eqi rfl rfl) rfl ?_
 refine aO ?_
 refine nx2 ?_
 refine CW_cond rfl (fun h37 => ?_) (fun h37 => ?_)
 · skip
   have hop : s.op = 2 := by simpa using h37
   refine CW_seq ?_
   refine CW_drawS 22 [(0, false), (1, false), (2, false), (3, false), (4, false), (5, false), (6, true), (7, false), (8, false), (9, false), (10, false), (11, false), (12, false), (13, false), (14, false), (15, false), (16, false), (17, false), (18, false), (19, false), (20, false), (21, false)] (by kernel_rfl) (Blind.then (Blind.block (Blind.then (Blind.body (by intro c w h; simp at h))))) (by kernel_rfl) (fun w hw => hw.drew) ?_
   refine mD ?_
   refine mD ?_
   refine DW_part (t := 40) rfl (fun hg40 => ?_) (fun hg40 => ?_)
   · skip
     obtain ⟨ha0, ha1⟩ := inR_true.1 hg40
     obtain ⟨q, hq⟩ := get_of_lt (l := g.rules) (k := s.a.toNat) (by omega)
     obtain ⟨p, rfl, rvq, hsy, hrow⟩ := hrs s.a.toNat q hq
     obtain ⟨ya, yc, rfl, hy1, hy2, hys⟩ := id hsy
     have hra := ruleAt_get hq
     refine DW_qg rfl sft rfl rfl rfl (q_fieldAddr Try.underlying26 rfl rfl Try.sizeOf3 rfl rfl) rfl ?_
     refine DW_qg rfl sft rfl rfl rfl (q_load1_own Try.isAgg3 rfl rfl swt (by rfl)) rfl ?_
     refine DW_qg rfl sft rfl rfl rfl (q_fieldAddr Try.underlying26 rfl rfl Try.sizeOf3 rfl rfl) rfl ?_
     refine DW_qg rfl sft rfl rfl rfl (q_load1_own Try.isAgg3 rfl rfl swt (by rfl)) rfl ?_
     refine DW_eg rfl rfl rfl rfl (e_call Try.call27 rfl (fun w hw => lift_same (inS_any _ _ _ w) hw)) rfl (fun _ w hw => by first | exact hw.sub sbt | exact hw.2.sub sbt) (fun x45 => ?_)
     refine DW_q rfl sft (q_pick_t rfl rfl) rfl ?_
     refine mD ?_
     refine DW_part (t := 47) rfl (fun hg47 => ?_) (fun hg47 => ?_)
     · skip
       refine DW_qg rfl sft rfl rfl rfl (q_fieldAddr Try.underlying26 rfl rfl Try.sizeOf3 rfl rfl) rfl ?_
       refine DW_qg rfl sft rfl rfl rfl (q_load1_own Try.isAgg3 rfl rfl swt (by rfl)) rfl ?_
       refine DW_qg rfl sft rfl rfl rfl (q_fieldAddr Try.underlying24 rfl rfl Try.sizeOf22 rfl rfl) rfl ?_
       refine DW_qg rfl sft rfl rfl rfl (q_load1_own Try.isAgg22 rfl rfl swt (by rfl)) rfl ?_
       refine DW_qg rfl sft rfl rfl rfl (q_fieldAddr Try.underlying26 rfl rfl Try.sizeOf3 rfl rfl) rfl ?_
       refine DW_qg rfl sft rfl rfl rfl (q_load1_own Try.isAgg3 rfl rfl swt (by rfl)) rfl ?_
       refine DW_qg rfl sft rfl rfl rfl (q_indexAddrI Try.underlying22 Try.sizeOf49 rfl rfl (by omega) (by omega)) rfl ?_
       refine DW_qg rfl sft rfl rfl rfl (q_fieldAddr Try.underlying49 rfl rfl Try.sizeOf46 rfl rfl) rfl ?_
       refine DW_qg rfl sft rfl rfl rfl (q_load1_ro Try.isAgg46 rfl (by exact hrow.at_ (j := 1) rfl)) rfl ?_
       refine DW_qg rfl sft rfl rfl rfl (q_len Try.underlying46 rfl) rfl ?_
       refine DW_qg rfl sft rfl rfl rfl (q_leq rfl rfl) rfl ?_
       refine DW_q rfl sft (q_pick_t rfl rfl) rfl ?_
       refine DW_q rfl sft (q_assign rfl) rfl ?_
       refine DW_nil ?_
       refine EW_then ?_
       refine CW_ret ?_
       refine EW_block_ret ?_
       refine EW_then_ret ?_
       refine ret1 Try.results19 rfl (fun w hw => ?_)
       refine ⟨congrArg (fun b => Ending.returned (Value.bool b)) (?_ : _ = mayS g s), hw.sub .nil⟩
       clear hw
       simp [mayS, *]; done
     refine kD ?_
     refine kD ?_
     refine kD ?_
     refine kD ?_
     refine kD ?_
     refine kD ?_
     refine kD ?_
     refine kD ?_
     refine kD ?_
     refine kD ?_
     refine kD ?_
     refine DW_q rfl sft (q_pick_f rfl rfl) rfl ?_
     refine DW_q rfl sft (q_assign rfl) rfl ?_
     refine DW_nil ?_
     refine EW_then ?_
     refine CW_ret ?_
     refine EW_block_ret ?_
     refine EW_then_ret ?_
     refine ret1 Try.results19 rfl (fun w hw => ?_)
     refine ⟨congrArg (fun b => Ending.returned (Value.bool b)) (?_ : _ = mayS g s), hw.sub .nil⟩
     clear hw
     simp [mayS, *]; done
   refine kD ?_
   refine kD ?_
   refine kD ?_
   refine kD ?_
   refine DW_eskip rfl sft rfl rfl rfl rfl ?_
   refine DW_q rfl sft (q_pick_f rfl rfl) rfl ?_
   refine mD ?_
   refine kD ?_
   refine kD ?_
   refine kD ?_
   refine kD ?_
   refine kD ?_
   refine kD ?_
   refine kD ?_
   refine kD ?_
   refine kD ?_
   refine kD ?_
   refine kD ?_
   refine DW_q rfl sft (q_pick_f rfl rfl) rfl ?_
   refine DW_q rfl sft (q_assign rfl) rfl ?_
   refine DW_nil ?_
   refine EW_then ?_
   refine CW_ret ?_
   refine EW_block_ret ?_
   refine EW_then_ret ?_
   refine ret1 Try.results19 rfl (fun w hw => ?_)
   refine ⟨congrArg (fun b => Ending.returned (Value.bool b)) (?_ : _ = mayS g s), hw.sub .nil⟩
   clear hw
   simp [mayS, *]; done
 refine nx3 ?_
 refine OW_q (q_eqi rfl rfl) rfl ?_
 refine aO ?_
 refine nx2 ?_
 refine CW_cond rfl (fun h60 => ?_) (fun h60 => ?_)
 · skip
   have hop : s.op = 3 := by simpa using h60
   refine CW_seq ?_
   refine CW_seq ?_
   refine CW_drawS 21 [(0, false), (1, false), (2, false), (3, false), (4, false), (5, false), (6, false), (7, false), (8, false), (9, false), (10, false), (11, false), (12, false), (13, false), (14, false), (15, false), (16, false), (17, false), (18, true), (19, false), (20, false)] (by kernel_rfl) (Blind.then (Blind.then (Blind.block (Blind.then (Blind.body (by intro c w h; simp at h)))))) (by kernel_rfl) (fun w hw => hw.drew) ?_
   refine mD ?_
   refine DW_q rfl sft (q_not rfl) rfl ?_
   refine mD ?_
   refine DW_part (t := 64) rfl (fun hg64 => ?_) (fun hg64 => ?_)
   · skip
     have hnr : inR s.a 0 g.rules.length = false := by simpa using hg64
     refine kD ?_
     refine kD ?_
     refine kD ?_
     refine DW_q rfl sft (q_pick_t rfl rfl) rfl ?_
     refine mD ?_
     refine kD ?_
     refine kD ?_
     refine kD ?_
     refine kD ?_
     refine kD ?_
     refine kD ?_
     refine kD ?_
     refine kD ?_
     refine kD ?_
     refine kD ?_
     refine DW_eskip rfl sft rfl rfl rfl rfl ?_
     refine kD ?_
     refine DW_q rfl sft (q_pick_t rfl rfl) rfl ?_
     refine DW_nil ?_
     refine EW_then ?_
     refine CW_true rfl rfl ?_
     refine nx3 ?_
     refine aO ?_
     refine nx2 ?_
     refine CW_ret ?_
     refine EW_then_ret ?_
     refine EW_block_ret ?_
     refine EW_then_ret ?_
     refine ret1 Try.results19 rfl (fun w hw => ?_)
     refine ⟨congrArg (fun b => Ending.returned (Value.bool b)) (?_ : _ = mayS g s), hw.sub .nil⟩
     clear hw
     simp [mayS, inlB, *]; done
   have hir : inR s.a 0 g.rules.length = true := by simpa using hg64
   obtain ⟨ha0, ha1⟩ := inR_true.1 hir
   obtain ⟨q, hq⟩ := get_of_lt (l := g.rules) (k := s.a.toNat) (by omega)
   obtain ⟨p, rfl, rvq, hsy, hrow⟩ := hrs s.a.toNat q hq
   obtain ⟨ya, yc, rfl, hy1, hy2, hys⟩ := id hsy
   have hra := ruleAt_get hq
   refine DW_qg rfl sft rfl rfl rfl (q_fieldAddr Try.underlying26 rfl rfl Try.sizeOf3 rfl rfl) rfl ?_
   refine DW_qg rfl sft rfl rfl rfl (q_load1_own Try.isAgg3 rfl rfl swt (by rfl)) rfl ?_
   refine DW_qg rfl sft rfl rfl rfl (q_nei rfl rfl) rfl ?_
   refine DW_q rfl sft (q_pick_f rfl rfl) rfl ?_
   refine mD ?_
   refine DW_part (t := 69) rfl (fun hg69 => ?_) (fun hg69 => ?_)
   · skip
     refine kD ?_
     refine kD ?_
     refine kD ?_
     refine kD ?_
     refine kD ?_
     refine kD ?_
     refine kD ?_
     refine kD ?_
     refine kD ?_
     refine kD ?_
     refine DW_eskip rfl sft rfl rfl rfl rfl ?_
     refine kD ?_
     refine DW_q rfl sft (q_pick_t rfl rfl) rfl ?_
     refine DW_nil ?_
     refine EW_then ?_
     refine CW_true rfl rfl ?_
     refine nx3 ?_
     refine aO ?_
     refine nx2 ?_
     refine CW_ret ?_
     refine EW_then_ret ?_
     refine EW_block_ret ?_
     refine EW_then_ret ?_
     refine ret1 Try.results19 rfl (fun w hw => ?_)
     refine ⟨congrArg (fun b => Ending.returned (Value.bool b)) (?_ : _ = mayS g s), hw.sub .nil⟩
     clear hw
     simp_all [mayS, inlB]; done
   refine DW_qg rfl sft rfl rfl rfl (q_fieldAddr Try.underlying26 rfl rfl Try.sizeOf3 rfl rfl) rfl ?_
   refine DW_qg rfl sft rfl rfl rfl (q_load1_own Try.isAgg3 rfl rfl swt (by rfl)) rfl ?_
   refine DW_qg rfl sft rfl rfl rfl (q_fieldAddr Try.underlying24 rfl rfl Try.sizeOf22 rfl rfl) rfl ?_
   refine DW_qg rfl sft rfl rfl rfl (q_load1_own Try.isAgg22 rfl rfl swt (by rfl)) rfl ?_
   refine DW_qg rfl sft rfl rfl rfl (q_fieldAddr Try.underlying26 rfl rfl Try.sizeOf3 rfl rfl) rfl ?_
   refine DW_qg rfl sft rfl rfl rfl (q_load1_own Try.isAgg3 rfl rfl swt (by rfl)) rfl ?_
   refine DW_qg rfl sft rfl rfl rfl (q_indexAddrI Try.underlying22 Try.sizeOf49 rfl rfl (by omega) (by omega)) rfl ?_
   refine DW_qg rfl sft rfl rfl rfl (q_fieldAddr Try.underlying49 rfl rfl Try.sizeOf46 rfl rfl) rfl ?_
   refine DW_qg rfl sft rfl rfl rfl (q_load1_ro Try.isAgg46 rfl (by exact hrow.at_ (j := 1) rfl)) rfl ?_
   refine DW_qg rfl sft rfl rfl rfl (q_len Try.underlying46 rfl) rfl ?_
   refine DW_eg rfl rfl rfl rfl (e_call Try.call27 rfl (fun w hw => lift_same (inS_any _ _ _ w) hw)) rfl (fun _ w hw => by first | exact hw.sub sbt | exact hw.2.sub sbt) (fun x80 => ?_)
   refine DW_qg rfl sft rfl rfl rfl (q_not rfl) rfl ?_
   refine DW_q rfl sft (q_pick_f rfl rfl) rfl ?_
   refine DW_nil ?_
   refine EW_then ?_
   refine CW_cond rfl (fun h82 => ?_) (fun h82 => ?_)
   · skip
     refine nx3 ?_
     refine aO ?_
     refine nx2 ?_
     refine CW_ret ?_
     refine EW_then_ret ?_
     refine EW_block_ret ?_
     refine EW_then_ret ?_
     refine ret1 Try.results19 rfl (fun w hw => ?_)
     refine ⟨congrArg (fun b => Ending.returned (Value.bool b)) (?_ : _ = mayS g s), hw.sub .nil⟩
     clear hw
     simp_all [mayS, inlB]; done
   obtain ⟨hb0, hb1⟩ : 0 ≤ s.b ∧ s.b < (q.right.length : Int) := inR_true.1 (by simpa using h82)
   obtain ⟨y, hyx⟩ := get_of_lt (l := q.right) (k := s.b.toNat) (by omega)
   obtain ⟨py, rfl, hry⟩ := hys s.b.toNat y hyx
   refine CW_skip ?_
   refine EW_then ?_
   refine CW_seq ?_
   refine CW_drawS 12 [(0, false), (1, false), (2, false), (3, false), (4, false), (5, false), (6, false), (7, false), (8, false), (9, false), (10, false), (11, true), (12, true)] (by kernel_rfl) (Blind.then (Blind.block (Blind.then (Blind.body (by intro c w h; simp at h))))) (by kernel_rfl) (fun w hw => hw.drew) ?_
   refine DW_q rfl sft (q_fieldAddr Try.underlying24 rfl rfl Try.sizeOf22 rfl rfl) rfl ?_
   refine DW_q rfl sft (q_load1_own Try.isAgg22 rfl rfl swt (by rfl)) rfl ?_
   refine DW_q rfl sft (q_fieldAddr Try.underlying26 rfl rfl Try.sizeOf3 rfl rfl) rfl ?_
   refine DW_q rfl sft (q_load1_own Try.isAgg3 rfl rfl swt (by rfl)) rfl ?_
   refine DW_q rfl sft (q_indexAddrI Try.underlying22 Try.sizeOf49 rfl rfl (by omega) (by omega)) rfl ?_
   refine DW_q rfl sft (q_fieldAddr Try.underlying49 rfl rfl Try.sizeOf46 rfl rfl) rfl ?_
   refine DW_q rfl sft (q_load1_ro Try.isAgg46 rfl (by exact hrow.at_ (j := 1) rfl)) rfl ?_
   refine DW_q rfl sft (q_fieldAddr Try.underlying26 rfl rfl Try.sizeOf3 rfl rfl) rfl ?_
   refine DW_q rfl sft (q_load1_own Try.isAgg3 rfl rfl swt (by rfl)) rfl ?_
   refine DW_q rfl sft (q_indexAddrI Try.underlying46 Try.sizeOf51 rfl rfl (by omega) (by omega)) rfl ?_
   refine DW_q rfl sft (q_loadN_ro Try.isAgg51 Try.sizeOf51 rfl (by exact hry) (by rfl)) rfl ?_
   refine DW_e rfl (e_alloc Try.zeroValue51 rfl) rfl (fun _ w hw => by first | exact hw.sub sbt | exact hw.2.sub sbt) (fun b6 => ?_)
   refine DW_z0 rfl (e_storeN Try.sizeOf51 rfl rfl rfl rfl (by simp [Value.oneCell']) swt (by rfl)) (fun _ => ?_)
   refine EW_then ?_
   refine CW_seq ?_
   refine CW_drawS 16 [(0, false), (1, false), (2, false), (3, false), (4, false), (5, false), (6, false), (7, false), (8, false), (9, false), (10, false), (11, false), (12, false), (13, false), (14, false), (15, false)] (by kernel_rfl) (Blind.then (Blind.block (Blind.then (Blind.body (by intro c w h; simp at h))))) (by kernel_rfl) (fun w hw => hw.drew) ?_
   refine DW_q rfl sft (q_fieldAddr Try.underlying51 rfl rfl Try.sizeOf4 rfl rfl) rfl ?_
   refine DW_q rfl sft (q_load1_own Try.isAgg4 rfl rfl swt (by rfl)) rfl ?_
   refine DW_q rfl sft (q_not rfl) rfl ?_
   refine mD ?_
   refine DW_part (t := 97) rfl (fun hg97 => ?_) (fun hg97 => ?_)
   · skip
     refine DW_qg rfl sft rfl rfl rfl (q_fieldAddr Try.underlying51 rfl rfl Try.sizeOf3 rfl rfl) rfl ?_
     refine DW_qg rfl sft rfl rfl rfl (q_load1_own Try.isAgg3 rfl rfl swt (by rfl)) rfl ?_
     refine DW_qg rfl sft rfl rfl rfl (q_fieldAddr Try.underlying24 rfl rfl Try.sizeOf22 rfl rfl) rfl ?_
     refine DW_qg rfl sft rfl rfl rfl (q_load1_own Try.isAgg22 rfl rfl swt (by rfl)) rfl ?_
     refine DW_qg rfl sft rfl rfl rfl (q_fieldAddr Try.underlying26 rfl rfl Try.sizeOf3 rfl rfl) rfl ?_
     refine DW_qg rfl sft rfl rfl rfl (q_load1_own Try.isAgg3 rfl rfl swt (by rfl)) rfl ?_
     refine DW_qg rfl sft rfl rfl rfl (q_indexAddrI Try.underlying22 Try.sizeOf49 rfl rfl (by omega) (by omega)) rfl ?_
     refine DW_qg rfl sft rfl rfl rfl (q_fieldAddr Try.underlying49 rfl rfl Try.sizeOf3 rfl rfl) rfl ?_
     refine DW_qg rfl sft rfl rfl rfl (q_load1_ro Try.isAgg3 rfl (by exact Row.at0 hrow)) rfl ?_
     refine DW_qg rfl sft rfl rfl rfl (q_nei rfl rfl) rfl ?_
     refine DW_q rfl sft (q_pick_t rfl rfl) rfl ?_
     refine DW_q rfl sft (q_assign rfl) rfl ?_
     refine DW_nil ?_
     refine EW_then ?_
     refine CW_ret ?_
     refine EW_block_ret ?_
     refine EW_then_ret ?_
     refine ret1 Try.results19 rfl (fun w hw => ?_)
     refine ⟨congrArg (fun b => Ending.returned (Value.bool b)) (?_ : _ = mayS g s), hw.sub .nil⟩
     clear hw
     simp_all [mayS, inlB]; rfl
   refine kD ?_
   refine kD ?_
   refine kD ?_
   refine kD ?_
   refine kD ?_
   refine kD ?_
   refine kD ?_
   refine kD ?_
   refine kD ?_
   refine kD ?_
   refine DW_q rfl sft (q_pick_f rfl rfl) rfl ?_
   refine DW_q rfl sft (q_assign rfl) rfl ?_
   refine DW_nil ?_
   refine EW_then ?_
   refine CW_ret ?_
   refine EW_block_ret ?_
   refine EW_then_ret ?_
   refine ret1 Try.results19 rfl (fun w hw => ?_)
   refine ⟨congrArg (fun b => Ending.returned (Value.bool b)) (?_ : _ = mayS g s), hw.sub .nil⟩
   clear hw
   simp_all [mayS, inlB]; done
 refine nx3 ?_
 refine OW_q (q_eqi rfl rfl) rfl ?_
 refine aO ?_
 refine nx2 ?_
 refine CW_cond rfl (fun h109 => ?_) (fun h109 => ?_)
 · skip
   have hop : s.op = 4 := by simpa using h109
   refine nx3 ?_
   refine aO ?_
   refine nx2 ?_
   refine CW_seq ?_
   refine nx3 ?_
   refine OW_q (q_loadN_own Try.isAgg24 Try.sizeOf24 rfl rfl swt (by rfl)) rfl ?_
   refine OW_q (q_fieldAddr Try.underlying26 rfl rfl Try.sizeOf3 rfl rfl) rfl ?_
   refine OW_q (q_load1_own Try.isAgg3 rfl rfl swt (by rfl)) rfl ?_
   refine OW_e (e_call Try.call28 rfl (fun w hw => lift_old (ofS_any _ g s.a w (by omega) (hg0.mono (fun _ _ h => hw.rd (Rd.old h)))) hw)) rfl (fun x114 => ?_)
   refine OW_fact (fun w hw => hw.tform (v := x114) (l := ((ofL g.rules s.a).map (fun (z : Nat) => (z : Int)))) (enc := encN) swt) (fun hf => ?_)
   obtain ⟨aq, cq, rfl, _, _, hqb⟩ := hf
   rw [List.length_map] at hqb
   refine OW_spell 114 (.slice aq (ofL g.rules s.a).length cq) rfl (by rw [List.length_map]) ?_
   refine OW_weak (S' := Sat (Old w) w [trow 3 1 encN (.slice aq (ofL g.rules s.a).length cq) ((ofL g.rules s.a).map (fun (z : Nat) => (z : Int))), cel b3 26 [.int .i64 s.op, .int .i64 s.a, .int .i64 s.b, .int .i64 s.c], cel b2 24 [.int .i64 g.terms, .int .i64 g.names, .slice a g.rules.length c]]) (fun w hw => by rw [List.length_map] at hw; exact hw) ?_
   refine OW_q (q_len Try.underlying32 rfl) rfl ?_
   refine mO ?_
   refine nx2 ?_
   refine CW_block ?_
   refine CW_loopP (ι := Nat × Bool) (fun i_ => i_.1 ≤ (ofL g.rules s.a).length ∧ (i_.2 = true ↔ ∃ j' ∈ (ofL g.rules s.a).take i_.1, ∃ r', g.rules[j']? = some r' ∧ loopsB r' = true) ∧ ∀ j' ∈ (ofL g.rules s.a).take i_.1, ∀ r', g.rules[j']? = some r' → loopsB r' = true → r'.right.length ≠ 1) (fun i_ => [(2, .pointer (some ⟨b2, 0, none⟩)), (3, .pointer (some ⟨b3, 0, none⟩)), (7, .bool i_.2), (114, .slice aq (ofL g.rules s.a).length cq), (115, .int .i64 ((ofL g.rules s.a).length : Int)), (116, .int .i64 (i_.1 : Int))]) (fun i_ => Sat (Old w) w [trow 3 1 encN (.slice aq (ofL g.rules s.a).length cq) ((ofL g.rules s.a).map (fun (z : Nat) => (z : Int))), cel b3 26 [.int .i64 s.op, .int .i64 s.a, .int .i64 s.b, .int .i64 s.c], cel b2 24 [.int .i64 g.terms, .int .i64 g.names, .slice a g.rules.length c]]) (fun i_ => (ofL g.rules s.a).length - i_.1) (0, false) ?_ ⟨rfl, rfl, rfl, rfl, rfl, rfl, trivial⟩ sft ?_
   · exact ⟨Nat.zero_le _, by simp, by simp⟩
   intro i_ hpre
   obtain ⟨k, sm⟩ := i_
   replace hpre : k ≤ (ofL g.rules s.a).length ∧ (sm = true ↔ ∃ j' ∈ (ofL g.rules s.a).take k, ∃ r', g.rules[j']? = some r' ∧ loopsB r' = true) ∧ ∀ j' ∈ (ofL g.rules s.a).take k, ∀ r', g.rules[j']? = some r' → loopsB r' = true → r'.right.length ≠ 1 := hpre
   change CW _ _ _ _ [(2, .pointer (some ⟨b2, 0, none⟩)), (3, .pointer (some ⟨b3, 0, none⟩)), (7, .bool sm), (114, .slice aq (ofL g.rules s.a).length cq), (115, .int .i64 ((ofL g.rules s.a).length : Int)), (116, .int .i64 (k : Int))] (Sat (Old w) w [trow 3 1 encN (.slice aq (ofL g.rules s.a).length cq) ((ofL g.rules s.a).map (fun (z : Nat) => (z : Int))), cel b3 26 [.int .i64 s.op, .int .i64 s.a, .int .i64 s.b, .int .i64 s.c], cel b2 24 [.int .i64 g.terms, .int .i64 g.names, .slice a g.rules.length c]])
   obtain ⟨hk, hsm, hno⟩ := hpre
   have hol : (ofL g.rules s.a).length ≤ g.rules.length := ofLk_len _ _ _
   refine nx3 ?_
   refine OW_q (q_lss rfl rfl) rfl ?_
   refine nx2 ?_
   refine CW_seq ?_
   refine CW_cond rfl (fun h117 => ?_) (fun h117 => ?_)
   · skip
     have hlk : k < (ofL g.rules s.a).length := by have := of_decide_eq_true h117; omega
     obtain ⟨j, hj⟩ := get_of_lt hlk
     have hjm : (((ofL g.rules s.a).map (fun (z : Nat) => (z : Int))))[k]? = some ((j : Nat) : Int) := by rw [List.getElem?_map, hj]; rfl
     obtain ⟨bq, rfl⟩ := hqb (by omega)
     obtain ⟨q, hq, hql⟩ := ofL_mem (List.mem_of_getElem? hj)
     have hqr := (List.getElem?_eq_some_iff.1 hq).1
     obtain ⟨p, rfl, rvq, hsy, hrow⟩ := hrs j q hq
     obtain ⟨ya, yc, rfl, hy1, hy2, hys⟩ := id hsy
     refine CW_skip ?_
     refine EW_then ?_
     refine CW_seq ?_
     refine CW_block ?_
     refine nx3 ?_
     refine OW_q (q_indexAddr Try.underlying32 Try.sizeOf3 rfl rfl (by omega)) rfl ?_
     refine OW_q (q_load_t1 (enc := encN) (k := k) (v := .slice (some ⟨bq, 0, none⟩) (ofL g.rules s.a).length cq) (l := ((ofL g.rules s.a).map (fun (z : Nat) => (z : Int)))) Try.isAgg3 (fun _ => rfl) rfl swt rfl hjm rfl) rfl ?_
     refine aO ?_
     refine nx4 ?_
     refine mO ?_
     refine mO ?_
     refine OW_part (t := 121) rfl (fun hg121 => ?_) (fun hg121 => ?_)
     · skip
       refine kO ?_
       refine kO ?_
       refine kO ?_
       refine kO ?_
       refine kO ?_
       refine kO ?_
       refine OW_q (q_pick_t rfl rfl) rfl ?_
       refine aO ?_
       refine nx4 ?_
       refine OW_q (q_fieldAddr Try.underlying24 rfl rfl Try.sizeOf22 rfl rfl) rfl ?_
       refine OW_q (q_load1_own Try.isAgg22 rfl rfl swt (by rfl)) rfl ?_
       refine mO ?_
       refine OW_q (q_indexAddr Try.underlying22 Try.sizeOf49 rfl rfl (by omega)) rfl ?_
       refine OW_q (q_loadN_ro Try.isAgg49 Try.sizeOf49 rfl (by exact hrow) (by rfl)) rfl ?_
       refine OW_e (e_call Try.call29 rfl (fun w hw => lift_ro (loops_any q _ w (hsy.mono fun _ _ h => hw.rd h)) hw)) rfl (fun x134 => ?_)
       refine mO ?_
       refine OW_part (t := 135) rfl (fun hg135 => ?_) (fun hg135 => ?_)
       · skip
         refine wO ?_
         refine OW_q (q_fieldAddr Try.underlying24 rfl rfl Try.sizeOf22 rfl rfl) rfl ?_
         refine wO ?_
         refine OW_q (q_load1_own Try.isAgg22 rfl rfl swt (by rfl)) rfl ?_
         refine wO ?_
         refine mO ?_
         refine wO ?_
         refine OW_q (q_indexAddr Try.underlying22 Try.sizeOf49 rfl rfl (by omega)) rfl ?_
         refine wO ?_
         refine OW_q (q_fieldAddr Try.underlying49 rfl rfl Try.sizeOf46 rfl rfl) rfl ?_
         refine wO ?_
         refine OW_q (q_load1_ro Try.isAgg46 rfl (by exact hrow.at_ (j := 1) rfl)) rfl ?_
         refine wO ?_
         refine OW_q (q_len Try.underlying46 rfl) rfl ?_
         refine wO ?_
         refine OW_q (q_eqi rfl rfl) rfl ?_
         refine OW_q (q_pick_t rfl rfl) rfl ?_
         refine nx2 ?_
         refine CW_cond rfl (fun h144 => ?_) (fun h144 => ?_)
         · skip
           have hlb : leftB g s.a = false := Bool.eq_false_iff.2 fun h => (leftB_iff.1 h).2 j (List.mem_of_getElem? hj) q hq hg135 (by simp at h144; omega)
           refine nx3 ?_
           refine aO ?_
           refine nx2 ?_
           refine CW_ret ?_
           refine EW_block_ret ?_
           refine EW_then_ret ?_
           refine EW_out_ret ?_
           refine EW_block_ret ?_
           refine EW_then_ret ?_
           refine EW_block_ret ?_
           refine EW_then_ret ?_
           refine ret1 Try.results19 rfl (fun w hw => ?_)
           refine ⟨congrArg (fun b => Ending.returned (Value.bool b)) (?_ : _ = mayS g s), hw.sub .nil⟩
           clear hw
           simp [mayS, *]; done
         refine CW_skip ?_
         refine EW_block_normal ?_
         refine EW_then ?_
         refine CW_region ?_
         refine OW_q (q_add rfl rfl (by omega) (by omega)) rfl ?_
         refine mO ?_
         refine OW_nil ?_
         refine EW_again ((k + 1, true)) ⟨?_, ?_⟩ ⟨rfl, rfl, rfl, rfl, rfl, rfl, trivial⟩ sft
         · show (ofL g.rules s.a).length - (k + 1) < (ofL g.rules s.a).length - k; omega
         · refine ⟨by show k + 1 ≤ _; omega, ?_, fun j' hj' r' hr' hl' => ?_⟩
           · show (true : Bool) = true ↔ _
             refine ⟨fun _ => ?_, fun _ => rfl⟩
             obtain ⟨j', h1, r', h2, h3⟩ := hsm.1 hg121
             exact ⟨j', by rw [take_next hj]; exact List.mem_append_left _ h1, r', h2, h3⟩
           · have hj' : j' ∈ (ofL g.rules s.a).take (k + 1) := hj'
             rw [take_next hj, List.mem_append] at hj'
             rcases hj' with hj' | hj'
             · exact hno j' hj' r' hr' hl'
             · rw [List.mem_singleton.1 hj', hq] at hr'
               cases hr'
               (intro e; simp at h144; omega)
       refine kO ?_
       refine kO ?_
       refine kO ?_
       refine kO ?_
       refine kO ?_
       refine kO ?_
       refine kO ?_
       refine kO ?_
       refine OW_q (q_pick_f rfl rfl) rfl ?_
       refine nx2 ?_
       refine CW_false rfl rfl ?_
       refine CW_skip ?_
       refine EW_block_normal ?_
       refine EW_then ?_
       refine CW_region ?_
       refine OW_q (q_add rfl rfl (by omega) (by omega)) rfl ?_
       refine mO ?_
       refine OW_nil ?_
       refine EW_again ((k + 1, true)) ⟨?_, ?_⟩ ⟨rfl, rfl, rfl, rfl, rfl, rfl, trivial⟩ sft
       · show (ofL g.rules s.a).length - (k + 1) < (ofL g.rules s.a).length - k; omega
       · refine ⟨by show k + 1 ≤ _; omega, ?_, fun j' hj' r' hr' hl' => ?_⟩
         · show (true : Bool) = true ↔ _
           refine ⟨fun _ => ?_, fun _ => rfl⟩
           obtain ⟨j', h1, r', h2, h3⟩ := hsm.1 hg121
           exact ⟨j', by rw [take_next hj]; exact List.mem_append_left _ h1, r', h2, h3⟩
         · have hj' : j' ∈ (ofL g.rules s.a).take (k + 1) := hj'
           rw [take_next hj, List.mem_append] at hj'
           rcases hj' with hj' | hj'
           · exact hno j' hj' r' hr' hl'
           · rw [List.mem_singleton.1 hj', hq] at hr'
             cases hr'
             exact absurd hl' (by simp [hg135])
     refine wO ?_
     refine OW_q (q_fieldAddr Try.underlying24 rfl rfl Try.sizeOf22 rfl rfl) rfl ?_
     refine wO ?_
     refine OW_q (q_load1_own Try.isAgg22 rfl rfl swt (by rfl)) rfl ?_
     refine wO ?_
     refine mO ?_
     refine wO ?_
     refine OW_q (q_indexAddr Try.underlying22 Try.sizeOf49 rfl rfl (by omega)) rfl ?_
     refine wO ?_
     refine OW_q (q_loadN_ro Try.isAgg49 Try.sizeOf49 rfl (by exact hrow) (by rfl)) rfl ?_
     refine wO ?_
     refine OW_e (e_call Try.call29 rfl (fun w hw => lift_ro (loops_any q _ w (hsy.mono fun _ _ h => hw.rd h)) hw)) rfl (fun x127 => ?_)
     refine OW_q (q_pick_f rfl rfl) rfl ?_
     refine aO ?_
     refine nx4 ?_
     refine OW_q (q_fieldAddr Try.underlying24 rfl rfl Try.sizeOf22 rfl rfl) rfl ?_
     refine OW_q (q_load1_own Try.isAgg22 rfl rfl swt (by rfl)) rfl ?_
     refine mO ?_
     refine OW_q (q_indexAddr Try.underlying22 Try.sizeOf49 rfl rfl (by omega)) rfl ?_
     refine OW_q (q_loadN_ro Try.isAgg49 Try.sizeOf49 rfl (by exact hrow) (by rfl)) rfl ?_
     refine OW_e (e_call Try.call29 rfl (fun w hw => lift_ro (loops_any q _ w (hsy.mono fun _ _ h => hw.rd h)) hw)) rfl (fun x134 => ?_)
     refine mO ?_
     refine OW_part (t := 135) rfl (fun hg135 => ?_) (fun hg135 => ?_)
     · skip
       refine wO ?_
       refine OW_q (q_fieldAddr Try.underlying24 rfl rfl Try.sizeOf22 rfl rfl) rfl ?_
       refine wO ?_
       refine OW_q (q_load1_own Try.isAgg22 rfl rfl swt (by rfl)) rfl ?_
       refine wO ?_
       refine mO ?_
       refine wO ?_
       refine OW_q (q_indexAddr Try.underlying22 Try.sizeOf49 rfl rfl (by omega)) rfl ?_
       refine wO ?_
       refine OW_q (q_fieldAddr Try.underlying49 rfl rfl Try.sizeOf46 rfl rfl) rfl ?_
       refine wO ?_
       refine OW_q (q_load1_ro Try.isAgg46 rfl (by exact hrow.at_ (j := 1) rfl)) rfl ?_
       refine wO ?_
       refine OW_q (q_len Try.underlying46 rfl) rfl ?_
       refine wO ?_
       refine OW_q (q_eqi rfl rfl) rfl ?_
       refine OW_q (q_pick_t rfl rfl) rfl ?_
       refine nx2 ?_
       refine CW_cond rfl (fun h144 => ?_) (fun h144 => ?_)
       · skip
         have hlb : leftB g s.a = false := Bool.eq_false_iff.2 fun h => (leftB_iff.1 h).2 j (List.mem_of_getElem? hj) q hq hg135 (by simp at h144; omega)
         refine nx3 ?_
         refine aO ?_
         refine nx2 ?_
         refine CW_ret ?_
         refine EW_block_ret ?_
         refine EW_then_ret ?_
         refine EW_out_ret ?_
         refine EW_block_ret ?_
         refine EW_then_ret ?_
         refine EW_block_ret ?_
         refine EW_then_ret ?_
         refine ret1 Try.results19 rfl (fun w hw => ?_)
         refine ⟨congrArg (fun b => Ending.returned (Value.bool b)) (?_ : _ = mayS g s), hw.sub .nil⟩
         clear hw
         simp [mayS, *]; done
       refine CW_skip ?_
       refine EW_block_normal ?_
       refine EW_then ?_
       refine CW_region ?_
       refine OW_q (q_add rfl rfl (by omega) (by omega)) rfl ?_
       refine mO ?_
       refine OW_nil ?_
       refine EW_again ((k + 1, loopsB q)) ⟨?_, ?_⟩ ⟨rfl, rfl, rfl, rfl, rfl, rfl, trivial⟩ sft
       · show (ofL g.rules s.a).length - (k + 1) < (ofL g.rules s.a).length - k; omega
       · refine ⟨by show k + 1 ≤ _; omega, ?_, fun j' hj' r' hr' hl' => ?_⟩
         · show (loopsB q : Bool) = true ↔ _
           refine ⟨fun h => ⟨j, by rw [take_next hj]; simp, q, hq, h⟩, fun h => ?_⟩
           obtain ⟨j', h1, r', h2, h3⟩ := h
           rw [take_next hj, List.mem_append] at h1
           rcases h1 with h1 | h1
           · exact absurd (hsm.2 ⟨j', h1, r', h2, h3⟩) (by simp [hg121])
           · rw [List.mem_singleton.1 h1, hq] at h2
             cases h2
             exact h3
         · have hj' : j' ∈ (ofL g.rules s.a).take (k + 1) := hj'
           rw [take_next hj, List.mem_append] at hj'
           rcases hj' with hj' | hj'
           · exact hno j' hj' r' hr' hl'
           · rw [List.mem_singleton.1 hj', hq] at hr'
             cases hr'
             (intro e; simp at h144; omega)
     refine kO ?_
     refine kO ?_
     refine kO ?_
     refine kO ?_
     refine kO ?_
     refine kO ?_
     refine kO ?_
     refine kO ?_
     refine OW_q (q_pick_f rfl rfl) rfl ?_
     refine nx2 ?_
     refine CW_false rfl rfl ?_
     refine CW_skip ?_
     refine EW_block_normal ?_
     refine EW_then ?_
     refine CW_region ?_
     refine OW_q (q_add rfl rfl (by omega) (by omega)) rfl ?_
     refine mO ?_
     refine OW_nil ?_
     refine EW_again ((k + 1, loopsB q)) ⟨?_, ?_⟩ ⟨rfl, rfl, rfl, rfl, rfl, rfl, trivial⟩ sft
     · show (ofL g.rules s.a).length - (k + 1) < (ofL g.rules s.a).length - k; omega
     · refine ⟨by show k + 1 ≤ _; omega, ?_, fun j' hj' r' hr' hl' => ?_⟩
       · show (loopsB q : Bool) = true ↔ _
         refine ⟨fun h => ⟨j, by rw [take_next hj]; simp, q, hq, h⟩, fun h => ?_⟩
         obtain ⟨j', h1, r', h2, h3⟩ := h
         rw [take_next hj, List.mem_append] at h1
         rcases h1 with h1 | h1
         · exact absurd (hsm.2 ⟨j', h1, r', h2, h3⟩) (by simp [hg121])
         · rw [List.mem_singleton.1 h1, hq] at h2
           cases h2
           exact h3
       · have hj' : j' ∈ (ofL g.rules s.a).take (k + 1) := hj'
         rw [take_next hj, List.mem_append] at hj'
         rcases hj' with hj' | hj'
         · exact hno j' hj' r' hr' hl'
         · rw [List.mem_singleton.1 hj', hq] at hr'
           cases hr'
           exact absurd hl' (by simp [hg135])
   have hke : k = (ofL g.rules s.a).length := by have := of_decide_eq_false h117; omega
   have hlb : leftB g s.a = sm := by
     rw [hke, List.take_length] at hsm hno
     cases h : sm with
     | false => exact Bool.eq_false_iff.2 fun h' => by have := hsm.2 (leftB_iff.1 h').1; rw [h] at this; cases this
     | true => exact leftB_iff.2 ⟨hsm.1 h, hno⟩
   refine CW_exit ?_
   refine EW_then_exit ?_
   refine EW_out ?_
   refine EW_block_exit ?_
   refine EW_then ?_
   refine nx3 ?_
   refine mO ?_
   refine mO ?_
   refine OW_part (t := 147) rfl (fun hg147 => ?_) (fun hg147 => ?_)
   · skip
     refine wO ?_
     refine OW_q (q_fieldAddr Try.underlying26 rfl rfl Try.sizeOf3 rfl rfl) rfl ?_
     refine wO ?_
     refine OW_q (q_load1_own Try.isAgg3 rfl rfl swt (by rfl)) rfl ?_
     refine wO ?_
     refine OW_q (q_eqi rfl rfl) rfl ?_
     refine OW_q (q_pick_t rfl rfl) rfl ?_
     refine mO ?_
     refine OW_part (t := 152) rfl (fun hg152 => ?_) (fun hg152 => ?_)
     · skip
       refine wO ?_
       refine OW_q (q_fieldAddr Try.underlying26 rfl rfl Try.sizeOf3 rfl rfl) rfl ?_
       refine wO ?_
       refine OW_q (q_load1_own Try.isAgg3 rfl rfl swt (by rfl)) rfl ?_
       refine wO ?_
       refine OW_q (q_eqi rfl rfl) rfl ?_
       refine OW_q (q_pick_t rfl rfl) rfl ?_
       refine aO ?_
       refine nx2 ?_
       refine CW_ret ?_
       refine EW_block_ret ?_
       refine EW_then_ret ?_
       refine ret1 Try.results19 rfl (fun w hw => ?_)
       refine ⟨congrArg (fun b => Ending.returned (Value.bool b)) (?_ : _ = mayS g s), hw.sub .nil⟩
       clear hw
       simp_all [mayS]; rfl
     refine kO ?_
     refine kO ?_
     refine kO ?_
     refine OW_q (q_pick_f rfl rfl) rfl ?_
     refine aO ?_
     refine nx2 ?_
     refine CW_ret ?_
     refine EW_block_ret ?_
     refine EW_then_ret ?_
     refine ret1 Try.results19 rfl (fun w hw => ?_)
     refine ⟨congrArg (fun b => Ending.returned (Value.bool b)) (?_ : _ = mayS g s), hw.sub .nil⟩
     clear hw
     simp_all [mayS]; done
   refine kO ?_
   refine kO ?_
   refine kO ?_
   refine OW_q (q_pick_f rfl rfl) rfl ?_
   refine mO ?_
   refine kO ?_
   refine kO ?_
   refine kO ?_
   refine OW_q (q_pick_f rfl rfl) rfl ?_
   refine aO ?_
   refine nx2 ?_
   refine CW_ret ?_
   refine EW_block_ret ?_
   refine EW_then_ret ?_
   refine ret1 Try.results19 rfl (fun w hw => ?_)
   refine ⟨congrArg (fun b => Ending.returned (Value.bool b)) (?_ : _ = mayS g s), hw.sub .nil⟩
   clear hw
   simp [mayS, *]; done
 refine nx3 ?_
 refine OW_q (q_eqi rfl rfl) rfl ?_
 refine aO ?_
 refine nx2 ?_
 refine CW_cond rfl (fun h157 => ?_) (fun h157 => ?_)
 · skip
   have hop : s.op = 5 := by simpa using h157
   refine nx3 ?_
   refine OW_q (q_fieldAddr Try.underlying26 rfl rfl Try.sizeOf3 rfl rfl) rfl ?_
   refine OW_q (q_load1_own Try.isAgg3 rfl rfl swt (by rfl)) rfl ?_
   refine OW_q (q_eqi rfl rfl) rfl ?_
   refine mO ?_
   refine OW_part (t := 162) rfl (fun hg162 => ?_) (fun hg162 => ?_)
   · skip
     refine wO ?_
     refine OW_q (q_fieldAddr Try.underlying26 rfl rfl Try.sizeOf3 rfl rfl) rfl ?_
     refine wO ?_
     refine OW_q (q_load1_own Try.isAgg3 rfl rfl swt (by rfl)) rfl ?_
     refine wO ?_
     refine OW_q (q_eqi rfl rfl) rfl ?_
     refine OW_q (q_pick_t rfl rfl) rfl ?_
     refine mO ?_
     refine OW_part (t := 167) rfl (fun hg167 => ?_) (fun hg167 => ?_)
     · skip
       refine wO ?_
       refine OW_q (q_fieldAddr Try.underlying26 rfl rfl Try.sizeOf3 rfl rfl) rfl ?_
       refine wO ?_
       refine OW_q (q_load1_own Try.isAgg3 rfl rfl swt (by rfl)) rfl ?_
       refine wO ?_
       refine OW_q (q_eqi rfl rfl) rfl ?_
       refine OW_q (q_pick_t rfl rfl) rfl ?_
       refine aO ?_
       refine nx2 ?_
       refine CW_ret ?_
       refine EW_block_ret ?_
       refine EW_then_ret ?_
       refine ret1 Try.results19 rfl (fun w hw => ?_)
       refine ⟨congrArg (fun b => Ending.returned (Value.bool b)) (?_ : _ = mayS g s), hw.sub .nil⟩
       clear hw
       simp_all [mayS]; rfl
     refine kO ?_
     refine kO ?_
     refine kO ?_
     refine OW_q (q_pick_f rfl rfl) rfl ?_
     refine aO ?_
     refine nx2 ?_
     refine CW_ret ?_
     refine EW_block_ret ?_
     refine EW_then_ret ?_
     refine ret1 Try.results19 rfl (fun w hw => ?_)
     refine ⟨congrArg (fun b => Ending.returned (Value.bool b)) (?_ : _ = mayS g s), hw.sub .nil⟩
     clear hw
     simp_all [mayS]; done
   refine kO ?_
   refine kO ?_
   refine kO ?_
   refine OW_q (q_pick_f rfl rfl) rfl ?_
   refine mO ?_
   refine kO ?_
   refine kO ?_
   refine kO ?_
   refine OW_q (q_pick_f rfl rfl) rfl ?_
   refine aO ?_
   refine nx2 ?_
   refine CW_ret ?_
   refine EW_block_ret ?_
   refine EW_then_ret ?_
   refine ret1 Try.results19 rfl (fun w hw => ?_)
   refine ⟨congrArg (fun b => Ending.returned (Value.bool b)) (?_ : _ = mayS g s), hw.sub .nil⟩
   clear hw
   simp_all [mayS]; done
 refine CW_skip ?_
 refine EW_block_normal ?_
 refine EW_then ?_
 refine nx3 ?_
 refine aO ?_
 refine nx2 ?_
 refine CW_ret ?_
 refine ret1 Try.results19 rfl (fun w hw => ?_)
 refine ⟨congrArg (fun b => Ending.returned (Value.bool b)) (?_ : _ = mayS g s), hw.sub .nil⟩
 clear hw
 simp_all [mayS]; done

end Go.Sy
/- Package reach: the walks of what makes and what comes. No condition. -/
namespace Go.Sy
open Go Go.RowKit Go.Proofs

set_option maxRecDepth 20000 in
theorem rall_any (sv bv : Value) (l : List Sym) (is : List Bool) (w : World) (hs : SymsAt (Cl w) sv l) (hb : BoolsAt (Cl w) bv is) (hl : ∀ s ∈ l, s.term = false → 0 ≤ s.n ∧ s.n < (is.length : Int)) : Calls Try.prog 72 #[sv, bv] w (fun e w' => e = .returned (.bool (allB is l)) ∧ Sat (Old w) w [] w') := by
 obtain ⟨a, c, rfl, hc1, hc2, hss⟩ := hs.mono old_rd
 obtain ⟨a2, c2, rfl, hd1, hd2, hbb⟩ := hb.mono old_rd
 clear hs hb
 refine calls_CW Try.func72 rfl Try.ntmps72 rfl (Sat.start w) ?_
 refine nx3 ?_
 refine aO ?_
 refine nx2 ?_
 refine CW_seq ?_
 refine nx3 ?_
 refine mO ?_
 refine OW_q (q_len Try.underlying46 rfl) rfl ?_
 refine mO ?_
 refine nx2 ?_
 refine CW_block ?_
 refine CW_loopP (ι := Nat) (fun j => j ≤ l.length ∧ allB is (l.take j) = true) (fun j => [(1, .slice a2 is.length c2), (7, .slice a l.length c), (8, .int .i64 (l.length : Int)), (9, .int .i64 (j : Int))]) (fun j => Sat (Old w) w []) (fun j => l.length - j) 0 ?_ ⟨rfl, rfl, rfl, rfl, trivial⟩ sft ?_
 · exact ⟨Nat.zero_le _, rfl⟩
 intro j hpre
 change CW _ _ _ _ [(1, .slice a2 is.length c2), (7, .slice a l.length c), (8, .int .i64 (l.length : Int)), (9, .int .i64 (j : Int))] (Sat (Old w) w [])
 obtain ⟨hj, hok⟩ := hpre
 refine nx3 ?_
 refine OW_q (q_lss rfl rfl) rfl ?_
 refine nx2 ?_
 refine CW_seq ?_
 refine CW_cond rfl (fun h10 => ?_) (fun h10 => ?_)
 · skip
   have hltj : j < l.length := by simpa using h10
   obtain ⟨s, hsj⟩ := get_of_lt hltj
   obtain ⟨p, rfl, hrow⟩ := hss j s hsj
   have hmem := hl s (List.mem_of_getElem? hsj)
   refine CW_skip ?_
   refine EW_then ?_
   refine CW_seq ?_
   refine CW_block ?_
   refine nx3 ?_
   refine OW_q (q_indexAddr Try.underlying46 Try.sizeOf51 rfl rfl (by omega)) rfl ?_
   refine OW_q (q_loadN_ro Try.isAgg51 Try.sizeOf51 rfl (by assumption) (by rfl)) rfl ?_
   refine OW_e (e_alloc Try.zeroValue51 rfl) rfl (fun b6 => ?_)
   refine OW_e0 (e_storeN Try.sizeOf51 rfl rfl rfl rfl (by simp [Value.oneCell']) swt (by rfl)) (fun _ => ?_)
   refine nx4 ?_
   refine OW_q (q_fieldAddr Try.underlying51 rfl rfl Try.sizeOf4 rfl rfl) rfl ?_
   refine OW_q (q_load1_own Try.isAgg4 rfl rfl swt (by rfl)) rfl ?_
   refine OW_q (q_not rfl) rfl ?_
   refine mO ?_
   refine OW_part (t := 16) rfl (fun hg16 => ?_) (fun hg16 => ?_)
   · skip
     have ht : s.term = false := by simpa using hg16
     have hs1 := hmem ht
     have hcell := atB_get hs1.1 hs1.2
     obtain ⟨q, rfl, hq⟩ := hbb s.n.toNat _ hcell
     refine wO ?_
     refine mO ?_
     refine wO ?_
     refine OW_q (q_fieldAddr Try.underlying51 rfl rfl Try.sizeOf3 rfl rfl) rfl ?_
     refine wO ?_
     refine OW_q (q_load1_own Try.isAgg3 rfl rfl swt (by rfl)) rfl ?_
     refine wO ?_
     refine OW_q (q_indexAddrI Try.underlying54 Try.sizeOf4 rfl rfl (by omega) (by omega)) rfl ?_
     refine wO ?_
     refine OW_q (q_load1_ro Try.isAgg4 rfl (by assumption)) rfl ?_
     refine wO ?_
     refine OW_q (q_not rfl) rfl ?_
     refine OW_q (q_pick_t rfl rfl) rfl ?_
     refine nx2 ?_
     refine CW_cond rfl (fun h23 => ?_) (fun h23 => ?_)
     · skip
       refine nx3 ?_
       refine aO ?_
       refine nx2 ?_
       refine CW_ret ?_
       refine EW_block_ret ?_
       refine EW_then_ret ?_
       refine EW_out_ret ?_
       refine EW_block_ret ?_
       refine EW_then_ret ?_
       refine ret1 Try.results72 rfl (fun w hw => ?_)
       refine ⟨rf fun hm => ?_, hw.sub .nil⟩
       have := allB_iff.1 hm s (List.mem_of_getElem? hsj) ht
       rw [this] at h23
       cases h23
     refine CW_skip ?_
     refine EW_block_normal ?_
     refine EW_then ?_
     refine CW_region ?_
     refine OW_q (q_add rfl rfl (by omega) (by omega)) rfl ?_
     refine mO ?_
     refine OW_nil ?_
     refine EW_again (j + 1) ⟨?_, ?_⟩ ⟨rfl, rfl, rfl, rfl, trivial⟩ sft
     · show l.length - (j + 1) < l.length - j; omega
     · refine ⟨by omega, ?_⟩
       unfold allB at hok ⊢
       rw [all_take_succ _ hsj, hok]
       simp only [Bool.true_and]
       simp_all; done
   have ht : s.term = true := by simpa using hg16
   refine kO ?_
   refine kO ?_
   refine kO ?_
   refine kO ?_
   refine kO ?_
   refine kO ?_
   refine OW_q (q_pick_f rfl rfl) rfl ?_
   refine nx2 ?_
   refine CW_false rfl rfl ?_
   refine CW_skip ?_
   refine EW_block_normal ?_
   refine EW_then ?_
   refine CW_region ?_
   refine OW_q (q_add rfl rfl (by omega) (by omega)) rfl ?_
   refine mO ?_
   refine OW_nil ?_
   refine EW_again (j + 1) ⟨?_, ?_⟩ ⟨rfl, rfl, rfl, rfl, trivial⟩ sft
   · show l.length - (j + 1) < l.length - j; omega
   · refine ⟨by omega, ?_⟩
     unfold allB at hok ⊢
     rw [all_take_succ _ hsj, hok]
     simp only [Bool.true_and]
     simp_all; done
 have hend := take_all (l := l) (k := j) (by simpa using h10)
 rw [hend] at hok
 refine CW_exit ?_
 refine EW_then_exit ?_
 refine EW_out ?_
 refine EW_block_exit ?_
 refine EW_then ?_
 refine nx3 ?_
 refine aO ?_
 refine nx2 ?_
 refine CW_ret ?_
 refine ret1 Try.results72 rfl (fun w hw => ?_)
 exact ⟨rt hok, hw.sub .nil⟩

set_option maxRecDepth 20000 in
theorem makes1_any (g : Gram) (r : Rule) (rv : Value) (N : Nat) (hN : N ≤ 12) (hl0 : 0 ≤ r.left) (hl1 : r.left < (N : Int)) (hsn : ∀ s ∈ r.right, s.term = false → 0 ≤ s.n ∧ s.n < (N : Int)) (hmem : r ∈ g.rules) (R : Nat → Prop) (w0 w : World) (F : HP) (hr : SymsAt (Rd R w0) rv r.right) (b4 bs : Nat) (is : List Bool) (hlen : is.length = N) (hleast : LeastM g is) (hw : Sat R w0 [bools bs 4 is, cel b4 54 [.slice (some ⟨bs, 0, none⟩) N N], F] w) : Calls Try.prog 71 #[.agg #[.int .i64 r.left, rv], .pointer (some ⟨b4, 0, none⟩)] w (fun e w' => ∃ y : Bool × List Bool, e = .returned (.bool y.1) ∧ (y.2.length = N ∧ LeastM g y.2 ∧ (y.1 = false → y.2 = is ∧ (allB is r.right = true → atB is r.left = true)) ∧ (y.1 = true → fls y.2 < fls is)) ∧ Sat R w0 [bools bs 4 y.2, cel b4 54 [.slice (some ⟨bs, 0, none⟩) N N], F] w') := by
 obtain ⟨a2, c2, rfl, hd1, hd2, hss⟩ := id hr
 have hcell := atB_get (is := is) hl0 (by omega)
 refine calls_CW (S := Sat R w0 [bools bs 4 is, cel b4 54 [.slice (some ⟨bs, 0, none⟩) N N], F]) Try.func71 rfl Try.ntmps71 rfl (hw) ?_
 refine nx3 ?_
 refine OW_e (e_box rfl rfl) rfl (fun b2 => ?_)
 refine aO ?_
 refine nx2 ?_
 refine CW_seq ?_
 refine nx3 ?_
 refine OW_q (q_load1_own Try.isAgg54 rfl rfl swt (by rfl)) rfl ?_
 refine OW_q (q_fieldAddr Try.underlying49 rfl rfl Try.sizeOf3 rfl rfl) rfl ?_
 refine OW_q (q_load1_own Try.isAgg3 rfl rfl swt (by rfl)) rfl ?_
 refine OW_q (q_indexAddrI Try.underlying54 Try.sizeOf4 rfl rfl (by omega) (by omega)) rfl ?_
 refine OW_q (q_load_bools Try.isAgg4 rfl swt (by assumption)) rfl ?_
 refine mO ?_
 refine OW_part (t := 9) rfl (fun hg9 => ?_) (fun hg9 => ?_)
 · skip
   refine kO ?_
   refine kO ?_
   refine kO ?_
   refine kO ?_
   refine kO ?_
   refine OW_q (q_pick_t rfl rfl) rfl ?_
   refine nx2 ?_
   refine CW_true rfl rfl ?_
   refine nx3 ?_
   refine aO ?_
   refine nx2 ?_
   refine CW_ret ?_
   refine EW_then_ret ?_
   refine ret1 Try.results71 rfl (fun w hw => ?_)
   exact ⟨(false, is), rfl, ⟨hlen, hleast, fun _ => ⟨rfl, fun _ => hg9⟩, fun h => by cases h⟩, hw.sub sbt⟩
 refine wO ?_
 refine OW_q (q_fieldAddr Try.underlying49 rfl rfl Try.sizeOf46 rfl rfl) rfl ?_
 refine wO ?_
 refine OW_q (q_load1_own Try.isAgg46 rfl rfl swt (by rfl)) rfl ?_
 refine wO ?_
 refine OW_q (q_load1_own Try.isAgg54 rfl rfl swt (by rfl)) rfl ?_
 refine wO ?_
 refine OW_e (e_call Try.call72 rfl (fun w hw => lift_ro (rall_any _ _ r.right is w (hr.mono hw.rd_cl) (hw.boolsAt (A' := bools 0 0 []) swt hlen (Nat.le_refl _) (by omega)) (fun s hs ht => by have := hsn s hs ht; omega)) hw)) rfl (fun x13 => ?_)
 refine wO ?_
 refine OW_q (q_not rfl) rfl ?_
 refine OW_q (q_pick_f rfl rfl) rfl ?_
 refine nx2 ?_
 refine CW_cond rfl (fun h15 => ?_) (fun h15 => ?_)
 · skip
   refine nx3 ?_
   refine aO ?_
   refine nx2 ?_
   refine CW_ret ?_
   refine EW_then_ret ?_
   refine ret1 Try.results71 rfl (fun w hw => ?_)
   have ha : allB is r.right = false := by simpa using h15
   exact ⟨(false, is), rfl, ⟨hlen, hleast, fun _ => ⟨rfl, fun h => by rw [ha] at h; cases h⟩, fun h => by cases h⟩, hw.sub sbt⟩
 refine CW_skip ?_
 refine EW_then ?_
 refine nx3 ?_
 refine OW_q (q_load1_own Try.isAgg54 rfl rfl swt (by rfl)) rfl ?_
 refine OW_q (q_fieldAddr Try.underlying49 rfl rfl Try.sizeOf3 rfl rfl) rfl ?_
 refine OW_q (q_load1_own Try.isAgg3 rfl rfl swt (by rfl)) rfl ?_
 refine OW_q (q_indexAddrI Try.underlying54 Try.sizeOf4 rfl rfl (by omega) (by omega)) rfl ?_
 refine OW_e0 (e_store_bools Try.sizeOf4 rfl rfl swt (by omega)) (fun _ => ?_)
 refine nx4 ?_
 refine aO ?_
 refine nx2 ?_
 refine CW_ret ?_
 refine ret1 Try.results71 rfl (fun w hw => ?_)
 have ha : allB is r.right = true := by simpa using h15
 exact ⟨(true, is.set r.left.toNat true), rfl, ⟨by simpa using hlen, leastM_set hleast hmem hl0 (fun s hs ht => (hsn s hs ht).1) ha, fun h => (by cases h), fun _ => fls_set (by rw [hcell, hg9])⟩, hw.sub sbt⟩

set_option maxRecDepth 20000 in
theorem comes1_any (g : Gram) (r : Rule) (rv : Value) (N : Nat) (hN : N ≤ 12) (hl0 : 0 ≤ r.left) (hl1 : r.left < (N : Int)) (hsn : ∀ s ∈ r.right, s.term = false → 0 ≤ s.n ∧ s.n < (N : Int)) (hmem : r ∈ g.rules) (R : Nat → Prop) (w0 w : World) (F : HP) (hr : SymsAt (Rd R w0) rv r.right) (b1 b2 bs bm : Nat) (is m : List Bool) (hlen : is.length = N) (hlm : m.length = N) (hleast : LeastC g m is) (hw : Sat R w0 [bools bs 4 is, cel b1 54 [.slice (some ⟨bs, 0, none⟩) N N], cel b2 54 [.slice (some ⟨bm, 0, none⟩) N N], bools bm 4 m, F] w) : Calls Try.prog 73 #[.agg #[.int .i64 r.left, rv], .pointer (some ⟨b1, 0, none⟩), .pointer (some ⟨b2, 0, none⟩)] w (fun e w' => ∃ y : Bool × List Bool, e = .returned (.bool y.1) ∧ (y.2.length = N ∧ LeastC g m y.2 ∧ (y.1 = false → y.2 = is ∧ (atB is r.left = true → allB m r.right = true → ∀ s ∈ r.right, s.term = false → atB is s.n = true)) ∧ (y.1 = true → fls y.2 < fls is) ∧ (∀ n, atB is n = true → atB y.2 n = true)) ∧ Sat R w0 [bools bs 4 y.2, cel b1 54 [.slice (some ⟨bs, 0, none⟩) N N], cel b2 54 [.slice (some ⟨bm, 0, none⟩) N N], bools bm 4 m, F] w') := by
 obtain ⟨a2, c2, rfl, hd1, hd2, hss⟩ := id hr
 refine calls_CW (S := Sat R w0 [bools bs 4 is, cel b1 54 [.slice (some ⟨bs, 0, none⟩) N N], cel b2 54 [.slice (some ⟨bm, 0, none⟩) N N], bools bm 4 m, F]) Try.func73 rfl Try.ntmps73 rfl (hw) ?_
 refine nx3 ?_
 refine OW_e (e_box rfl rfl) rfl (fun b3 => ?_)
 refine aO ?_
 refine nx4 ?_
 refine aO ?_
 refine nx2 ?_
 refine CW_seq ?_
 refine nx3 ?_
 refine OW_q (q_fieldAddr Try.underlying49 rfl rfl Try.sizeOf46 rfl rfl) rfl ?_
 refine OW_q (q_load1_own Try.isAgg46 rfl rfl swt (by rfl)) rfl ?_
 refine OW_q (q_len Try.underlying46 rfl) rfl ?_
 refine mO ?_
 refine nx2 ?_
 refine CW_block ?_
 refine CW_loopP (ι := Nat × Bool × List Bool) (fun i_ => i_.1 ≤ r.right.length ∧ i_.2.2.length = N ∧ LeastC g m i_.2.2 ∧ (i_.2.1 = false → i_.2.2 = is ∧ (atB is r.left = true → allB m r.right = true → ∀ s ∈ r.right.take i_.1, s.term = false → atB is s.n = true)) ∧ (i_.2.1 = true → fls i_.2.2 < fls is) ∧ (∀ n, atB is n = true → atB i_.2.2 n = true)) (fun i_ => [(1, .pointer (some ⟨b1, 0, none⟩)), (2, .pointer (some ⟨b2, 0, none⟩)), (3, .pointer (some ⟨b3, 0, none⟩)), (5, .bool i_.2.1), (9, .slice a2 r.right.length c2), (10, .int .i64 (r.right.length : Int)), (11, .int .i64 (i_.1 : Int))]) (fun i_ => Sat R w0 [bools bs 4 i_.2.2, cel b1 54 [.slice (some ⟨bs, 0, none⟩) N N], cel b2 54 [.slice (some ⟨bm, 0, none⟩) N N], bools bm 4 m, F, cel b3 49 [.int .i64 r.left, .slice a2 r.right.length c2]]) (fun i_ => r.right.length - i_.1) (0, false, is) ?_ ⟨rfl, rfl, rfl, rfl, rfl, rfl, rfl, trivial⟩ sft ?_
 · exact ⟨Nat.zero_le _, hlen, hleast, (fun _ => ⟨rfl, fun _ _ s hs => by simp at hs⟩), (fun h => by cases h), fun _ h => h⟩
 intro i_ hpre
 obtain ⟨j, gr, is1⟩ := i_
 replace hpre : j ≤ r.right.length ∧ is1.length = N ∧ LeastC g m is1 ∧ (gr = false → is1 = is ∧ (atB is r.left = true → allB m r.right = true → ∀ s ∈ r.right.take j, s.term = false → atB is s.n = true)) ∧ (gr = true → fls is1 < fls is) ∧ (∀ n, atB is n = true → atB is1 n = true) := hpre
 change CW _ _ _ _ [(1, .pointer (some ⟨b1, 0, none⟩)), (2, .pointer (some ⟨b2, 0, none⟩)), (3, .pointer (some ⟨b3, 0, none⟩)), (5, .bool gr), (9, .slice a2 r.right.length c2), (10, .int .i64 (r.right.length : Int)), (11, .int .i64 (j : Int))] (Sat R w0 [bools bs 4 is1, cel b1 54 [.slice (some ⟨bs, 0, none⟩) N N], cel b2 54 [.slice (some ⟨bm, 0, none⟩) N N], bools bm 4 m, F, cel b3 49 [.int .i64 r.left, .slice a2 r.right.length c2]])
 obtain ⟨hj, hlen1, hleast1, h1, h2, hmono⟩ := hpre
 have hcl := atB_get (is := is1) hl0 (by omega)
 refine nx3 ?_
 refine OW_q (q_lss rfl rfl) rfl ?_
 refine nx2 ?_
 refine CW_seq ?_
 refine CW_cond rfl (fun h12 => ?_) (fun h12 => ?_)
 · skip
   have hltj : j < r.right.length := by simpa using h12
   obtain ⟨s, hsj⟩ := get_of_lt hltj
   obtain ⟨p, rfl, hrow⟩ := hss j s hsj
   have hsm := List.mem_of_getElem? hsj
   have hmem1 := hsn s hsm
   refine CW_skip ?_
   refine EW_then ?_
   refine CW_seq ?_
   refine CW_block ?_
   refine nx3 ?_
   refine OW_q (q_indexAddr Try.underlying46 Try.sizeOf51 rfl rfl (by omega)) rfl ?_
   refine OW_q (q_loadN_ro Try.isAgg51 Try.sizeOf51 rfl (by assumption) (by rfl)) rfl ?_
   refine OW_e (e_alloc Try.zeroValue51 rfl) rfl (fun b7 => ?_)
   refine OW_e0 (e_storeN Try.sizeOf51 rfl rfl rfl rfl (by simp [Value.oneCell']) swt (by rfl)) (fun _ => ?_)
   refine nx4 ?_
   refine OW_q (q_load1_own Try.isAgg54 rfl rfl swt (by rfl)) rfl ?_
   refine OW_q (q_fieldAddr Try.underlying49 rfl rfl Try.sizeOf3 rfl rfl) rfl ?_
   refine OW_q (q_load1_own Try.isAgg3 rfl rfl swt (by rfl)) rfl ?_
   refine OW_q (q_indexAddrI Try.underlying54 Try.sizeOf4 rfl rfl (by omega) (by omega)) rfl ?_
   refine OW_q (q_load_bools Try.isAgg4 rfl swt (by assumption)) rfl ?_
   refine mO ?_
   refine OW_part (t := 20) rfl (fun hg20 => ?_) (fun hg20 => ?_)
   · skip
     refine wO ?_
     refine OW_q (q_fieldAddr Try.underlying51 rfl rfl Try.sizeOf4 rfl rfl) rfl ?_
     refine wO ?_
     refine OW_q (q_load1_own Try.isAgg4 rfl rfl swt (by rfl)) rfl ?_
     refine wO ?_
     refine OW_q (q_not rfl) rfl ?_
     refine OW_q (q_pick_t rfl rfl) rfl ?_
     refine mO ?_
     refine OW_part (t := 25) rfl (fun hg25 => ?_) (fun hg25 => ?_)
     · skip
       have ht : s.term = false := by simpa using hg25
       have hs1 := hmem1 ht
       have hcell := atB_get (is := is1) hs1.1 (by omega)
       refine wO ?_
       refine OW_q (q_load1_own Try.isAgg54 rfl rfl swt (by rfl)) rfl ?_
       refine wO ?_
       refine OW_q (q_fieldAddr Try.underlying51 rfl rfl Try.sizeOf3 rfl rfl) rfl ?_
       refine wO ?_
       refine OW_q (q_load1_own Try.isAgg3 rfl rfl swt (by rfl)) rfl ?_
       refine wO ?_
       refine OW_q (q_indexAddrI Try.underlying54 Try.sizeOf4 rfl rfl (by omega) (by omega)) rfl ?_
       refine wO ?_
       refine OW_q (q_load_bools Try.isAgg4 rfl swt (by assumption)) rfl ?_
       refine wO ?_
       refine OW_q (q_not rfl) rfl ?_
       refine OW_q (q_pick_t rfl rfl) rfl ?_
       refine mO ?_
       refine OW_part (t := 33) rfl (fun hg33 => ?_) (fun hg33 => ?_)
       · skip
         refine wO ?_
         refine OW_q (q_fieldAddr Try.underlying49 rfl rfl Try.sizeOf46 rfl rfl) rfl ?_
         refine wO ?_
         refine OW_q (q_load1_own Try.isAgg46 rfl rfl swt (by rfl)) rfl ?_
         refine wO ?_
         refine OW_q (q_load1_own Try.isAgg54 rfl rfl swt (by rfl)) rfl ?_
         refine wO ?_
         refine OW_e (e_call Try.call72 rfl (fun w hw => lift_ro (rall_any _ _ r.right m w (hr.mono hw.rd_cl) (hw.boolsAt (A' := bools 0 0 []) (l := m) swt hlm (Nat.le_refl _) (by omega)) (fun s hs ht => by have := hsn s hs ht; omega)) hw)) rfl (fun x37 => ?_)
         refine OW_q (q_pick_t rfl rfl) rfl ?_
         refine nx2 ?_
         refine CW_cond rfl (fun h38 => ?_) (fun h38 => ?_)
         · skip
           refine CW_region ?_
           refine OW_q (q_load1_own Try.isAgg54 rfl rfl swt (by rfl)) rfl ?_
           refine OW_q (q_fieldAddr Try.underlying51 rfl rfl Try.sizeOf3 rfl rfl) rfl ?_
           refine OW_q (q_load1_own Try.isAgg3 rfl rfl swt (by rfl)) rfl ?_
           refine OW_q (q_indexAddrI Try.underlying54 Try.sizeOf4 rfl rfl (by omega) (by omega)) rfl ?_
           refine OW_e0 (e_store_bools Try.sizeOf4 rfl rfl swt (by omega)) (fun _ => ?_)
           refine aO ?_
           refine OW_nil ?_
           refine EW_block_normal ?_
           refine EW_then ?_
           refine CW_region ?_
           refine OW_q (q_add rfl rfl (by omega) (by omega)) rfl ?_
           refine mO ?_
           refine OW_nil ?_
           refine EW_again ((j + 1, true, is1.set s.n.toNat true)) ⟨?_, ?_⟩ ⟨rfl, rfl, rfl, rfl, rfl, rfl, rfl, trivial⟩ sft
           · show r.right.length - (j + 1) < r.right.length - j; omega
           · have ha : allB m r.right = true := by simpa using h38
             refine ⟨by show j + 1 ≤ _; omega, by show (List.set _ _ _).length = _; simpa using hlen1, leastC_set hleast1 hmem hsm ht hl0 hs1.1 hg20 ha, (fun h => by cases h), (fun _ => ?_), fun n h => atB_set _ (hmono n h)⟩
             have hlt := fls_set (is := is1) (m := s.n.toNat) (by rw [hcell]; simpa using hg33)
             show fls (is1.set s.n.toNat true) < fls is
             cases hgr : gr with
             | false => rw [(h1 hgr).1] at hlt ⊢; exact hlt
             | true => have := h2 hgr; omega
         refine CW_skip ?_
         refine EW_block_normal ?_
         refine EW_then ?_
         refine CW_region ?_
         refine OW_q (q_add rfl rfl (by omega) (by omega)) rfl ?_
         refine mO ?_
         refine OW_nil ?_
         refine EW_again ((j + 1, gr, is1)) ⟨?_, ?_⟩ ⟨rfl, rfl, rfl, rfl, rfl, rfl, rfl, trivial⟩ sft
         · show r.right.length - (j + 1) < r.right.length - j; omega
         · refine ⟨by show j + 1 ≤ _; omega, hlen1, hleast1, fun hgr => ⟨(h1 hgr).1, fun h3 h4 q hq hqt => ?_⟩, h2, hmono⟩
           have e := (h1 hgr).1
           rw [List.take_add_one, hsj, List.mem_append] at hq
           rcases hq with hq | hq
           · exact (h1 hgr).2 h3 h4 q hq hqt
           · simp only [Option.toList_some, List.mem_singleton] at hq
             rw [hq] at hqt ⊢
             rw [← e] at h3 ⊢
             simp_all; done
       refine kO ?_
       refine kO ?_
       refine kO ?_
       refine kO ?_
       refine OW_q (q_pick_f rfl rfl) rfl ?_
       refine nx2 ?_
       refine CW_false rfl rfl ?_
       refine CW_skip ?_
       refine EW_block_normal ?_
       refine EW_then ?_
       refine CW_region ?_
       refine OW_q (q_add rfl rfl (by omega) (by omega)) rfl ?_
       refine mO ?_
       refine OW_nil ?_
       refine EW_again ((j + 1, gr, is1)) ⟨?_, ?_⟩ ⟨rfl, rfl, rfl, rfl, rfl, rfl, rfl, trivial⟩ sft
       · show r.right.length - (j + 1) < r.right.length - j; omega
       · refine ⟨by show j + 1 ≤ _; omega, hlen1, hleast1, fun hgr => ⟨(h1 hgr).1, fun h3 h4 q hq hqt => ?_⟩, h2, hmono⟩
         have e := (h1 hgr).1
         rw [List.take_add_one, hsj, List.mem_append] at hq
         rcases hq with hq | hq
         · exact (h1 hgr).2 h3 h4 q hq hqt
         · simp only [Option.toList_some, List.mem_singleton] at hq
           rw [hq] at hqt ⊢
           rw [← e] at h3 ⊢
           simp_all; done
     refine kO ?_
     refine kO ?_
     refine kO ?_
     refine kO ?_
     refine kO ?_
     refine kO ?_
     refine OW_q (q_pick_f rfl rfl) rfl ?_
     refine mO ?_
     refine kO ?_
     refine kO ?_
     refine kO ?_
     refine kO ?_
     refine OW_q (q_pick_f rfl rfl) rfl ?_
     refine nx2 ?_
     refine CW_false rfl rfl ?_
     refine CW_skip ?_
     refine EW_block_normal ?_
     refine EW_then ?_
     refine CW_region ?_
     refine OW_q (q_add rfl rfl (by omega) (by omega)) rfl ?_
     refine mO ?_
     refine OW_nil ?_
     refine EW_again ((j + 1, gr, is1)) ⟨?_, ?_⟩ ⟨rfl, rfl, rfl, rfl, rfl, rfl, rfl, trivial⟩ sft
     · show r.right.length - (j + 1) < r.right.length - j; omega
     · refine ⟨by show j + 1 ≤ _; omega, hlen1, hleast1, fun hgr => ⟨(h1 hgr).1, fun h3 h4 q hq hqt => ?_⟩, h2, hmono⟩
       have e := (h1 hgr).1
       rw [List.take_add_one, hsj, List.mem_append] at hq
       rcases hq with hq | hq
       · exact (h1 hgr).2 h3 h4 q hq hqt
       · simp only [Option.toList_some, List.mem_singleton] at hq
         rw [hq] at hqt ⊢
         rw [← e] at h3 ⊢
         simp_all; done
   refine kO ?_
   refine kO ?_
   refine kO ?_
   refine OW_q (q_pick_f rfl rfl) rfl ?_
   refine mO ?_
   refine kO ?_
   refine kO ?_
   refine kO ?_
   refine kO ?_
   refine kO ?_
   refine kO ?_
   refine OW_q (q_pick_f rfl rfl) rfl ?_
   refine mO ?_
   refine kO ?_
   refine kO ?_
   refine kO ?_
   refine kO ?_
   refine OW_q (q_pick_f rfl rfl) rfl ?_
   refine nx2 ?_
   refine CW_false rfl rfl ?_
   refine CW_skip ?_
   refine EW_block_normal ?_
   refine EW_then ?_
   refine CW_region ?_
   refine OW_q (q_add rfl rfl (by omega) (by omega)) rfl ?_
   refine mO ?_
   refine OW_nil ?_
   refine EW_again ((j + 1, gr, is1)) ⟨?_, ?_⟩ ⟨rfl, rfl, rfl, rfl, rfl, rfl, rfl, trivial⟩ sft
   · show r.right.length - (j + 1) < r.right.length - j; omega
   · refine ⟨by show j + 1 ≤ _; omega, hlen1, hleast1, fun hgr => ⟨(h1 hgr).1, fun h3 h4 q hq hqt => ?_⟩, h2, hmono⟩
     have e := (h1 hgr).1
     rw [List.take_add_one, hsj, List.mem_append] at hq
     rcases hq with hq | hq
     · exact (h1 hgr).2 h3 h4 q hq hqt
     · simp only [Option.toList_some, List.mem_singleton] at hq
       rw [hq] at hqt ⊢
       rw [← e] at h3 ⊢
       simp_all; done
 have hend := take_all (l := r.right) (k := j) (by simpa using h12)
 refine CW_exit ?_
 refine EW_then_exit ?_
 refine EW_out ?_
 refine EW_block_exit ?_
 refine EW_then ?_
 refine nx3 ?_
 refine mO ?_
 refine aO ?_
 refine nx2 ?_
 refine CW_ret ?_
 refine ret1 Try.results73 rfl (fun w hw => ?_)
 exact ⟨(gr, is1), rfl, ⟨hlen1, hleast1, fun h => ⟨(h1 h).1, fun h3 h4 s hs => (h1 h).2 h3 h4 s (by rw [hend]; exact hs)⟩, h2, hmono⟩, hw.sub sbt⟩

set_option maxRecDepth 20000 in
theorem fix_any {ι : Type} (A : ι → HP) (I : ι → Prop) (μ : ι → Nat) (stp : Rule → ι → Bool → ι → Prop) (fid : FuncId) (caps : List Value) (gv : Value) (g : Gram) (R : Nat → Prop) (w0 w : World) (F : HP) (x0 : ι)
   (hc : ∀ args w, (callFunc fid args).run Try.prog w = .ok (.enter fid args) w) (hg : GramAt (Rd R w0) gv g)
   (hstep : ∀ r ∈ g.rules, ∀ rv x w F, SymsAt (Rd R w0) rv r.right → I x → Sat R w0 [A x, F] w → Calls Try.prog fid (Value.agg #[.int .i64 r.left, rv] :: caps).toArray w (fun e w' => ∃ y : Bool × ι, e = .returned (.bool y.1) ∧ (I y.2 ∧ stp r x y.1 y.2) ∧ Sat R w0 [A y.2, F] w'))
   (hdec : ∀ r x y, stp r x true y → μ y < μ x) (hsame : ∀ r x y, stp r x false y → y = x) (hI : I x0) (hw : Sat R w0 [A x0, F] w) :
   Calls Try.prog 70 #[gv, .func (.func fid) #[] caps.toArray] w (fun e w' => ∃ x, e = .returned (.tuple #[]) ∧ (I x ∧ ∀ r ∈ g.rules, stp r x false x) ∧ Sat R w0 [A x, F] w') := by
 obtain ⟨rv, rfl, hr⟩ := hg
 obtain ⟨a, c, rfl, hc1, hc2, hrs⟩ := hr
 refine calls_CW (S := Sat R w0 [A x0, F]) Try.func70 rfl Try.ntmps70 rfl (hw) ?_
 refine nx3 ?_
 refine OW_e (e_box rfl rfl) rfl (fun b2 => ?_)
 refine nx4 ?_
 refine aO ?_
 refine nx2 ?_
 refine CW_block ?_
 refine CW_loopP (ι := Bool × ι) (fun i_ => I i_.2 ∧ (i_.1 = false → ∀ r ∈ g.rules, stp r i_.2 false i_.2)) (fun i_ => [(1, .func (.func fid) #[] caps.toArray), (2, .pointer (some ⟨b2, 0, none⟩)), (4, .bool i_.1)]) (fun i_ => Sat R w0 [A i_.2, cel b2 24 [.int .i64 g.terms, .int .i64 g.names, .slice a g.rules.length c], F]) (fun i_ => 2 * μ i_.2 + (if i_.1 = true then 1 else 0)) (true, x0) ?_ ⟨rfl, rfl, rfl, trivial⟩ sft ?_
 · exact ⟨hI, fun h => by cases h⟩
 intro i_ hpre
 obtain ⟨again, x⟩ := i_
 replace hpre : I x ∧ (again = false → ∀ r ∈ g.rules, stp r x false x) := hpre
 change CW _ _ _ _ [(1, .func (.func fid) #[] caps.toArray), (2, .pointer (some ⟨b2, 0, none⟩)), (4, .bool again)] (Sat R w0 [A x, cel b2 24 [.int .i64 g.terms, .int .i64 g.names, .slice a g.rules.length c], F])
 obtain ⟨hI0, hcl0⟩ := hpre
 refine CW_seq ?_
 refine nx3 ?_
 refine mO ?_
 refine nx2 ?_
 refine CW_cond rfl (fun h7 => ?_) (fun h7 => ?_)
 · skip
   refine CW_skip ?_
   refine EW_then ?_
   refine CW_block ?_
   refine nx3 ?_
   refine aO ?_
   refine nx4 ?_
   refine OW_q (q_fieldAddr Try.underlying24 rfl rfl Try.sizeOf22 rfl rfl) rfl ?_
   refine OW_q (q_load1_own Try.isAgg22 rfl rfl swt (by rfl)) rfl ?_
   refine OW_q (q_len Try.underlying22 rfl) rfl ?_
   refine mO ?_
   refine nx2 ?_
   refine CW_block ?_
   refine CW_loopP (ι := Nat × Bool × ι) (fun i_ => i_.1 ≤ g.rules.length ∧ I i_.2.2 ∧ (i_.2.1 = false → i_.2.2 = x ∧ ∀ q ∈ g.rules.take i_.1, stp q x false x) ∧ (i_.2.1 = true → μ i_.2.2 < μ x)) (fun i_ => [(1, .func (.func fid) #[] caps.toArray), (2, .pointer (some ⟨b2, 0, none⟩)), (4, .bool i_.2.1), (9, .slice a g.rules.length c), (10, .int .i64 (g.rules.length : Int)), (11, .int .i64 (i_.1 : Int))]) (fun i_ => Sat R w0 [A i_.2.2, cel b2 24 [.int .i64 g.terms, .int .i64 g.names, .slice a g.rules.length c], F]) (fun i_ => g.rules.length - i_.1) (0, false, x) ?_ ⟨rfl, rfl, rfl, rfl, rfl, rfl, trivial⟩ sft ?_
   · exact ⟨Nat.zero_le _, hI0, (fun _ => ⟨rfl, fun q hq => by simp at hq⟩), fun h => by cases h⟩
   intro i_ hpre
   obtain ⟨k, ag, x1⟩ := i_
   replace hpre : k ≤ g.rules.length ∧ I x1 ∧ (ag = false → x1 = x ∧ ∀ q ∈ g.rules.take k, stp q x false x) ∧ (ag = true → μ x1 < μ x) := hpre
   change CW _ _ _ _ [(1, .func (.func fid) #[] caps.toArray), (2, .pointer (some ⟨b2, 0, none⟩)), (4, .bool ag), (9, .slice a g.rules.length c), (10, .int .i64 (g.rules.length : Int)), (11, .int .i64 (k : Int))] (Sat R w0 [A x1, cel b2 24 [.int .i64 g.terms, .int .i64 g.names, .slice a g.rules.length c], F])
   obtain ⟨hk, hI1, h1, h2⟩ := hpre
   refine nx3 ?_
   refine OW_q (q_lss rfl rfl) rfl ?_
   refine nx2 ?_
   refine CW_seq ?_
   refine CW_cond rfl (fun h12 => ?_) (fun h12 => ?_)
   · skip
     have hlt : k < g.rules.length := by simpa using h12
     obtain ⟨r, hx⟩ := get_of_lt hlt
     have hmem := List.mem_of_getElem? hx
     obtain ⟨p, rfl, rv2, hsy, hrow⟩ := hrs k r hx
     obtain ⟨a2, c2, hrv2, _⟩ := id hsy
     subst hrv2
     refine CW_skip ?_
     refine EW_then ?_
     refine CW_seq ?_
     refine CW_block ?_
     refine nx3 ?_
     refine OW_q (q_indexAddr Try.underlying22 Try.sizeOf49 rfl rfl (by omega)) rfl ?_
     refine OW_q (q_loadN_ro Try.isAgg49 Try.sizeOf49 rfl (by assumption) (by rfl)) rfl ?_
     refine OW_e (e_alloc Try.zeroValue49 rfl) rfl (fun b6 => ?_)
     refine OW_e0 (e_storeN Try.sizeOf49 rfl rfl rfl rfl (by simp [Value.oneCell']) swt (by rfl)) (fun _ => ?_)
     refine nx2 ?_
     refine CW_region ?_
     refine mO ?_
     refine OW_q (q_loadN_own Try.isAgg49 Try.sizeOf49 rfl rfl swt (by rfl)) rfl ?_
     refine OW_e (e_callv hc rfl rfl (fun w hw => lift_mut pkt hw (fun F hF => hstep r hmem _ x1 w F hsy hI1 hF))) rfl (fun x17 => ?_)
     refine OW_pure fun hx17 => ?_
     refine mO ?_
     refine OW_part (t := 18) rfl (fun hg18 => ?_) (fun hg18 => ?_)
     · skip
       refine kO ?_
       refine OW_q (q_pick_t rfl rfl) rfl ?_
       refine aO ?_
       refine OW_nil ?_
       refine EW_block_normal ?_
       refine EW_then ?_
       refine CW_region ?_
       refine OW_q (q_add rfl rfl (by omega) (by omega)) rfl ?_
       refine mO ?_
       refine OW_nil ?_
       refine EW_again ((k + 1, true, x17.2)) ⟨?_, ?_⟩ ⟨rfl, rfl, rfl, rfl, rfl, rfl, trivial⟩ sft
       · show g.rules.length - (k + 1) < g.rules.length - k; omega
       · have hd := hdec _ _ _ (by have := hx17.2; rw [hg18] at this; exact this)
         refine ⟨by show k + 1 ≤ _; omega, hx17.1, (fun h => by cases h), fun _ => ?_⟩
         show μ x17.2 < μ x
         cases hag : ag with
         | false => rw [(h1 hag).1] at hd; exact hd
         | true => have := h2 hag; omega
     have esame := hsame _ _ _ (by have := hx17.2; rw [hg18] at this; exact this)
     refine OW_weak (fun w hw => by rw [esame] at hw; exact hw) ?_
     refine wO ?_
     refine mO ?_
     refine OW_q (q_pick_f rfl rfl) rfl ?_
     refine aO ?_
     refine OW_nil ?_
     refine EW_block_normal ?_
     refine EW_then ?_
     refine CW_region ?_
     refine OW_q (q_add rfl rfl (by omega) (by omega)) rfl ?_
     refine mO ?_
     refine OW_nil ?_
     refine EW_again ((k + 1, ag, x1)) ⟨?_, ?_⟩ ⟨rfl, rfl, rfl, rfl, rfl, rfl, trivial⟩ sft
     · show g.rules.length - (k + 1) < g.rules.length - k; omega
     · refine ⟨by show k + 1 ≤ _; omega, hI1, fun hag => ⟨(h1 hag).1, fun q hq => ?_⟩, h2⟩
       rw [List.take_add_one, hx, List.mem_append] at hq
       rcases hq with hq | hq
       · exact (h1 hag).2 q hq
       · simp only [Option.toList_some, List.mem_singleton] at hq
         rw [hq]
         have hs := hx17.2
         rw [hg18, esame, (h1 hag).1] at hs
         exact hs
   have hend := take_all (l := g.rules) (k := k) (by simpa using h12)
   refine CW_exit ?_
   refine EW_then_exit ?_
   refine EW_out ?_
   refine EW_block_exit ?_
   refine EW_block_normal ?_
   refine EW_again ((ag, x1)) ⟨?_, ?_⟩ ⟨rfl, rfl, rfl, trivial⟩ sft
   · show 2 * μ x1 + _ < 2 * μ x + _
     rw [h7]
     cases hag : ag with
     | false => rw [(h1 hag).1]; simp
     | true => have := h2 hag; simp; omega
   · refine ⟨hI1, fun hag q hq => ?_⟩
     have e := (h1 hag).1
     show stp q x1 false x1
     rw [e]
     refine (h1 hag).2 q ?_
     rw [hend]; exact hq
 refine CW_exit ?_
 refine EW_then_exit ?_
 refine EW_out ?_
 refine EW_block_exit ?_
 refine end0 Try.results70 (fun w hw => ?_)
 exact ⟨x, rfl, ⟨hI0, hcl0 h7⟩, hw.sub sbt⟩

end Go.Sy
/- Package reach: what makes and what comes. No condition. -/
namespace Go.Sy
open Go Go.RowKit Go.Proofs

theorem makes_fix (gv : Value) (g : Gram) (R : Nat → Prop) (w0 w : World) (F : HP) (b4 bs N : Nat) (is : List Bool) (hm : mayB g = true) (hN : g.names.toNat = N) (hg : GramAt (Rd R w0) gv g) (hlen : is.length = N) (hl : LeastM g is)
   (hw : Sat R w0 [stars [bools bs 4 is, cel b4 54 [.slice (some ⟨bs, 0, none⟩) N N]], F] w) : Calls Try.prog 70 #[gv, .func (.func 71) #[] #[.pointer (some ⟨b4, 0, none⟩)]] w (fun e w' => ∃ x, e = .returned (.tuple #[]) ∧ (x.length = N ∧ LeastM g x ∧ ClosedM g x) ∧ Sat R w0 [stars [bools bs 4 x, cel b4 54 [.slice (some ⟨bs, 0, none⟩) N N]], F] w') := by
 have hM := mayB_true.1 hm
 have hall := may_all hm
 refine (fix_any (fun x => stars [bools bs 4 x, cel b4 54 [.slice (some ⟨bs, 0, none⟩) N N]]) (fun x => x.length = N ∧ LeastM g x) fls (fun r x ch y => (ch = false → y = x ∧ (allB x r.right = true → atB x r.left = true)) ∧ (ch = true → fls y < fls x)) 71 [.pointer (some ⟨b4, 0, none⟩)] gv g R w0 w F is Try.call71 hg
   (fun r hr rv x w F hsy hI hw => ?_) (fun r x y h => h.2 rfl) (fun r x y h => (h.1 rfl).1) ⟨hlen, hl⟩ hw).mono fun e w' ⟨x, he, hp, hw⟩ => ⟨x, he, ⟨hp.1.1, hp.1.2, fun r hr => ((hp.2 r hr).1 rfl).2⟩, hw⟩
 have hr1 := hall r hr
 refine (makes1_any g r rv N (by omega) hr1.1 (by omega) (fun s hs ht => by have := hr1.2.2 s hs ht; omega) hr R w0 w F hsy b4 bs x hI.1 hI.2 (hw.unjoin : Sat _ _ [bools bs 4 x, cel b4 54 [.slice (some ⟨bs, 0, none⟩) N N], F] w)).mono fun e w' ⟨y, he, hp, hw⟩ => ⟨y, he, ⟨⟨hp.1, hp.2.1⟩, hp.2.2⟩, ?_⟩
 exact Sat.join (M := [bools bs 4 y.2, cel b4 54 [.slice (some ⟨bs, 0, none⟩) N N]]) hw

theorem comes_fix (gv : Value) (g : Gram) (R : Nat → Prop) (w0 w : World) (F : HP) (b1 b2 bs bm N : Nat) (is m : List Bool) (hm : mayB g = true) (hN : g.names.toNat = N) (hg : GramAt (Rd R w0) gv g) (hlen : is.length = N) (hlm : m.length = N) (hl : LeastC g m is)
   (hw : Sat R w0 [stars [bools bs 4 is, cel b1 54 [.slice (some ⟨bs, 0, none⟩) N N], cel b2 54 [.slice (some ⟨bm, 0, none⟩) N N], bools bm 4 m], F] w) : Calls Try.prog 70 #[gv, .func (.func 73) #[] #[.pointer (some ⟨b1, 0, none⟩), .pointer (some ⟨b2, 0, none⟩)]] w (fun e w' => ∃ x, e = .returned (.tuple #[]) ∧ (x.length = N ∧ LeastC g m x ∧ ClosedC g m x ∧ (∀ n, atB is n = true → atB x n = true)) ∧ Sat R w0 [stars [bools bs 4 x, cel b1 54 [.slice (some ⟨bs, 0, none⟩) N N], cel b2 54 [.slice (some ⟨bm, 0, none⟩) N N], bools bm 4 m], F] w') := by
 have hM := mayB_true.1 hm
 have hall := may_all hm
 refine (fix_any (fun x => stars [bools bs 4 x, cel b1 54 [.slice (some ⟨bs, 0, none⟩) N N], cel b2 54 [.slice (some ⟨bm, 0, none⟩) N N], bools bm 4 m]) (fun x => x.length = N ∧ LeastC g m x ∧ (∀ n, atB is n = true → atB x n = true)) fls (fun r x ch y => (ch = false → y = x ∧ (atB x r.left = true → allB m r.right = true → ∀ s ∈ r.right, s.term = false → atB x s.n = true)) ∧ (ch = true → fls y < fls x)) 73 [.pointer (some ⟨b1, 0, none⟩), .pointer (some ⟨b2, 0, none⟩)] gv g R w0 w F is Try.call73 hg
   (fun r hr rv x w F hsy hI hw => ?_) (fun r x y h => h.2 rfl) (fun r x y h => (h.1 rfl).1) ⟨hlen, hl, fun _ h => h⟩ hw).mono fun e w' ⟨x, he, hp, hw⟩ => ⟨x, he, ⟨hp.1.1, hp.1.2.1, fun r hr => ((hp.2 r hr).1 rfl).2, hp.1.2.2⟩, hw⟩
 have hr1 := hall r hr
 refine (comes1_any g r rv N (by omega) hr1.1 (by omega) (fun s hs ht => by have := hr1.2.2 s hs ht; omega) hr R w0 w F hsy b1 b2 bs bm x m hI.1 hlm hI.2.1 (hw.unjoin : Sat _ _ [bools bs 4 x, cel b1 54 [.slice (some ⟨bs, 0, none⟩) N N], cel b2 54 [.slice (some ⟨bm, 0, none⟩) N N], bools bm 4 m, F] w)).mono fun e w' ⟨y, he, hp, hw⟩ => ⟨y, he, ⟨⟨hp.1, hp.2.1, fun n h => hp.2.2.2.2 n (hI.2.2 n h)⟩, hp.2.2.1, hp.2.2.2.1⟩, ?_⟩
 exact Sat.join (M := [bools bs 4 y.2, cel b1 54 [.slice (some ⟨bs, 0, none⟩) N N], cel b2 54 [.slice (some ⟨bm, 0, none⟩) N N], bools bm 4 m]) hw

set_option maxRecDepth 20000 in
theorem makes_yes (gv : Value) (g : Gram) (w : World) (hg : GramAt (Cl w) gv g) (hm : mayB g = true) : Calls Try.prog 56 #[gv] w (fun e w' => ∃ x : Nat × List Bool, e = .returned (.tuple #[.slice (some ⟨x.1, 0, none⟩) g.names.toNat g.names.toNat, .int .i64 0]) ∧ (x.2.length = g.names.toNat ∧ LeastM g x.2 ∧ ClosedM g x.2) ∧ Sat (Old w) w [bools x.1 4 x.2] w') := by
 have hg0 := hg
 obtain ⟨rv, rfl, hr⟩ := hg.mono old_rd
 obtain ⟨a, c, rfl, hc1, hc2, hrs⟩ := hr
 have hg1 := hg.mono old_rd
 have hM := mayB_true.1 hm
 refine calls_CW Try.func56 rfl Try.ntmps56 rfl (Sat.start w) ?_
 refine nx3 ?_
 refine OW_e (e_box rfl rfl) rfl (fun b1 => ?_)
 refine aO ?_
 refine aO ?_
 refine nx2 ?_
 refine CW_seq ?_
 refine nx3 ?_
 refine OW_q (q_loadN_own Try.isAgg24 Try.sizeOf24 rfl rfl swt (by rfl)) rfl ?_
 refine OW_e (e_call Try.call14 rfl (fun w hw => lift_ro (may_any _ g w (hg0.mono (fun _ _ h => hw.rd (Rd.old h)))) hw)) rfl (fun x6 => ?_)
 refine OW_q (q_not rfl) rfl ?_
 refine nx2 ?_
 refine CW_false rfl (by simp [hm]) ?_
 refine CW_skip ?_
 refine EW_then ?_
 refine nx3 ?_
 refine OW_q (q_fieldAddr Try.underlying24 rfl rfl Try.sizeOf3 rfl rfl) rfl ?_
 refine OW_q (q_load1_own Try.isAgg3 rfl rfl swt (by rfl)) rfl ?_
 refine OW_e (e_makeB Try.underlying54 Try.typeInfo4 rfl rfl (by decide) rfl rfl (by omega) (by omega)) rfl (fun b10 => ?_)
 refine OW_e (e_alloc Try.zeroValue54 rfl) rfl (fun b4 => ?_)
 refine OW_e0 (e_store Try.sizeOf54 rfl rfl rfl rfl swt (by rfl)) (fun _ => ?_)
 refine nx4 ?_
 refine OW_q (q_loadN_own Try.isAgg24 Try.sizeOf24 rfl rfl swt (by rfl)) rfl ?_
 refine OW_q (q_makeFuncL (us := [.pointer (some ⟨b4, 0, none⟩)]) rfl) rfl ?_
 refine OW_weak (fun w hw => Sat.join (M := [bools b10 4 (List.replicate g.names.toNat false), cel b4 54 [.slice (some ⟨b10, 0, none⟩) g.names.toNat g.names.toNat]]) (L := [cel b1 24 [.int .i64 g.terms, .int .i64 g.names, .slice a g.rules.length c]]) (hw.sub sbt)) ?_
 refine OW_e (e_call Try.call70 rfl (fun w hw => lift_mut pkt hw (fun F hF => makes_fix _ g _ _ w F b4 b10 _ (List.replicate g.names.toNat false) hm rfl hg1 List.length_replicate (leastM_new g _) hF))) rfl (fun x13 => ?_)
 refine OW_pure fun hx13 => ?_
 refine OW_weak (fun w hw => (hw.unjoin : Sat _ _ [bools b10 4 x13, cel b4 54 [.slice (some ⟨b10, 0, none⟩) g.names.toNat g.names.toNat], cel b1 24 [.int .i64 g.terms, .int .i64 g.names, .slice a g.rules.length c]] w)) ?_
 refine nx4 ?_
 refine OW_q (q_load1_own Try.isAgg54 rfl rfl swt (by rfl)) rfl ?_
 refine aO ?_
 refine aO ?_
 refine nx2 ?_
 refine CW_ret ?_
 refine ret2 Try.results56 rfl rfl (fun w hw => ?_)
 exact ⟨(b10, x13), rfl, hx13, hw.sub sbt⟩

set_option maxRecDepth 20000 in
theorem comes_yes (gv : Value) (g : Gram) (w : World) (hg : GramAt (Cl w) gv g) (hm : mayB g = true) : Calls Try.prog 57 #[gv] w (fun e w' => ∃ x : Nat × List Bool, e = .returned (.tuple #[.slice (some ⟨x.1, 0, none⟩) g.names.toNat g.names.toNat, .int .i64 0]) ∧ (x.2.length = g.names.toNat ∧ ∃ m : List Bool, m.length = g.names.toNat ∧ LeastM g m ∧ ClosedM g m ∧ LeastC g m x.2 ∧ ClosedC g m x.2 ∧ (atB m 0 = true → atB x.2 0 = true)) ∧ Sat (Old w) w [bools x.1 4 x.2] w') := by
 have hg0 := hg
 obtain ⟨rv, rfl, hr⟩ := hg.mono old_rd
 obtain ⟨a, c, rfl, hc1, hc2, hrs⟩ := hr
 have hg1 := hg.mono old_rd
 have hM := mayB_true.1 hm
 refine calls_CW Try.func57 rfl Try.ntmps57 rfl (Sat.start w) ?_
 refine nx3 ?_
 refine OW_e (e_box rfl rfl) rfl (fun b1 => ?_)
 refine aO ?_
 refine aO ?_
 refine nx4 ?_
 refine OW_q (q_loadN_own Try.isAgg24 Try.sizeOf24 rfl rfl swt (by rfl)) rfl ?_
 refine OW_e (e_call Try.call56 rfl (fun w hw => lift_oldP (makes_yes _ g w (hg0.mono (fun _ _ h => hw.rd (Rd.old h))) hm) hw)) rfl (fun x9 => ?_)
 refine OW_pure fun hx9 => ?_
 have hc0 : x9.2[(0 : Int).toNat]? = some (atB x9.2 0) := atB_get (by omega) (by omega)
 refine mO ?_
 refine OW_q (q_extract rfl rfl) rfl ?_
 refine OW_q (q_extract rfl rfl) rfl ?_
 refine OW_e (e_alloc Try.zeroValue54 rfl) rfl (fun b4 => ?_)
 refine OW_e0 (e_store Try.sizeOf54 rfl rfl rfl rfl swt (by rfl)) (fun _ => ?_)
 refine aO ?_
 refine nx2 ?_
 refine CW_seq ?_
 refine nx3 ?_
 refine mO ?_
 refine OW_q (q_nei rfl rfl) rfl ?_
 refine nx2 ?_
 refine CW_false rfl (by simp) ?_
 refine CW_skip ?_
 refine EW_then ?_
 refine nx3 ?_
 refine OW_q (q_fieldAddr Try.underlying24 rfl rfl Try.sizeOf3 rfl rfl) rfl ?_
 refine OW_q (q_load1_own Try.isAgg3 rfl rfl swt (by rfl)) rfl ?_
 refine OW_e (e_makeB Try.underlying54 Try.typeInfo4 rfl rfl (by decide) rfl rfl (by omega) (by omega)) rfl (fun b17 => ?_)
 refine OW_e (e_alloc Try.zeroValue54 rfl) rfl (fun b6 => ?_)
 refine OW_e0 (e_store Try.sizeOf54 rfl rfl rfl rfl swt (by rfl)) (fun _ => ?_)
 refine nx2 ?_
 refine CW_seq ?_
 refine CW_drawS 5 [(0, false), (1, false), (2, false), (3, false), (4, false), (5, true)] (by kernel_rfl) (Blind.then (Blind.body (by intro c w h; simp at h))) (by kernel_rfl) (fun w hw => hw.drew) ?_
 refine DW_q rfl sft (q_load1_own Try.isAgg54 rfl rfl swt (by rfl)) rfl ?_
 refine DW_q rfl sft (q_load1_own Try.isAgg54 rfl rfl swt (by rfl)) rfl ?_
 refine DW_q rfl sft (q_indexAddrI Try.underlying54 Try.sizeOf4 rfl rfl (by omega) (by omega)) rfl ?_
 refine DW_q rfl sft (q_load_bools Try.isAgg4 rfl swt (by assumption)) rfl ?_
 refine DW_q rfl sft (q_indexAddrI Try.underlying54 Try.sizeOf4 rfl rfl (by omega) (by omega)) rfl ?_
 refine DW_z0 rfl (e_store_bools Try.sizeOf4 rfl rfl swt (by simp; omega)) (fun _ => ?_)
 refine EW_then ?_
 refine nx3 ?_
 refine OW_q (q_loadN_own Try.isAgg24 Try.sizeOf24 rfl rfl swt (by rfl)) rfl ?_
 refine OW_q (q_makeFuncL (us := [.pointer (some ⟨b6, 0, none⟩), .pointer (some ⟨b4, 0, none⟩)]) rfl) rfl ?_
 refine OW_weak (fun w hw => Sat.join (M := [bools b17 4 ((List.replicate g.names.toNat false).set 0 (atB x9.2 0)), cel b6 54 [.slice (some ⟨b17, 0, none⟩) g.names.toNat g.names.toNat], cel b4 54 [.slice (some ⟨x9.1, 0, none⟩) g.names.toNat g.names.toNat], bools x9.1 4 x9.2]) (L := [cel b1 24 [.int .i64 g.terms, .int .i64 g.names, .slice a g.rules.length c]]) (hw.sub sbt)) ?_
 refine OW_e (e_call Try.call70 rfl (fun w hw => lift_mut pkt hw (fun F hF => comes_fix _ g _ _ w F b6 b4 b17 x9.1 _ ((List.replicate g.names.toNat false).set 0 (atB x9.2 0)) x9.2 hm rfl hg1 (by simp) hx9.1 (leastC_new g _ _) hF))) rfl (fun x25 => ?_)
 refine OW_pure fun hx25 => ?_
 refine OW_weak (fun w hw => (hw.unjoin : Sat _ _ [bools b17 4 x25, cel b6 54 [.slice (some ⟨b17, 0, none⟩) g.names.toNat g.names.toNat], cel b4 54 [.slice (some ⟨x9.1, 0, none⟩) g.names.toNat g.names.toNat], bools x9.1 4 x9.2, cel b1 24 [.int .i64 g.terms, .int .i64 g.names, .slice a g.rules.length c]] w)) ?_
 refine nx4 ?_
 refine OW_q (q_load1_own Try.isAgg54 rfl rfl swt (by rfl)) rfl ?_
 refine aO ?_
 refine aO ?_
 refine nx2 ?_
 refine CW_ret ?_
 refine ret2 Try.results57 rfl rfl (fun w hw => ?_)
 exact ⟨(b17, x25), rfl, ⟨hx25.1, x9.2, hx9.1, hx9.2.1, hx9.2.2, hx25.2.1, hx25.2.2.1, fun h => hx25.2.2.2 0 (by
   unfold atB
   rw [List.getD_eq_getElem?_getD]
   show ((List.set _ 0 _)[0]?).getD false = true
   rw [List.getElem?_set_self (by simp; omega)]
   exact h)⟩, hw.sub sbt⟩

end Go.Sy
