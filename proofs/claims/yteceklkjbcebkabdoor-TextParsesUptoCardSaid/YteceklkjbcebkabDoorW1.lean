/- Walks over package gram and the first reference: whether a grammar may be. No condition. -/
import Derived.Test.YteceklkjbcebkabDoorPlain
import Derived.Test.YteceklkjbcebkabDoorProg
namespace Go.Sy
open Go Go.RowKit Go.Proofs

set_option maxRecDepth 20000 in
theorem in_any (n b : Int) (w : World) : Calls Tryd.prog 26 #[.int .i64 n, .int .i64 b] w (fun e w' => e = .returned (.bool (inB n b)) ∧ w' = w) := by
  refine calls_CW (S := (fun w' => w' = w)) Tryd.func26 rfl Tryd.ntmps26 rfl (rfl) ?_
  refine CW_seq ?_
  refine CW_region ?_
  refine OW_q (q_assign rfl) rfl ?_
  refine OW_nil ?_
  refine EW_then ?_
  refine CW_seq ?_
  refine CW_region ?_
  refine OW_q (q_move rfl) rfl ?_
  refine OW_q (q_geq rfl rfl) rfl ?_
  refine OW_q (q_move rfl) rfl ?_
  refine OW_part (t := 7) rfl (fun hg7 => ?_) (fun hg7 => ?_)
  · skip
    refine OW_wanted rfl rfl rfl ?_
    refine OW_q (q_move rfl) rfl ?_
    refine OW_wanted rfl rfl rfl ?_
    refine OW_q (q_move rfl) rfl ?_
    refine OW_wanted rfl rfl rfl ?_
    refine OW_q (q_lss rfl rfl) rfl ?_
    refine OW_q (q_pick_t rfl rfl) rfl ?_
    refine OW_q (q_assign rfl) rfl ?_
    refine OW_nil ?_
    refine EW_then ?_
    refine CW_ret ?_
    refine ret1 Tryd.results26 rfl (fun w hw => ?_)
    exact ⟨by first | (simp_all [inB]; done) | (simp_all [inB]; omega), hw⟩
  · skip
    refine OW_skip rfl rfl rfl rfl ?_
    refine OW_skip rfl rfl rfl rfl ?_
    refine OW_skip rfl rfl rfl rfl ?_
    refine OW_q (q_pick_f rfl rfl) rfl ?_
    refine OW_q (q_assign rfl) rfl ?_
    refine OW_nil ?_
    refine EW_then ?_
    refine CW_ret ?_
    refine ret1 Tryd.results26 rfl (fun w hw => ?_)
    exact ⟨by first | (simp_all [inB]; done) | (simp_all [inB]; omega), hw⟩

set_option maxRecDepth 20000 in
theorem may_any (gv : Value) (g : Gram) (w : World) (hg : GramAt (Cl w) gv g) : Calls Tryd.prog 11 #[gv] w (fun e w' => e = .returned (.bool (mayB g)) ∧ Sat (Old w) w [] w') := by
  obtain ⟨rv, rfl, hr⟩ := hg.mono old_rd
  obtain ⟨a, c, rfl, hc1, hc2, hrs⟩ := hr
  clear hg
  refine calls_CW Tryd.func11 rfl Tryd.ntmps11 rfl (Sat.start w) ?_
  refine CW_seq ?_
  refine CW_region ?_
  refine OW_e (e_box rfl rfl) rfl (fun b1 => ?_)
  refine OW_q (q_assign rfl) rfl ?_
  refine OW_nil ?_
  refine EW_then ?_
  refine CW_seq ?_
  refine CW_seq ?_
  refine CW_region ?_
  refine OW_q (q_fieldAddr Tryd.underlying24 rfl rfl Tryd.sizeOf3 rfl rfl) rfl ?_
  first | (refine OW_q (q_load1_own Tryd.isAgg3 rfl rfl (by (repeat (first | exact .head | apply Swap.tail))) (by rfl)) rfl ?_) | (refine OW_q (q_load1_ro Tryd.isAgg3 rfl (by first | assumption | exact Row.at_ (by assumption) rfl)) rfl ?_)
  refine OW_e (e_call Tryd.call26 rfl (fun w hw => lift_same (in_any _ _ w) hw)) rfl (fun _ => ?_)
  refine OW_q (q_not rfl) rfl ?_
  refine OW_q (q_move rfl) rfl ?_
  refine OW_part (t := 11) rfl (fun hg11 => ?_) (fun hg11 => ?_)
  · skip
    refine OW_skip rfl rfl rfl rfl ?_
    refine OW_skip rfl rfl rfl rfl ?_
    refine OW_skip rfl rfl rfl rfl ?_
    refine OW_q (q_pick_t rfl rfl) rfl ?_
    refine OW_q (q_move rfl) rfl ?_
    refine OW_skip rfl rfl rfl rfl ?_
    refine OW_skip rfl rfl rfl rfl ?_
    refine OW_skip rfl rfl rfl rfl ?_
    refine OW_q (q_pick_t rfl rfl) rfl ?_
    refine OW_q (q_move rfl) rfl ?_
    refine OW_skip rfl rfl rfl rfl ?_
    refine OW_skip rfl rfl rfl rfl ?_
    refine OW_skip rfl rfl rfl rfl ?_
    refine OW_skip rfl rfl rfl rfl ?_
    refine OW_q (q_pick_t rfl rfl) rfl ?_
    refine OW_nil ?_
    refine EW_then ?_
    refine CW_true rfl rfl ?_
    refine CW_seq ?_
    refine CW_region ?_
    refine OW_q (q_assign rfl) rfl ?_
    refine OW_nil ?_
    refine EW_then ?_
    refine CW_ret ?_
    refine EW_then_ret ?_
    refine ret1 Tryd.results11 rfl (fun w hw => ?_)
    first
      | (refine ⟨rt (mayB_true.2 ?_), hw.sub .nil⟩; simp only [hok]; ((try simp only [decide_eq_true_eq, decide_eq_false_iff_not, Bool.not_eq_eq_eq_not, Bool.not_true, Bool.not_false, inB_true, inB_false] at *); first | omega | (simp_all; done) | (simp_all; omega)))
      | (refine ⟨rf fun hm => ?_, hw.sub .nil⟩; have h1 := mayB_true.1 hm; clear hm; ((try simp only [Bool.not_eq_eq_eq_not, Bool.not_true, inB_false] at *); first | omega | (simp_all; done) | (simp_all; omega)))
      | (refine ⟨rf fun hm => ?_, hw.sub .nil⟩; have h1 := may_rule hm hx; clear hm; ((try simp only [decide_eq_true_eq, decide_eq_false_iff_not, Bool.not_eq_eq_eq_not, Bool.not_true, Bool.not_false, inB_true, inB_false] at *); first | omega | (simp_all; done) | (simp_all; omega)))
      | (refine ⟨rf fun hm => ?_, hw.sub .nil⟩; have h1 := may_sym hm hx hs; clear hm; ((try simp only [decide_eq_true_eq, decide_eq_false_iff_not, Bool.not_eq_eq_eq_not, Bool.not_true, Bool.not_false, inB_true, inB_false] at *); first | omega | (simp_all; done) | (simp_all; omega)))
  · skip
    refine OW_wanted rfl rfl rfl ?_
    refine OW_q (q_fieldAddr Tryd.underlying24 rfl rfl Tryd.sizeOf3 rfl rfl) rfl ?_
    refine OW_wanted rfl rfl rfl ?_
    first | (refine OW_q (q_load1_own Tryd.isAgg3 rfl rfl (by (repeat (first | exact .head | apply Swap.tail))) (by rfl)) rfl ?_) | (refine OW_q (q_load1_ro Tryd.isAgg3 rfl (by first | assumption | exact Row.at_ (by assumption) rfl)) rfl ?_)
    refine OW_wanted rfl rfl rfl ?_
    refine OW_q (q_lss rfl rfl) rfl ?_
    refine OW_q (q_pick_f rfl rfl) rfl ?_
    refine OW_q (q_move rfl) rfl ?_
    refine OW_part (t := 16) rfl (fun hg16 => ?_) (fun hg16 => ?_)
    · skip
      refine OW_skip rfl rfl rfl rfl ?_
      refine OW_skip rfl rfl rfl rfl ?_
      refine OW_skip rfl rfl rfl rfl ?_
      refine OW_q (q_pick_t rfl rfl) rfl ?_
      refine OW_q (q_move rfl) rfl ?_
      refine OW_skip rfl rfl rfl rfl ?_
      refine OW_skip rfl rfl rfl rfl ?_
      refine OW_skip rfl rfl rfl rfl ?_
      refine OW_skip rfl rfl rfl rfl ?_
      refine OW_q (q_pick_t rfl rfl) rfl ?_
      refine OW_nil ?_
      refine EW_then ?_
      refine CW_true rfl rfl ?_
      refine CW_seq ?_
      refine CW_region ?_
      refine OW_q (q_assign rfl) rfl ?_
      refine OW_nil ?_
      refine EW_then ?_
      refine CW_ret ?_
      refine EW_then_ret ?_
      refine ret1 Tryd.results11 rfl (fun w hw => ?_)
      first
        | (refine ⟨rt (mayB_true.2 ?_), hw.sub .nil⟩; simp only [hok]; ((try simp only [decide_eq_true_eq, decide_eq_false_iff_not, Bool.not_eq_eq_eq_not, Bool.not_true, Bool.not_false, inB_true, inB_false] at *); first | omega | (simp_all; done) | (simp_all; omega)))
        | (refine ⟨rf fun hm => ?_, hw.sub .nil⟩; have h1 := mayB_true.1 hm; clear hm; ((try simp only [decide_eq_true_eq, Bool.not_eq_eq_eq_not, Bool.not_false, inB_true] at *); first | omega | (simp_all; done) | (simp_all; omega)))
        | (refine ⟨rf fun hm => ?_, hw.sub .nil⟩; have h1 := may_rule hm hx; clear hm; ((try simp only [decide_eq_true_eq, decide_eq_false_iff_not, Bool.not_eq_eq_eq_not, Bool.not_true, Bool.not_false, inB_true, inB_false] at *); first | omega | (simp_all; done) | (simp_all; omega)))
        | (refine ⟨rf fun hm => ?_, hw.sub .nil⟩; have h1 := may_sym hm hx hs; clear hm; ((try simp only [decide_eq_true_eq, decide_eq_false_iff_not, Bool.not_eq_eq_eq_not, Bool.not_true, Bool.not_false, inB_true, inB_false] at *); first | omega | (simp_all; done) | (simp_all; omega)))
    · skip
      refine OW_wanted rfl rfl rfl ?_
      refine OW_q (q_fieldAddr Tryd.underlying24 rfl rfl Tryd.sizeOf3 rfl rfl) rfl ?_
      refine OW_wanted rfl rfl rfl ?_
      first | (refine OW_q (q_load1_own Tryd.isAgg3 rfl rfl (by (repeat (first | exact .head | apply Swap.tail))) (by rfl)) rfl ?_) | (refine OW_q (q_load1_ro Tryd.isAgg3 rfl (by first | assumption | exact Row.at_ (by assumption) rfl)) rfl ?_)
      refine OW_wanted rfl rfl rfl ?_
      refine OW_q (q_gtr rfl rfl) rfl ?_
      refine OW_q (q_pick_f rfl rfl) rfl ?_
      refine OW_q (q_move rfl) rfl ?_
      refine OW_part (t := 21) rfl (fun hg21 => ?_) (fun hg21 => ?_)
      · skip
        refine OW_skip rfl rfl rfl rfl ?_
        refine OW_skip rfl rfl rfl rfl ?_
        refine OW_skip rfl rfl rfl rfl ?_
        refine OW_skip rfl rfl rfl rfl ?_
        refine OW_q (q_pick_t rfl rfl) rfl ?_
        refine OW_nil ?_
        refine EW_then ?_
        refine CW_true rfl rfl ?_
        refine CW_seq ?_
        refine CW_region ?_
        refine OW_q (q_assign rfl) rfl ?_
        refine OW_nil ?_
        refine EW_then ?_
        refine CW_ret ?_
        refine EW_then_ret ?_
        refine ret1 Tryd.results11 rfl (fun w hw => ?_)
        first
          | (refine ⟨rt (mayB_true.2 ?_), hw.sub .nil⟩; simp only [hok]; ((try simp only [decide_eq_true_eq, decide_eq_false_iff_not, Bool.not_eq_eq_eq_not, Bool.not_true, Bool.not_false, inB_true, inB_false] at *); first | omega | (simp_all; done) | (simp_all; omega)))
          | (refine ⟨rf fun hm => ?_, hw.sub .nil⟩; have h1 := mayB_true.1 hm; clear hm; ((try simp only [decide_eq_true_eq, decide_eq_false_iff_not, Bool.not_eq_eq_eq_not, Bool.not_false, inB_true] at *); first | omega | (simp_all; done) | (simp_all; omega)))
          | (refine ⟨rf fun hm => ?_, hw.sub .nil⟩; have h1 := may_rule hm hx; clear hm; ((try simp only [decide_eq_true_eq, decide_eq_false_iff_not, Bool.not_eq_eq_eq_not, Bool.not_true, Bool.not_false, inB_true, inB_false] at *); first | omega | (simp_all; done) | (simp_all; omega)))
          | (refine ⟨rf fun hm => ?_, hw.sub .nil⟩; have h1 := may_sym hm hx hs; clear hm; ((try simp only [decide_eq_true_eq, decide_eq_false_iff_not, Bool.not_eq_eq_eq_not, Bool.not_true, Bool.not_false, inB_true, inB_false] at *); first | omega | (simp_all; done) | (simp_all; omega)))
      · skip
        refine OW_wanted rfl rfl rfl ?_
        refine OW_q (q_fieldAddr Tryd.underlying24 rfl rfl Tryd.sizeOf22 rfl rfl) rfl ?_
        refine OW_wanted rfl rfl rfl ?_
        first | (refine OW_q (q_load1_own Tryd.isAgg22 rfl rfl (by (repeat (first | exact .head | apply Swap.tail))) (by rfl)) rfl ?_) | (refine OW_q (q_load1_ro Tryd.isAgg22 rfl (by first | assumption | exact Row.at_ (by assumption) rfl)) rfl ?_)
        refine OW_wanted rfl rfl rfl ?_
        refine OW_q (q_len Tryd.underlying22 rfl) rfl ?_
        refine OW_wanted rfl rfl rfl ?_
        refine OW_q (q_gtr rfl rfl) rfl ?_
        refine OW_q (q_pick_f rfl rfl) rfl ?_
        refine OW_nil ?_
        refine EW_then ?_
        refine CW_cond rfl (fun h26 => ?_) (fun h26 => ?_)
        · skip
          refine CW_seq ?_
          refine CW_region ?_
          refine OW_q (q_assign rfl) rfl ?_
          refine OW_nil ?_
          refine EW_then ?_
          refine CW_ret ?_
          refine EW_then_ret ?_
          refine ret1 Tryd.results11 rfl (fun w hw => ?_)
          first
            | (refine ⟨rt (mayB_true.2 ?_), hw.sub .nil⟩; simp only [hok]; ((try simp only [decide_eq_true_eq, decide_eq_false_iff_not, Bool.not_eq_eq_eq_not, Bool.not_true, Bool.not_false, inB_true, inB_false] at *); first | omega | (simp_all; done) | (simp_all; omega)))
            | (refine ⟨rf fun hm => ?_, hw.sub .nil⟩; have h1 := mayB_true.1 hm; clear hm; ((try simp only [decide_eq_true_eq, decide_eq_false_iff_not, Bool.not_eq_eq_eq_not, Bool.not_false, inB_true] at *); first | omega | (simp_all; done) | (simp_all; omega)))
            | (refine ⟨rf fun hm => ?_, hw.sub .nil⟩; have h1 := may_rule hm hx; clear hm; ((try simp only [decide_eq_true_eq, decide_eq_false_iff_not, Bool.not_eq_eq_eq_not, Bool.not_true, Bool.not_false, inB_true, inB_false] at *); first | omega | (simp_all; done) | (simp_all; omega)))
            | (refine ⟨rf fun hm => ?_, hw.sub .nil⟩; have h1 := may_sym hm hx hs; clear hm; ((try simp only [decide_eq_true_eq, decide_eq_false_iff_not, Bool.not_eq_eq_eq_not, Bool.not_true, Bool.not_false, inB_true, inB_false] at *); first | omega | (simp_all; done) | (simp_all; omega)))
        · skip
          refine CW_skip ?_
          refine EW_then ?_
          refine CW_seq ?_
          refine CW_seq ?_
          refine CW_region ?_
          refine OW_q (q_fieldAddr Tryd.underlying24 rfl rfl Tryd.sizeOf22 rfl rfl) rfl ?_
          first | (refine OW_q (q_load1_own Tryd.isAgg22 rfl rfl (by (repeat (first | exact .head | apply Swap.tail))) (by rfl)) rfl ?_) | (refine OW_q (q_load1_ro Tryd.isAgg22 rfl (by first | assumption | exact Row.at_ (by assumption) rfl)) rfl ?_)
          refine OW_q (q_len Tryd.underlying22 rfl) rfl ?_
          refine OW_q (q_move rfl) rfl ?_
          refine OW_nil ?_
          refine EW_then ?_
          refine CW_block ?_
          refine CW_loopP (ι := Nat) (fun k => k ≤ g.rules.length ∧ (g.rules.take k).all (ruleB g) = true) (fun k => [(1, .pointer (some ⟨b1, 0, none⟩)), (28, .slice a g.rules.length c), (29, .int .i64 (g.rules.length : Int)), (30, .int .i64 (k : Int))]) (fun k => Sat (Old w) w [cel b1 24 [.int .i64 g.terms, .int .i64 g.names, .slice a g.rules.length c]]) (fun k => g.rules.length - k) 0 ?_ ⟨rfl, rfl, rfl, rfl, trivial⟩ (fun w hw => hw.sub (by (repeat (first | exact SubL.nil | exact Pick.head | apply Pick.tail | apply SubL.cons)))) ?_
          · exact ⟨Nat.zero_le _, rfl⟩
          intro k hpre
          change CW _ _ _ _ [(1, .pointer (some ⟨b1, 0, none⟩)), (28, .slice a g.rules.length c), (29, .int .i64 (g.rules.length : Int)), (30, .int .i64 (k : Int))] (Sat (Old w) w [cel b1 24 [.int .i64 g.terms, .int .i64 g.names, .slice a g.rules.length c]])
          obtain ⟨hk, hok⟩ := hpre
          refine CW_seq ?_
          refine CW_region ?_
          refine OW_q (q_lss rfl rfl) rfl ?_
          refine OW_nil ?_
          refine EW_then ?_
          refine CW_seq ?_
          refine CW_cond rfl (fun h31 => ?_) (fun h31 => ?_)
          · skip
            have hlt : k < g.rules.length := by simpa using h31
            obtain ⟨r, hx⟩ := get_of_lt hlt
            obtain ⟨p, rfl, rv2, hsy, hrow⟩ := hrs k r hx
            obtain ⟨a2, c2, rfl, hd1, hd2, hss⟩ := hsy
            refine CW_skip ?_
            refine EW_then ?_
            refine CW_seq ?_
            refine CW_block ?_
            refine CW_seq ?_
            refine CW_region ?_
            refine OW_q (q_indexAddr Tryd.underlying22 Tryd.sizeOf50 rfl rfl (by first | omega | assumption)) rfl ?_
            refine OW_q (q_loadN_ro Tryd.isAgg50 Tryd.sizeOf50 rfl (by first | assumption | exact Row.at_ (by assumption) rfl) (by rfl)) rfl ?_
            refine OW_e (e_alloc Tryd.zeroValue50 rfl) rfl (fun b4 => ?_)
            refine OW_e0 (e_storeN Tryd.sizeOf50 rfl rfl rfl rfl (by simp [Value.oneCell']) (by (repeat (first | exact .head | apply Swap.tail))) (by rfl)) (fun _ => ?_)
            refine OW_nil ?_
            refine EW_then ?_
            refine CW_seq ?_
            refine CW_seq ?_
            refine CW_region ?_
            refine OW_q (q_fieldAddr Tryd.underlying50 rfl rfl Tryd.sizeOf3 rfl rfl) rfl ?_
            first | (refine OW_q (q_load1_own Tryd.isAgg3 rfl rfl (by (repeat (first | exact .head | apply Swap.tail))) (by rfl)) rfl ?_) | (refine OW_q (q_load1_ro Tryd.isAgg3 rfl (by first | assumption | exact Row.at_ (by assumption) rfl)) rfl ?_)
            refine OW_q (q_fieldAddr Tryd.underlying24 rfl rfl Tryd.sizeOf3 rfl rfl) rfl ?_
            first | (refine OW_q (q_load1_own Tryd.isAgg3 rfl rfl (by (repeat (first | exact .head | apply Swap.tail))) (by rfl)) rfl ?_) | (refine OW_q (q_load1_ro Tryd.isAgg3 rfl (by first | assumption | exact Row.at_ (by assumption) rfl)) rfl ?_)
            refine OW_e (e_call Tryd.call26 rfl (fun w hw => lift_same (in_any _ _ w) hw)) rfl (fun _ => ?_)
            refine OW_q (q_not rfl) rfl ?_
            refine OW_q (q_move rfl) rfl ?_
            refine OW_part (t := 40) rfl (fun hg40 => ?_) (fun hg40 => ?_)
            · skip
              refine OW_skip rfl rfl rfl rfl ?_
              refine OW_skip rfl rfl rfl rfl ?_
              refine OW_skip rfl rfl rfl rfl ?_
              refine OW_skip rfl rfl rfl rfl ?_
              refine OW_q (q_pick_t rfl rfl) rfl ?_
              refine OW_nil ?_
              refine EW_then ?_
              refine CW_true rfl rfl ?_
              refine CW_seq ?_
              refine CW_region ?_
              refine OW_q (q_assign rfl) rfl ?_
              refine OW_nil ?_
              refine EW_then ?_
              refine CW_ret ?_
              refine EW_then_ret ?_
              refine EW_block_ret ?_
              refine EW_then_ret ?_
              refine EW_out_ret ?_
              refine EW_block_ret ?_
              refine EW_then_ret ?_
              refine ret1 Tryd.results11 rfl (fun w hw => ?_)
              first
                | (refine ⟨rt (mayB_true.2 ?_), hw.sub .nil⟩; simp only [hok]; ((try simp only [decide_eq_true_eq, decide_eq_false_iff_not, Bool.not_eq_eq_eq_not, Bool.not_true, Bool.not_false, inB_true, inB_false] at *); first | omega | (simp_all; done) | (simp_all; omega)))
                | (refine ⟨rf fun hm => ?_, hw.sub .nil⟩; have h1 := mayB_true.1 hm; clear hm; ((try simp only [decide_eq_true_eq, decide_eq_false_iff_not, Bool.not_eq_eq_eq_not, Bool.not_true, Bool.not_false, inB_true, inB_false] at *); first | omega | (simp_all; done) | (simp_all; omega)))
                | (refine ⟨rf fun hm => ?_, hw.sub .nil⟩; have h1 := may_rule hm hx; clear hm; ((try simp only [decide_eq_true_eq, decide_eq_false_iff_not, Bool.not_eq_eq_eq_not, Bool.not_true, Bool.not_false, inB_true, inB_false] at *); first | omega | (simp_all; done) | (simp_all; omega)))
                | (refine ⟨rf fun hm => ?_, hw.sub .nil⟩; have h1 := may_sym hm hx hs; clear hm; ((try simp only [decide_eq_true_eq, decide_eq_false_iff_not, Bool.not_eq_eq_eq_not, Bool.not_true, Bool.not_false, inB_true, inB_false] at *); first | omega | (simp_all; done) | (simp_all; omega)))
            · skip
              refine OW_wanted rfl rfl rfl ?_
              refine OW_q (q_fieldAddr Tryd.underlying50 rfl rfl Tryd.sizeOf48 rfl rfl) rfl ?_
              refine OW_wanted rfl rfl rfl ?_
              first | (refine OW_q (q_load1_own Tryd.isAgg48 rfl rfl (by (repeat (first | exact .head | apply Swap.tail))) (by rfl)) rfl ?_) | (refine OW_q (q_load1_ro Tryd.isAgg48 rfl (by first | assumption | exact Row.at_ (by assumption) rfl)) rfl ?_)
              refine OW_wanted rfl rfl rfl ?_
              refine OW_q (q_len Tryd.underlying48 rfl) rfl ?_
              refine OW_wanted rfl rfl rfl ?_
              refine OW_q (q_gtr rfl rfl) rfl ?_
              refine OW_q (q_pick_f rfl rfl) rfl ?_
              refine OW_nil ?_
              refine EW_then ?_
              refine CW_cond rfl (fun h45 => ?_) (fun h45 => ?_)
              · skip
                refine CW_seq ?_
                refine CW_region ?_
                refine OW_q (q_assign rfl) rfl ?_
                refine OW_nil ?_
                refine EW_then ?_
                refine CW_ret ?_
                refine EW_then_ret ?_
                refine EW_block_ret ?_
                refine EW_then_ret ?_
                refine EW_out_ret ?_
                refine EW_block_ret ?_
                refine EW_then_ret ?_
                refine ret1 Tryd.results11 rfl (fun w hw => ?_)
                first
                  | (refine ⟨rt (mayB_true.2 ?_), hw.sub .nil⟩; simp only [hok]; ((try simp only [decide_eq_true_eq, decide_eq_false_iff_not, Bool.not_eq_eq_eq_not, Bool.not_true, Bool.not_false, inB_true, inB_false] at *); first | omega | (simp_all; done) | (simp_all; omega)))
                  | (refine ⟨rf fun hm => ?_, hw.sub .nil⟩; have h1 := mayB_true.1 hm; clear hm; ((try simp only [decide_eq_true_eq, decide_eq_false_iff_not, Bool.not_eq_eq_eq_not, Bool.not_false, inB_true] at *); first | omega | (simp_all; done) | (simp_all; omega)))
                  | (refine ⟨rf fun hm => ?_, hw.sub .nil⟩; have h1 := may_rule hm hx; clear hm; ((try simp only [decide_eq_true_eq, decide_eq_false_iff_not, Bool.not_eq_eq_eq_not, Bool.not_false, inB_true] at *); first | omega | (simp_all; done) | (simp_all; omega)))
                  | (refine ⟨rf fun hm => ?_, hw.sub .nil⟩; have h1 := may_sym hm hx hs; clear hm; ((try simp only [decide_eq_true_eq, decide_eq_false_iff_not, Bool.not_eq_eq_eq_not, Bool.not_true, Bool.not_false, inB_true, inB_false] at *); first | omega | (simp_all; done) | (simp_all; omega)))
              · skip
                refine CW_skip ?_
                refine EW_then ?_
                refine CW_seq ?_
                refine CW_region ?_
                refine OW_q (q_fieldAddr Tryd.underlying50 rfl rfl Tryd.sizeOf48 rfl rfl) rfl ?_
                first | (refine OW_q (q_load1_own Tryd.isAgg48 rfl rfl (by (repeat (first | exact .head | apply Swap.tail))) (by rfl)) rfl ?_) | (refine OW_q (q_load1_ro Tryd.isAgg48 rfl (by first | assumption | exact Row.at_ (by assumption) rfl)) rfl ?_)
                refine OW_q (q_len Tryd.underlying48 rfl) rfl ?_
                refine OW_q (q_move rfl) rfl ?_
                refine OW_nil ?_
                refine EW_then ?_
                refine CW_block ?_
                refine CW_loopP (ι := Nat) (fun j => j ≤ r.right.length ∧ (r.right.take j).all (symB g) = true) (fun j => [(1, .pointer (some ⟨b1, 0, none⟩)), (28, .slice (some p) g.rules.length c), (29, .int .i64 (g.rules.length : Int)), (30, .int .i64 (k : Int)), (47, .slice a2 r.right.length c2), (48, .int .i64 (r.right.length : Int)), (49, .int .i64 (j : Int))]) (fun j => Sat (Old w) w [cel b1 24 [.int .i64 g.terms, .int .i64 g.names, .slice (some p) g.rules.length c]]) (fun j => r.right.length - j) 0 ?_ ⟨rfl, rfl, rfl, rfl, rfl, rfl, rfl, trivial⟩ (fun w hw => hw.sub (by (repeat (first | exact SubL.nil | exact Pick.head | apply Pick.tail | apply SubL.cons)))) ?_
                · exact ⟨Nat.zero_le _, rfl⟩
                intro j hpre
                change CW _ _ _ _ [(1, .pointer (some ⟨b1, 0, none⟩)), (28, .slice (some p) g.rules.length c), (29, .int .i64 (g.rules.length : Int)), (30, .int .i64 (k : Int)), (47, .slice a2 r.right.length c2), (48, .int .i64 (r.right.length : Int)), (49, .int .i64 (j : Int))] (Sat (Old w) w [cel b1 24 [.int .i64 g.terms, .int .i64 g.names, .slice (some p) g.rules.length c]])
                obtain ⟨hj, hokj⟩ := hpre
                refine CW_seq ?_
                refine CW_region ?_
                refine OW_q (q_lss rfl rfl) rfl ?_
                refine OW_nil ?_
                refine EW_then ?_
                refine CW_seq ?_
                refine CW_cond rfl (fun h50 => ?_) (fun h50 => ?_)
                · skip
                  have hltj : j < r.right.length := by simpa using h50
                  obtain ⟨s, hs⟩ := get_of_lt hltj
                  obtain ⟨p2, rfl, hrow2⟩ := hss j s hs
                  refine CW_skip ?_
                  refine EW_then ?_
                  refine CW_seq ?_
                  refine CW_block ?_
                  refine CW_seq ?_
                  refine CW_region ?_
                  refine OW_q (q_indexAddr Tryd.underlying48 Tryd.sizeOf53 rfl rfl (by first | omega | assumption)) rfl ?_
                  refine OW_q (q_loadN_ro Tryd.isAgg53 Tryd.sizeOf53 rfl (by first | assumption | exact Row.at_ (by assumption) rfl) (by rfl)) rfl ?_
                  refine OW_e (e_alloc Tryd.zeroValue53 rfl) rfl (fun b6 => ?_)
                  refine OW_e0 (e_storeN Tryd.sizeOf53 rfl rfl rfl rfl (by simp [Value.oneCell']) (by (repeat (first | exact .head | apply Swap.tail))) (by rfl)) (fun _ => ?_)
                  refine OW_nil ?_
                  refine EW_then ?_
                  refine CW_seq ?_
                  refine CW_region ?_
                  refine OW_q (q_fieldAddr Tryd.underlying53 rfl rfl Tryd.sizeOf4 rfl rfl) rfl ?_
                  first | (refine OW_q (q_load1_own Tryd.isAgg4 rfl rfl (by (repeat (first | exact .head | apply Swap.tail))) (by rfl)) rfl ?_) | (refine OW_q (q_load1_ro Tryd.isAgg4 rfl (by first | assumption | exact Row.at_ (by assumption) rfl)) rfl ?_)
                  refine OW_q (q_move rfl) rfl ?_
                  refine OW_part (t := 55) rfl (fun hg55 => ?_) (fun hg55 => ?_)
                  · skip
                    refine OW_wanted rfl rfl rfl ?_
                    refine OW_q (q_fieldAddr Tryd.underlying53 rfl rfl Tryd.sizeOf3 rfl rfl) rfl ?_
                    refine OW_wanted rfl rfl rfl ?_
                    first | (refine OW_q (q_load1_own Tryd.isAgg3 rfl rfl (by (repeat (first | exact .head | apply Swap.tail))) (by rfl)) rfl ?_) | (refine OW_q (q_load1_ro Tryd.isAgg3 rfl (by first | assumption | exact Row.at_ (by assumption) rfl)) rfl ?_)
                    refine OW_wanted rfl rfl rfl ?_
                    refine OW_q (q_fieldAddr Tryd.underlying24 rfl rfl Tryd.sizeOf3 rfl rfl) rfl ?_
                    refine OW_wanted rfl rfl rfl ?_
                    first | (refine OW_q (q_load1_own Tryd.isAgg3 rfl rfl (by (repeat (first | exact .head | apply Swap.tail))) (by rfl)) rfl ?_) | (refine OW_q (q_load1_ro Tryd.isAgg3 rfl (by first | assumption | exact Row.at_ (by assumption) rfl)) rfl ?_)
                    refine OW_wanted rfl rfl rfl ?_
                    refine OW_e (e_call Tryd.call26 rfl (fun w hw => lift_same (in_any _ _ w) hw)) rfl (fun _ => ?_)
                    refine OW_wanted rfl rfl rfl ?_
                    refine OW_q (q_not rfl) rfl ?_
                    refine OW_q (q_pick_t rfl rfl) rfl ?_
                    refine OW_q (q_move rfl) rfl ?_
                    refine OW_part (t := 63) rfl (fun hg63 => ?_) (fun hg63 => ?_)
                    · skip
                      refine OW_skip rfl rfl rfl rfl ?_
                      refine OW_skip rfl rfl rfl rfl ?_
                      refine OW_skip rfl rfl rfl rfl ?_
                      refine OW_skip rfl rfl rfl rfl ?_
                      refine OW_skipU rfl rfl rfl ?_
                      refine OW_skipU rfl rfl rfl ?_
                      refine OW_skipU rfl rfl rfl ?_
                      refine OW_skipU rfl rfl rfl ?_
                      refine OW_skipU rfl rfl rfl ?_
                      refine OW_skipU rfl rfl rfl ?_
                      refine OW_skip rfl rfl rfl rfl ?_
                      refine OW_q (q_pick_t rfl rfl) rfl ?_
                      refine OW_nil ?_
                      refine EW_then ?_
                      refine CW_true rfl rfl ?_
                      refine CW_seq ?_
                      refine CW_region ?_
                      refine OW_q (q_assign rfl) rfl ?_
                      refine OW_nil ?_
                      refine EW_then ?_
                      refine CW_ret ?_
                      refine EW_block_ret ?_
                      refine EW_then_ret ?_
                      refine EW_out_ret ?_
                      refine EW_block_ret ?_
                      refine EW_block_ret ?_
                      refine EW_then_ret ?_
                      refine EW_out_ret ?_
                      refine EW_block_ret ?_
                      refine EW_then_ret ?_
                      refine ret1 Tryd.results11 rfl (fun w hw => ?_)
                      first
                        | (refine ⟨rt (mayB_true.2 ?_), hw.sub .nil⟩; simp only [hok]; ((try simp only [decide_eq_true_eq, decide_eq_false_iff_not, Bool.not_eq_eq_eq_not, Bool.not_true, Bool.not_false, inB_true, inB_false] at *); first | omega | (simp_all; done) | (simp_all; omega)))
                        | (refine ⟨rf fun hm => ?_, hw.sub .nil⟩; have h1 := mayB_true.1 hm; clear hm; ((try simp only [decide_eq_true_eq, decide_eq_false_iff_not, Bool.not_eq_eq_eq_not, Bool.not_true, Bool.not_false, inB_true, inB_false] at *); first | omega | (simp_all; done) | (simp_all; omega)))
                        | (refine ⟨rf fun hm => ?_, hw.sub .nil⟩; have h1 := may_rule hm hx; clear hm; ((try simp only [decide_eq_true_eq, decide_eq_false_iff_not, Bool.not_eq_eq_eq_not, Bool.not_true, Bool.not_false, inB_true, inB_false] at *); first | omega | (simp_all; done) | (simp_all; omega)))
                        | (refine ⟨rf fun hm => ?_, hw.sub .nil⟩; have h1 := may_sym hm hx hs; clear hm; ((try simp only [decide_eq_true_eq, decide_eq_false_iff_not, Bool.not_eq_eq_eq_not, Bool.not_true, Bool.not_false, inB_true, inB_false] at *); first | omega | (simp_all; done) | (simp_all; omega)))
                    · skip
                      refine OW_wanted rfl rfl rfl ?_
                      refine OW_q (q_fieldAddr Tryd.underlying53 rfl rfl Tryd.sizeOf4 rfl rfl) rfl ?_
                      refine OW_wanted rfl rfl rfl ?_
                      first | (refine OW_q (q_load1_own Tryd.isAgg4 rfl rfl (by (repeat (first | exact .head | apply Swap.tail))) (by rfl)) rfl ?_) | (refine OW_q (q_load1_ro Tryd.isAgg4 rfl (by first | assumption | exact Row.at_ (by assumption) rfl)) rfl ?_)
                      refine OW_wanted rfl rfl rfl ?_
                      refine OW_q (q_not rfl) rfl ?_
                      refine OW_wanted rfl rfl rfl ?_
                      refine OW_q (q_move rfl) rfl ?_
                      refine OW_part (t := 67) rfl (fun hg67 => ?_) (fun hg67 => ?_)
                      · skip
                        refine OW_wanted rfl rfl rfl ?_
                        refine OW_q (q_fieldAddr Tryd.underlying53 rfl rfl Tryd.sizeOf3 rfl rfl) rfl ?_
                        refine OW_wanted rfl rfl rfl ?_
                        first | (refine OW_q (q_load1_own Tryd.isAgg3 rfl rfl (by (repeat (first | exact .head | apply Swap.tail))) (by rfl)) rfl ?_) | (refine OW_q (q_load1_ro Tryd.isAgg3 rfl (by first | assumption | exact Row.at_ (by assumption) rfl)) rfl ?_)
                        refine OW_wanted rfl rfl rfl ?_
                        refine OW_q (q_fieldAddr Tryd.underlying24 rfl rfl Tryd.sizeOf3 rfl rfl) rfl ?_
                        refine OW_wanted rfl rfl rfl ?_
                        first | (refine OW_q (q_load1_own Tryd.isAgg3 rfl rfl (by (repeat (first | exact .head | apply Swap.tail))) (by rfl)) rfl ?_) | (refine OW_q (q_load1_ro Tryd.isAgg3 rfl (by first | assumption | exact Row.at_ (by assumption) rfl)) rfl ?_)
                        refine OW_wanted rfl rfl rfl ?_
                        refine OW_e (e_call Tryd.call26 rfl (fun w hw => lift_same (in_any _ _ w) hw)) rfl (fun _ => ?_)
                        refine OW_wanted rfl rfl rfl ?_
                        refine OW_q (q_not rfl) rfl ?_
                        refine OW_wanted rfl rfl rfl ?_
                        refine OW_q (q_pick_t rfl rfl) rfl ?_
                        refine OW_q (q_pick_f rfl rfl) rfl ?_
                        refine OW_nil ?_
                        refine EW_then ?_
                        refine CW_cond rfl (fun h75 => ?_) (fun h75 => ?_)
                        · skip
                          refine CW_seq ?_
                          refine CW_region ?_
                          refine OW_q (q_assign rfl) rfl ?_
                          refine OW_nil ?_
                          refine EW_then ?_
                          refine CW_ret ?_
                          refine EW_block_ret ?_
                          refine EW_then_ret ?_
                          refine EW_out_ret ?_
                          refine EW_block_ret ?_
                          refine EW_block_ret ?_
                          refine EW_then_ret ?_
                          refine EW_out_ret ?_
                          refine EW_block_ret ?_
                          refine EW_then_ret ?_
                          refine ret1 Tryd.results11 rfl (fun w hw => ?_)
                          first
                            | (refine ⟨rt (mayB_true.2 ?_), hw.sub .nil⟩; simp only [hok]; ((try simp only [decide_eq_true_eq, decide_eq_false_iff_not, Bool.not_eq_eq_eq_not, Bool.not_true, Bool.not_false, inB_true, inB_false] at *); first | omega | (simp_all; done) | (simp_all; omega)))
                            | (refine ⟨rf fun hm => ?_, hw.sub .nil⟩; have h1 := mayB_true.1 hm; clear hm; ((try simp only [decide_eq_true_eq, decide_eq_false_iff_not, Bool.not_eq_eq_eq_not, Bool.not_true, Bool.not_false, inB_true, inB_false] at *); first | omega | (simp_all; done) | (simp_all; omega)))
                            | (refine ⟨rf fun hm => ?_, hw.sub .nil⟩; have h1 := may_rule hm hx; clear hm; ((try simp only [decide_eq_true_eq, decide_eq_false_iff_not, Bool.not_eq_eq_eq_not, Bool.not_true, Bool.not_false, inB_true, inB_false] at *); first | omega | (simp_all; done) | (simp_all; omega)))
                            | (refine ⟨rf fun hm => ?_, hw.sub .nil⟩; have h1 := may_sym hm hx hs; clear hm; ((try simp only [decide_eq_true_eq, decide_eq_false_iff_not, Bool.not_eq_eq_eq_not, Bool.not_true, Bool.not_false, inB_true, inB_false] at *); first | omega | (simp_all; done) | (simp_all; omega)))
                        · skip
                          refine CW_skip ?_
                          refine EW_block_normal ?_
                          refine EW_then ?_
                          refine CW_region ?_
                          first | refine OW_q (q_inc rfl rfl (by omega)) rfl ?_ | refine OW_q (q_add rfl rfl (by omega) (by omega)) rfl ?_
                          refine OW_q (q_move rfl) rfl ?_
                          refine OW_nil ?_
                          refine EW_again (j + 1) ⟨?_, ?_⟩ ⟨rfl, rfl, rfl, rfl, rfl, rfl, rfl, trivial⟩ (fun w hw => hw.sub (by (repeat (first | exact SubL.nil | exact Pick.head | apply Pick.tail | apply SubL.cons))))
                          · show r.right.length - (j + 1) < r.right.length - j; omega
                          · refine ⟨by omega, ?_⟩
                            have hR : symB g s = true := by
                              refine symB_true.2 ?_
                              ((try simp only [decide_eq_true_eq, decide_eq_false_iff_not, Bool.not_eq_eq_eq_not, Bool.not_true, Bool.not_false, inB_true] at *); first | omega | (simp_all; done) | (simp_all; omega))
                            rw [all_take_succ _ hs, hokj, hR]; rfl
                      · skip
                        refine OW_skip rfl rfl rfl rfl ?_
                        refine OW_skip rfl rfl rfl rfl ?_
                        refine OW_skip rfl rfl rfl rfl ?_
                        refine OW_skip rfl rfl rfl rfl ?_
                        refine OW_skip rfl rfl rfl rfl ?_
                        refine OW_skip rfl rfl rfl rfl ?_
                        refine OW_wanted rfl rfl rfl ?_
                        refine OW_q (q_pick_f rfl rfl) rfl ?_
                        refine OW_q (q_pick_f rfl rfl) rfl ?_
                        refine OW_nil ?_
                        refine EW_then ?_
                        refine CW_false rfl rfl ?_
                        refine CW_skip ?_
                        refine EW_block_normal ?_
                        refine EW_then ?_
                        refine CW_region ?_
                        first | refine OW_q (q_inc rfl rfl (by omega)) rfl ?_ | refine OW_q (q_add rfl rfl (by omega) (by omega)) rfl ?_
                        refine OW_q (q_move rfl) rfl ?_
                        refine OW_nil ?_
                        refine EW_again (j + 1) ⟨?_, ?_⟩ ⟨rfl, rfl, rfl, rfl, rfl, rfl, rfl, trivial⟩ (fun w hw => hw.sub (by (repeat (first | exact SubL.nil | exact Pick.head | apply Pick.tail | apply SubL.cons))))
                        · show r.right.length - (j + 1) < r.right.length - j; omega
                        · refine ⟨by omega, ?_⟩
                          have hR : symB g s = true := by
                            refine symB_true.2 ?_
                            ((try simp only [decide_eq_true_eq, decide_eq_false_iff_not, Bool.not_eq_eq_eq_not, Bool.not_false, inB_true] at *); first | omega | (simp_all; done) | (simp_all; omega))
                          rw [all_take_succ _ hs, hokj, hR]; rfl
                  · skip
                    refine OW_skip rfl rfl rfl rfl ?_
                    refine OW_skip rfl rfl rfl rfl ?_
                    refine OW_skip rfl rfl rfl rfl ?_
                    refine OW_skip rfl rfl rfl rfl ?_
                    refine OW_skip rfl rfl rfl rfl ?_
                    refine OW_skip rfl rfl rfl rfl ?_
                    refine OW_q (q_pick_f rfl rfl) rfl ?_
                    refine OW_q (q_move rfl) rfl ?_
                    refine OW_wanted rfl rfl rfl ?_
                    refine OW_q (q_fieldAddr Tryd.underlying53 rfl rfl Tryd.sizeOf4 rfl rfl) rfl ?_
                    refine OW_wanted rfl rfl rfl ?_
                    first | (refine OW_q (q_load1_own Tryd.isAgg4 rfl rfl (by (repeat (first | exact .head | apply Swap.tail))) (by rfl)) rfl ?_) | (refine OW_q (q_load1_ro Tryd.isAgg4 rfl (by first | assumption | exact Row.at_ (by assumption) rfl)) rfl ?_)
                    refine OW_wanted rfl rfl rfl ?_
                    refine OW_q (q_not rfl) rfl ?_
                    refine OW_wanted rfl rfl rfl ?_
                    refine OW_q (q_move rfl) rfl ?_
                    refine OW_part (t := 67) rfl (fun hg67 => ?_) (fun hg67 => ?_)
                    · skip
                      refine OW_wanted rfl rfl rfl ?_
                      refine OW_q (q_fieldAddr Tryd.underlying53 rfl rfl Tryd.sizeOf3 rfl rfl) rfl ?_
                      refine OW_wanted rfl rfl rfl ?_
                      first | (refine OW_q (q_load1_own Tryd.isAgg3 rfl rfl (by (repeat (first | exact .head | apply Swap.tail))) (by rfl)) rfl ?_) | (refine OW_q (q_load1_ro Tryd.isAgg3 rfl (by first | assumption | exact Row.at_ (by assumption) rfl)) rfl ?_)
                      refine OW_wanted rfl rfl rfl ?_
                      refine OW_q (q_fieldAddr Tryd.underlying24 rfl rfl Tryd.sizeOf3 rfl rfl) rfl ?_
                      refine OW_wanted rfl rfl rfl ?_
                      first | (refine OW_q (q_load1_own Tryd.isAgg3 rfl rfl (by (repeat (first | exact .head | apply Swap.tail))) (by rfl)) rfl ?_) | (refine OW_q (q_load1_ro Tryd.isAgg3 rfl (by first | assumption | exact Row.at_ (by assumption) rfl)) rfl ?_)
                      refine OW_wanted rfl rfl rfl ?_
                      refine OW_e (e_call Tryd.call26 rfl (fun w hw => lift_same (in_any _ _ w) hw)) rfl (fun _ => ?_)
                      refine OW_wanted rfl rfl rfl ?_
                      refine OW_q (q_not rfl) rfl ?_
                      refine OW_wanted rfl rfl rfl ?_
                      refine OW_q (q_pick_t rfl rfl) rfl ?_
                      refine OW_q (q_pick_f rfl rfl) rfl ?_
                      refine OW_nil ?_
                      refine EW_then ?_
                      refine CW_cond rfl (fun h75 => ?_) (fun h75 => ?_)
                      · skip
                        refine CW_seq ?_
                        refine CW_region ?_
                        refine OW_q (q_assign rfl) rfl ?_
                        refine OW_nil ?_
                        refine EW_then ?_
                        refine CW_ret ?_
                        refine EW_block_ret ?_
                        refine EW_then_ret ?_
                        refine EW_out_ret ?_
                        refine EW_block_ret ?_
                        refine EW_block_ret ?_
                        refine EW_then_ret ?_
                        refine EW_out_ret ?_
                        refine EW_block_ret ?_
                        refine EW_then_ret ?_
                        refine ret1 Tryd.results11 rfl (fun w hw => ?_)
                        first
                          | (refine ⟨rt (mayB_true.2 ?_), hw.sub .nil⟩; simp only [hok]; ((try simp only [decide_eq_true_eq, decide_eq_false_iff_not, Bool.not_eq_eq_eq_not, Bool.not_true, Bool.not_false, inB_true, inB_false] at *); first | omega | (simp_all; done) | (simp_all; omega)))
                          | (refine ⟨rf fun hm => ?_, hw.sub .nil⟩; have h1 := mayB_true.1 hm; clear hm; ((try simp only [decide_eq_true_eq, decide_eq_false_iff_not, Bool.not_eq_eq_eq_not, Bool.not_true, Bool.not_false, inB_true, inB_false] at *); first | omega | (simp_all; done) | (simp_all; omega)))
                          | (refine ⟨rf fun hm => ?_, hw.sub .nil⟩; have h1 := may_rule hm hx; clear hm; ((try simp only [decide_eq_true_eq, decide_eq_false_iff_not, Bool.not_eq_eq_eq_not, Bool.not_true, Bool.not_false, inB_true, inB_false] at *); first | omega | (simp_all; done) | (simp_all; omega)))
                          | (refine ⟨rf fun hm => ?_, hw.sub .nil⟩; have h1 := may_sym hm hx hs; clear hm; ((try simp only [decide_eq_true_eq, decide_eq_false_iff_not, Bool.not_eq_eq_eq_not, Bool.not_true, Bool.not_false, inB_true, inB_false] at *); first | omega | (simp_all; done) | (simp_all; omega)))
                      · skip
                        refine CW_skip ?_
                        refine EW_block_normal ?_
                        refine EW_then ?_
                        refine CW_region ?_
                        first | refine OW_q (q_inc rfl rfl (by omega)) rfl ?_ | refine OW_q (q_add rfl rfl (by omega) (by omega)) rfl ?_
                        refine OW_q (q_move rfl) rfl ?_
                        refine OW_nil ?_
                        refine EW_again (j + 1) ⟨?_, ?_⟩ ⟨rfl, rfl, rfl, rfl, rfl, rfl, rfl, trivial⟩ (fun w hw => hw.sub (by (repeat (first | exact SubL.nil | exact Pick.head | apply Pick.tail | apply SubL.cons))))
                        · show r.right.length - (j + 1) < r.right.length - j; omega
                        · refine ⟨by omega, ?_⟩
                          have hR : symB g s = true := by
                            refine symB_true.2 ?_
                            ((try simp only [decide_eq_true_eq, decide_eq_false_iff_not, Bool.not_eq_eq_eq_not, Bool.not_true, Bool.not_false, inB_true] at *); first | omega | (simp_all; done) | (simp_all; omega))
                          rw [all_take_succ _ hs, hokj, hR]; rfl
                    · skip
                      refine OW_skip rfl rfl rfl rfl ?_
                      refine OW_skip rfl rfl rfl rfl ?_
                      refine OW_skip rfl rfl rfl rfl ?_
                      refine OW_skip rfl rfl rfl rfl ?_
                      refine OW_skip rfl rfl rfl rfl ?_
                      refine OW_skip rfl rfl rfl rfl ?_
                      refine OW_wanted rfl rfl rfl ?_
                      refine OW_q (q_pick_f rfl rfl) rfl ?_
                      refine OW_q (q_pick_f rfl rfl) rfl ?_
                      refine OW_nil ?_
                      refine EW_then ?_
                      refine CW_false rfl rfl ?_
                      refine CW_skip ?_
                      refine EW_block_normal ?_
                      refine EW_then ?_
                      refine CW_region ?_
                      first | refine OW_q (q_inc rfl rfl (by omega)) rfl ?_ | refine OW_q (q_add rfl rfl (by omega) (by omega)) rfl ?_
                      refine OW_q (q_move rfl) rfl ?_
                      refine OW_nil ?_
                      refine EW_again (j + 1) ⟨?_, ?_⟩ ⟨rfl, rfl, rfl, rfl, rfl, rfl, rfl, trivial⟩ (fun w hw => hw.sub (by (repeat (first | exact SubL.nil | exact Pick.head | apply Pick.tail | apply SubL.cons))))
                      · show r.right.length - (j + 1) < r.right.length - j; omega
                      · refine ⟨by omega, ?_⟩
                        have hR : symB g s = true := by
                          refine symB_true.2 ?_
                          ((try simp only [decide_eq_true_eq, decide_eq_false_iff_not, Bool.not_eq_eq_eq_not, Bool.not_false, inB_true] at *); first | omega | (simp_all; done) | (simp_all; omega))
                        rw [all_take_succ _ hs, hokj, hR]; rfl
                · skip
                  have hend2 := take_all (l := r.right) (k := j) (by simpa using h50)
                  rw [hend2] at hokj
                  refine CW_exit ?_
                  refine EW_then_exit ?_
                  refine EW_out ?_
                  refine EW_block_exit ?_
                  refine EW_block_normal ?_
                  refine EW_then ?_
                  refine CW_region ?_
                  first | refine OW_q (q_inc rfl rfl (by omega)) rfl ?_ | refine OW_q (q_add rfl rfl (by omega) (by omega)) rfl ?_
                  refine OW_q (q_move rfl) rfl ?_
                  refine OW_nil ?_
                  refine EW_again (k + 1) ⟨?_, ?_⟩ ⟨rfl, rfl, rfl, rfl, trivial⟩ (fun w hw => hw.sub (by (repeat (first | exact SubL.nil | exact Pick.head | apply Pick.tail | apply SubL.cons))))
                  · show g.rules.length - (k + 1) < g.rules.length - k; omega
                  · refine ⟨by omega, ?_⟩
                    have hR : ruleB g r = true := by
                      refine ruleB_true.2 ?_
                      simp only [hokj]
                      ((try simp only [decide_eq_true_eq, decide_eq_false_iff_not, Bool.not_eq_eq_eq_not, Bool.not_false, inB_true] at *); first | omega | (simp_all; done) | (simp_all; omega))
                    rw [all_take_succ _ hx, hok, hR]; rfl
          · skip
            have hend := take_all (l := g.rules) (k := k) (by simpa using h31)
            rw [hend] at hok
            refine CW_exit ?_
            refine EW_then_exit ?_
            refine EW_out ?_
            refine EW_block_exit ?_
            refine EW_then ?_
            refine CW_seq ?_
            refine CW_region ?_
            refine OW_q (q_assign rfl) rfl ?_
            refine OW_nil ?_
            refine EW_then ?_
            refine CW_ret ?_
            refine ret1 Tryd.results11 rfl (fun w hw => ?_)
            first
              | (refine ⟨rt (mayB_true.2 ?_), hw.sub .nil⟩; simp only [hok]; ((try simp only [decide_eq_false_iff_not, Bool.not_eq_eq_eq_not, Bool.not_false, inB_true] at *); first | omega | (simp_all; done) | (simp_all; omega)))
              | (refine ⟨rf fun hm => ?_, hw.sub .nil⟩; have h1 := mayB_true.1 hm; clear hm; ((try simp only [decide_eq_true_eq, decide_eq_false_iff_not, Bool.not_eq_eq_eq_not, Bool.not_true, Bool.not_false, inB_true, inB_false] at *); first | omega | (simp_all; done) | (simp_all; omega)))
              | (refine ⟨rf fun hm => ?_, hw.sub .nil⟩; have h1 := may_rule hm hx; clear hm; ((try simp only [decide_eq_true_eq, decide_eq_false_iff_not, Bool.not_eq_eq_eq_not, Bool.not_true, Bool.not_false, inB_true, inB_false] at *); first | omega | (simp_all; done) | (simp_all; omega)))
              | (refine ⟨rf fun hm => ?_, hw.sub .nil⟩; have h1 := may_sym hm hx hs; clear hm; ((try simp only [decide_eq_true_eq, decide_eq_false_iff_not, Bool.not_eq_eq_eq_not, Bool.not_true, Bool.not_false, inB_true, inB_false] at *); first | omega | (simp_all; done) | (simp_all; omega)))

set_option maxRecDepth 20000 in
theorem may1_any (gv : Value) (g : Gram) (w : World) (hg : GramAt (Cl w) gv g) : Calls Tryd.prog 6 #[gv] w (fun e w' => e = .returned (.bool (mayB g)) ∧ Sat (Old w) w [] w') := by
  obtain ⟨rv, rfl, hr⟩ := hg.mono old_rd
  obtain ⟨a, c, rfl, hc1, hc2, hrs⟩ := hr
  clear hg
  refine calls_CW Tryd.func6 rfl Tryd.ntmps6 rfl (Sat.start w) ?_
  refine CW_seq ?_
  refine CW_region ?_
  refine OW_e (e_box rfl rfl) rfl (fun b1 => ?_)
  refine OW_q (q_assign rfl) rfl ?_
  refine OW_nil ?_
  refine EW_then ?_
  refine CW_seq ?_
  refine CW_seq ?_
  refine CW_region ?_
  refine OW_q (q_fieldAddr Tryd.underlying24 rfl rfl Tryd.sizeOf3 rfl rfl) rfl ?_
  first | (refine OW_q (q_load1_own Tryd.isAgg3 rfl rfl (by (repeat (first | exact .head | apply Swap.tail))) (by rfl)) rfl ?_) | (refine OW_q (q_load1_ro Tryd.isAgg3 rfl (by first | assumption | exact Row.at_ (by assumption) rfl)) rfl ?_)
  refine OW_q (q_lss rfl rfl) rfl ?_
  refine OW_q (q_move rfl) rfl ?_
  refine OW_part (t := 10) rfl (fun hg10 => ?_) (fun hg10 => ?_)
  · skip
    refine OW_skip rfl rfl rfl rfl ?_
    refine OW_skip rfl rfl rfl rfl ?_
    refine OW_skip rfl rfl rfl rfl ?_
    refine OW_q (q_pick_t rfl rfl) rfl ?_
    refine OW_q (q_move rfl) rfl ?_
    refine OW_skip rfl rfl rfl rfl ?_
    refine OW_skip rfl rfl rfl rfl ?_
    refine OW_skip rfl rfl rfl rfl ?_
    refine OW_q (q_pick_t rfl rfl) rfl ?_
    refine OW_q (q_move rfl) rfl ?_
    refine OW_skip rfl rfl rfl rfl ?_
    refine OW_skip rfl rfl rfl rfl ?_
    refine OW_skip rfl rfl rfl rfl ?_
    refine OW_q (q_pick_t rfl rfl) rfl ?_
    refine OW_q (q_move rfl) rfl ?_
    refine OW_skip rfl rfl rfl rfl ?_
    refine OW_skip rfl rfl rfl rfl ?_
    refine OW_skip rfl rfl rfl rfl ?_
    refine OW_skip rfl rfl rfl rfl ?_
    refine OW_q (q_pick_t rfl rfl) rfl ?_
    refine OW_nil ?_
    refine EW_then ?_
    refine CW_true rfl rfl ?_
    refine CW_seq ?_
    refine CW_region ?_
    refine OW_q (q_assign rfl) rfl ?_
    refine OW_nil ?_
    refine EW_then ?_
    refine CW_ret ?_
    refine EW_then_ret ?_
    refine ret1 Tryd.results6 rfl (fun w hw => ?_)
    first
      | (refine ⟨rt (mayB_true.2 ?_), hw.sub .nil⟩; simp only [hok]; ((try simp only [decide_eq_true_eq, decide_eq_false_iff_not, Bool.not_eq_eq_eq_not, Bool.not_true, Bool.not_false, inB_true, inB_false] at *); first | omega | (simp_all; done) | (simp_all; omega)))
      | (refine ⟨rf fun hm => ?_, hw.sub .nil⟩; have h1 := mayB_true.1 hm; clear hm; ((try simp only [decide_eq_true_eq] at *); first | omega | (simp_all; done) | (simp_all; omega)))
      | (refine ⟨rf fun hm => ?_, hw.sub .nil⟩; have h1 := may_rule hm hx; clear hm; ((try simp only [decide_eq_true_eq, decide_eq_false_iff_not, Bool.not_eq_eq_eq_not, Bool.not_true, Bool.not_false, inB_true, inB_false] at *); first | omega | (simp_all; done) | (simp_all; omega)))
      | (refine ⟨rf fun hm => ?_, hw.sub .nil⟩; have h1 := may_sym hm hx hs; clear hm; ((try simp only [decide_eq_true_eq, decide_eq_false_iff_not, Bool.not_eq_eq_eq_not, Bool.not_true, Bool.not_false, inB_true, inB_false] at *); first | omega | (simp_all; done) | (simp_all; omega)))
  · skip
    refine OW_wanted rfl rfl rfl ?_
    refine OW_q (q_fieldAddr Tryd.underlying24 rfl rfl Tryd.sizeOf3 rfl rfl) rfl ?_
    refine OW_wanted rfl rfl rfl ?_
    first | (refine OW_q (q_load1_own Tryd.isAgg3 rfl rfl (by (repeat (first | exact .head | apply Swap.tail))) (by rfl)) rfl ?_) | (refine OW_q (q_load1_ro Tryd.isAgg3 rfl (by first | assumption | exact Row.at_ (by assumption) rfl)) rfl ?_)
    refine OW_wanted rfl rfl rfl ?_
    refine OW_q (q_gtr rfl rfl) rfl ?_
    refine OW_q (q_pick_f rfl rfl) rfl ?_
    refine OW_q (q_move rfl) rfl ?_
    refine OW_part (t := 15) rfl (fun hg15 => ?_) (fun hg15 => ?_)
    · skip
      refine OW_skip rfl rfl rfl rfl ?_
      refine OW_skip rfl rfl rfl rfl ?_
      refine OW_skip rfl rfl rfl rfl ?_
      refine OW_q (q_pick_t rfl rfl) rfl ?_
      refine OW_q (q_move rfl) rfl ?_
      refine OW_skip rfl rfl rfl rfl ?_
      refine OW_skip rfl rfl rfl rfl ?_
      refine OW_skip rfl rfl rfl rfl ?_
      refine OW_q (q_pick_t rfl rfl) rfl ?_
      refine OW_q (q_move rfl) rfl ?_
      refine OW_skip rfl rfl rfl rfl ?_
      refine OW_skip rfl rfl rfl rfl ?_
      refine OW_skip rfl rfl rfl rfl ?_
      refine OW_skip rfl rfl rfl rfl ?_
      refine OW_q (q_pick_t rfl rfl) rfl ?_
      refine OW_nil ?_
      refine EW_then ?_
      refine CW_true rfl rfl ?_
      refine CW_seq ?_
      refine CW_region ?_
      refine OW_q (q_assign rfl) rfl ?_
      refine OW_nil ?_
      refine EW_then ?_
      refine CW_ret ?_
      refine EW_then_ret ?_
      refine ret1 Tryd.results6 rfl (fun w hw => ?_)
      first
        | (refine ⟨rt (mayB_true.2 ?_), hw.sub .nil⟩; simp only [hok]; ((try simp only [decide_eq_true_eq, decide_eq_false_iff_not, Bool.not_eq_eq_eq_not, Bool.not_true, Bool.not_false, inB_true, inB_false] at *); first | omega | (simp_all; done) | (simp_all; omega)))
        | (refine ⟨rf fun hm => ?_, hw.sub .nil⟩; have h1 := mayB_true.1 hm; clear hm; ((try simp only [decide_eq_true_eq, decide_eq_false_iff_not] at *); first | omega | (simp_all; done) | (simp_all; omega)))
        | (refine ⟨rf fun hm => ?_, hw.sub .nil⟩; have h1 := may_rule hm hx; clear hm; ((try simp only [decide_eq_true_eq, decide_eq_false_iff_not, Bool.not_eq_eq_eq_not, Bool.not_true, Bool.not_false, inB_true, inB_false] at *); first | omega | (simp_all; done) | (simp_all; omega)))
        | (refine ⟨rf fun hm => ?_, hw.sub .nil⟩; have h1 := may_sym hm hx hs; clear hm; ((try simp only [decide_eq_true_eq, decide_eq_false_iff_not, Bool.not_eq_eq_eq_not, Bool.not_true, Bool.not_false, inB_true, inB_false] at *); first | omega | (simp_all; done) | (simp_all; omega)))
    · skip
      refine OW_wanted rfl rfl rfl ?_
      refine OW_q (q_fieldAddr Tryd.underlying24 rfl rfl Tryd.sizeOf3 rfl rfl) rfl ?_
      refine OW_wanted rfl rfl rfl ?_
      first | (refine OW_q (q_load1_own Tryd.isAgg3 rfl rfl (by (repeat (first | exact .head | apply Swap.tail))) (by rfl)) rfl ?_) | (refine OW_q (q_load1_ro Tryd.isAgg3 rfl (by first | assumption | exact Row.at_ (by assumption) rfl)) rfl ?_)
      refine OW_wanted rfl rfl rfl ?_
      refine OW_q (q_lss rfl rfl) rfl ?_
      refine OW_q (q_pick_f rfl rfl) rfl ?_
      refine OW_q (q_move rfl) rfl ?_
      refine OW_part (t := 20) rfl (fun hg20 => ?_) (fun hg20 => ?_)
      · skip
        refine OW_skip rfl rfl rfl rfl ?_
        refine OW_skip rfl rfl rfl rfl ?_
        refine OW_skip rfl rfl rfl rfl ?_
        refine OW_q (q_pick_t rfl rfl) rfl ?_
        refine OW_q (q_move rfl) rfl ?_
        refine OW_skip rfl rfl rfl rfl ?_
        refine OW_skip rfl rfl rfl rfl ?_
        refine OW_skip rfl rfl rfl rfl ?_
        refine OW_skip rfl rfl rfl rfl ?_
        refine OW_q (q_pick_t rfl rfl) rfl ?_
        refine OW_nil ?_
        refine EW_then ?_
        refine CW_true rfl rfl ?_
        refine CW_seq ?_
        refine CW_region ?_
        refine OW_q (q_assign rfl) rfl ?_
        refine OW_nil ?_
        refine EW_then ?_
        refine CW_ret ?_
        refine EW_then_ret ?_
        refine ret1 Tryd.results6 rfl (fun w hw => ?_)
        first
          | (refine ⟨rt (mayB_true.2 ?_), hw.sub .nil⟩; simp only [hok]; ((try simp only [decide_eq_true_eq, decide_eq_false_iff_not, Bool.not_eq_eq_eq_not, Bool.not_true, Bool.not_false, inB_true, inB_false] at *); first | omega | (simp_all; done) | (simp_all; omega)))
          | (refine ⟨rf fun hm => ?_, hw.sub .nil⟩; have h1 := mayB_true.1 hm; clear hm; ((try simp only [decide_eq_true_eq, decide_eq_false_iff_not] at *); first | omega | (simp_all; done) | (simp_all; omega)))
          | (refine ⟨rf fun hm => ?_, hw.sub .nil⟩; have h1 := may_rule hm hx; clear hm; ((try simp only [decide_eq_true_eq, decide_eq_false_iff_not, Bool.not_eq_eq_eq_not, Bool.not_true, Bool.not_false, inB_true, inB_false] at *); first | omega | (simp_all; done) | (simp_all; omega)))
          | (refine ⟨rf fun hm => ?_, hw.sub .nil⟩; have h1 := may_sym hm hx hs; clear hm; ((try simp only [decide_eq_true_eq, decide_eq_false_iff_not, Bool.not_eq_eq_eq_not, Bool.not_true, Bool.not_false, inB_true, inB_false] at *); first | omega | (simp_all; done) | (simp_all; omega)))
      · skip
        refine OW_wanted rfl rfl rfl ?_
        refine OW_q (q_fieldAddr Tryd.underlying24 rfl rfl Tryd.sizeOf3 rfl rfl) rfl ?_
        refine OW_wanted rfl rfl rfl ?_
        first | (refine OW_q (q_load1_own Tryd.isAgg3 rfl rfl (by (repeat (first | exact .head | apply Swap.tail))) (by rfl)) rfl ?_) | (refine OW_q (q_load1_ro Tryd.isAgg3 rfl (by first | assumption | exact Row.at_ (by assumption) rfl)) rfl ?_)
        refine OW_wanted rfl rfl rfl ?_
        refine OW_q (q_gtr rfl rfl) rfl ?_
        refine OW_q (q_pick_f rfl rfl) rfl ?_
        refine OW_q (q_move rfl) rfl ?_
        refine OW_part (t := 25) rfl (fun hg25 => ?_) (fun hg25 => ?_)
        · skip
          refine OW_skip rfl rfl rfl rfl ?_
          refine OW_skip rfl rfl rfl rfl ?_
          refine OW_skip rfl rfl rfl rfl ?_
          refine OW_skip rfl rfl rfl rfl ?_
          refine OW_q (q_pick_t rfl rfl) rfl ?_
          refine OW_nil ?_
          refine EW_then ?_
          refine CW_true rfl rfl ?_
          refine CW_seq ?_
          refine CW_region ?_
          refine OW_q (q_assign rfl) rfl ?_
          refine OW_nil ?_
          refine EW_then ?_
          refine CW_ret ?_
          refine EW_then_ret ?_
          refine ret1 Tryd.results6 rfl (fun w hw => ?_)
          first
            | (refine ⟨rt (mayB_true.2 ?_), hw.sub .nil⟩; simp only [hok]; ((try simp only [decide_eq_true_eq, decide_eq_false_iff_not, Bool.not_eq_eq_eq_not, Bool.not_true, Bool.not_false, inB_true, inB_false] at *); first | omega | (simp_all; done) | (simp_all; omega)))
            | (refine ⟨rf fun hm => ?_, hw.sub .nil⟩; have h1 := mayB_true.1 hm; clear hm; ((try simp only [decide_eq_true_eq, decide_eq_false_iff_not] at *); first | omega | (simp_all; done) | (simp_all; omega)))
            | (refine ⟨rf fun hm => ?_, hw.sub .nil⟩; have h1 := may_rule hm hx; clear hm; ((try simp only [decide_eq_true_eq, decide_eq_false_iff_not, Bool.not_eq_eq_eq_not, Bool.not_true, Bool.not_false, inB_true, inB_false] at *); first | omega | (simp_all; done) | (simp_all; omega)))
            | (refine ⟨rf fun hm => ?_, hw.sub .nil⟩; have h1 := may_sym hm hx hs; clear hm; ((try simp only [decide_eq_true_eq, decide_eq_false_iff_not, Bool.not_eq_eq_eq_not, Bool.not_true, Bool.not_false, inB_true, inB_false] at *); first | omega | (simp_all; done) | (simp_all; omega)))
        · skip
          refine OW_wanted rfl rfl rfl ?_
          refine OW_q (q_fieldAddr Tryd.underlying24 rfl rfl Tryd.sizeOf22 rfl rfl) rfl ?_
          refine OW_wanted rfl rfl rfl ?_
          first | (refine OW_q (q_load1_own Tryd.isAgg22 rfl rfl (by (repeat (first | exact .head | apply Swap.tail))) (by rfl)) rfl ?_) | (refine OW_q (q_load1_ro Tryd.isAgg22 rfl (by first | assumption | exact Row.at_ (by assumption) rfl)) rfl ?_)
          refine OW_wanted rfl rfl rfl ?_
          refine OW_q (q_len Tryd.underlying22 rfl) rfl ?_
          refine OW_wanted rfl rfl rfl ?_
          refine OW_q (q_gtr rfl rfl) rfl ?_
          refine OW_q (q_pick_f rfl rfl) rfl ?_
          refine OW_nil ?_
          refine EW_then ?_
          refine CW_cond rfl (fun h30 => ?_) (fun h30 => ?_)
          · skip
            refine CW_seq ?_
            refine CW_region ?_
            refine OW_q (q_assign rfl) rfl ?_
            refine OW_nil ?_
            refine EW_then ?_
            refine CW_ret ?_
            refine EW_then_ret ?_
            refine ret1 Tryd.results6 rfl (fun w hw => ?_)
            first
              | (refine ⟨rt (mayB_true.2 ?_), hw.sub .nil⟩; simp only [hok]; ((try simp only [decide_eq_true_eq, decide_eq_false_iff_not, Bool.not_eq_eq_eq_not, Bool.not_true, Bool.not_false, inB_true, inB_false] at *); first | omega | (simp_all; done) | (simp_all; omega)))
              | (refine ⟨rf fun hm => ?_, hw.sub .nil⟩; have h1 := mayB_true.1 hm; clear hm; ((try simp only [decide_eq_true_eq, decide_eq_false_iff_not] at *); first | omega | (simp_all; done) | (simp_all; omega)))
              | (refine ⟨rf fun hm => ?_, hw.sub .nil⟩; have h1 := may_rule hm hx; clear hm; ((try simp only [decide_eq_true_eq, decide_eq_false_iff_not, Bool.not_eq_eq_eq_not, Bool.not_true, Bool.not_false, inB_true, inB_false] at *); first | omega | (simp_all; done) | (simp_all; omega)))
              | (refine ⟨rf fun hm => ?_, hw.sub .nil⟩; have h1 := may_sym hm hx hs; clear hm; ((try simp only [decide_eq_true_eq, decide_eq_false_iff_not, Bool.not_eq_eq_eq_not, Bool.not_true, Bool.not_false, inB_true, inB_false] at *); first | omega | (simp_all; done) | (simp_all; omega)))
          · skip
            refine CW_skip ?_
            refine EW_then ?_
            refine CW_seq ?_
            refine CW_seq ?_
            refine CW_region ?_
            refine OW_q (q_assign rfl) rfl ?_
            refine OW_nil ?_
            refine EW_then ?_
            refine CW_block ?_
            refine CW_loopP (ι := Nat) (fun k => k ≤ g.rules.length ∧ (g.rules.take k).all (ruleB g) = true) (fun k => [(1, .pointer (some ⟨b1, 0, none⟩)), (3, .int .i64 (k : Int))]) (fun k => Sat (Old w) w [cel b1 24 [.int .i64 g.terms, .int .i64 g.names, .slice a g.rules.length c]]) (fun k => g.rules.length - k) 0 ?_ ⟨rfl, rfl, trivial⟩ (fun w hw => hw.sub (by (repeat (first | exact SubL.nil | exact Pick.head | apply Pick.tail | apply SubL.cons)))) ?_
            · exact ⟨Nat.zero_le _, rfl⟩
            intro k hpre
            change CW _ _ _ _ [(1, .pointer (some ⟨b1, 0, none⟩)), (3, .int .i64 (k : Int))] (Sat (Old w) w [cel b1 24 [.int .i64 g.terms, .int .i64 g.names, .slice a g.rules.length c]])
            obtain ⟨hk, hok⟩ := hpre
            refine CW_seq ?_
            refine CW_seq ?_
            refine CW_region ?_
            refine OW_q (q_move rfl) rfl ?_
            refine OW_q (q_fieldAddr Tryd.underlying24 rfl rfl Tryd.sizeOf22 rfl rfl) rfl ?_
            first | (refine OW_q (q_load1_own Tryd.isAgg22 rfl rfl (by (repeat (first | exact .head | apply Swap.tail))) (by rfl)) rfl ?_) | (refine OW_q (q_load1_ro Tryd.isAgg22 rfl (by first | assumption | exact Row.at_ (by assumption) rfl)) rfl ?_)
            refine OW_q (q_len Tryd.underlying22 rfl) rfl ?_
            refine OW_q (q_lss rfl rfl) rfl ?_
            refine OW_nil ?_
            refine EW_then ?_
            refine CW_cond rfl (fun h35 => ?_) (fun h35 => ?_)
            · skip
              have hlt : k < g.rules.length := by simpa using h35
              obtain ⟨r, hx⟩ := get_of_lt hlt
              obtain ⟨p, rfl, rv2, hsy, hrow⟩ := hrs k r hx
              obtain ⟨a2, c2, rfl, hd1, hd2, hss⟩ := hsy
              refine CW_skip ?_
              refine EW_then ?_
              refine CW_seq ?_
              refine CW_block ?_
              refine CW_seq ?_
              refine CW_region ?_
              refine OW_q (q_fieldAddr Tryd.underlying24 rfl rfl Tryd.sizeOf22 rfl rfl) rfl ?_
              first | (refine OW_q (q_load1_own Tryd.isAgg22 rfl rfl (by (repeat (first | exact .head | apply Swap.tail))) (by rfl)) rfl ?_) | (refine OW_q (q_load1_ro Tryd.isAgg22 rfl (by first | assumption | exact Row.at_ (by assumption) rfl)) rfl ?_)
              refine OW_q (q_move rfl) rfl ?_
              refine OW_q (q_indexAddr Tryd.underlying22 Tryd.sizeOf50 rfl rfl (by first | omega | assumption)) rfl ?_
              refine OW_q (q_loadN_ro Tryd.isAgg50 Tryd.sizeOf50 rfl (by first | assumption | exact Row.at_ (by assumption) rfl) (by rfl)) rfl ?_
              refine OW_e (e_alloc Tryd.zeroValue50 rfl) rfl (fun b4 => ?_)
              refine OW_e0 (e_storeN Tryd.sizeOf50 rfl rfl rfl rfl (by simp [Value.oneCell']) (by (repeat (first | exact .head | apply Swap.tail))) (by rfl)) (fun _ => ?_)
              refine OW_nil ?_
              refine EW_then ?_
              refine CW_seq ?_
              refine CW_seq ?_
              refine CW_region ?_
              refine OW_q (q_fieldAddr Tryd.underlying50 rfl rfl Tryd.sizeOf3 rfl rfl) rfl ?_
              first | (refine OW_q (q_load1_own Tryd.isAgg3 rfl rfl (by (repeat (first | exact .head | apply Swap.tail))) (by rfl)) rfl ?_) | (refine OW_q (q_load1_ro Tryd.isAgg3 rfl (by first | assumption | exact Row.at_ (by assumption) rfl)) rfl ?_)
              refine OW_q (q_lss rfl rfl) rfl ?_
              refine OW_q (q_move rfl) rfl ?_
              refine OW_part (t := 46) rfl (fun hg46 => ?_) (fun hg46 => ?_)
              · skip
                refine OW_skip rfl rfl rfl rfl ?_
                refine OW_skip rfl rfl rfl rfl ?_
                refine OW_skip rfl rfl rfl rfl ?_
                refine OW_skip rfl rfl rfl rfl ?_
                refine OW_skip rfl rfl rfl rfl ?_
                refine OW_q (q_pick_t rfl rfl) rfl ?_
                refine OW_q (q_move rfl) rfl ?_
                refine OW_skip rfl rfl rfl rfl ?_
                refine OW_skip rfl rfl rfl rfl ?_
                refine OW_skip rfl rfl rfl rfl ?_
                refine OW_skip rfl rfl rfl rfl ?_
                refine OW_q (q_pick_t rfl rfl) rfl ?_
                refine OW_nil ?_
                refine EW_then ?_
                refine CW_true rfl rfl ?_
                refine CW_seq ?_
                refine CW_region ?_
                refine OW_q (q_assign rfl) rfl ?_
                refine OW_nil ?_
                refine EW_then ?_
                refine CW_ret ?_
                refine EW_then_ret ?_
                refine EW_block_ret ?_
                refine EW_then_ret ?_
                refine EW_out_ret ?_
                refine EW_block_ret ?_
                refine EW_then_ret ?_
                refine ret1 Tryd.results6 rfl (fun w hw => ?_)
                first
                  | (refine ⟨rt (mayB_true.2 ?_), hw.sub .nil⟩; simp only [hok]; ((try simp only [decide_eq_true_eq, decide_eq_false_iff_not, Bool.not_eq_eq_eq_not, Bool.not_true, Bool.not_false, inB_true, inB_false] at *); first | omega | (simp_all; done) | (simp_all; omega)))
                  | (refine ⟨rf fun hm => ?_, hw.sub .nil⟩; have h1 := mayB_true.1 hm; clear hm; ((try simp only [decide_eq_true_eq, decide_eq_false_iff_not] at *); first | omega | (simp_all; done) | (simp_all; omega)))
                  | (refine ⟨rf fun hm => ?_, hw.sub .nil⟩; have h1 := may_rule hm hx; clear hm; ((try simp only [decide_eq_true_eq, decide_eq_false_iff_not] at *); first | omega | (simp_all; done) | (simp_all; omega)))
                  | (refine ⟨rf fun hm => ?_, hw.sub .nil⟩; have h1 := may_sym hm hx hs; clear hm; ((try simp only [decide_eq_true_eq, decide_eq_false_iff_not, Bool.not_eq_eq_eq_not, Bool.not_true, Bool.not_false, inB_true, inB_false] at *); first | omega | (simp_all; done) | (simp_all; omega)))
              · skip
                refine OW_wanted rfl rfl rfl ?_
                refine OW_q (q_fieldAddr Tryd.underlying50 rfl rfl Tryd.sizeOf3 rfl rfl) rfl ?_
                refine OW_wanted rfl rfl rfl ?_
                first | (refine OW_q (q_load1_own Tryd.isAgg3 rfl rfl (by (repeat (first | exact .head | apply Swap.tail))) (by rfl)) rfl ?_) | (refine OW_q (q_load1_ro Tryd.isAgg3 rfl (by first | assumption | exact Row.at_ (by assumption) rfl)) rfl ?_)
                refine OW_wanted rfl rfl rfl ?_
                refine OW_q (q_fieldAddr Tryd.underlying24 rfl rfl Tryd.sizeOf3 rfl rfl) rfl ?_
                refine OW_wanted rfl rfl rfl ?_
                first | (refine OW_q (q_load1_own Tryd.isAgg3 rfl rfl (by (repeat (first | exact .head | apply Swap.tail))) (by rfl)) rfl ?_) | (refine OW_q (q_load1_ro Tryd.isAgg3 rfl (by first | assumption | exact Row.at_ (by assumption) rfl)) rfl ?_)
                refine OW_wanted rfl rfl rfl ?_
                refine OW_q (q_geq rfl rfl) rfl ?_
                refine OW_q (q_pick_f rfl rfl) rfl ?_
                refine OW_q (q_move rfl) rfl ?_
                refine OW_part (t := 53) rfl (fun hg53 => ?_) (fun hg53 => ?_)
                · skip
                  refine OW_skip rfl rfl rfl rfl ?_
                  refine OW_skip rfl rfl rfl rfl ?_
                  refine OW_skip rfl rfl rfl rfl ?_
                  refine OW_skip rfl rfl rfl rfl ?_
                  refine OW_q (q_pick_t rfl rfl) rfl ?_
                  refine OW_nil ?_
                  refine EW_then ?_
                  refine CW_true rfl rfl ?_
                  refine CW_seq ?_
                  refine CW_region ?_
                  refine OW_q (q_assign rfl) rfl ?_
                  refine OW_nil ?_
                  refine EW_then ?_
                  refine CW_ret ?_
                  refine EW_then_ret ?_
                  refine EW_block_ret ?_
                  refine EW_then_ret ?_
                  refine EW_out_ret ?_
                  refine EW_block_ret ?_
                  refine EW_then_ret ?_
                  refine ret1 Tryd.results6 rfl (fun w hw => ?_)
                  first
                    | (refine ⟨rt (mayB_true.2 ?_), hw.sub .nil⟩; simp only [hok]; ((try simp only [decide_eq_true_eq, decide_eq_false_iff_not, Bool.not_eq_eq_eq_not, Bool.not_true, Bool.not_false, inB_true, inB_false] at *); first | omega | (simp_all; done) | (simp_all; omega)))
                    | (refine ⟨rf fun hm => ?_, hw.sub .nil⟩; have h1 := mayB_true.1 hm; clear hm; ((try simp only [decide_eq_true_eq, decide_eq_false_iff_not] at *); first | omega | (simp_all; done) | (simp_all; omega)))
                    | (refine ⟨rf fun hm => ?_, hw.sub .nil⟩; have h1 := may_rule hm hx; clear hm; ((try simp only [decide_eq_true_eq, decide_eq_false_iff_not] at *); first | omega | (simp_all; done) | (simp_all; omega)))
                    | (refine ⟨rf fun hm => ?_, hw.sub .nil⟩; have h1 := may_sym hm hx hs; clear hm; ((try simp only [decide_eq_true_eq, decide_eq_false_iff_not, Bool.not_eq_eq_eq_not, Bool.not_true, Bool.not_false, inB_true, inB_false] at *); first | omega | (simp_all; done) | (simp_all; omega)))
                · skip
                  refine OW_wanted rfl rfl rfl ?_
                  refine OW_q (q_fieldAddr Tryd.underlying50 rfl rfl Tryd.sizeOf48 rfl rfl) rfl ?_
                  refine OW_wanted rfl rfl rfl ?_
                  first | (refine OW_q (q_load1_own Tryd.isAgg48 rfl rfl (by (repeat (first | exact .head | apply Swap.tail))) (by rfl)) rfl ?_) | (refine OW_q (q_load1_ro Tryd.isAgg48 rfl (by first | assumption | exact Row.at_ (by assumption) rfl)) rfl ?_)
                  refine OW_wanted rfl rfl rfl ?_
                  refine OW_q (q_len Tryd.underlying48 rfl) rfl ?_
                  refine OW_wanted rfl rfl rfl ?_
                  refine OW_q (q_gtr rfl rfl) rfl ?_
                  refine OW_q (q_pick_f rfl rfl) rfl ?_
                  refine OW_nil ?_
                  refine EW_then ?_
                  refine CW_cond rfl (fun h58 => ?_) (fun h58 => ?_)
                  · skip
                    refine CW_seq ?_
                    refine CW_region ?_
                    refine OW_q (q_assign rfl) rfl ?_
                    refine OW_nil ?_
                    refine EW_then ?_
                    refine CW_ret ?_
                    refine EW_then_ret ?_
                    refine EW_block_ret ?_
                    refine EW_then_ret ?_
                    refine EW_out_ret ?_
                    refine EW_block_ret ?_
                    refine EW_then_ret ?_
                    refine ret1 Tryd.results6 rfl (fun w hw => ?_)
                    first
                      | (refine ⟨rt (mayB_true.2 ?_), hw.sub .nil⟩; simp only [hok]; ((try simp only [decide_eq_true_eq, decide_eq_false_iff_not, Bool.not_eq_eq_eq_not, Bool.not_true, Bool.not_false, inB_true, inB_false] at *); first | omega | (simp_all; done) | (simp_all; omega)))
                      | (refine ⟨rf fun hm => ?_, hw.sub .nil⟩; have h1 := mayB_true.1 hm; clear hm; ((try simp only [decide_eq_true_eq, decide_eq_false_iff_not] at *); first | omega | (simp_all; done) | (simp_all; omega)))
                      | (refine ⟨rf fun hm => ?_, hw.sub .nil⟩; have h1 := may_rule hm hx; clear hm; ((try simp only [decide_eq_true_eq, decide_eq_false_iff_not] at *); first | omega | (simp_all; done) | (simp_all; omega)))
                      | (refine ⟨rf fun hm => ?_, hw.sub .nil⟩; have h1 := may_sym hm hx hs; clear hm; ((try simp only [decide_eq_true_eq, decide_eq_false_iff_not, Bool.not_eq_eq_eq_not, Bool.not_true, Bool.not_false, inB_true, inB_false] at *); first | omega | (simp_all; done) | (simp_all; omega)))
                  · skip
                    refine CW_skip ?_
                    refine EW_then ?_
                    refine CW_seq ?_
                    refine CW_region ?_
                    refine OW_q (q_assign rfl) rfl ?_
                    refine OW_nil ?_
                    refine EW_then ?_
                    refine CW_block ?_
                    refine CW_loopP (ι := Nat) (fun j => j ≤ r.right.length ∧ (r.right.take j).all (symB g) = true) (fun j => [(1, .pointer (some ⟨b1, 0, none⟩)), (3, .int .i64 (k : Int)), (4, .pointer (some ⟨b4, 0, none⟩)), (5, .int .i64 (j : Int))]) (fun j => Sat (Old w) w [cel b4 50 [.int .i64 r.left, .slice a2 r.right.length c2], cel b1 24 [.int .i64 g.terms, .int .i64 g.names, .slice (some p) g.rules.length c]]) (fun j => r.right.length - j) 0 ?_ ⟨rfl, rfl, rfl, rfl, trivial⟩ (fun w hw => hw.sub (by (repeat (first | exact SubL.nil | exact Pick.head | apply Pick.tail | apply SubL.cons)))) ?_
                    · exact ⟨Nat.zero_le _, rfl⟩
                    intro j hpre
                    change CW _ _ _ _ [(1, .pointer (some ⟨b1, 0, none⟩)), (3, .int .i64 (k : Int)), (4, .pointer (some ⟨b4, 0, none⟩)), (5, .int .i64 (j : Int))] (Sat (Old w) w [cel b4 50 [.int .i64 r.left, .slice a2 r.right.length c2], cel b1 24 [.int .i64 g.terms, .int .i64 g.names, .slice (some p) g.rules.length c]])
                    obtain ⟨hj, hokj⟩ := hpre
                    refine CW_seq ?_
                    refine CW_seq ?_
                    refine CW_region ?_
                    refine OW_q (q_move rfl) rfl ?_
                    refine OW_q (q_fieldAddr Tryd.underlying50 rfl rfl Tryd.sizeOf48 rfl rfl) rfl ?_
                    first | (refine OW_q (q_load1_own Tryd.isAgg48 rfl rfl (by (repeat (first | exact .head | apply Swap.tail))) (by rfl)) rfl ?_) | (refine OW_q (q_load1_ro Tryd.isAgg48 rfl (by first | assumption | exact Row.at_ (by assumption) rfl)) rfl ?_)
                    refine OW_q (q_len Tryd.underlying48 rfl) rfl ?_
                    refine OW_q (q_lss rfl rfl) rfl ?_
                    refine OW_nil ?_
                    refine EW_then ?_
                    refine CW_cond rfl (fun h63 => ?_) (fun h63 => ?_)
                    · skip
                      have hltj : j < r.right.length := by simpa using h63
                      obtain ⟨s, hs⟩ := get_of_lt hltj
                      obtain ⟨p2, rfl, hrow2⟩ := hss j s hs
                      refine CW_skip ?_
                      refine EW_then ?_
                      refine CW_seq ?_
                      refine CW_block ?_
                      refine CW_seq ?_
                      refine CW_region ?_
                      refine OW_q (q_fieldAddr Tryd.underlying24 rfl rfl Tryd.sizeOf3 rfl rfl) rfl ?_
                      first | (refine OW_q (q_load1_own Tryd.isAgg3 rfl rfl (by (repeat (first | exact .head | apply Swap.tail))) (by rfl)) rfl ?_) | (refine OW_q (q_load1_ro Tryd.isAgg3 rfl (by first | assumption | exact Row.at_ (by assumption) rfl)) rfl ?_)
                      refine OW_q (q_assign rfl) rfl ?_
                      refine OW_nil ?_
                      refine EW_then ?_
                      refine CW_seq ?_
                      refine CW_seq ?_
                      refine CW_region ?_
                      refine OW_q (q_fieldAddr Tryd.underlying50 rfl rfl Tryd.sizeOf48 rfl rfl) rfl ?_
                      first | (refine OW_q (q_load1_own Tryd.isAgg48 rfl rfl (by (repeat (first | exact .head | apply Swap.tail))) (by rfl)) rfl ?_) | (refine OW_q (q_load1_ro Tryd.isAgg48 rfl (by first | assumption | exact Row.at_ (by assumption) rfl)) rfl ?_)
                      refine OW_q (q_move rfl) rfl ?_
                      refine OW_q (q_indexAddr Tryd.underlying48 Tryd.sizeOf53 rfl rfl (by first | omega | assumption)) rfl ?_
                      refine OW_q (q_fieldAddr Tryd.underlying53 rfl rfl Tryd.sizeOf4 rfl rfl) rfl ?_
                      refine OW_q (q_load1_ro Tryd.isAgg4 rfl (by first | assumption | exact Row.at_ (by assumption) rfl)) rfl ?_
                      refine OW_nil ?_
                      refine EW_then ?_
                      refine CW_cond rfl (fun h73 => ?_) (fun h73 => ?_)
                      · skip
                        refine CW_region ?_
                        refine OW_q (q_fieldAddr Tryd.underlying24 rfl rfl Tryd.sizeOf3 rfl rfl) rfl ?_
                        first | (refine OW_q (q_load1_own Tryd.isAgg3 rfl rfl (by (repeat (first | exact .head | apply Swap.tail))) (by rfl)) rfl ?_) | (refine OW_q (q_load1_ro Tryd.isAgg3 rfl (by first | assumption | exact Row.at_ (by assumption) rfl)) rfl ?_)
                        refine OW_q (q_assign rfl) rfl ?_
                        refine OW_nil ?_
                        refine EW_then ?_
                        refine CW_seq ?_
                        refine CW_region ?_
                        refine OW_q (q_fieldAddr Tryd.underlying50 rfl rfl Tryd.sizeOf48 rfl rfl) rfl ?_
                        first | (refine OW_q (q_load1_own Tryd.isAgg48 rfl rfl (by (repeat (first | exact .head | apply Swap.tail))) (by rfl)) rfl ?_) | (refine OW_q (q_load1_ro Tryd.isAgg48 rfl (by first | assumption | exact Row.at_ (by assumption) rfl)) rfl ?_)
                        refine OW_q (q_move rfl) rfl ?_
                        refine OW_q (q_indexAddr Tryd.underlying48 Tryd.sizeOf53 rfl rfl (by first | omega | assumption)) rfl ?_
                        refine OW_q (q_fieldAddr Tryd.underlying53 rfl rfl Tryd.sizeOf3 rfl rfl) rfl ?_
                        refine OW_q (q_load1_ro Tryd.isAgg3 rfl (by first | assumption | exact Row.at_ (by assumption) rfl)) rfl ?_
                        refine OW_q (q_lss rfl rfl) rfl ?_
                        refine OW_q (q_move rfl) rfl ?_
                        refine OW_part (t := 83) rfl (fun hg83 => ?_) (fun hg83 => ?_)
                        · skip
                          refine OW_skip rfl rfl rfl rfl ?_
                          refine OW_skip rfl rfl rfl rfl ?_
                          refine OW_skip rfl rfl rfl rfl ?_
                          refine OW_skip rfl rfl rfl rfl ?_
                          refine OW_skip rfl rfl rfl rfl ?_
                          refine OW_skip rfl rfl rfl rfl ?_
                          refine OW_skip rfl rfl rfl rfl ?_
                          refine OW_skip rfl rfl rfl rfl ?_
                          refine OW_q (q_pick_t rfl rfl) rfl ?_
                          refine OW_nil ?_
                          refine EW_then ?_
                          refine CW_true rfl rfl ?_
                          refine CW_seq ?_
                          refine CW_region ?_
                          refine OW_q (q_assign rfl) rfl ?_
                          refine OW_nil ?_
                          refine EW_then ?_
                          refine CW_ret ?_
                          refine EW_block_ret ?_
                          refine EW_then_ret ?_
                          refine EW_out_ret ?_
                          refine EW_block_ret ?_
                          refine EW_block_ret ?_
                          refine EW_then_ret ?_
                          refine EW_out_ret ?_
                          refine EW_block_ret ?_
                          refine EW_then_ret ?_
                          refine ret1 Tryd.results6 rfl (fun w hw => ?_)
                          first
                            | (refine ⟨rt (mayB_true.2 ?_), hw.sub .nil⟩; simp only [hok]; ((try simp only [decide_eq_true_eq, decide_eq_false_iff_not, Bool.not_eq_eq_eq_not, Bool.not_true, Bool.not_false, inB_true, inB_false] at *); first | omega | (simp_all; done) | (simp_all; omega)))
                            | (refine ⟨rf fun hm => ?_, hw.sub .nil⟩; have h1 := mayB_true.1 hm; clear hm; ((try simp only [decide_eq_true_eq, decide_eq_false_iff_not] at *); first | omega | (simp_all; done) | (simp_all; omega)))
                            | (refine ⟨rf fun hm => ?_, hw.sub .nil⟩; have h1 := may_rule hm hx; clear hm; ((try simp only [decide_eq_true_eq, decide_eq_false_iff_not] at *); first | omega | (simp_all; done) | (simp_all; omega)))
                            | (refine ⟨rf fun hm => ?_, hw.sub .nil⟩; have h1 := may_sym hm hx hs; clear hm; ((try simp only [decide_eq_true_eq, decide_eq_false_iff_not] at *); first | omega | (simp_all; done) | (simp_all; omega)))
                        · skip
                          refine OW_wanted rfl rfl rfl ?_
                          refine OW_q (q_fieldAddr Tryd.underlying50 rfl rfl Tryd.sizeOf48 rfl rfl) rfl ?_
                          refine OW_wanted rfl rfl rfl ?_
                          first | (refine OW_q (q_load1_own Tryd.isAgg48 rfl rfl (by (repeat (first | exact .head | apply Swap.tail))) (by rfl)) rfl ?_) | (refine OW_q (q_load1_ro Tryd.isAgg48 rfl (by first | assumption | exact Row.at_ (by assumption) rfl)) rfl ?_)
                          refine OW_wanted rfl rfl rfl ?_
                          refine OW_q (q_move rfl) rfl ?_
                          refine OW_wanted rfl rfl rfl ?_
                          refine OW_q (q_indexAddr Tryd.underlying48 Tryd.sizeOf53 rfl rfl (by first | omega | assumption)) rfl ?_
                          refine OW_wanted rfl rfl rfl ?_
                          refine OW_q (q_fieldAddr Tryd.underlying53 rfl rfl Tryd.sizeOf3 rfl rfl) rfl ?_
                          refine OW_wanted rfl rfl rfl ?_
                          refine OW_q (q_load1_ro Tryd.isAgg3 rfl (by first | assumption | exact Row.at_ (by assumption) rfl)) rfl ?_
                          refine OW_wanted rfl rfl rfl ?_
                          refine OW_q (q_move rfl) rfl ?_
                          refine OW_wanted rfl rfl rfl ?_
                          refine OW_q (q_geq rfl rfl) rfl ?_
                          refine OW_q (q_pick_f rfl rfl) rfl ?_
                          refine OW_nil ?_
                          refine EW_then ?_
                          refine CW_cond rfl (fun h92 => ?_) (fun h92 => ?_)
                          · skip
                            refine CW_seq ?_
                            refine CW_region ?_
                            refine OW_q (q_assign rfl) rfl ?_
                            refine OW_nil ?_
                            refine EW_then ?_
                            refine CW_ret ?_
                            refine EW_block_ret ?_
                            refine EW_then_ret ?_
                            refine EW_out_ret ?_
                            refine EW_block_ret ?_
                            refine EW_block_ret ?_
                            refine EW_then_ret ?_
                            refine EW_out_ret ?_
                            refine EW_block_ret ?_
                            refine EW_then_ret ?_
                            refine ret1 Tryd.results6 rfl (fun w hw => ?_)
                            first
                              | (refine ⟨rt (mayB_true.2 ?_), hw.sub .nil⟩; simp only [hok]; ((try simp only [decide_eq_true_eq, decide_eq_false_iff_not, Bool.not_eq_eq_eq_not, Bool.not_true, Bool.not_false, inB_true, inB_false] at *); first | omega | (simp_all; done) | (simp_all; omega)))
                              | (refine ⟨rf fun hm => ?_, hw.sub .nil⟩; have h1 := mayB_true.1 hm; clear hm; ((try simp only [decide_eq_true_eq, decide_eq_false_iff_not] at *); first | omega | (simp_all; done) | (simp_all; omega)))
                              | (refine ⟨rf fun hm => ?_, hw.sub .nil⟩; have h1 := may_rule hm hx; clear hm; ((try simp only [decide_eq_true_eq, decide_eq_false_iff_not] at *); first | omega | (simp_all; done) | (simp_all; omega)))
                              | (refine ⟨rf fun hm => ?_, hw.sub .nil⟩; have h1 := may_sym hm hx hs; clear hm; ((try simp only [decide_eq_true_eq, decide_eq_false_iff_not] at *); first | omega | (simp_all; done) | (simp_all; omega)))
                          · skip
                            refine CW_skip ?_
                            refine EW_block_normal ?_
                            refine EW_then ?_
                            refine CW_region ?_
                            refine OW_q (q_move rfl) rfl ?_
                            first | refine OW_q (q_inc rfl rfl (by omega)) rfl ?_ | refine OW_q (q_add rfl rfl (by omega) (by omega)) rfl ?_
                            refine OW_q (q_assign rfl) rfl ?_
                            refine OW_nil ?_
                            refine EW_again (j + 1) ⟨?_, ?_⟩ ⟨rfl, rfl, rfl, rfl, trivial⟩ (fun w hw => hw.sub (by (repeat (first | exact SubL.nil | exact Pick.head | apply Pick.tail | apply SubL.cons))))
                            · show r.right.length - (j + 1) < r.right.length - j; omega
                            · refine ⟨by omega, ?_⟩
                              have hR : symB g s = true := by
                                refine symB_true.2 ?_
                                ((try simp only [decide_eq_true_eq, decide_eq_false_iff_not] at *); first | omega | (simp_all; done) | (simp_all; omega))
                              rw [all_take_succ _ hs, hokj, hR]; rfl
                      · skip
                        refine CW_skip ?_
                        refine EW_then ?_
                        refine CW_seq ?_
                        refine CW_region ?_
                        refine OW_q (q_fieldAddr Tryd.underlying50 rfl rfl Tryd.sizeOf48 rfl rfl) rfl ?_
                        first | (refine OW_q (q_load1_own Tryd.isAgg48 rfl rfl (by (repeat (first | exact .head | apply Swap.tail))) (by rfl)) rfl ?_) | (refine OW_q (q_load1_ro Tryd.isAgg48 rfl (by first | assumption | exact Row.at_ (by assumption) rfl)) rfl ?_)
                        refine OW_q (q_move rfl) rfl ?_
                        refine OW_q (q_indexAddr Tryd.underlying48 Tryd.sizeOf53 rfl rfl (by first | omega | assumption)) rfl ?_
                        refine OW_q (q_fieldAddr Tryd.underlying53 rfl rfl Tryd.sizeOf3 rfl rfl) rfl ?_
                        refine OW_q (q_load1_ro Tryd.isAgg3 rfl (by first | assumption | exact Row.at_ (by assumption) rfl)) rfl ?_
                        refine OW_q (q_lss rfl rfl) rfl ?_
                        refine OW_q (q_move rfl) rfl ?_
                        refine OW_part (t := 83) rfl (fun hg83 => ?_) (fun hg83 => ?_)
                        · skip
                          refine OW_skip rfl rfl rfl rfl ?_
                          refine OW_skip rfl rfl rfl rfl ?_
                          refine OW_skip rfl rfl rfl rfl ?_
                          refine OW_skip rfl rfl rfl rfl ?_
                          refine OW_skip rfl rfl rfl rfl ?_
                          refine OW_skip rfl rfl rfl rfl ?_
                          refine OW_skip rfl rfl rfl rfl ?_
                          refine OW_skip rfl rfl rfl rfl ?_
                          refine OW_q (q_pick_t rfl rfl) rfl ?_
                          refine OW_nil ?_
                          refine EW_then ?_
                          refine CW_true rfl rfl ?_
                          refine CW_seq ?_
                          refine CW_region ?_
                          refine OW_q (q_assign rfl) rfl ?_
                          refine OW_nil ?_
                          refine EW_then ?_
                          refine CW_ret ?_
                          refine EW_block_ret ?_
                          refine EW_then_ret ?_
                          refine EW_out_ret ?_
                          refine EW_block_ret ?_
                          refine EW_block_ret ?_
                          refine EW_then_ret ?_
                          refine EW_out_ret ?_
                          refine EW_block_ret ?_
                          refine EW_then_ret ?_
                          refine ret1 Tryd.results6 rfl (fun w hw => ?_)
                          first
                            | (refine ⟨rt (mayB_true.2 ?_), hw.sub .nil⟩; simp only [hok]; ((try simp only [decide_eq_true_eq, decide_eq_false_iff_not, Bool.not_eq_eq_eq_not, Bool.not_true, Bool.not_false, inB_true, inB_false] at *); first | omega | (simp_all; done) | (simp_all; omega)))
                            | (refine ⟨rf fun hm => ?_, hw.sub .nil⟩; have h1 := mayB_true.1 hm; clear hm; ((try simp only [decide_eq_true_eq, decide_eq_false_iff_not] at *); first | omega | (simp_all; done) | (simp_all; omega)))
                            | (refine ⟨rf fun hm => ?_, hw.sub .nil⟩; have h1 := may_rule hm hx; clear hm; ((try simp only [decide_eq_true_eq, decide_eq_false_iff_not] at *); first | omega | (simp_all; done) | (simp_all; omega)))
                            | (refine ⟨rf fun hm => ?_, hw.sub .nil⟩; have h1 := may_sym hm hx hs; clear hm; ((try simp only [decide_eq_true_eq, decide_eq_false_iff_not] at *); first | omega | (simp_all; done) | (simp_all; omega)))
                        · skip
                          refine OW_wanted rfl rfl rfl ?_
                          refine OW_q (q_fieldAddr Tryd.underlying50 rfl rfl Tryd.sizeOf48 rfl rfl) rfl ?_
                          refine OW_wanted rfl rfl rfl ?_
                          first | (refine OW_q (q_load1_own Tryd.isAgg48 rfl rfl (by (repeat (first | exact .head | apply Swap.tail))) (by rfl)) rfl ?_) | (refine OW_q (q_load1_ro Tryd.isAgg48 rfl (by first | assumption | exact Row.at_ (by assumption) rfl)) rfl ?_)
                          refine OW_wanted rfl rfl rfl ?_
                          refine OW_q (q_move rfl) rfl ?_
                          refine OW_wanted rfl rfl rfl ?_
                          refine OW_q (q_indexAddr Tryd.underlying48 Tryd.sizeOf53 rfl rfl (by first | omega | assumption)) rfl ?_
                          refine OW_wanted rfl rfl rfl ?_
                          refine OW_q (q_fieldAddr Tryd.underlying53 rfl rfl Tryd.sizeOf3 rfl rfl) rfl ?_
                          refine OW_wanted rfl rfl rfl ?_
                          refine OW_q (q_load1_ro Tryd.isAgg3 rfl (by first | assumption | exact Row.at_ (by assumption) rfl)) rfl ?_
                          refine OW_wanted rfl rfl rfl ?_
                          refine OW_q (q_move rfl) rfl ?_
                          refine OW_wanted rfl rfl rfl ?_
                          refine OW_q (q_geq rfl rfl) rfl ?_
                          refine OW_q (q_pick_f rfl rfl) rfl ?_
                          refine OW_nil ?_
                          refine EW_then ?_
                          refine CW_cond rfl (fun h92 => ?_) (fun h92 => ?_)
                          · skip
                            refine CW_seq ?_
                            refine CW_region ?_
                            refine OW_q (q_assign rfl) rfl ?_
                            refine OW_nil ?_
                            refine EW_then ?_
                            refine CW_ret ?_
                            refine EW_block_ret ?_
                            refine EW_then_ret ?_
                            refine EW_out_ret ?_
                            refine EW_block_ret ?_
                            refine EW_block_ret ?_
                            refine EW_then_ret ?_
                            refine EW_out_ret ?_
                            refine EW_block_ret ?_
                            refine EW_then_ret ?_
                            refine ret1 Tryd.results6 rfl (fun w hw => ?_)
                            first
                              | (refine ⟨rt (mayB_true.2 ?_), hw.sub .nil⟩; simp only [hok]; ((try simp only [decide_eq_true_eq, decide_eq_false_iff_not, Bool.not_eq_eq_eq_not, Bool.not_true, Bool.not_false, inB_true, inB_false] at *); first | omega | (simp_all; done) | (simp_all; omega)))
                              | (refine ⟨rf fun hm => ?_, hw.sub .nil⟩; have h1 := mayB_true.1 hm; clear hm; ((try simp only [decide_eq_true_eq, decide_eq_false_iff_not] at *); first | omega | (simp_all; done) | (simp_all; omega)))
                              | (refine ⟨rf fun hm => ?_, hw.sub .nil⟩; have h1 := may_rule hm hx; clear hm; ((try simp only [decide_eq_true_eq, decide_eq_false_iff_not] at *); first | omega | (simp_all; done) | (simp_all; omega)))
                              | (refine ⟨rf fun hm => ?_, hw.sub .nil⟩; have h1 := may_sym hm hx hs; clear hm; ((try simp only [decide_eq_true_eq, decide_eq_false_iff_not] at *); first | omega | (simp_all; done) | (simp_all; omega)))
                          · skip
                            refine CW_skip ?_
                            refine EW_block_normal ?_
                            refine EW_then ?_
                            refine CW_region ?_
                            refine OW_q (q_move rfl) rfl ?_
                            first | refine OW_q (q_inc rfl rfl (by omega)) rfl ?_ | refine OW_q (q_add rfl rfl (by omega) (by omega)) rfl ?_
                            refine OW_q (q_assign rfl) rfl ?_
                            refine OW_nil ?_
                            refine EW_again (j + 1) ⟨?_, ?_⟩ ⟨rfl, rfl, rfl, rfl, trivial⟩ (fun w hw => hw.sub (by (repeat (first | exact SubL.nil | exact Pick.head | apply Pick.tail | apply SubL.cons))))
                            · show r.right.length - (j + 1) < r.right.length - j; omega
                            · refine ⟨by omega, ?_⟩
                              have hR : symB g s = true := by
                                refine symB_true.2 ?_
                                ((try simp only [decide_eq_true_eq, decide_eq_false_iff_not] at *); first | omega | (simp_all; done) | (simp_all; omega))
                              rw [all_take_succ _ hs, hokj, hR]; rfl
                    · skip
                      have hend2 := take_all (l := r.right) (k := j) (by simpa using h63)
                      rw [hend2] at hokj
                      refine CW_exit ?_
                      refine EW_then_exit ?_
                      refine EW_out ?_
                      refine EW_block_exit ?_
                      refine EW_block_normal ?_
                      refine EW_then ?_
                      refine CW_region ?_
                      refine OW_q (q_move rfl) rfl ?_
                      first | refine OW_q (q_inc rfl rfl (by omega)) rfl ?_ | refine OW_q (q_add rfl rfl (by omega) (by omega)) rfl ?_
                      refine OW_q (q_assign rfl) rfl ?_
                      refine OW_nil ?_
                      refine EW_again (k + 1) ⟨?_, ?_⟩ ⟨rfl, rfl, trivial⟩ (fun w hw => hw.sub (by (repeat (first | exact SubL.nil | exact Pick.head | apply Pick.tail | apply SubL.cons))))
                      · show g.rules.length - (k + 1) < g.rules.length - k; omega
                      · refine ⟨by omega, ?_⟩
                        have hR : ruleB g r = true := by
                          refine ruleB_true.2 ?_
                          simp only [hokj]
                          ((try simp only [decide_eq_true_eq, decide_eq_false_iff_not] at *); first | omega | (simp_all; done) | (simp_all; omega))
                        rw [all_take_succ _ hx, hok, hR]; rfl
            · skip
              have hend := take_all (l := g.rules) (k := k) (by simpa using h35)
              rw [hend] at hok
              refine CW_exit ?_
              refine EW_then_exit ?_
              refine EW_out ?_
              refine EW_block_exit ?_
              refine EW_then ?_
              refine CW_seq ?_
              refine CW_region ?_
              refine OW_q (q_assign rfl) rfl ?_
              refine OW_nil ?_
              refine EW_then ?_
              refine CW_ret ?_
              refine ret1 Tryd.results6 rfl (fun w hw => ?_)
              first
                | (refine ⟨rt (mayB_true.2 ?_), hw.sub .nil⟩; simp only [hok]; ((try simp only [decide_eq_false_iff_not] at *); first | omega | (simp_all; done) | (simp_all; omega)))
                | (refine ⟨rf fun hm => ?_, hw.sub .nil⟩; have h1 := mayB_true.1 hm; clear hm; ((try simp only [decide_eq_true_eq, decide_eq_false_iff_not, Bool.not_eq_eq_eq_not, Bool.not_true, Bool.not_false, inB_true, inB_false] at *); first | omega | (simp_all; done) | (simp_all; omega)))
                | (refine ⟨rf fun hm => ?_, hw.sub .nil⟩; have h1 := may_rule hm hx; clear hm; ((try simp only [decide_eq_true_eq, decide_eq_false_iff_not, Bool.not_eq_eq_eq_not, Bool.not_true, Bool.not_false, inB_true, inB_false] at *); first | omega | (simp_all; done) | (simp_all; omega)))
                | (refine ⟨rf fun hm => ?_, hw.sub .nil⟩; have h1 := may_sym hm hx hs; clear hm; ((try simp only [decide_eq_true_eq, decide_eq_false_iff_not, Bool.not_eq_eq_eq_not, Bool.not_true, Bool.not_false, inB_true, inB_false] at *); first | omega | (simp_all; done) | (simp_all; omega)))

end Go.Sy
