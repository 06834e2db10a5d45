/- Walks over package gram and the first reference: whether a grammar may be. No condition. -/
import Derived.Test.YteceklkjbcebkaaDoorPlain
import Derived.Test.YteceklkjbcebkaaDoorProg
namespace Go.Sy
open Go Go.RowKit Go.Proofs

set_option maxRecDepth 20000 in
theorem in_any (n b : Int) (w : World) : Calls Tryd.prog 18 #[.int .i64 n, .int .i64 b] w (fun e w' => e = .returned (.bool (inB n b)) ∧ w' = w) := by
  refine calls_CW (S := (fun w' => w' = w)) Tryd.func18 rfl Tryd.ntmps18 rfl (rfl) ?_
  refine CW_seq ?_
  refine CW_region ?_
  refine OW_q (q_assign rfl) rfl ?_
  refine OW_nil ?_
  refine EW_then ?_
  refine CW_seq ?_
  refine CW_region ?_
  refine OW_q (q_move rfl) rfl ?_
  refine OW_q (q_geq rfl rfl) rfl ?_
  refine OW_q (q_move rfl) rfl ?_
  refine OW_part (t := 7) rfl (fun hg7 => ?_) (fun hg7 => ?_)
  · skip
    refine OW_wanted rfl rfl rfl ?_
    refine OW_q (q_move rfl) rfl ?_
    refine OW_wanted rfl rfl rfl ?_
    refine OW_q (q_move rfl) rfl ?_
    refine OW_wanted rfl rfl rfl ?_
    refine OW_q (q_lss rfl rfl) rfl ?_
    refine OW_q (q_pick_t rfl rfl) rfl ?_
    refine OW_q (q_assign rfl) rfl ?_
    refine OW_nil ?_
    refine EW_then ?_
    refine CW_ret ?_
    refine ret1 Tryd.results18 rfl (fun w hw => ?_)
    exact ⟨by first | (simp_all [inB]; done) | (simp_all [inB]; omega), hw⟩
  · skip
    refine OW_skip rfl rfl rfl rfl ?_
    refine OW_skip rfl rfl rfl rfl ?_
    refine OW_skip rfl rfl rfl rfl ?_
    refine OW_q (q_pick_f rfl rfl) rfl ?_
    refine OW_q (q_assign rfl) rfl ?_
    refine OW_nil ?_
    refine EW_then ?_
    refine CW_ret ?_
    refine ret1 Tryd.results18 rfl (fun w hw => ?_)
    exact ⟨by first | (simp_all [inB]; done) | (simp_all [inB]; omega), hw⟩

set_option maxRecDepth 20000 in
theorem may_any (gv : Value) (g : Gram) (w : World) (hg : GramAt (Cl w) gv g) : Calls Tryd.prog 8 #[gv] w (fun e w' => e = .returned (.bool (mayB g)) ∧ Sat (Old w) w [] w') := by
  obtain ⟨rv, rfl, hr⟩ := hg.mono old_rd
  obtain ⟨a, c, rfl, hc1, hc2, hrs⟩ := hr
  clear hg
  refine calls_CW Tryd.func8 rfl Tryd.ntmps8 rfl (Sat.start w) ?_
  refine CW_seq ?_
  refine CW_region ?_
  refine OW_e (e_box rfl rfl) rfl (fun b1 => ?_)
  refine OW_q (q_assign rfl) rfl ?_
  refine OW_nil ?_
  refine EW_then ?_
  refine CW_seq ?_
  refine CW_seq ?_
  refine CW_region ?_
  refine OW_q (q_fieldAddr Tryd.underlying24 rfl rfl Tryd.sizeOf3 rfl rfl) rfl ?_
  first | (refine OW_q (q_load1_own Tryd.isAgg3 rfl rfl (by (repeat (first | exact .head | apply Swap.tail))) (by rfl)) rfl ?_) | (refine OW_q (q_load1_ro Tryd.isAgg3 rfl (by first | assumption | exact Row.at_ (by assumption) rfl)) rfl ?_)
  refine OW_e (e_call Tryd.call18 rfl (fun w hw => lift_same (in_any _ _ w) hw)) rfl (fun _ => ?_)
  refine OW_q (q_not rfl) rfl ?_
  refine OW_q (q_move rfl) rfl ?_
  refine OW_part (t := 11) rfl (fun hg11 => ?_) (fun hg11 => ?_)
  · skip
    refine OW_skip rfl rfl rfl rfl ?_
    refine OW_skip rfl rfl rfl rfl ?_
    refine OW_skip rfl rfl rfl rfl ?_
    refine OW_q (q_pick_t rfl rfl) rfl ?_
    refine OW_q (q_move rfl) rfl ?_
    refine OW_skip rfl rfl rfl rfl ?_
    refine OW_skip rfl rfl rfl rfl ?_
    refine OW_skip rfl rfl rfl rfl ?_
    refine OW_q (q_pick_t rfl rfl) rfl ?_
    refine OW_q (q_move rfl) rfl ?_
    refine OW_skip rfl rfl rfl rfl ?_
    refine OW_skip rfl rfl rfl rfl ?_
    refine OW_skip rfl rfl rfl rfl ?_
    refine OW_skip rfl rfl rfl rfl ?_
    refine OW_q (q_pick_t rfl rfl) rfl ?_
    refine OW_nil ?_
    refine EW_then ?_
    refine CW_true rfl rfl ?_
    refine CW_seq ?_
    refine CW_region ?_
    refine OW_q (q_assign rfl) rfl ?_
    refine OW_nil ?_
    refine EW_then ?_
    refine CW_ret ?_
    refine EW_then_ret ?_
    refine ret1 Tryd.results8 rfl (fun w hw => ?_)
    first
      | (refine ⟨rt (mayB_true.2 ?_), hw.sub .nil⟩; simp only [hok]; ((try simp only [decide_eq_true_eq, decide_eq_false_iff_not, Bool.not_eq_eq_eq_not, Bool.not_true, Bool.not_false, inB_true, inB_false] at *); first | omega | (simp_all; done) | (simp_all; omega)))
      | (refine ⟨rf fun hm => ?_, hw.sub .nil⟩; have h1 := mayB_true.1 hm; clear hm; ((try simp only [decide_eq_true_eq, decide_eq_false_iff_not, Bool.not_eq_eq_eq_not, Bool.not_true, Bool.not_false, inB_true, inB_false] at *); first | omega | (simp_all; done) | (simp_all; omega)))
      | (refine ⟨rf fun hm => ?_, hw.sub .nil⟩; have h1 := may_rule hm hx; clear hm; ((try simp only [decide_eq_true_eq, decide_eq_false_iff_not, Bool.not_eq_eq_eq_not, Bool.not_true, Bool.not_false, inB_true, inB_false] at *); first | omega | (simp_all; done) | (simp_all; omega)))
      | (refine ⟨rf fun hm => ?_, hw.sub .nil⟩; have h1 := may_sym hm hx hs; clear hm; ((try simp only [decide_eq_true_eq, decide_eq_false_iff_not, Bool.not_eq_eq_eq_not, Bool.not_true, Bool.not_false, inB_true, inB_false] at *); first | omega | (simp_all; done) | (simp_all; omega)))
  · skip
    refine OW_wanted rfl rfl rfl ?_
    refine OW_q (q_fieldAddr Tryd.underlying24 rfl rfl Tryd.sizeOf3 rfl rfl) rfl ?_
    refine OW_wanted rfl rfl rfl ?_
    first | (refine OW_q (q_load1_own Tryd.isAgg3 rfl rfl (by (repeat (first | exact .head | apply Swap.tail))) (by rfl)) rfl ?_) | (refine OW_q (q_load1_ro Tryd.isAgg3 rfl (by first | assumption | exact Row.at_ (by assumption) rfl)) rfl ?_)
    refine OW_wanted rfl rfl rfl ?_
    refine OW_q (q_lss rfl rfl) rfl ?_
    refine OW_q (q_pick_f rfl rfl) rfl ?_
    refine OW_q (q_move rfl) rfl ?_
    refine OW_part (t := 16) rfl (fun hg16 => ?_) (fun hg16 => ?_)
    · skip
      refine OW_skip rfl rfl rfl rfl ?_
      refine OW_skip rfl rfl rfl rfl ?_
      refine OW_skip rfl rfl rfl rfl ?_
      refine OW_q (q_pick_t rfl rfl) rfl ?_
      refine OW_q (q_move rfl) rfl ?_
      refine OW_skip rfl rfl rfl rfl ?_
      refine OW_skip rfl rfl rfl rfl ?_
      refine OW_skip rfl rfl rfl rfl ?_
      refine OW_skip rfl rfl rfl rfl ?_
      refine OW_q (q_pick_t rfl rfl) rfl ?_
      refine OW_nil ?_
      refine EW_then ?_
      refine CW_true rfl rfl ?_
      refine CW_seq ?_
      refine CW_region ?_
      refine OW_q (q_assign rfl) rfl ?_
      refine OW_nil ?_
      refine EW_then ?_
      refine CW_ret ?_
      refine EW_then_ret ?_
      refine ret1 Tryd.results8 rfl (fun w hw => ?_)
      first
        | (refine ⟨rt (mayB_true.2 ?_), hw.sub .nil⟩; simp only [hok]; ((try simp only [decide_eq_true_eq, decide_eq_false_iff_not, Bool.not_eq_eq_eq_not, Bool.not_true, Bool.not_false, inB_true, inB_false] at *); first | omega | (simp_all; done) | (simp_all; omega)))
        | (refine ⟨rf fun hm => ?_, hw.sub .nil⟩; have h1 := mayB_true.1 hm; clear hm; ((try simp only [decide_eq_true_eq, decide_eq_false_iff_not, Bool.not_eq_eq_eq_not, Bool.not_true, Bool.not_false, inB_true, inB_false] at *); first | omega | (simp_all; done) | (simp_all; omega)))
        | (refine ⟨rf fun hm => ?_, hw.sub .nil⟩; have h1 := may_rule hm hx; clear hm; ((try simp only [decide_eq_true_eq, decide_eq_false_iff_not, Bool.not_eq_eq_eq_not, Bool.not_true, Bool.not_false, inB_true, inB_false] at *); first | omega | (simp_all; done) | (simp_all; omega)))
        | (refine ⟨rf fun hm => ?_, hw.sub .nil⟩; have h1 := may_sym hm hx hs; clear hm; ((try simp only [decide_eq_true_eq, decide_eq_false_iff_not, Bool.not_eq_eq_eq_not, Bool.not_true, Bool.not_false, inB_true, inB_false] at *); first | omega | (simp_all; done) | (simp_all; omega)))
    · skip
      refine OW_wanted rfl rfl rfl ?_
      refine OW_q (q_fieldAddr Tryd.underlying24 rfl rfl Tryd.sizeOf3 rfl rfl) rfl ?_
      refine OW_wanted rfl rfl rfl ?_
      first | (refine OW_q (q_load1_own Tryd.isAgg3 rfl rfl (by (repeat (first | exact .head | apply Swap.tail))) (by rfl)) rfl ?_) | (refine OW_q (q_load1_ro Tryd.isAgg3 rfl (by first | assumption | exact Row.at_ (by assumption) rfl)) rfl ?_)
      refine OW_wanted rfl rfl rfl ?_
      refine OW_q (q_gtr rfl rfl) rfl ?_
      refine OW_q (q_pick_f rfl rfl) rfl ?_
      refine OW_q (q_move rfl) rfl ?_
      refine OW_part (t := 21) rfl (fun hg21 => ?_) (fun hg21 => ?_)
      · skip
        refine OW_skip rfl rfl rfl rfl ?_
        refine OW_skip rfl rfl rfl rfl ?_
        refine OW_skip rfl rfl rfl rfl ?_
        refine OW_skip rfl rfl rfl rfl ?_
        refine OW_q (q_pick_t rfl rfl) rfl ?_
        refine OW_nil ?_
        refine EW_then ?_
        refine CW_true rfl rfl ?_
        refine CW_seq ?_
        refine CW_region ?_
        refine OW_q (q_assign rfl) rfl ?_
        refine OW_nil ?_
        refine EW_then ?_
        refine CW_ret ?_
        refine EW_then_ret ?_
        refine ret1 Tryd.results8 rfl (fun w hw => ?_)
        first
          | (refine ⟨rt (mayB_true.2 ?_), hw.sub .nil⟩; simp only [hok]; ((try simp only [decide_eq_true_eq, decide_eq_false_iff_not, Bool.not_eq_eq_eq_not, Bool.not_true, Bool.not_false, inB_true, inB_false] at *); first | omega | (simp_all; done) | (simp_all; omega)))
          | (refine ⟨rf fun hm => ?_, hw.sub .nil⟩; have h1 := mayB_true.1 hm; clear hm; ((try simp only [decide_eq_true_eq, decide_eq_false_iff_not, Bool.not_eq_eq_eq_not, Bool.not_true, Bool.not_false, inB_true, inB_false] at *); first | omega | (simp_all; done) | (simp_all; omega)))
          | (refine ⟨rf fun hm => ?_, hw.sub .nil⟩; have h1 := may_rule hm hx; clear hm; ((try simp only [decide_eq_true_eq, decide_eq_false_iff_not, Bool.not_eq_eq_eq_not, Bool.not_true, Bool.not_false, inB_true, inB_false] at *); first | omega | (simp_all; done) | (simp_all; omega)))
          | (refine ⟨rf fun hm => ?_, hw.sub .nil⟩; have h1 := may_sym hm hx hs; clear hm; ((try simp only [decide_eq_true_eq, decide_eq_false_iff_not, Bool.not_eq_eq_eq_not, Bool.not_true, Bool.not_false, inB_true, inB_false] at *); first | omega | (simp_all; done) | (simp_all; omega)))
      · skip
        refine OW_wanted rfl rfl rfl ?_
        refine OW_q (q_fieldAddr Tryd.underlying24 rfl rfl Tryd.sizeOf22 rfl rfl) rfl ?_
        refine OW_wanted rfl rfl rfl ?_
        first | (refine OW_q (q_load1_own Tryd.isAgg22 rfl rfl (by (repeat (first | exact .head | apply Swap.tail))) (by rfl)) rfl ?_) | (refine OW_q (q_load1_ro Tryd.isAgg22 rfl (by first | assumption | exact Row.at_ (by assumption) rfl)) rfl ?_)
        refine OW_wanted rfl rfl rfl ?_
        refine OW_q (q_len Tryd.underlying22 rfl) rfl ?_
        refine OW_wanted rfl rfl rfl ?_
        refine OW_q (q_gtr rfl rfl) rfl ?_
        refine OW_q (q_pick_f rfl rfl) rfl ?_
        refine OW_nil ?_
        refine EW_then ?_
        refine CW_cond rfl (fun h26 => ?_) (fun h26 => ?_)
        · skip
          refine CW_seq ?_
          refine CW_region ?_
          refine OW_q (q_assign rfl) rfl ?_
          refine OW_nil ?_
          refine EW_then ?_
          refine CW_ret ?_
          refine EW_then_ret ?_
          refine ret1 Tryd.results8 rfl (fun w hw => ?_)
          first
            | (refine ⟨rt (mayB_true.2 ?_), hw.sub .nil⟩; simp only [hok]; ((try simp only [decide_eq_true_eq, decide_eq_false_iff_not, Bool.not_eq_eq_eq_not, Bool.not_true, Bool.not_false, inB_true, inB_false] at *); first | omega | (simp_all; done) | (simp_all; omega)))
            | (refine ⟨rf fun hm => ?_, hw.sub .nil⟩; have h1 := mayB_true.1 hm; clear hm; ((try simp only [decide_eq_true_eq, decide_eq_false_iff_not, Bool.not_eq_eq_eq_not, Bool.not_true, Bool.not_false, inB_true, inB_false] at *); first | omega | (simp_all; done) | (simp_all; omega)))
            | (refine ⟨rf fun hm => ?_, hw.sub .nil⟩; have h1 := may_rule hm hx; clear hm; ((try simp only [decide_eq_true_eq, decide_eq_false_iff_not, Bool.not_eq_eq_eq_not, Bool.not_true, Bool.not_false, inB_true, inB_false] at *); first | omega | (simp_all; done) | (simp_all; omega)))
            | (refine ⟨rf fun hm => ?_, hw.sub .nil⟩; have h1 := may_sym hm hx hs; clear hm; ((try simp only [decide_eq_true_eq, decide_eq_false_iff_not, Bool.not_eq_eq_eq_not, Bool.not_true, Bool.not_false, inB_true, inB_false] at *); first | omega | (simp_all; done) | (simp_all; omega)))
        · skip
          refine CW_skip ?_
          refine EW_then ?_
          refine CW_seq ?_
          refine CW_seq ?_
          refine CW_region ?_
          refine OW_q (q_fieldAddr Tryd.underlying24 rfl rfl Tryd.sizeOf22 rfl rfl) rfl ?_
          first | (refine OW_q (q_load1_own Tryd.isAgg22 rfl rfl (by (repeat (first | exact .head | apply Swap.tail))) (by rfl)) rfl ?_) | (refine OW_q (q_load1_ro Tryd.isAgg22 rfl (by first | assumption | exact Row.at_ (by assumption) rfl)) rfl ?_)
          refine OW_q (q_len Tryd.underlying22 rfl) rfl ?_
          refine OW_q (q_move rfl) rfl ?_
          refine OW_nil ?_
          refine EW_then ?_
          refine CW_block ?_
          refine CW_loopP (ι := Nat) (fun k => k ≤ g.rules.length ∧ (g.rules.take k).all (ruleB g) = true) (fun k => [(1, .pointer (some ⟨b1, 0, none⟩)), (28, .slice a g.rules.length c), (29, .int .i64 (g.rules.length : Int)), (30, .int .i64 (k : Int))]) (fun k => Sat (Old w) w [cel b1 24 [.int .i64 g.terms, .int .i64 g.names, .slice a g.rules.length c]]) (fun k => g.rules.length - k) 0 ?_ ⟨rfl, rfl, rfl, rfl, trivial⟩ (fun w hw => hw.sub (by (repeat (first | exact SubL.nil | exact Pick.head | apply Pick.tail | apply SubL.cons)))) ?_
          · exact ⟨Nat.zero_le _, rfl⟩
          intro k hpre
          change CW _ _ _ _ [(1, .pointer (some ⟨b1, 0, none⟩)), (28, .slice a g.rules.length c), (29, .int .i64 (g.rules.length : Int)), (30, .int .i64 (k : Int))] (Sat (Old w) w [cel b1 24 [.int .i64 g.terms, .int .i64 g.names, .slice a g.rules.length c]])
          obtain ⟨hk, hok⟩ := hpre
          refine CW_seq ?_
          refine CW_region ?_
          refine OW_q (q_lss rfl rfl) rfl ?_
          refine OW_nil ?_
          refine EW_then ?_
          refine CW_seq ?_
          refine CW_cond rfl (fun h31 => ?_) (fun h31 => ?_)
          · skip
            have hlt : k < g.rules.length := by simpa using h31
            obtain ⟨r, hx⟩ := get_of_lt hlt
            obtain ⟨p, rfl, rv2, hsy, hrow⟩ := hrs k r hx
            obtain ⟨a2, c2, rfl, hd1, hd2, hss⟩ := hsy
            refine CW_skip ?_
            refine EW_then ?_
            refine CW_seq ?_
            refine CW_block ?_
            refine CW_seq ?_
            refine CW_region ?_
            refine OW_q (q_indexAddr Tryd.underlying22 Tryd.sizeOf49 rfl rfl (by first | omega | assumption)) rfl ?_
            refine OW_q (q_loadN_ro Tryd.isAgg49 Tryd.sizeOf49 rfl (by first | assumption | exact Row.at_ (by assumption) rfl) (by rfl)) rfl ?_
            refine OW_e (e_alloc Tryd.zeroValue49 rfl) rfl (fun b4 => ?_)
            refine OW_e0 (e_storeN Tryd.sizeOf49 rfl rfl rfl rfl (by simp [Value.oneCell']) (by (repeat (first | exact .head | apply Swap.tail))) (by rfl)) (fun _ => ?_)
            refine OW_nil ?_
            refine EW_then ?_
            refine CW_seq ?_
            refine CW_seq ?_
            refine CW_region ?_
            refine OW_q (q_fieldAddr Tryd.underlying49 rfl rfl Tryd.sizeOf3 rfl rfl) rfl ?_
            first | (refine OW_q (q_load1_own Tryd.isAgg3 rfl rfl (by (repeat (first | exact .head | apply Swap.tail))) (by rfl)) rfl ?_) | (refine OW_q (q_load1_ro Tryd.isAgg3 rfl (by first | assumption | exact Row.at_ (by assumption) rfl)) rfl ?_)
            refine OW_q (q_fieldAddr Tryd.underlying24 rfl rfl Tryd.sizeOf3 rfl rfl) rfl ?_
            first | (refine OW_q (q_load1_own Tryd.isAgg3 rfl rfl (by (repeat (first | exact .head | apply Swap.tail))) (by rfl)) rfl ?_) | (refine OW_q (q_load1_ro Tryd.isAgg3 rfl (by first | assumption | exact Row.at_ (by assumption) rfl)) rfl ?_)
            refine OW_e (e_call Tryd.call18 rfl (fun w hw => lift_same (in_any _ _ w) hw)) rfl (fun _ => ?_)
            refine OW_q (q_not rfl) rfl ?_
            refine OW_q (q_move rfl) rfl ?_
            refine OW_part (t := 40) rfl (fun hg40 => ?_) (fun hg40 => ?_)
            · skip
              refine OW_skip rfl rfl rfl rfl ?_
              refine OW_skip rfl rfl rfl rfl ?_
              refine OW_skip rfl rfl rfl rfl ?_
              refine OW_skip rfl rfl rfl rfl ?_
              refine OW_q (q_pick_t rfl rfl) rfl ?_
              refine OW_nil ?_
              refine EW_then ?_
              refine CW_true rfl rfl ?_
              refine CW_seq ?_
              refine CW_region ?_
              refine OW_q (q_assign rfl) rfl ?_
              refine OW_nil ?_
              refine EW_then ?_
              refine CW_ret ?_
              refine EW_then_ret ?_
              refine EW_block_ret ?_
              refine EW_then_ret ?_
              refine EW_out_ret ?_
              refine EW_block_ret ?_
              refine EW_then_ret ?_
              refine ret1 Tryd.results8 rfl (fun w hw => ?_)
              first
                | (refine ⟨rt (mayB_true.2 ?_), hw.sub .nil⟩; simp only [hok]; ((try simp only [decide_eq_true_eq, decide_eq_false_iff_not, Bool.not_eq_eq_eq_not, Bool.not_true, Bool.not_false, inB_true, inB_false] at *); first | omega | (simp_all; done) | (simp_all; omega)))
                | (refine ⟨rf fun hm => ?_, hw.sub .nil⟩; have h1 := mayB_true.1 hm; clear hm; ((try simp only [decide_eq_true_eq, decide_eq_false_iff_not, Bool.not_eq_eq_eq_not, Bool.not_true, Bool.not_false, inB_true, inB_false] at *); first | omega | (simp_all; done) | (simp_all; omega)))
                | (refine ⟨rf fun hm => ?_, hw.sub .nil⟩; have h1 := may_rule hm hx; clear hm; ((try simp only [decide_eq_true_eq, decide_eq_false_iff_not, Bool.not_eq_eq_eq_not, Bool.not_true, Bool.not_false, inB_true, inB_false] at *); first | omega | (simp_all; done) | (simp_all; omega)))
                | (refine ⟨rf fun hm => ?_, hw.sub .nil⟩; have h1 := may_sym hm hx hs; clear hm; ((try simp only [decide_eq_true_eq, decide_eq_false_iff_not, Bool.not_eq_eq_eq_not, Bool.not_true, Bool.not_false, inB_true, inB_false] at *); first | omega | (simp_all; done) | (simp_all; omega)))
            · skip
              refine OW_wanted rfl rfl rfl ?_
              refine OW_q (q_fieldAddr Tryd.underlying49 rfl rfl Tryd.sizeOf47 rfl rfl) rfl ?_
              refine OW_wanted rfl rfl rfl ?_
              first | (refine OW_q (q_load1_own Tryd.isAgg47 rfl rfl (by (repeat (first | exact .head | apply Swap.tail))) (by rfl)) rfl ?_) | (refine OW_q (q_load1_ro Tryd.isAgg47 rfl (by first | assumption | exact Row.at_ (by assumption) rfl)) rfl ?_)
              refine OW_wanted rfl rfl rfl ?_
              refine OW_q (q_len Tryd.underlying47 rfl) rfl ?_
              refine OW_wanted rfl rfl rfl ?_
              refine OW_q (q_gtr rfl rfl) rfl ?_
              refine OW_q (q_pick_f rfl rfl) rfl ?_
              refine OW_nil ?_
              refine EW_then ?_
              refine CW_cond rfl (fun h45 => ?_) (fun h45 => ?_)
              · skip
                refine CW_seq ?_
                refine CW_region ?_
                refine OW_q (q_assign rfl) rfl ?_
                refine OW_nil ?_
                refine EW_then ?_
                refine CW_ret ?_
                refine EW_then_ret ?_
                refine EW_block_ret ?_
                refine EW_then_ret ?_
                refine EW_out_ret ?_
                refine EW_block_ret ?_
                refine EW_then_ret ?_
                refine ret1 Tryd.results8 rfl (fun w hw => ?_)
                first
                  | (refine ⟨rt (mayB_true.2 ?_), hw.sub .nil⟩; simp only [hok]; ((try simp only [decide_eq_true_eq, decide_eq_false_iff_not, Bool.not_eq_eq_eq_not, Bool.not_true, Bool.not_false, inB_true, inB_false] at *); first | omega | (simp_all; done) | (simp_all; omega)))
                  | (refine ⟨rf fun hm => ?_, hw.sub .nil⟩; have h1 := mayB_true.1 hm; clear hm; ((try simp only [decide_eq_true_eq, decide_eq_false_iff_not, Bool.not_eq_eq_eq_not, Bool.not_true, Bool.not_false, inB_true, inB_false] at *); first | omega | (simp_all; done) | (simp_all; omega)))
                  | (refine ⟨rf fun hm => ?_, hw.sub .nil⟩; have h1 := may_rule hm hx; clear hm; ((try simp only [decide_eq_true_eq, decide_eq_false_iff_not, Bool.not_eq_eq_eq_not, Bool.not_true, Bool.not_false, inB_true, inB_false] at *); first | omega | (simp_all; done) | (simp_all; omega)))
                  | (refine ⟨rf fun hm => ?_, hw.sub .nil⟩; have h1 := may_sym hm hx hs; clear hm; ((try simp only [decide_eq_true_eq, decide_eq_false_iff_not, Bool.not_eq_eq_eq_not, Bool.not_true, Bool.not_false, inB_true, inB_false] at *); first | omega | (simp_all; done) | (simp_all; omega)))
              · skip
                refine CW_skip ?_
                refine EW_then ?_
                refine CW_seq ?_
                refine CW_region ?_
                refine OW_q (q_fieldAddr Tryd.underlying49 rfl rfl Tryd.sizeOf47 rfl rfl) rfl ?_
                first | (refine OW_q (q_load1_own Tryd.isAgg47 rfl rfl (by (repeat (first | exact .head | apply Swap.tail))) (by rfl)) rfl ?_) | (refine OW_q (q_load1_ro Tryd.isAgg47 rfl (by first | assumption | exact Row.at_ (by assumption) rfl)) rfl ?_)
                refine OW_q (q_len Tryd.underlying47 rfl) rfl ?_
                refine OW_q (q_move rfl) rfl ?_
                refine OW_nil ?_
                refine EW_then ?_
                refine CW_block ?_
                refine CW_loopP (ι := Nat) (fun j => j ≤ r.right.length ∧ (r.right.take j).all (symB g) = true) (fun j => [(1, .pointer (some ⟨b1, 0, none⟩)), (28, .slice (some p) g.rules.length c), (29, .int .i64 (g.rules.length : Int)), (30, .int .i64 (k : Int)), (47, .slice a2 r.right.length c2), (48, .int .i64 (r.right.length : Int)), (49, .int .i64 (j : Int))]) (fun j => Sat (Old w) w [cel b1 24 [.int .i64 g.terms, .int .i64 g.names, .slice (some p) g.rules.length c]]) (fun j => r.right.length - j) 0 ?_ ⟨rfl, rfl, rfl, rfl, rfl, rfl, rfl, trivial⟩ (fun w hw => hw.sub (by (repeat (first | exact SubL.nil | exact Pick.head | apply Pick.tail | apply SubL.cons)))) ?_
                · exact ⟨Nat.zero_le _, rfl⟩
                intro j hpre
                change CW _ _ _ _ [(1, .pointer (some ⟨b1, 0, none⟩)), (28, .slice (some p) g.rules.length c), (29, .int .i64 (g.rules.length : Int)), (30, .int .i64 (k : Int)), (47, .slice a2 r.right.length c2), (48, .int .i64 (r.right.length : Int)), (49, .int .i64 (j : Int))] (Sat (Old w) w [cel b1 24 [.int .i64 g.terms, .int .i64 g.names, .slice (some p) g.rules.length c]])
                obtain ⟨hj, hokj⟩ := hpre
                refine CW_seq ?_
                refine CW_region ?_
                refine OW_q (q_lss rfl rfl) rfl ?_
                refine OW_nil ?_
                refine EW_then ?_
                refine CW_seq ?_
                refine CW_cond rfl (fun h50 => ?_) (fun h50 => ?_)
                · skip
                  have hltj : j < r.right.length := by simpa using h50
                  obtain ⟨s, hs⟩ := get_of_lt hltj
                  obtain ⟨p2, rfl, hrow2⟩ := hss j s hs
                  refine CW_skip ?_
                  refine EW_then ?_
                  refine CW_seq ?_
                  refine CW_block ?_
                  refine CW_seq ?_
                  refine CW_region ?_
                  refine OW_q (q_indexAddr Tryd.underlying47 Tryd.sizeOf52 rfl rfl (by first | omega | assumption)) rfl ?_
                  refine OW_q (q_loadN_ro Tryd.isAgg52 Tryd.sizeOf52 rfl (by first | assumption | exact Row.at_ (by assumption) rfl) (by rfl)) rfl ?_
                  refine OW_e (e_alloc Tryd.zeroValue52 rfl) rfl (fun b6 => ?_)
                  refine OW_e0 (e_storeN Tryd.sizeOf52 rfl rfl rfl rfl (by simp [Value.oneCell']) (by (repeat (first | exact .head | apply Swap.tail))) (by rfl)) (fun _ => ?_)
                  refine OW_nil ?_
                  refine EW_then ?_
                  refine CW_seq ?_
                  refine CW_region ?_
                  refine OW_q (q_fieldAddr Tryd.underlying52 rfl rfl Tryd.sizeOf4 rfl rfl) rfl ?_
                  first | (refine OW_q (q_load1_own Tryd.isAgg4 rfl rfl (by (repeat (first | exact .head | apply Swap.tail))) (by rfl)) rfl ?_) | (refine OW_q (q_load1_ro Tryd.isAgg4 rfl (by first | assumption | exact Row.at_ (by assumption) rfl)) rfl ?_)
                  refine OW_q (q_move rfl) rfl ?_
                  refine OW_part (t := 55) rfl (fun hg55 => ?_) (fun hg55 => ?_)
                  · skip
                    refine OW_wanted rfl rfl rfl ?_
                    refine OW_q (q_fieldAddr Tryd.underlying52 rfl rfl Tryd.sizeOf3 rfl rfl) rfl ?_
                    refine OW_wanted rfl rfl rfl ?_
                    first | (refine OW_q (q_load1_own Tryd.isAgg3 rfl rfl (by (repeat (first | exact .head | apply Swap.tail))) (by rfl)) rfl ?_) | (refine OW_q (q_load1_ro Tryd.isAgg3 rfl (by first | assumption | exact Row.at_ (by assumption) rfl)) rfl ?_)
                    refine OW_wanted rfl rfl rfl ?_
                    refine OW_q (q_fieldAddr Tryd.underlying24 rfl rfl Tryd.sizeOf3 rfl rfl) rfl ?_
                    refine OW_wanted rfl rfl rfl ?_
                    first | (refine OW_q (q_load1_own Tryd.isAgg3 rfl rfl (by (repeat (first | exact .head | apply Swap.tail))) (by rfl)) rfl ?_) | (refine OW_q (q_load1_ro Tryd.isAgg3 rfl (by first | assumption | exact Row.at_ (by assumption) rfl)) rfl ?_)
                    refine OW_wanted rfl rfl rfl ?_
                    refine OW_e (e_call Tryd.call18 rfl (fun w hw => lift_same (in_any _ _ w) hw)) rfl (fun _ => ?_)
                    refine OW_wanted rfl rfl rfl ?_
                    refine OW_q (q_not rfl) rfl ?_
                    refine OW_q (q_pick_t rfl rfl) rfl ?_
                    refine OW_q (q_move rfl) rfl ?_
                    refine OW_part (t := 63) rfl (fun hg63 => ?_) (fun hg63 => ?_)
                    · skip
                      refine OW_skip rfl rfl rfl rfl ?_
                      refine OW_skip rfl rfl rfl rfl ?_
                      refine OW_skip rfl rfl rfl rfl ?_
                      refine OW_skip rfl rfl rfl rfl ?_
                      refine OW_skipU rfl rfl rfl ?_
                      refine OW_skipU rfl rfl rfl ?_
                      refine OW_skipU rfl rfl rfl ?_
                      refine OW_skipU rfl rfl rfl ?_
                      refine OW_skipU rfl rfl rfl ?_
                      refine OW_skipU rfl rfl rfl ?_
                      refine OW_skip rfl rfl rfl rfl ?_
                      refine OW_q (q_pick_t rfl rfl) rfl ?_
                      refine OW_nil ?_
                      refine EW_then ?_
                      refine CW_true rfl rfl ?_
                      refine CW_seq ?_
                      refine CW_region ?_
                      refine OW_q (q_assign rfl) rfl ?_
                      refine OW_nil ?_
                      refine EW_then ?_
                      refine CW_ret ?_
                      refine EW_block_ret ?_
                      refine EW_then_ret ?_
                      refine EW_out_ret ?_
                      refine EW_block_ret ?_
                      refine EW_block_ret ?_
                      refine EW_then_ret ?_
                      refine EW_out_ret ?_
                      refine EW_block_ret ?_
                      refine EW_then_ret ?_
                      refine ret1 Tryd.results8 rfl (fun w hw => ?_)
                      first
                        | (refine ⟨rt (mayB_true.2 ?_), hw.sub .nil⟩; simp only [hok]; ((try simp only [decide_eq_true_eq, decide_eq_false_iff_not, Bool.not_eq_eq_eq_not, Bool.not_true, Bool.not_false, inB_true, inB_false] at *); first | omega | (simp_all; done) | (simp_all; omega)))
                        | (refine ⟨rf fun hm => ?_, hw.sub .nil⟩; have h1 := mayB_true.1 hm; clear hm; ((try simp only [decide_eq_true_eq, decide_eq_false_iff_not, Bool.not_eq_eq_eq_not, Bool.not_true, Bool.not_false, inB_true, inB_false] at *); first | omega | (simp_all; done) | (simp_all; omega)))
                        | (refine ⟨rf fun hm => ?_, hw.sub .nil⟩; have h1 := may_rule hm hx; clear hm; ((try simp only [decide_eq_true_eq, decide_eq_false_iff_not, Bool.not_eq_eq_eq_not, Bool.not_true, Bool.not_false, inB_true, inB_false] at *); first | omega | (simp_all; done) | (simp_all; omega)))
                        | (refine ⟨rf fun hm => ?_, hw.sub .nil⟩; have h1 := may_sym hm hx hs; clear hm; ((try simp only [decide_eq_true_eq, decide_eq_false_iff_not, Bool.not_eq_eq_eq_not, Bool.not_true, Bool.not_false, inB_true, inB_false] at *); first | omega | (simp_all; done) | (simp_all; omega)))
                    · skip
                      refine OW_wanted rfl rfl rfl ?_
                      refine OW_q (q_fieldAddr Tryd.underlying52 rfl rfl Tryd.sizeOf4 rfl rfl) rfl ?_
                      refine OW_wanted rfl rfl rfl ?_
                      first | (refine OW_q (q_load1_own Tryd.isAgg4 rfl rfl (by (repeat (first | exact .head | apply Swap.tail))) (by rfl)) rfl ?_) | (refine OW_q (q_load1_ro Tryd.isAgg4 rfl (by first | assumption | exact Row.at_ (by assumption) rfl)) rfl ?_)
                      refine OW_wanted rfl rfl rfl ?_
                      refine OW_q (q_not rfl) rfl ?_
                      refine OW_wanted rfl rfl rfl ?_
                      refine OW_q (q_move rfl) rfl ?_
                      refine OW_part (t := 67) rfl (fun hg67 => ?_) (fun hg67 => ?_)
                      · skip
                        refine OW_wanted rfl rfl rfl ?_
                        refine OW_q (q_fieldAddr Tryd.underlying52 rfl rfl Tryd.sizeOf3 rfl rfl) rfl ?_
                        refine OW_wanted rfl rfl rfl ?_
                        first | (refine OW_q (q_load1_own Tryd.isAgg3 rfl rfl (by (repeat (first | exact .head | apply Swap.tail))) (by rfl)) rfl ?_) | (refine OW_q (q_load1_ro Tryd.isAgg3 rfl (by first | assumption | exact Row.at_ (by assumption) rfl)) rfl ?_)
                        refine OW_wanted rfl rfl rfl ?_
                        refine OW_q (q_fieldAddr Tryd.underlying24 rfl rfl Tryd.sizeOf3 rfl rfl) rfl ?_
                        refine OW_wanted rfl rfl rfl ?_
                        first | (refine OW_q (q_load1_own Tryd.isAgg3 rfl rfl (by (repeat (first | exact .head | apply Swap.tail))) (by rfl)) rfl ?_) | (refine OW_q (q_load1_ro Tryd.isAgg3 rfl (by first | assumption | exact Row.at_ (by assumption) rfl)) rfl ?_)
                        refine OW_wanted rfl rfl rfl ?_
                        refine OW_e (e_call Tryd.call18 rfl (fun w hw => lift_same (in_any _ _ w) hw)) rfl (fun _ => ?_)
                        refine OW_wanted rfl rfl rfl ?_
                        refine OW_q (q_not rfl) rfl ?_
                        refine OW_wanted rfl rfl rfl ?_
                        refine OW_q (q_pick_t rfl rfl) rfl ?_
                        refine OW_q (q_pick_f rfl rfl) rfl ?_
                        refine OW_nil ?_
                        refine EW_then ?_
                        refine CW_cond rfl (fun h75 => ?_) (fun h75 => ?_)
                        · skip
                          refine CW_seq ?_
                          refine CW_region ?_
                          refine OW_q (q_assign rfl) rfl ?_
                          refine OW_nil ?_
                          refine EW_then ?_
                          refine CW_ret ?_
                          refine EW_block_ret ?_
                          refine EW_then_ret ?_
                          refine EW_out_ret ?_
                          refine EW_block_ret ?_
                          refine EW_block_ret ?_
                          refine EW_then_ret ?_
                          refine EW_out_ret ?_
                          refine EW_block_ret ?_
                          refine EW_then_ret ?_
                          refine ret1 Tryd.results8 rfl (fun w hw => ?_)
                          first
                            | (refine ⟨rt (mayB_true.2 ?_), hw.sub .nil⟩; simp only [hok]; ((try simp only [decide_eq_true_eq, decide_eq_false_iff_not, Bool.not_eq_eq_eq_not, Bool.not_true, Bool.not_false, inB_true, inB_false] at *); first | omega | (simp_all; done) | (simp_all; omega)))
                            | (refine ⟨rf fun hm => ?_, hw.sub .nil⟩; have h1 := mayB_true.1 hm; clear hm; ((try simp only [decide_eq_true_eq, decide_eq_false_iff_not, Bool.not_eq_eq_eq_not, Bool.not_true, Bool.not_false, inB_true, inB_false] at *); first | omega | (simp_all; done) | (simp_all; omega)))
                            | (refine ⟨rf fun hm => ?_, hw.sub .nil⟩; have h1 := may_rule hm hx; clear hm; ((try simp only [decide_eq_true_eq, decide_eq_false_iff_not, Bool.not_eq_eq_eq_not, Bool.not_true, Bool.not_false, inB_true, inB_false] at *); first | omega | (simp_all; done) | (simp_all; omega)))
                            | (refine ⟨rf fun hm => ?_, hw.sub .nil⟩; have h1 := may_sym hm hx hs; clear hm; ((try simp only [decide_eq_true_eq, decide_eq_false_iff_not, Bool.not_eq_eq_eq_not, Bool.not_true, Bool.not_false, inB_true, inB_false] at *); first | omega | (simp_all; done) | (simp_all; omega)))
                        · skip
                          refine CW_skip ?_
                          refine EW_block_normal ?_
                          refine EW_then ?_
                          refine CW_region ?_
                          first | refine OW_q (q_inc rfl rfl (by omega)) rfl ?_ | refine OW_q (q_add rfl rfl (by omega) (by omega)) rfl ?_
                          refine OW_q (q_move rfl) rfl ?_
                          refine OW_nil ?_
                          refine EW_again (j + 1) ⟨?_, ?_⟩ ⟨rfl, rfl, rfl, rfl, rfl, rfl, rfl, trivial⟩ (fun w hw => hw.sub (by (repeat (first | exact SubL.nil | exact Pick.head | apply Pick.tail | apply SubL.cons))))
                          · show r.right.length - (j + 1) < r.right.length - j; omega
                          · refine ⟨by omega, ?_⟩
                            have hR : symB g s = true := by
                              refine symB_true.2 ?_
                              ((try simp only [decide_eq_true_eq, decide_eq_false_iff_not, Bool.not_eq_eq_eq_not, Bool.not_true, Bool.not_false, inB_true, inB_false] at *); first | omega | (simp_all; done) | (simp_all; omega))
                            rw [all_take_succ _ hs, hokj, hR]; rfl
                      · skip
                        refine OW_skip rfl rfl rfl rfl ?_
                        refine OW_skip rfl rfl rfl rfl ?_
                        refine OW_skip rfl rfl rfl rfl ?_
                        refine OW_skip rfl rfl rfl rfl ?_
                        refine OW_skip rfl rfl rfl rfl ?_
                        refine OW_skip rfl rfl rfl rfl ?_
                        refine OW_wanted rfl rfl rfl ?_
                        refine OW_q (q_pick_f rfl rfl) rfl ?_
                        refine OW_q (q_pick_f rfl rfl) rfl ?_
                        refine OW_nil ?_
                        refine EW_then ?_
                        refine CW_false rfl rfl ?_
                        refine CW_skip ?_
                        refine EW_block_normal ?_
                        refine EW_then ?_
                        refine CW_region ?_
                        first | refine OW_q (q_inc rfl rfl (by omega)) rfl ?_ | refine OW_q (q_add rfl rfl (by omega) (by omega)) rfl ?_
                        refine OW_q (q_move rfl) rfl ?_
                        refine OW_nil ?_
                        refine EW_again (j + 1) ⟨?_, ?_⟩ ⟨rfl, rfl, rfl, rfl, rfl, rfl, rfl, trivial⟩ (fun w hw => hw.sub (by (repeat (first | exact SubL.nil | exact Pick.head | apply Pick.tail | apply SubL.cons))))
                        · show r.right.length - (j + 1) < r.right.length - j; omega
                        · refine ⟨by omega, ?_⟩
                          have hR : symB g s = true := by
                            refine symB_true.2 ?_
                            ((try simp only [decide_eq_true_eq, decide_eq_false_iff_not, Bool.not_eq_eq_eq_not, Bool.not_true, Bool.not_false, inB_true, inB_false] at *); first | omega | (simp_all; done) | (simp_all; omega))
                          rw [all_take_succ _ hs, hokj, hR]; rfl
                  · skip
                    refine OW_skip rfl rfl rfl rfl ?_
                    refine OW_skip rfl rfl rfl rfl ?_
                    refine OW_skip rfl rfl rfl rfl ?_
                    refine OW_skip rfl rfl rfl rfl ?_
                    refine OW_skip rfl rfl rfl rfl ?_
                    refine OW_skip rfl rfl rfl rfl ?_
                    refine OW_q (q_pick_f rfl rfl) rfl ?_
                    refine OW_q (q_move rfl) rfl ?_
                    refine OW_wanted rfl rfl rfl ?_
                    refine OW_q (q_fieldAddr Tryd.underlying52 rfl rfl Tryd.sizeOf4 rfl rfl) rfl ?_
                    refine OW_wanted rfl rfl rfl ?_
                    first | (refine OW_q (q_load1_own Tryd.isAgg4 rfl rfl (by (repeat (first | exact .head | apply Swap.tail))) (by rfl)) rfl ?_) | (refine OW_q (q_load1_ro Tryd.isAgg4 rfl (by first | assumption | exact Row.at_ (by assumption) rfl)) rfl ?_)
                    refine OW_wanted rfl rfl rfl ?_
                    refine OW_q (q_not rfl) rfl ?_
                    refine OW_wanted rfl rfl rfl ?_
                    refine OW_q (q_move rfl) rfl ?_
                    refine OW_part (t := 67) rfl (fun hg67 => ?_) (fun hg67 => ?_)
                    · skip
                      refine OW_wanted rfl rfl rfl ?_
                      refine OW_q (q_fieldAddr Tryd.underlying52 rfl rfl Tryd.sizeOf3 rfl rfl) rfl ?_
                      refine OW_wanted rfl rfl rfl ?_
                      first | (refine OW_q (q_load1_own Tryd.isAgg3 rfl rfl (by (repeat (first | exact .head | apply Swap.tail))) (by rfl)) rfl ?_) | (refine OW_q (q_load1_ro Tryd.isAgg3 rfl (by first | assumption | exact Row.at_ (by assumption) rfl)) rfl ?_)
                      refine OW_wanted rfl rfl rfl ?_
                      refine OW_q (q_fieldAddr Tryd.underlying24 rfl rfl Tryd.sizeOf3 rfl rfl) rfl ?_
                      refine OW_wanted rfl rfl rfl ?_
                      first | (refine OW_q (q_load1_own Tryd.isAgg3 rfl rfl (by (repeat (first | exact .head | apply Swap.tail))) (by rfl)) rfl ?_) | (refine OW_q (q_load1_ro Tryd.isAgg3 rfl (by first | assumption | exact Row.at_ (by assumption) rfl)) rfl ?_)
                      refine OW_wanted rfl rfl rfl ?_
                      refine OW_e (e_call Tryd.call18 rfl (fun w hw => lift_same (in_any _ _ w) hw)) rfl (fun _ => ?_)
                      refine OW_wanted rfl rfl rfl ?_
                      refine OW_q (q_not rfl) rfl ?_
                      refine OW_wanted rfl rfl rfl ?_
                      refine OW_q (q_pick_t rfl rfl) rfl ?_
                      refine OW_q (q_pick_f rfl rfl) rfl ?_
                      refine OW_nil ?_
                      refine EW_then ?_
                      refine CW_cond rfl (fun h75 => ?_) (fun h75 => ?_)
                      · skip
                        refine CW_seq ?_
                        refine CW_region ?_
                        refine OW_q (q_assign rfl) rfl ?_
                        refine OW_nil ?_
                        refine EW_then ?_
                        refine CW_ret ?_
                        refine EW_block_ret ?_
                        refine EW_then_ret ?_
                        refine EW_out_ret ?_
                        refine EW_block_ret ?_
                        refine EW_block_ret ?_
                        refine EW_then_ret ?_
                        refine EW_out_ret ?_
                        refine EW_block_ret ?_
                        refine EW_then_ret ?_
                        refine ret1 Tryd.results8 rfl (fun w hw => ?_)
                        first
                          | (refine ⟨rt (mayB_true.2 ?_), hw.sub .nil⟩; simp only [hok]; ((try simp only [decide_eq_true_eq, decide_eq_false_iff_not, Bool.not_eq_eq_eq_not, Bool.not_true, Bool.not_false, inB_true, inB_false] at *); first | omega | (simp_all; done) | (simp_all; omega)))
                          | (refine ⟨rf fun hm => ?_, hw.sub .nil⟩; have h1 := mayB_true.1 hm; clear hm; ((try simp only [decide_eq_true_eq, decide_eq_false_iff_not, Bool.not_eq_eq_eq_not, Bool.not_true, Bool.not_false, inB_true, inB_false] at *); first | omega | (simp_all; done) | (simp_all; omega)))
                          | (refine ⟨rf fun hm => ?_, hw.sub .nil⟩; have h1 := may_rule hm hx; clear hm; ((try simp only [decide_eq_true_eq, decide_eq_false_iff_not, Bool.not_eq_eq_eq_not, Bool.not_true, Bool.not_false, inB_true, inB_false] at *); first | omega | (simp_all; done) | (simp_all; omega)))
                          | (refine ⟨rf fun hm => ?_, hw.sub .nil⟩; have h1 := may_sym hm hx hs; clear hm; ((try simp only [decide_eq_true_eq, decide_eq_false_iff_not, Bool.not_eq_eq_eq_not, Bool.not_true, Bool.not_false, inB_true, inB_false] at *); first | omega | (simp_all; done) | (simp_all; omega)))
                      · skip
                        refine CW_skip ?_
                        refine EW_block_normal ?_
                        refine EW_then ?_
                        refine CW_region ?_
                        first | refine OW_q (q_inc rfl rfl (by omega)) rfl ?_ | refine OW_q (q_add rfl rfl (by omega) (by omega)) rfl ?_
                        refine OW_q (q_move rfl) rfl ?_
                        refine OW_nil ?_
                        refine EW_again (j + 1) ⟨?_, ?_⟩ ⟨rfl, rfl, rfl, rfl, rfl, rfl, rfl, trivial⟩ (fun w hw => hw.sub (by (repeat (first | exact SubL.nil | exact Pick.head | apply Pick.tail | apply SubL.cons))))
                        · show r.right.length - (j + 1) < r.right.length - j; omega
                        · refine ⟨by omega, ?_⟩
                          have hR : symB g s = true := by
                            refine symB_true.2 ?_
                            ((try simp only [decide_eq_true_eq, decide_eq_false_iff_not, Bool.not_eq_eq_eq_not, Bool.not_true, Bool.not_false, inB_true, inB_false] at *); first | omega | (simp_all; done) | (simp_all; omega))
                          rw [all_take_succ _ hs, hokj, hR]; rfl
                    · skip
                      refine OW_skip rfl rfl rfl rfl ?_
                      refine OW_skip rfl rfl rfl rfl ?_
                      refine OW_skip rfl rfl rfl rfl ?_
                      refine OW_skip rfl rfl rfl rfl ?_
                      refine OW_skip rfl rfl rfl rfl ?_
                      refine OW_skip rfl rfl rfl rfl ?_
                      refine OW_wanted rfl rfl rfl ?_
                      refine OW_q (q_pick_f rfl rfl) rfl ?_
                      refine OW_q (q_pick_f rfl rfl) rfl ?_
                      refine OW_nil ?_
                      refine EW_then ?_
                      refine CW_false rfl rfl ?_
                      refine CW_skip ?_
                      refine EW_block_normal ?_
                      refine EW_then ?_
                      refine CW_region ?_
                      first | refine OW_q (q_inc rfl rfl (by omega)) rfl ?_ | refine OW_q (q_add rfl rfl (by omega) (by omega)) rfl ?_
                      refine OW_q (q_move rfl) rfl ?_
                      refine OW_nil ?_
                      refine EW_again (j + 1) ⟨?_, ?_⟩ ⟨rfl, rfl, rfl, rfl, rfl, rfl, rfl, trivial⟩ (fun w hw => hw.sub (by (repeat (first | exact SubL.nil | exact Pick.head | apply Pick.tail | apply SubL.cons))))
                      · show r.right.length - (j + 1) < r.right.length - j; omega
                      · refine ⟨by omega, ?_⟩
                        have hR : symB g s = true := by
                          refine symB_true.2 ?_
                          ((try simp only [decide_eq_true_eq, decide_eq_false_iff_not, Bool.not_eq_eq_eq_not, Bool.not_true, Bool.not_false, inB_true, inB_false] at *); first | omega | (simp_all; done) | (simp_all; omega))
                        rw [all_take_succ _ hs, hokj, hR]; rfl
                · skip
                  have hend2 := take_all (l := r.right) (k := j) (by simpa using h50)
                  rw [hend2] at hokj
                  refine CW_exit ?_
                  refine EW_then_exit ?_
                  refine EW_out ?_
                  refine EW_block_exit ?_
                  refine EW_block_normal ?_
                  refine EW_then ?_
                  refine CW_region ?_
                  first | refine OW_q (q_inc rfl rfl (by omega)) rfl ?_ | refine OW_q (q_add rfl rfl (by omega) (by omega)) rfl ?_
                  refine OW_q (q_move rfl) rfl ?_
                  refine OW_nil ?_
                  refine EW_again (k + 1) ⟨?_, ?_⟩ ⟨rfl, rfl, rfl, rfl, trivial⟩ (fun w hw => hw.sub (by (repeat (first | exact SubL.nil | exact Pick.head | apply Pick.tail | apply SubL.cons))))
                  · show g.rules.length - (k + 1) < g.rules.length - k; omega
                  · refine ⟨by omega, ?_⟩
                    have hR : ruleB g r = true := by
                      refine ruleB_true.2 ?_
                      simp only [hokj]
                      ((try simp only [decide_eq_true_eq, decide_eq_false_iff_not, Bool.not_eq_eq_eq_not, Bool.not_true, Bool.not_false, inB_true, inB_false] at *); first | omega | (simp_all; done) | (simp_all; omega))
                    rw [all_take_succ _ hx, hok, hR]; rfl
          · skip
            have hend := take_all (l := g.rules) (k := k) (by simpa using h31)
            rw [hend] at hok
            refine CW_exit ?_
            refine EW_then_exit ?_
            refine EW_out ?_
            refine EW_block_exit ?_
            refine EW_then ?_
            refine CW_seq ?_
            refine CW_region ?_
            refine OW_q (q_assign rfl) rfl ?_
            refine OW_nil ?_
            refine EW_then ?_
            refine CW_ret ?_
            refine ret1 Tryd.results8 rfl (fun w hw => ?_)
            first
              | (refine ⟨rt (mayB_true.2 ?_), hw.sub .nil⟩; simp only [hok]; ((try simp only [decide_eq_true_eq, decide_eq_false_iff_not, Bool.not_eq_eq_eq_not, Bool.not_true, Bool.not_false, inB_true, inB_false] at *); first | omega | (simp_all; done) | (simp_all; omega)))
              | (refine ⟨rf fun hm => ?_, hw.sub .nil⟩; have h1 := mayB_true.1 hm; clear hm; ((try simp only [decide_eq_true_eq, decide_eq_false_iff_not, Bool.not_eq_eq_eq_not, Bool.not_true, Bool.not_false, inB_true, inB_false] at *); first | omega | (simp_all; done) | (simp_all; omega)))
              | (refine ⟨rf fun hm => ?_, hw.sub .nil⟩; have h1 := may_rule hm hx; clear hm; ((try simp only [decide_eq_true_eq, decide_eq_false_iff_not, Bool.not_eq_eq_eq_not, Bool.not_true, Bool.not_false, inB_true, inB_false] at *); first | omega | (simp_all; done) | (simp_all; omega)))
              | (refine ⟨rf fun hm => ?_, hw.sub .nil⟩; have h1 := may_sym hm hx hs; clear hm; ((try simp only [decide_eq_true_eq, decide_eq_false_iff_not, Bool.not_eq_eq_eq_not, Bool.not_true, Bool.not_false, inB_true, inB_false] at *); first | omega | (simp_all; done) | (simp_all; omega)))

end Go.Sy
