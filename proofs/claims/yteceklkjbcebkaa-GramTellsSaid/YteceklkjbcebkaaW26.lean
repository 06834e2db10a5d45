/- GramTells. No condition. -/
import Derived.Test.YteceklkjbcebkaaW25
namespace Go.Sy
open Go Go.RowKit Go.Proofs

theorem span_refl (y : Spn) (w : World) : (Op.equalIn 10000 47 (.agg (encS y).toArray) (.agg (encS y).toArray)).run Try.prog w = .ok true w := by
  have h1 : Try.prog.underlying 47 = some (.struct (Try.prog.fieldsOf 47)) := by kernel_rfl
  have h2 : Try.prog.stoodInHeld 47 = false := by kernel_rfl
  have h3 : (Try.prog.fieldsOf 47).toList = [⟨"Rule", 3, 0, false, "", "", 0⟩, ⟨"From", 3, 1, false, "", "", 8⟩, ⟨"To", 3, 2, false, "", "", 16⟩] := by kernel_rfl
  rw [run_equalIn_agg w 9999 47 _ _ h1 h2, h3]
  simp [Op.eqFields, go_sem, Try.sizeOf3, Try.underlying3]

set_option maxRecDepth 20000 in
theorem gramTells_any (gv dv : Value) (g : Gram) (d : List Int) (w : World) (hg : GramAt (Cl w) gv g) (hd : IntsAt (Cl w) dv d) : Calls Try.prog 6 #[gv, dv] w (fun e w' => e = .returned (.bool true) ∧ Sat (Old w) w [] w') := by
  have hg0 := hg
  obtain ⟨rv, rfl, hr⟩ := hg.mono old_rd
  have hrr := hr
  obtain ⟨a, c, rfl, hc1, hc2, hrs⟩ := hr
  have hdd := hd.mono old_rd
  obtain ⟨a2, c2, rfl, hd1, hd2, hds⟩ := id hdd
  have hd0 := hd
  refine calls_CW Try.func6 rfl Try.ntmps6 rfl (Sat.start w) ?_
  refine CW_seq ?_
  refine CW_region ?_
  refine OW_e (e_box rfl rfl) rfl (fun b2 => ?_)
  refine OW_q (q_assign rfl) rfl ?_
  refine OW_nil ?_
  refine EW_then ?_
  refine CW_seq ?_
  refine CW_seq ?_
  refine CW_drawS 5 [(0, false), (2, false), (1, true), (3, true), (4, false)] (by kernel_rfl) (Blind.then (Blind.then (Blind.body (by intro c w h; simp at h)))) (by kernel_rfl) (fun w hw => hw.drew) ?_
  first | (refine DW_q rfl (fun w hw => hw.sub (by (repeat (first | exact SubL.nil | exact Pick.head | apply Pick.tail | apply SubL.cons)))) (q_loadN_own Try.isAgg24 Try.sizeOf24 rfl rfl (by (repeat (first | exact .head | apply Swap.tail))) (by rfl)) rfl ?_) | (refine DW_q rfl (fun w hw => hw.sub (by (repeat (first | exact SubL.nil | exact Pick.head | apply Pick.tail | apply SubL.cons)))) (q_loadN_ro Try.isAgg24 Try.sizeOf24 rfl (by first | assumption | exact Row.at_ (by assumption) rfl) (by rfl)) rfl ?_)
  first | (refine DW_q rfl (fun w hw => hw.sub (by (repeat (first | exact SubL.nil | exact Pick.head | apply Pick.tail | apply SubL.cons)))) (q_loadN_own Try.isAgg24 Try.sizeOf24 rfl rfl (by (repeat (first | exact .head | apply Swap.tail))) (by rfl)) rfl ?_) | (refine DW_q rfl (fun w hw => hw.sub (by (repeat (first | exact SubL.nil | exact Pick.head | apply Pick.tail | apply SubL.cons)))) (q_loadN_ro Try.isAgg24 Try.sizeOf24 rfl (by first | assumption | exact Row.at_ (by assumption) rfl) (by rfl)) rfl ?_)
  refine DW_e rfl (e_call Try.call20 rfl (fun w hw => lift_ro (may_any _ g w (hg0.mono (fun _ _ h => hw.rd (Rd.old h)))) hw)) rfl (fun _ w hw => by first | exact hw.sub (by (repeat (first | exact SubL.nil | exact Pick.head | apply Pick.tail | apply SubL.cons))) | exact hw.2.sub (by (repeat (first | exact SubL.nil | exact Pick.head | apply Pick.tail | apply SubL.cons)))) (fun x14 => ?_)
  refine DW_e rfl (e_call Try.call14 rfl (fun w hw => lift_ro (may1_any _ g w (hg0.mono (fun _ _ h => hw.rd (Rd.old h)))) hw)) rfl (fun _ w hw => by first | exact hw.sub (by (repeat (first | exact SubL.nil | exact Pick.head | apply Pick.tail | apply SubL.cons))) | exact hw.2.sub (by (repeat (first | exact SubL.nil | exact Pick.head | apply Pick.tail | apply SubL.cons)))) (fun x16 => ?_)
  refine DW_q rfl (fun w hw => hw.sub (by (repeat (first | exact SubL.nil | exact Pick.head | apply Pick.tail | apply SubL.cons)))) (q_neb Try.underlying4 rfl rfl) rfl ?_
  refine DW_nil ?_
  refine EW_then ?_
  refine CW_false rfl (by simp) ?_
  refine CW_skip ?_
  refine EW_then ?_
  refine CW_seq ?_
  refine CW_region ?_
  first | (refine OW_q (q_loadN_own Try.isAgg24 Try.sizeOf24 rfl rfl (by (repeat (first | exact .head | apply Swap.tail))) (by rfl)) rfl ?_) | (refine OW_q (q_loadN_ro Try.isAgg24 Try.sizeOf24 rfl (by first | assumption | exact Row.at_ (by assumption) rfl) (by rfl)) rfl ?_)
  refine OW_q (q_move rfl) rfl ?_
  refine OW_e (e_call Try.call17 rfl (fun w hw => lift_oldP (through2_any _ _ g d w (hg0.mono (fun _ _ h => hw.rd (Rd.old h))) (hd0.mono (fun _ _ h => hw.rd (Rd.old h)))) hw)) rfl (fun x21 => ?_)
  refine OW_pure fun hx21 => ?_
  refine OW_q (q_move rfl) rfl ?_
  refine OW_q (q_extract rfl rfl) rfl ?_
  refine OW_q (q_extract rfl rfl) rfl ?_
  refine OW_q (q_extract rfl rfl) rfl ?_
  refine OW_q (q_assign rfl) rfl ?_
  refine OW_q (q_assign rfl) rfl ?_
  refine OW_q (q_assign rfl) rfl ?_
  refine OW_nil ?_
  refine EW_then ?_
  refine CW_seq ?_
  refine CW_region ?_
  first | (refine OW_q (q_loadN_own Try.isAgg24 Try.sizeOf24 rfl rfl (by (repeat (first | exact .head | apply Swap.tail))) (by rfl)) rfl ?_) | (refine OW_q (q_loadN_ro Try.isAgg24 Try.sizeOf24 rfl (by first | assumption | exact Row.at_ (by assumption) rfl) (by rfl)) rfl ?_)
  refine OW_q (q_move rfl) rfl ?_
  refine OW_e (e_call Try.call21 rfl (fun w hw => lift_oldP (yield_any _ _ g d w (hg0.mono (fun _ _ h => hw.rd (Rd.old h))) (hd0.mono (fun _ _ h => hw.rd (Rd.old h)))) hw)) rfl (fun x28 => ?_)
  refine OW_pure fun hx28 => ?_
  obtain ⟨e1, e2, _⟩ := wk_thru hx28 hx21
  refine OW_q (q_move rfl) rfl ?_
  refine OW_q (q_extract rfl rfl) rfl ?_
  refine OW_q (q_extract rfl rfl) rfl ?_
  refine OW_q (q_assign rfl) rfl ?_
  refine OW_q (q_assign rfl) rfl ?_
  refine OW_nil ?_
  refine EW_then ?_
  refine CW_seq ?_
  refine CW_region ?_
  first | (refine OW_q (q_loadN_own Try.isAgg24 Try.sizeOf24 rfl rfl (by (repeat (first | exact .head | apply Swap.tail))) (by rfl)) rfl ?_) | (refine OW_q (q_loadN_ro Try.isAgg24 Try.sizeOf24 rfl (by first | assumption | exact Row.at_ (by assumption) rfl) (by rfl)) rfl ?_)
  refine OW_q (q_move rfl) rfl ?_
  refine OW_e (e_call Try.call22 rfl (fun w hw => lift_oldP (spans_any _ _ g d w (hg0.mono (fun _ _ h => hw.rd (Rd.old h))) (hd0.mono (fun _ _ h => hw.rd (Rd.old h)))) hw)) rfl (fun x34 => ?_)
  refine OW_pure fun hx34 => ?_
  obtain ⟨e4, _, e6⟩ := wk_thru hx34 hx21
  refine OW_q (q_move rfl) rfl ?_
  refine OW_q (q_extract rfl rfl) rfl ?_
  refine OW_q (q_extract rfl rfl) rfl ?_
  refine OW_q (q_assign rfl) rfl ?_
  refine OW_q (q_assign rfl) rfl ?_
  refine OW_nil ?_
  refine EW_then ?_
  refine CW_seq ?_
  refine CW_seq ?_
  refine CW_region ?_
  refine OW_q (q_move rfl) rfl ?_
  refine OW_q (q_move rfl) rfl ?_
  refine OW_q (q_neb Try.underlying4 rfl rfl) rfl ?_
  refine OW_q (q_move rfl) rfl ?_
  refine OW_part (t := 40) rfl (fun hg40 => ?_) (fun hg40 => ?_)
  · skip
    exact absurd hg40 (by simp [e1]) --stop
  · skip
    refine OW_wanted rfl rfl rfl ?_
    refine OW_q (q_move rfl) rfl ?_
    refine OW_wanted rfl rfl rfl ?_
    refine OW_q (q_move rfl) rfl ?_
    refine OW_wanted rfl rfl rfl ?_
    refine OW_q (q_neb Try.underlying4 rfl rfl) rfl ?_
    refine OW_q (q_pick_f rfl rfl) rfl ?_
    refine OW_q (q_move rfl) rfl ?_
    refine OW_part (t := 45) rfl (fun hg45 => ?_) (fun hg45 => ?_)
    · skip
      exact absurd hg45 (by simp [e4]) --stop
    · skip
      refine OW_wanted rfl rfl rfl ?_
      refine OW_q (q_move rfl) rfl ?_
      refine OW_wanted rfl rfl rfl ?_
      refine OW_q (q_move rfl) rfl ?_
      refine OW_wanted rfl rfl rfl ?_
      refine OW_e (e_call Try.call15 rfl (fun w hw => lift_ro (ints_any _ _ x28.tk x21.out w (hw.tints (by repeat (first | exact .head | apply Swap.tail))) (hw.tints (by repeat (first | exact .head | apply Swap.tail)))) hw)) rfl (fun x48 => ?_)
      refine OW_wanted rfl rfl rfl ?_
      refine OW_q (q_not rfl) rfl ?_
      refine OW_q (q_pick_f rfl rfl) rfl ?_
      refine OW_q (q_move rfl) rfl ?_
      refine OW_part (t := 51) rfl (fun hg51 => ?_) (fun hg51 => ?_)
      · skip
        exact absurd hg51 (by simp [e2]) --stop
      · skip
        refine OW_wanted rfl rfl rfl ?_
        refine OW_q (q_move rfl) rfl ?_
        refine OW_wanted rfl rfl rfl ?_
        refine OW_fact (fun w hw => hw.tform (v := x34.v2) (l := x34.sp) (by repeat (first | exact .head | apply Swap.tail))) (fun hf => ?_)
        obtain ⟨a5, c5, hv5, hv5a, hv5b, hv5c⟩ := hf
        refine OW_spell 52 (.slice a5 x34.sp.length c5) rfl hv5 ?_
        refine OW_q (q_len Try.underlying32 rfl) rfl ?_
        refine OW_wanted rfl rfl rfl ?_
        refine OW_q (q_move rfl) rfl ?_
        refine OW_wanted rfl rfl rfl ?_
        refine OW_fact (fun w hw => hw.tform (v := x21.v2) (l := x21.sp) (by repeat (first | exact .head | apply Swap.tail))) (fun hf => ?_)
        obtain ⟨a6, c6, hv6, hv6a, hv6b, hv6c⟩ := hf
        refine OW_spell 54 (.slice a6 x21.sp.length c6) rfl hv6 ?_
        refine OW_q (q_len Try.underlying32 rfl) rfl ?_
        refine OW_wanted rfl rfl rfl ?_
        refine OW_q (q_nei rfl rfl) rfl ?_
        refine OW_q (q_pick_f rfl rfl) rfl ?_
        refine OW_nil ?_
        refine EW_then ?_
        refine CW_false rfl (by simp [e6]) ?_
        refine CW_skip ?_
        refine EW_then ?_
        refine CW_seq ?_
        refine CW_seq ?_
        refine CW_region ?_
        refine OW_q (q_assign rfl) rfl ?_
        refine OW_nil ?_
        refine EW_then ?_
        refine CW_block ?_
        refine CW_spell 10 (.slice a5 x34.sp.length c5) rfl hv5 ?_
        refine CW_spell 6 (.slice a6 x21.sp.length c6) rfl hv6 ?_
        refine CW_loopP (ι := Nat) (fun i => i ≤ x34.sp.length) (fun i => [(10, .slice a5 x34.sp.length c5), (6, .slice a6 x21.sp.length c6), (12, .int .i64 (i : Int))]) (fun i => Sat (Old w) w [trow 47 3 encS x34.v2 x34.sp, trow 47 3 encS x21.v2 x21.sp]) (fun i => x34.sp.length - i) 0 ?_ ⟨rfl, rfl, rfl, trivial⟩ (fun w hw => hw.sub (by (repeat (first | exact SubL.nil | exact Pick.head | apply Pick.tail | apply SubL.cons)))) ?_
        · exact Nat.zero_le _
        intro i hpre
        change CW _ _ _ _ [(10, .slice a5 x34.sp.length c5), (6, .slice a6 x21.sp.length c6), (12, .int .i64 (i : Int))] (Sat (Old w) w [trow 47 3 encS x34.v2 x34.sp, trow 47 3 encS x21.v2 x21.sp])
        refine CW_seq ?_
        refine CW_seq ?_
        refine CW_region ?_
        refine OW_q (q_move rfl) rfl ?_
        refine OW_q (q_move rfl) rfl ?_
        refine OW_q (q_len Try.underlying32 rfl) rfl ?_
        refine OW_q (q_lss rfl rfl) rfl ?_
        refine OW_nil ?_
        refine EW_then ?_
        refine CW_cond rfl (fun h61 => ?_) (fun h61 => ?_)
        · skip
          have hlt : i < x34.sp.length := by have := of_decide_eq_true h61; omega
          obtain ⟨y, hy⟩ := get_of_lt hlt
          have hy' := hy
          rw [e6] at hy'
          have hlt6 : i < x21.sp.length := by rw [← e6]; exact hlt
          obtain ⟨b5, rfl⟩ := hv5c (by omega)
          obtain ⟨b6, rfl⟩ := hv6c (by omega)
          refine CW_skip ?_
          refine EW_then ?_
          refine CW_seq ?_
          refine CW_block ?_
          refine CW_seq ?_
          refine CW_drawS 9 [(0, false), (1, false), (2, false), (3, false), (4, false), (5, false), (6, false), (7, false), (8, false)] (by kernel_rfl) (Blind.then (Blind.block (Blind.then (Blind.again (Blind.block (Blind.then (Blind.body (by intro c w h; simp at h)))))))) (by kernel_rfl) (fun w hw => hw.drew) ?_
          refine DW_q rfl (fun w hw => hw.sub (by (repeat (first | exact SubL.nil | exact Pick.head | apply Pick.tail | apply SubL.cons)))) (q_move rfl) rfl ?_
          refine DW_q rfl (fun w hw => hw.sub (by (repeat (first | exact SubL.nil | exact Pick.head | apply Pick.tail | apply SubL.cons)))) (q_move rfl) rfl ?_
          refine DW_q rfl (fun w hw => hw.sub (by (repeat (first | exact SubL.nil | exact Pick.head | apply Pick.tail | apply SubL.cons)))) (q_indexAddr Try.underlying32 Try.sizeOf47 rfl rfl (by first | omega | assumption)) rfl ?_
          refine DW_q rfl (fun w hw => hw.sub (by repeat (first | exact SubL.nil | exact Pick.head | apply Pick.tail | apply SubL.cons))) (q_loadN_t (enc := encS) (v := x34.v2) (l := x34.sp) Try.isAgg47 Try.sizeOf47 (fun _ => rfl) rfl (by repeat (first | exact .head | apply Swap.tail)) hv5 hy) rfl ?_
          refine DW_q rfl (fun w hw => hw.sub (by (repeat (first | exact SubL.nil | exact Pick.head | apply Pick.tail | apply SubL.cons)))) (q_move rfl) rfl ?_
          refine DW_q rfl (fun w hw => hw.sub (by (repeat (first | exact SubL.nil | exact Pick.head | apply Pick.tail | apply SubL.cons)))) (q_move rfl) rfl ?_
          refine DW_q rfl (fun w hw => hw.sub (by (repeat (first | exact SubL.nil | exact Pick.head | apply Pick.tail | apply SubL.cons)))) (q_indexAddr Try.underlying32 Try.sizeOf47 rfl rfl (by first | omega | assumption)) rfl ?_
          refine DW_q rfl (fun w hw => hw.sub (by repeat (first | exact SubL.nil | exact Pick.head | apply Pick.tail | apply SubL.cons))) (q_loadN_t (enc := encS) (v := x21.v2) (l := x21.sp) Try.isAgg47 Try.sizeOf47 (fun _ => rfl) rfl (by repeat (first | exact .head | apply Swap.tail)) hv6 hy') rfl ?_
          refine DW_q rfl (fun w hw => hw.sub (by repeat (first | exact SubL.nil | exact Pick.head | apply Pick.tail | apply SubL.cons))) (q_neAgg (by kernel_rfl) rfl rfl (span_refl y)) rfl ?_
          refine DW_nil ?_
          refine EW_then ?_
          refine CW_false rfl (rfl) ?_
          refine CW_skip ?_
          refine EW_block_normal ?_
          refine EW_then ?_
          refine CW_region ?_
          refine OW_q (q_move rfl) rfl ?_
          first | refine OW_q (q_inc rfl rfl (by omega)) rfl ?_ | refine OW_q (q_add rfl rfl (by omega) (by omega)) rfl ?_
          refine OW_q (q_assign rfl) rfl ?_
          refine OW_nil ?_
          refine EW_again (i + 1) ⟨?_, ?_⟩ ⟨rfl, rfl, rfl, trivial⟩ (fun w hw => hw.sub (by (repeat (first | exact SubL.nil | exact Pick.head | apply Pick.tail | apply SubL.cons))))
          · show x34.sp.length - (i + 1) < x34.sp.length - i; omega
          · show i + 1 ≤ _; omega
        · skip
          refine CW_exit ?_
          refine EW_then_exit ?_
          refine EW_out ?_
          refine EW_block_exit ?_
          refine EW_then ?_
          refine CW_seq ?_
          refine CW_region ?_
          refine OW_q (q_assign rfl) rfl ?_
          refine OW_nil ?_
          refine EW_then ?_
          refine CW_ret ?_
          refine ret1 Try.results6 rfl (fun w hw => ?_)
          exact ⟨rfl, hw.sub .nil⟩

end Go.Sy
