/- step.Do. No condition. -/
import Derived.Test.YteceklkjbcebkabW49
namespace Go.Sy
open Go Go.RowKit Go.Proofs

theorem mayS_op {g : Gram} {s : SStep} (h : mayS g s = true) : s.op = 1 ∨ s.op = 2 ∨ s.op = 3 ∨ s.op = 4 ∨ s.op = 5 := by
  unfold mayS at h
  split at h
  · omega
  split at h
  · omega
  split at h
  · omega
  split at h
  · omega
  split at h
  · omega
  · cases h
theorem change_any (gv : Value) (g : Gram) (s : SStep) (w : World) (hm : mayB g = true) (hs : mayS g s = true) (hg : GramAt (Cl w) gv g) : Calls Try.prog 20 #[gv, stepV s] w (fun e w' => ∃ x : Value × List RV × List Bool × List Bool, e = .returned (.agg #[.int .i64 g.terms, .int .i64 (stepG g s x.2.2.1 x.2.2.2).names, x.1]) ∧ ((s.op = 5 → MksOk g x.2.2.1 ∧ CmsOk g x.2.2.2) ∧ plainR x.2.1 = (stepG g s x.2.2.1 x.2.2.2).rules) ∧ Sat (Old w) w [rulesA x.1 x.2.1, symsA x.2.1] w') := by
  rcases mayS_op hs with h | h | h | h | h
  · exact change1_any gv g s w hm hs h hg
  · exact change2_any gv g s w hm hs h hg
  · exact change3_any gv g s w hm hs h hg
  · exact change4_any gv g s w hm hs h hg
  · exact change5_any gv g s w hm hs h hg
theorem stepG_terms (g : Gram) (s : SStep) (ms cs : List Bool) : (stepG g s ms cs).terms = g.terms := by
  unfold stepG
  split
  · rfl
  split
  · rfl
  split
  · rfl
  split <;> rfl
def noneG : Gram := ⟨0, 0, []⟩
/-- What comes of a step: the grammar, and what is wrong. -/
def DoOk (g : Gram) (s : SStep) (h : Gram) (e : Int) : Prop :=
  ((mayB g && mayS g s) = false → e = 2 ∧ h = noneG) ∧ (mayB g = true → mayS g s = true → ∃ ms cs, (s.op = 5 → MksOk g ms ∧ CmsOk g cs) ∧ (mayB (stepG g s ms cs) = true → e = 0 ∧ h = stepG g s ms cs) ∧ (mayB (stepG g s ms cs) = false → e = 1 ∧ h = noneG))
set_option maxRecDepth 20000 in
theorem do_any (gv : Value) (g : Gram) (s : SStep) (w : World) (hg : GramAt (Cl w) gv g) : Calls Try.prog 8 #[gv, stepV s] w (fun e w' => ∃ x : Value × Gram × List RV × Int, e = .returned (.tuple #[.agg #[.int .i64 x.2.1.terms, .int .i64 x.2.1.names, x.1], .int .i64 x.2.2.2]) ∧ (DoOk g s x.2.1 x.2.2.2 ∧ plainR x.2.2.1 = x.2.1.rules) ∧ Sat (Old w) w [rulesA x.1 x.2.2.1, symsA x.2.2.1] w') := by
  have hg0 := hg
  obtain ⟨rv, rfl, hr⟩ := hg.mono old_rd
  obtain ⟨a, c, rfl, hc1, hc2, hrs⟩ := id hr
  clear hg
  refine calls_CW Try.func8 rfl Try.ntmps8 rfl (Sat.start w) ?_
  refine CW_seq ?_
  refine CW_region ?_
  refine OW_e (e_box rfl rfl) rfl (fun b2 => ?_)
  refine OW_e (e_box rfl rfl) rfl (fun b3 => ?_)
  refine OW_e (e_alloc Try.zeroValue24 rfl) rfl (fun b4 => ?_)
  refine OW_q (q_assign rfl) rfl ?_
  refine OW_nil ?_
  refine EW_then ?_
  refine CW_seq ?_
  refine CW_seq ?_
  refine CW_region ?_
  first | (refine OW_q (q_loadN_own Try.isAgg24 Try.sizeOf24 rfl rfl (by (repeat (first | exact .head | apply Swap.tail))) (by rfl)) rfl ?_) | (refine OW_q (q_loadN_ro Try.isAgg24 Try.sizeOf24 rfl (by first | assumption | exact Row.at_ (by assumption) rfl) (by rfl)) rfl ?_)
  refine OW_e (e_call Try.call14 rfl (fun w hw => lift_ro (may_any _ g w (hg0.mono (fun _ _ h => hw.rd (Rd.old h)))) hw)) rfl (fun x8 => ?_)
  refine OW_q (q_not rfl) rfl ?_
  refine OW_q (q_move rfl) rfl ?_
  refine OW_part (t := 10) rfl (fun hg10 => ?_) (fun hg10 => ?_)
  · skip
    have hm : mayB g = false := by simpa using hg10
    refine OW_skip rfl rfl rfl rfl ?_
    refine OW_skip rfl rfl rfl rfl ?_
    refine OW_skip rfl rfl rfl rfl ?_
    refine OW_skip rfl rfl rfl rfl ?_
    refine OW_q (q_pick_t rfl rfl) rfl ?_
    refine OW_nil ?_
    refine EW_then ?_
    refine CW_true rfl rfl ?_
    refine CW_seq ?_
    refine CW_region ?_
    refine OW_q (q_build (ps := #[]) (v := .agg #[.int .i64 0, .int .i64 0, .slice none 0 0]) rfl (fun w => by kernel_rfl)) rfl ?_
    refine OW_e0 (e_storeN Try.sizeOf24 rfl rfl rfl rfl (by simp [Value.oneCell']) (by (repeat (first | exact .head | apply Swap.tail))) (by rfl)) (fun _ => ?_)
    refine OW_q (q_assign rfl) rfl ?_
    refine OW_nil ?_
    refine EW_then ?_
    refine CW_ret ?_
    refine EW_then_ret ?_
    refine retc2 (vs := [.int .i64 0, .int .i64 0, .slice none 0 0]) Try.results8 Try.isAgg24 Try.sizeOf24 rfl rfl (fun w hw j u hj => by rw [Addr.add_lit, hw.cell (t := 24) (cs := [.int .i64 0, .int .i64 0, .slice none 0 0]) (A' := cel b4 24 [.int .i64 0, .int .i64 0, .slice none 0 0]) (by repeat (first | exact .head | apply Swap.tail)), Nat.zero_add]; exact hj) rfl (fun w hw => ?_)
    exact ⟨(.slice none 0 0, noneG, [], 2), rfl, ⟨⟨fun _ => ⟨rfl, rfl⟩, (fun h => by rw [hm] at h; cases h)⟩, rfl⟩, ((hw.tnil 49 2 encRV).addEmp (A := symsA []) rfl).sub (by repeat (first | exact SubL.nil | exact Pick.head | apply Pick.tail | apply SubL.cons))⟩
  · skip
    have hm : mayB g = true := by simpa using hg10
    refine OW_wanted rfl rfl rfl ?_
    first | (refine OW_q (q_loadN_own Try.isAgg24 Try.sizeOf24 rfl rfl (by (repeat (first | exact .head | apply Swap.tail))) (by rfl)) rfl ?_) | (refine OW_q (q_loadN_ro Try.isAgg24 Try.sizeOf24 rfl (by first | assumption | exact Row.at_ (by assumption) rfl) (by rfl)) rfl ?_)
    refine OW_wanted rfl rfl rfl ?_
    first | (refine OW_q (q_loadN_own Try.isAgg26 Try.sizeOf26 rfl rfl (by (repeat (first | exact .head | apply Swap.tail))) (by rfl)) rfl ?_) | (refine OW_q (q_loadN_ro Try.isAgg26 Try.sizeOf26 rfl (by first | assumption | exact Row.at_ (by assumption) rfl) (by rfl)) rfl ?_)
    refine OW_wanted rfl rfl rfl ?_
    refine OW_e (e_call Try.call19 rfl (fun w hw => lift_ro (mayS_any _ g s w hm (hg0.mono (fun _ _ h => hw.rd (Rd.old h)))) hw)) rfl (fun x13 => ?_)
    refine OW_wanted rfl rfl rfl ?_
    refine OW_q (q_not rfl) rfl ?_
    refine OW_q (q_pick_f rfl rfl) rfl ?_
    refine OW_nil ?_
    refine EW_then ?_
    refine CW_cond rfl (fun h15 => ?_) (fun h15 => ?_)
    · skip
      have hms : mayS g s = false := by simpa using h15
      refine CW_seq ?_
      refine CW_region ?_
      refine OW_q (q_build (ps := #[]) (v := .agg #[.int .i64 0, .int .i64 0, .slice none 0 0]) rfl (fun w => by kernel_rfl)) rfl ?_
      refine OW_e0 (e_storeN Try.sizeOf24 rfl rfl rfl rfl (by simp [Value.oneCell']) (by (repeat (first | exact .head | apply Swap.tail))) (by rfl)) (fun _ => ?_)
      refine OW_q (q_assign rfl) rfl ?_
      refine OW_nil ?_
      refine EW_then ?_
      refine CW_ret ?_
      refine EW_then_ret ?_
      refine retc2 (vs := [.int .i64 0, .int .i64 0, .slice none 0 0]) Try.results8 Try.isAgg24 Try.sizeOf24 rfl rfl (fun w hw j u hj => by rw [Addr.add_lit, hw.cell (t := 24) (cs := [.int .i64 0, .int .i64 0, .slice none 0 0]) (A' := cel b4 24 [.int .i64 0, .int .i64 0, .slice none 0 0]) (by repeat (first | exact .head | apply Swap.tail)), Nat.zero_add]; exact hj) rfl (fun w hw => ?_)
      exact ⟨(.slice none 0 0, noneG, [], 2), rfl, ⟨⟨fun _ => ⟨rfl, rfl⟩, (fun _ h => by rw [hms] at h; cases h)⟩, rfl⟩, ((hw.tnil 49 2 encRV).addEmp (A := symsA []) rfl).sub (by repeat (first | exact SubL.nil | exact Pick.head | apply Pick.tail | apply SubL.cons))⟩
    · skip
      have hms : mayS g s = true := by simpa using h15
      refine CW_skip ?_
      refine EW_then ?_
      refine CW_seq ?_
      refine CW_region ?_
      first | (refine OW_q (q_loadN_own Try.isAgg24 Try.sizeOf24 rfl rfl (by (repeat (first | exact .head | apply Swap.tail))) (by rfl)) rfl ?_) | (refine OW_q (q_loadN_ro Try.isAgg24 Try.sizeOf24 rfl (by first | assumption | exact Row.at_ (by assumption) rfl) (by rfl)) rfl ?_)
      first | (refine OW_q (q_loadN_own Try.isAgg26 Try.sizeOf26 rfl rfl (by (repeat (first | exact .head | apply Swap.tail))) (by rfl)) rfl ?_) | (refine OW_q (q_loadN_ro Try.isAgg26 Try.sizeOf26 rfl (by first | assumption | exact Row.at_ (by assumption) rfl) (by rfl)) rfl ?_)
      refine OW_e (e_call Try.call20 rfl (fun w hw => lift_oldP (change_any _ g s w hm hms (hg0.mono (fun _ _ h => hw.rd (Rd.old h)))) hw)) rfl (fun x19 => ?_)
      refine OW_pure fun hx19 => ?_
      obtain ⟨ov, rs, ms, cs⟩ := x19
      obtain ⟨h5, hrl⟩ := hx19
      have hrl : plainR rs = (stepG g s ms cs).rules := hrl
      refine OW_fact (fun w hw => hw.tform (v := ov) (l := rs) (enc := encRV) (by repeat (first | exact .head | apply Swap.tail))) (fun hf => ?_)
      obtain ⟨ao, co, rfl, _, _, hbo⟩ := hf
      refine OW_spell 19 (.agg #[.int .i64 g.terms, .int .i64 (stepG g s ms cs).names, .slice ao rs.length co]) rfl rfl ?_
      refine OW_e (e_alloc Try.zeroValue24 rfl) rfl (fun b6 => ?_)
      refine OW_e0 (e_storeN Try.sizeOf24 rfl rfl rfl rfl (by simp [Value.oneCell']) (by (repeat (first | exact .head | apply Swap.tail))) (by rfl)) (fun _ => ?_)
      refine OW_nil ?_
      refine EW_then ?_
      refine CW_seq ?_
      refine CW_seq ?_
      refine CW_region ?_
      first | (refine OW_q (q_loadN_own Try.isAgg24 Try.sizeOf24 rfl rfl (by (repeat (first | exact .head | apply Swap.tail))) (by rfl)) rfl ?_) | (refine OW_q (q_loadN_ro Try.isAgg24 Try.sizeOf24 rfl (by first | assumption | exact Row.at_ (by assumption) rfl) (by rfl)) rfl ?_)
      refine OW_e (e_call Try.call14 rfl (fun w hw => lift_ro (may_any _ (⟨g.terms, (stepG g s ms cs).names, plainR rs⟩ : Gram) w (hw.gramIn (by repeat (first | exact .head | apply Swap.tail)) (by repeat (first | exact .head | apply Swap.tail)))) hw)) rfl (fun x21 => ?_)
      refine OW_q (q_not rfl) rfl ?_
      refine OW_nil ?_
      refine EW_then ?_
      refine CW_cond rfl (fun h22 => ?_) (fun h22 => ?_)
      · skip
        have he : (⟨g.terms, (stepG g s ms cs).names, plainR rs⟩ : Gram) = stepG g s ms cs := by rw [hrl, ← stepG_terms g s ms cs]
        have hmo : mayB (stepG g s ms cs) = false := by rw [← he]; simpa using h22
        refine CW_seq ?_
        refine CW_region ?_
        refine OW_q (q_build (ps := #[]) (v := .agg #[.int .i64 0, .int .i64 0, .slice none 0 0]) rfl (fun w => by kernel_rfl)) rfl ?_
        refine OW_e0 (e_storeN Try.sizeOf24 rfl rfl rfl rfl (by simp [Value.oneCell']) (by (repeat (first | exact .head | apply Swap.tail))) (by rfl)) (fun _ => ?_)
        refine OW_q (q_assign rfl) rfl ?_
        refine OW_nil ?_
        refine EW_then ?_
        refine CW_ret ?_
        refine EW_then_ret ?_
        refine retc2 (vs := [.int .i64 0, .int .i64 0, .slice none 0 0]) Try.results8 Try.isAgg24 Try.sizeOf24 rfl rfl (fun w hw j u hj => by rw [Addr.add_lit, hw.cell (t := 24) (cs := [.int .i64 0, .int .i64 0, .slice none 0 0]) (A' := cel b4 24 [.int .i64 0, .int .i64 0, .slice none 0 0]) (by repeat (first | exact .head | apply Swap.tail)), Nat.zero_add]; exact hj) rfl (fun w hw => ?_)
        exact ⟨(.slice none 0 0, noneG, [], 1), rfl, ⟨⟨(fun h => by rw [hm, hms] at h; cases h), fun _ _ => ⟨ms, cs, h5, (fun h => by rw [hmo] at h; cases h), fun _ => ⟨rfl, rfl⟩⟩⟩, rfl⟩, ((hw.tnil 49 2 encRV).addEmp (A := symsA []) rfl).sub (by repeat (first | exact SubL.nil | exact Pick.head | apply Pick.tail | apply SubL.cons))⟩
      · skip
        have he : (⟨g.terms, (stepG g s ms cs).names, plainR rs⟩ : Gram) = stepG g s ms cs := by rw [hrl, ← stepG_terms g s ms cs]
        have hmo : mayB (stepG g s ms cs) = true := by rw [← he]; simpa using h22
        refine CW_skip ?_
        refine EW_then ?_
        refine CW_seq ?_
        refine CW_region ?_
        first | (refine OW_q (q_loadN_own Try.isAgg24 Try.sizeOf24 rfl rfl (by (repeat (first | exact .head | apply Swap.tail))) (by rfl)) rfl ?_) | (refine OW_q (q_loadN_ro Try.isAgg24 Try.sizeOf24 rfl (by first | assumption | exact Row.at_ (by assumption) rfl) (by rfl)) rfl ?_)
        refine OW_e0 (e_storeN Try.sizeOf24 rfl rfl rfl rfl (by simp [Value.oneCell']) (by (repeat (first | exact .head | apply Swap.tail))) (by rfl)) (fun _ => ?_)
        refine OW_q (q_assign rfl) rfl ?_
        refine OW_nil ?_
        refine EW_then ?_
        refine CW_ret ?_
        refine retc2 (vs := [.int .i64 g.terms, .int .i64 (stepG g s ms cs).names, .slice ao rs.length co]) Try.results8 Try.isAgg24 Try.sizeOf24 rfl rfl (fun w hw j u hj => by rw [Addr.add_lit, hw.cell (t := 24) (cs := [.int .i64 g.terms, .int .i64 (stepG g s ms cs).names, .slice ao rs.length co]) (A' := cel b4 24 [.int .i64 g.terms, .int .i64 (stepG g s ms cs).names, .slice ao rs.length co]) (by repeat (first | exact .head | apply Swap.tail)), Nat.zero_add]; exact hj) rfl (fun w hw => ?_)
        refine ⟨(.slice ao rs.length co, stepG g s ms cs, rs, 0), by simp only [stepG_terms], ⟨⟨(fun h => by rw [hm, hms] at h; cases h), fun _ _ => ⟨ms, cs, h5, fun _ => ⟨rfl, rfl⟩, (fun h => by rw [hmo] at h; cases h)⟩⟩, hrl⟩, hw.sub (by repeat (first | exact SubL.nil | exact Pick.head | apply Pick.tail | apply SubL.cons))⟩

end Go.Sy
