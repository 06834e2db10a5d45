/- pollardingref8.Same. No condition. -/
import Derived.Test.YteceklkjbcebkabDoorW1
import Derived.Test.YteceklkjbcebkabDoorStpd
import Derived.Test.YteceklkjbcebkabDoorSyt2
namespace Go.Sy
open Go Go.RowKit Go.Proofs

theorem sym_eq (s y : Sym) (w : World) : (Op.equalIn 10000 53 (.agg (encY s).toArray) (.agg (encY y).toArray)).run Tryd.prog w = .ok (decide (s = y)) w := by
  have h1 : Tryd.prog.underlying 53 = some (.struct (Tryd.prog.fieldsOf 53)) := by kernel_rfl
  have h2 : Tryd.prog.stoodInHeld 53 = false := by kernel_rfl
  have h3 : (Tryd.prog.fieldsOf 53).toList = [⟨"Term", 4, 0, false, "", "", 0⟩, ⟨"N", 3, 1, false, "", "", 8⟩] := by kernel_rfl
  rw [run_equalIn_agg w 9999 53 _ _ h1 h2, h3]
  obtain ⟨t, n⟩ := s
  obtain ⟨t', n'⟩ := y
  by_cases e1 : t = t' <;> by_cases e2 : n = n' <;> simp [Op.eqFields, go_sem, Tryd.sizeOf3, Tryd.underlying3, Tryd.sizeOf4, Tryd.underlying4, e1, e2]
set_option maxRecDepth 20000 in
theorem same_any (av bv : Value) (g h : Gram) (w : World) (hg : GramAt (Cl w) av g) (hh : GramAt (Cl w) bv h) : Calls Tryd.prog 10 #[av, bv] w (fun e w' => ∃ x : Bool, e = .returned (.bool x) ∧ (x = true ↔ g = h) ∧ Sat (Old w) w [] w') := by
  obtain ⟨rv, rfl, hr⟩ := hg.mono old_rd
  obtain ⟨a, c, rfl, hc1, hc2, hrs⟩ := hr
  obtain ⟨rv2, rfl, hr2⟩ := hh.mono old_rd
  obtain ⟨a2, c2, rfl, hc3, hc4, hrs2⟩ := hr2
  clear hg hh
  refine calls_CW Tryd.func10 rfl Tryd.ntmps10 rfl (Sat.start w) ?_
  refine CW_seq ?_
  refine CW_region ?_
  refine OW_e (e_box rfl rfl) rfl (fun b2 => ?_)
  refine OW_e (e_box rfl rfl) rfl (fun b3 => ?_)
  refine OW_q (q_assign rfl) rfl ?_
  refine OW_nil ?_
  refine EW_then ?_
  refine CW_seq ?_
  refine CW_seq ?_
  refine CW_region ?_
  refine OW_q (q_fieldAddr Tryd.underlying24 rfl rfl Tryd.sizeOf3 rfl rfl) rfl ?_
  first | (refine OW_q (q_load1_own Tryd.isAgg3 rfl rfl (by (repeat (first | exact .head | apply Swap.tail))) (by rfl)) rfl ?_) | (refine OW_q (q_load1_ro Tryd.isAgg3 rfl (by first | assumption | exact Row.at_ (by assumption) rfl)) rfl ?_)
  refine OW_q (q_fieldAddr Tryd.underlying24 rfl rfl Tryd.sizeOf3 rfl rfl) rfl ?_
  first | (refine OW_q (q_load1_own Tryd.isAgg3 rfl rfl (by (repeat (first | exact .head | apply Swap.tail))) (by rfl)) rfl ?_) | (refine OW_q (q_load1_ro Tryd.isAgg3 rfl (by first | assumption | exact Row.at_ (by assumption) rfl)) rfl ?_)
  refine OW_q (q_nei rfl rfl) rfl ?_
  refine OW_q (q_move rfl) rfl ?_
  refine OW_part (t := 14) rfl (fun hg14 => ?_) (fun hg14 => ?_)
  · skip
    have hne : g.terms ≠ h.terms := by simpa using hg14
    refine OW_skip rfl rfl rfl rfl ?_
    refine OW_skip rfl rfl rfl rfl ?_
    refine OW_skip rfl rfl rfl rfl ?_
    refine OW_skip rfl rfl rfl rfl ?_
    refine OW_skip rfl rfl rfl rfl ?_
    refine OW_q (q_pick_t rfl rfl) rfl ?_
    refine OW_q (q_move rfl) rfl ?_
    refine OW_skip rfl rfl rfl rfl ?_
    refine OW_skip rfl rfl rfl rfl ?_
    refine OW_skip rfl rfl rfl rfl ?_
    refine OW_skip rfl rfl rfl rfl ?_
    refine OW_skip rfl rfl rfl rfl ?_
    refine OW_skip rfl rfl rfl rfl ?_
    refine OW_skip rfl rfl rfl rfl ?_
    refine OW_q (q_pick_t rfl rfl) rfl ?_
    refine OW_nil ?_
    refine EW_then ?_
    refine CW_true rfl rfl ?_
    refine CW_seq ?_
    refine CW_region ?_
    refine OW_q (q_assign rfl) rfl ?_
    refine OW_nil ?_
    refine EW_then ?_
    refine CW_ret ?_
    refine EW_then_ret ?_
    refine ret1 Tryd.results10 rfl (fun w hw => ?_)
    exact ⟨false, rfl, ⟨(fun h => by cases h), fun h => False.elim (hne (congrArg Gram.terms h))⟩, hw.sub .nil⟩
  · skip
    have het : g.terms = h.terms := by simpa using hg14
    refine OW_wanted rfl rfl rfl ?_
    refine OW_q (q_fieldAddr Tryd.underlying24 rfl rfl Tryd.sizeOf3 rfl rfl) rfl ?_
    refine OW_wanted rfl rfl rfl ?_
    first | (refine OW_q (q_load1_own Tryd.isAgg3 rfl rfl (by (repeat (first | exact .head | apply Swap.tail))) (by rfl)) rfl ?_) | (refine OW_q (q_load1_ro Tryd.isAgg3 rfl (by first | assumption | exact Row.at_ (by assumption) rfl)) rfl ?_)
    refine OW_wanted rfl rfl rfl ?_
    refine OW_q (q_fieldAddr Tryd.underlying24 rfl rfl Tryd.sizeOf3 rfl rfl) rfl ?_
    refine OW_wanted rfl rfl rfl ?_
    first | (refine OW_q (q_load1_own Tryd.isAgg3 rfl rfl (by (repeat (first | exact .head | apply Swap.tail))) (by rfl)) rfl ?_) | (refine OW_q (q_load1_ro Tryd.isAgg3 rfl (by first | assumption | exact Row.at_ (by assumption) rfl)) rfl ?_)
    refine OW_wanted rfl rfl rfl ?_
    refine OW_q (q_nei rfl rfl) rfl ?_
    refine OW_q (q_pick_f rfl rfl) rfl ?_
    refine OW_q (q_move rfl) rfl ?_
    refine OW_part (t := 21) rfl (fun hg21 => ?_) (fun hg21 => ?_)
    · skip
      have hne : g.names ≠ h.names := by simpa using hg21
      refine OW_skip rfl rfl rfl rfl ?_
      refine OW_skip rfl rfl rfl rfl ?_
      refine OW_skip rfl rfl rfl rfl ?_
      refine OW_skip rfl rfl rfl rfl ?_
      refine OW_skip rfl rfl rfl rfl ?_
      refine OW_skip rfl rfl rfl rfl ?_
      refine OW_skip rfl rfl rfl rfl ?_
      refine OW_q (q_pick_t rfl rfl) rfl ?_
      refine OW_nil ?_
      refine EW_then ?_
      refine CW_true rfl rfl ?_
      refine CW_seq ?_
      refine CW_region ?_
      refine OW_q (q_assign rfl) rfl ?_
      refine OW_nil ?_
      refine EW_then ?_
      refine CW_ret ?_
      refine EW_then_ret ?_
      refine ret1 Tryd.results10 rfl (fun w hw => ?_)
      exact ⟨false, rfl, ⟨(fun h => by cases h), fun h => False.elim (hne (congrArg Gram.names h))⟩, hw.sub .nil⟩
    · skip
      have hen : g.names = h.names := by simpa using hg21
      refine OW_wanted rfl rfl rfl ?_
      refine OW_q (q_fieldAddr Tryd.underlying24 rfl rfl Tryd.sizeOf22 rfl rfl) rfl ?_
      refine OW_wanted rfl rfl rfl ?_
      first | (refine OW_q (q_load1_own Tryd.isAgg22 rfl rfl (by (repeat (first | exact .head | apply Swap.tail))) (by rfl)) rfl ?_) | (refine OW_q (q_load1_ro Tryd.isAgg22 rfl (by first | assumption | exact Row.at_ (by assumption) rfl)) rfl ?_)
      refine OW_wanted rfl rfl rfl ?_
      refine OW_q (q_len Tryd.underlying22 rfl) rfl ?_
      refine OW_wanted rfl rfl rfl ?_
      refine OW_q (q_fieldAddr Tryd.underlying24 rfl rfl Tryd.sizeOf22 rfl rfl) rfl ?_
      refine OW_wanted rfl rfl rfl ?_
      first | (refine OW_q (q_load1_own Tryd.isAgg22 rfl rfl (by (repeat (first | exact .head | apply Swap.tail))) (by rfl)) rfl ?_) | (refine OW_q (q_load1_ro Tryd.isAgg22 rfl (by first | assumption | exact Row.at_ (by assumption) rfl)) rfl ?_)
      refine OW_wanted rfl rfl rfl ?_
      refine OW_q (q_len Tryd.underlying22 rfl) rfl ?_
      refine OW_wanted rfl rfl rfl ?_
      refine OW_q (q_nei rfl rfl) rfl ?_
      refine OW_q (q_pick_f rfl rfl) rfl ?_
      refine OW_nil ?_
      refine EW_then ?_
      refine CW_cond rfl (fun h29 => ?_) (fun h29 => ?_)
      · skip
        have hne : g.rules.length ≠ h.rules.length := by simp at h29; omega
        refine CW_seq ?_
        refine CW_region ?_
        refine OW_q (q_assign rfl) rfl ?_
        refine OW_nil ?_
        refine EW_then ?_
        refine CW_ret ?_
        refine EW_then_ret ?_
        refine ret1 Tryd.results10 rfl (fun w hw => ?_)
        exact ⟨false, rfl, ⟨(fun h => by cases h), fun h => False.elim (hne (congrArg (fun z => z.rules.length) h))⟩, hw.sub .nil⟩
      · skip
        have hel0 : g.rules.length = h.rules.length := by simp at h29; omega
        refine CW_skip ?_
        refine EW_then ?_
        refine CW_seq ?_
        refine CW_seq ?_
        refine CW_region ?_
        refine OW_q (q_assign rfl) rfl ?_
        refine OW_nil ?_
        refine EW_then ?_
        refine CW_block ?_
        refine CW_loopP (ι := Nat) (fun k => k ≤ g.rules.length ∧ ∀ j, j < k → g.rules[j]? = h.rules[j]?) (fun k => [(2, .pointer (some ⟨b2, 0, none⟩)), (3, .pointer (some ⟨b3, 0, none⟩)), (5, .int .i64 (k : Int))]) (fun k => Sat (Old w) w [cel b3 24 [.int .i64 h.terms, .int .i64 h.names, .slice a2 h.rules.length c2], cel b2 24 [.int .i64 g.terms, .int .i64 g.names, .slice a g.rules.length c]]) (fun k => g.rules.length - k) 0 ?_ ⟨rfl, rfl, rfl, trivial⟩ (fun w hw => hw.sub (by (repeat (first | exact SubL.nil | exact Pick.head | apply Pick.tail | apply SubL.cons)))) ?_
        · exact ⟨Nat.zero_le _, fun j hj => absurd hj (Nat.not_lt_zero _)⟩
        intro k hpre
        change CW _ _ _ _ [(2, .pointer (some ⟨b2, 0, none⟩)), (3, .pointer (some ⟨b3, 0, none⟩)), (5, .int .i64 (k : Int))] (Sat (Old w) w [cel b3 24 [.int .i64 h.terms, .int .i64 h.names, .slice a2 h.rules.length c2], cel b2 24 [.int .i64 g.terms, .int .i64 g.names, .slice a g.rules.length c]])
        obtain ⟨hk, hkj⟩ := hpre
        refine CW_seq ?_
        refine CW_seq ?_
        refine CW_region ?_
        refine OW_q (q_move rfl) rfl ?_
        refine OW_q (q_fieldAddr Tryd.underlying24 rfl rfl Tryd.sizeOf22 rfl rfl) rfl ?_
        first | (refine OW_q (q_load1_own Tryd.isAgg22 rfl rfl (by (repeat (first | exact .head | apply Swap.tail))) (by rfl)) rfl ?_) | (refine OW_q (q_load1_ro Tryd.isAgg22 rfl (by first | assumption | exact Row.at_ (by assumption) rfl)) rfl ?_)
        refine OW_q (q_len Tryd.underlying22 rfl) rfl ?_
        refine OW_q (q_lss rfl rfl) rfl ?_
        refine OW_nil ?_
        refine EW_then ?_
        refine CW_cond rfl (fun h34 => ?_) (fun h34 => ?_)
        · skip
          have hlk : k < g.rules.length := by have := of_decide_eq_true h34; omega
          obtain ⟨q, hq⟩ := get_of_lt hlk
          obtain ⟨q2, hq2⟩ := get_of_lt (l := h.rules) (k := k) (by omega)
          obtain ⟨p, rfl, rvq, hsy, hrow⟩ := hrs k q hq
          obtain ⟨ya, yc, rfl, hy1, hy2, hys⟩ := id hsy
          obtain ⟨p2, rfl, rvq2, hsy2, hrow2⟩ := hrs2 k q2 hq2
          obtain ⟨ya2, yc2, rfl, hy12, hy22, hys2⟩ := id hsy2
          refine CW_skip ?_
          refine EW_then ?_
          refine CW_seq ?_
          refine CW_block ?_
          refine CW_seq ?_
          refine CW_region ?_
          refine OW_q (q_fieldAddr Tryd.underlying24 rfl rfl Tryd.sizeOf22 rfl rfl) rfl ?_
          first | (refine OW_q (q_load1_own Tryd.isAgg22 rfl rfl (by (repeat (first | exact .head | apply Swap.tail))) (by rfl)) rfl ?_) | (refine OW_q (q_load1_ro Tryd.isAgg22 rfl (by first | assumption | exact Row.at_ (by assumption) rfl)) rfl ?_)
          refine OW_q (q_move rfl) rfl ?_
          refine OW_q (q_indexAddr Tryd.underlying22 Tryd.sizeOf50 rfl rfl (by first | omega | assumption)) rfl ?_
          refine OW_q (q_loadN_ro Tryd.isAgg50 Tryd.sizeOf50 rfl (by first | exact hrow) (by rfl)) rfl ?_
          refine OW_e (e_alloc Tryd.zeroValue50 rfl) rfl (fun b6 => ?_)
          refine OW_e0 (e_storeN Tryd.sizeOf50 rfl rfl rfl rfl (by simp [Value.oneCell']) (by (repeat (first | exact .head | apply Swap.tail))) (by rfl)) (fun _ => ?_)
          refine OW_nil ?_
          refine EW_then ?_
          refine CW_seq ?_
          refine CW_region ?_
          refine OW_q (q_fieldAddr Tryd.underlying24 rfl rfl Tryd.sizeOf22 rfl rfl) rfl ?_
          first | (refine OW_q (q_load1_own Tryd.isAgg22 rfl rfl (by (repeat (first | exact .head | apply Swap.tail))) (by rfl)) rfl ?_) | (refine OW_q (q_load1_ro Tryd.isAgg22 rfl (by first | assumption | exact Row.at_ (by assumption) rfl)) rfl ?_)
          refine OW_q (q_move rfl) rfl ?_
          refine OW_q (q_indexAddr Tryd.underlying22 Tryd.sizeOf50 rfl rfl (by first | omega | assumption)) rfl ?_
          refine OW_q (q_loadN_ro Tryd.isAgg50 Tryd.sizeOf50 rfl (by first | exact hrow2) (by rfl)) rfl ?_
          refine OW_e (e_alloc Tryd.zeroValue50 rfl) rfl (fun b7 => ?_)
          refine OW_e0 (e_storeN Tryd.sizeOf50 rfl rfl rfl rfl (by simp [Value.oneCell']) (by (repeat (first | exact .head | apply Swap.tail))) (by rfl)) (fun _ => ?_)
          refine OW_nil ?_
          refine EW_then ?_
          refine CW_seq ?_
          refine CW_seq ?_
          refine CW_region ?_
          refine OW_q (q_fieldAddr Tryd.underlying50 rfl rfl Tryd.sizeOf3 rfl rfl) rfl ?_
          first | (refine OW_q (q_load1_own Tryd.isAgg3 rfl rfl (by (repeat (first | exact .head | apply Swap.tail))) (by rfl)) rfl ?_) | (refine OW_q (q_load1_ro Tryd.isAgg3 rfl (by first | assumption | exact Row.at_ (by assumption) rfl)) rfl ?_)
          refine OW_q (q_fieldAddr Tryd.underlying50 rfl rfl Tryd.sizeOf3 rfl rfl) rfl ?_
          first | (refine OW_q (q_load1_own Tryd.isAgg3 rfl rfl (by (repeat (first | exact .head | apply Swap.tail))) (by rfl)) rfl ?_) | (refine OW_q (q_load1_ro Tryd.isAgg3 rfl (by first | assumption | exact Row.at_ (by assumption) rfl)) rfl ?_)
          refine OW_q (q_nei rfl rfl) rfl ?_
          refine OW_q (q_move rfl) rfl ?_
          refine OW_part (t := 52) rfl (fun hg52 => ?_) (fun hg52 => ?_)
          · skip
            have hne : q.left ≠ q2.left := by simpa using hg52
            refine OW_skip rfl rfl rfl rfl ?_
            refine OW_skip rfl rfl rfl rfl ?_
            refine OW_skip rfl rfl rfl rfl ?_
            refine OW_skip rfl rfl rfl rfl ?_
            refine OW_skip rfl rfl rfl rfl ?_
            refine OW_skip rfl rfl rfl rfl ?_
            refine OW_skip rfl rfl rfl rfl ?_
            refine OW_q (q_pick_t rfl rfl) rfl ?_
            refine OW_nil ?_
            refine EW_then ?_
            refine CW_true rfl rfl ?_
            refine CW_seq ?_
            refine CW_region ?_
            refine OW_q (q_assign rfl) rfl ?_
            refine OW_nil ?_
            refine EW_then ?_
            refine CW_ret ?_
            refine EW_then_ret ?_
            refine EW_block_ret ?_
            refine EW_then_ret ?_
            refine EW_out_ret ?_
            refine EW_block_ret ?_
            refine EW_then_ret ?_
            refine ret1 Tryd.results10 rfl (fun w hw => ?_)
            exact ⟨false, rfl, ⟨(fun h => by cases h), fun h => False.elim (by rw [h] at hq; rw [hq] at hq2; cases hq2; exact hne rfl)⟩, hw.sub .nil⟩
          · skip
            have hel : q.left = q2.left := by simpa using hg52
            refine OW_wanted rfl rfl rfl ?_
            refine OW_q (q_fieldAddr Tryd.underlying50 rfl rfl Tryd.sizeOf48 rfl rfl) rfl ?_
            refine OW_wanted rfl rfl rfl ?_
            first | (refine OW_q (q_load1_own Tryd.isAgg48 rfl rfl (by (repeat (first | exact .head | apply Swap.tail))) (by rfl)) rfl ?_) | (refine OW_q (q_load1_ro Tryd.isAgg48 rfl (by first | assumption | exact Row.at_ (by assumption) rfl)) rfl ?_)
            refine OW_wanted rfl rfl rfl ?_
            refine OW_q (q_len Tryd.underlying48 rfl) rfl ?_
            refine OW_wanted rfl rfl rfl ?_
            refine OW_q (q_fieldAddr Tryd.underlying50 rfl rfl Tryd.sizeOf48 rfl rfl) rfl ?_
            refine OW_wanted rfl rfl rfl ?_
            first | (refine OW_q (q_load1_own Tryd.isAgg48 rfl rfl (by (repeat (first | exact .head | apply Swap.tail))) (by rfl)) rfl ?_) | (refine OW_q (q_load1_ro Tryd.isAgg48 rfl (by first | assumption | exact Row.at_ (by assumption) rfl)) rfl ?_)
            refine OW_wanted rfl rfl rfl ?_
            refine OW_q (q_len Tryd.underlying48 rfl) rfl ?_
            refine OW_wanted rfl rfl rfl ?_
            refine OW_q (q_nei rfl rfl) rfl ?_
            refine OW_q (q_pick_f rfl rfl) rfl ?_
            refine OW_nil ?_
            refine EW_then ?_
            refine CW_cond rfl (fun h60 => ?_) (fun h60 => ?_)
            · skip
              have hne : q.right.length ≠ q2.right.length := by simp at h60; omega
              refine CW_seq ?_
              refine CW_region ?_
              refine OW_q (q_assign rfl) rfl ?_
              refine OW_nil ?_
              refine EW_then ?_
              refine CW_ret ?_
              refine EW_then_ret ?_
              refine EW_block_ret ?_
              refine EW_then_ret ?_
              refine EW_out_ret ?_
              refine EW_block_ret ?_
              refine EW_then_ret ?_
              refine ret1 Tryd.results10 rfl (fun w hw => ?_)
              exact ⟨false, rfl, ⟨(fun h => by cases h), fun h => False.elim (by rw [h] at hq; rw [hq] at hq2; cases hq2; exact hne rfl)⟩, hw.sub .nil⟩
            · skip
              have helr : q.right.length = q2.right.length := by simp at h60; omega
              refine CW_skip ?_
              refine EW_then ?_
              refine CW_seq ?_
              refine CW_region ?_
              refine OW_q (q_assign rfl) rfl ?_
              refine OW_nil ?_
              refine EW_then ?_
              refine CW_block ?_
              refine CW_loopP (ι := Nat) (fun i => i ≤ q.right.length ∧ ∀ z, z < i → q.right[z]? = q2.right[z]?) (fun i => [(2, .pointer (some ⟨b2, 0, none⟩)), (3, .pointer (some ⟨b3, 0, none⟩)), (5, .int .i64 (k : Int)), (6, .pointer (some ⟨b6, 0, none⟩)), (7, .pointer (some ⟨b7, 0, none⟩)), (8, .int .i64 (i : Int))]) (fun i => Sat (Old w) w [cel b7 50 [.int .i64 q2.left, .slice ya2 q2.right.length yc2], cel b6 50 [.int .i64 q.left, .slice ya q.right.length yc], cel b3 24 [.int .i64 h.terms, .int .i64 h.names, .slice (some p2) h.rules.length c2], cel b2 24 [.int .i64 g.terms, .int .i64 g.names, .slice (some p) g.rules.length c]]) (fun i => q.right.length - i) 0 ?_ ⟨rfl, rfl, rfl, rfl, rfl, rfl, trivial⟩ (fun w hw => hw.sub (by (repeat (first | exact SubL.nil | exact Pick.head | apply Pick.tail | apply SubL.cons)))) ?_
              · exact ⟨Nat.zero_le _, fun j hj => absurd hj (Nat.not_lt_zero _)⟩
              intro i hpre
              change CW _ _ _ _ [(2, .pointer (some ⟨b2, 0, none⟩)), (3, .pointer (some ⟨b3, 0, none⟩)), (5, .int .i64 (k : Int)), (6, .pointer (some ⟨b6, 0, none⟩)), (7, .pointer (some ⟨b7, 0, none⟩)), (8, .int .i64 (i : Int))] (Sat (Old w) w [cel b7 50 [.int .i64 q2.left, .slice ya2 q2.right.length yc2], cel b6 50 [.int .i64 q.left, .slice ya q.right.length yc], cel b3 24 [.int .i64 h.terms, .int .i64 h.names, .slice (some p2) h.rules.length c2], cel b2 24 [.int .i64 g.terms, .int .i64 g.names, .slice (some p) g.rules.length c]])
              obtain ⟨hi, hij⟩ := hpre
              refine CW_seq ?_
              refine CW_seq ?_
              refine CW_region ?_
              refine OW_q (q_move rfl) rfl ?_
              refine OW_q (q_fieldAddr Tryd.underlying50 rfl rfl Tryd.sizeOf48 rfl rfl) rfl ?_
              first | (refine OW_q (q_load1_own Tryd.isAgg48 rfl rfl (by (repeat (first | exact .head | apply Swap.tail))) (by rfl)) rfl ?_) | (refine OW_q (q_load1_ro Tryd.isAgg48 rfl (by first | assumption | exact Row.at_ (by assumption) rfl)) rfl ?_)
              refine OW_q (q_len Tryd.underlying48 rfl) rfl ?_
              refine OW_q (q_lss rfl rfl) rfl ?_
              refine OW_nil ?_
              refine EW_then ?_
              refine CW_cond rfl (fun h65 => ?_) (fun h65 => ?_)
              · skip
                have hli : i < q.right.length := by have := of_decide_eq_true h65; omega
                obtain ⟨s, hs⟩ := get_of_lt hli
                obtain ⟨s2, hs2⟩ := get_of_lt (l := q2.right) (k := i) (by omega)
                obtain ⟨py, rfl, hry⟩ := hys i s hs
                obtain ⟨py2, rfl, hry2⟩ := hys2 i s2 hs2
                refine CW_skip ?_
                refine EW_then ?_
                refine CW_seq ?_
                refine CW_block ?_
                refine CW_seq ?_
                refine CW_drawS 11 [(0, false), (1, false), (2, false), (3, false), (4, false), (5, false), (6, false), (7, false), (8, false), (9, false), (10, false)] (by kernel_rfl) (Blind.then (Blind.block (Blind.then (Blind.again (Blind.block (Blind.block (Blind.then (Blind.again (Blind.block (Blind.then (Blind.body (by intro c w h; simp at h)))))))))))) (by kernel_rfl) (fun w hw => hw.drew) ?_
                refine DW_q rfl (fun w hw => hw.sub (by (repeat (first | exact SubL.nil | exact Pick.head | apply Pick.tail | apply SubL.cons)))) (q_fieldAddr Tryd.underlying50 rfl rfl Tryd.sizeOf48 rfl rfl) rfl ?_
                first | (refine DW_q rfl (fun w hw => hw.sub (by (repeat (first | exact SubL.nil | exact Pick.head | apply Pick.tail | apply SubL.cons)))) (q_load1_own Tryd.isAgg48 rfl rfl (by (repeat (first | exact .head | apply Swap.tail))) (by rfl)) rfl ?_) | (refine DW_q rfl (fun w hw => hw.sub (by (repeat (first | exact SubL.nil | exact Pick.head | apply Pick.tail | apply SubL.cons)))) (q_load1_ro Tryd.isAgg48 rfl (by first | assumption | exact Row.at_ (by assumption) rfl)) rfl ?_)
                refine DW_q rfl (fun w hw => hw.sub (by (repeat (first | exact SubL.nil | exact Pick.head | apply Pick.tail | apply SubL.cons)))) (q_move rfl) rfl ?_
                refine DW_q rfl (fun w hw => hw.sub (by (repeat (first | exact SubL.nil | exact Pick.head | apply Pick.tail | apply SubL.cons)))) (q_indexAddr Tryd.underlying48 Tryd.sizeOf53 rfl rfl (by first | omega | assumption)) rfl ?_
                refine DW_q rfl (fun w hw => hw.sub (by (repeat (first | exact SubL.nil | exact Pick.head | apply Pick.tail | apply SubL.cons)))) (q_loadN_ro Tryd.isAgg53 Tryd.sizeOf53 rfl (by first | exact hry) (by rfl)) rfl ?_
                refine DW_q rfl (fun w hw => hw.sub (by (repeat (first | exact SubL.nil | exact Pick.head | apply Pick.tail | apply SubL.cons)))) (q_fieldAddr Tryd.underlying50 rfl rfl Tryd.sizeOf48 rfl rfl) rfl ?_
                first | (refine DW_q rfl (fun w hw => hw.sub (by (repeat (first | exact SubL.nil | exact Pick.head | apply Pick.tail | apply SubL.cons)))) (q_load1_own Tryd.isAgg48 rfl rfl (by (repeat (first | exact .head | apply Swap.tail))) (by rfl)) rfl ?_) | (refine DW_q rfl (fun w hw => hw.sub (by (repeat (first | exact SubL.nil | exact Pick.head | apply Pick.tail | apply SubL.cons)))) (q_load1_ro Tryd.isAgg48 rfl (by first | assumption | exact Row.at_ (by assumption) rfl)) rfl ?_)
                refine DW_q rfl (fun w hw => hw.sub (by (repeat (first | exact SubL.nil | exact Pick.head | apply Pick.tail | apply SubL.cons)))) (q_move rfl) rfl ?_
                refine DW_q rfl (fun w hw => hw.sub (by (repeat (first | exact SubL.nil | exact Pick.head | apply Pick.tail | apply SubL.cons)))) (q_indexAddr Tryd.underlying48 Tryd.sizeOf53 rfl rfl (by first | omega | assumption)) rfl ?_
                refine DW_q rfl (fun w hw => hw.sub (by (repeat (first | exact SubL.nil | exact Pick.head | apply Pick.tail | apply SubL.cons)))) (q_loadN_ro Tryd.isAgg53 Tryd.sizeOf53 rfl (by first | exact hry2) (by rfl)) rfl ?_
                refine DW_q rfl (fun w hw => hw.sub (by repeat (first | exact SubL.nil | exact Pick.head | apply Pick.tail | apply SubL.cons))) (q_neAgg (by kernel_rfl) rfl rfl (sym_eq s s2)) rfl ?_
                refine DW_nil ?_
                refine EW_then ?_
                refine CW_cond rfl (fun h78 => ?_) (fun h78 => ?_)
                · skip
                  have hne : s ≠ s2 := by simpa using h78
                  refine CW_seq ?_
                  refine CW_region ?_
                  refine OW_q (q_assign rfl) rfl ?_
                  refine OW_nil ?_
                  refine EW_then ?_
                  refine CW_ret ?_
                  refine EW_block_ret ?_
                  refine EW_then_ret ?_
                  refine EW_out_ret ?_
                  refine EW_block_ret ?_
                  refine EW_block_ret ?_
                  refine EW_then_ret ?_
                  refine EW_out_ret ?_
                  refine EW_block_ret ?_
                  refine EW_then_ret ?_
                  refine ret1 Tryd.results10 rfl (fun w hw => ?_)
                  exact ⟨false, rfl, ⟨(fun h => by cases h), fun h => False.elim (by rw [h] at hq; rw [hq] at hq2; cases hq2; rw [hs] at hs2; cases hs2; exact hne rfl)⟩, hw.sub .nil⟩
                · skip
                  have hes : s = s2 := by simpa using h78
                  refine CW_skip ?_
                  refine EW_block_normal ?_
                  refine EW_then ?_
                  refine CW_region ?_
                  refine OW_q (q_move rfl) rfl ?_
                  first | refine OW_q (q_inc rfl rfl (by omega)) rfl ?_ | refine OW_q (q_add rfl rfl (by omega) (by omega)) rfl ?_
                  refine OW_q (q_assign rfl) rfl ?_
                  refine OW_nil ?_
                  refine EW_again (i + 1) ⟨?_, ?_⟩ ⟨rfl, rfl, rfl, rfl, rfl, rfl, trivial⟩ (fun w hw => hw.sub (by (repeat (first | exact SubL.nil | exact Pick.head | apply Pick.tail | apply SubL.cons))))
                  · show q.right.length - (i + 1) < q.right.length - i; omega
                  · refine ⟨by omega, fun z hz => ?_⟩
                    by_cases e : z = i
                    · subst e; rw [hs, hs2, hes]
                    · exact hij z (by omega)
              · skip
                have hie : i = q.right.length := by have := of_decide_eq_false h65; omega
                refine CW_exit ?_
                refine EW_then_exit ?_
                refine EW_out ?_
                refine EW_block_exit ?_
                refine EW_block_normal ?_
                refine EW_then ?_
                refine CW_region ?_
                refine OW_q (q_move rfl) rfl ?_
                first | refine OW_q (q_inc rfl rfl (by omega)) rfl ?_ | refine OW_q (q_add rfl rfl (by omega) (by omega)) rfl ?_
                refine OW_q (q_assign rfl) rfl ?_
                refine OW_nil ?_
                refine EW_again (k + 1) ⟨?_, ?_⟩ ⟨rfl, rfl, rfl, trivial⟩ (fun w hw => hw.sub (by (repeat (first | exact SubL.nil | exact Pick.head | apply Pick.tail | apply SubL.cons))))
                · show g.rules.length - (k + 1) < g.rules.length - k; omega
                · refine ⟨by omega, fun j hj => ?_⟩
                  by_cases e : j = k
                  · subst e
                    rw [hq, hq2]
                    obtain ⟨l1, r1⟩ := q
                    obtain ⟨l2, r2⟩ := q2
                    have e1 : l1 = l2 := hel
                    subst e1
                    have e2 : r1 = r2 := List.ext_getElem? fun z => by
                      by_cases hz : z < i
                      · exact hij z hz
                      · have h1 : r1.length ≤ z := by show r1.length ≤ z; have := hie; simp only at this; omega
                        have h2 : r2.length ≤ z := by have := helr; simp only at this; omega
                        rw [List.getElem?_eq_none h1, List.getElem?_eq_none h2]
                    rw [e2]
                  · exact hkj j (by omega)
        · skip
          have hke : k = g.rules.length := by have := of_decide_eq_false h34; omega
          refine CW_exit ?_
          refine EW_then_exit ?_
          refine EW_out ?_
          refine EW_block_exit ?_
          refine EW_then ?_
          refine CW_seq ?_
          refine CW_region ?_
          refine OW_q (q_assign rfl) rfl ?_
          refine OW_nil ?_
          refine EW_then ?_
          refine CW_ret ?_
          refine ret1 Tryd.results10 rfl (fun w hw => ?_)
          refine ⟨true, rfl, ⟨fun _ => ?_, fun _ => rfl⟩, hw.sub .nil⟩
          obtain ⟨t, n, rs⟩ := g
          obtain ⟨t2, n2, rs2⟩ := h
          have e1 : t = t2 := het
          have e2 : n = n2 := hen
          subst e1
          subst e2
          have e3 : rs = rs2 := List.ext_getElem? fun z => by
            by_cases hz : z < k
            · exact hkj z hz
            · have h1 : rs.length ≤ z := by have := hke; simp only at this; omega
              have h2 : rs2.length ≤ z := by have := hel0; simp only at this; omega
              rw [List.getElem?_eq_none h1, List.getElem?_eq_none h2]
          rw [e3]

end Go.Sy
