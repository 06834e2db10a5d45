/- The answer's Text; TextPrints. No condition. -/
import Derived.Test.YteceklkjbcebkabDoorW71
namespace Go.Sy
open Go Go.RowKit Go.Proofs

set_option maxRecDepth 20000 in
theorem text9_any (gv : Value) (g : Gram) (w : World) (hm : mayB g = true) (hg : GramAt (Cl w) gv g) : Calls Tryd.prog 7 #[gv] w (fun e w' => e = .returned (.string ⟨(textT g).toArray⟩) ∧ Sat (Old w) w [] w') := by
  have hg0 := hg
  obtain ⟨rv, rfl, hr⟩ := hg.mono old_rd
  obtain ⟨a, c, rfl, hc1, hc2, hrs⟩ := id hr
  clear hg
  have hM := mayB_true.1 hm
  have hd1 := dec_len (n := g.terms.toNat) (by omega)
  have hd2 := dec_len (n := g.names.toNat) (by omega)
  have hhl := headT_len hm
  have hsm := may_smallR hm
  refine calls_CW Tryd.func7 rfl Tryd.ntmps7 rfl (Sat.start w) ?_
  refine CW_seq ?_
  refine CW_region ?_
  refine OW_e (e_box rfl rfl) rfl (fun b1 => ?_)
  refine OW_q (q_assign rfl) rfl ?_
  refine OW_nil ?_
  refine EW_then ?_
  refine CW_seq ?_
  refine CW_draw (Sat (Old w) w [cel b1 24 [.int .i64 g.terms, .int .i64 g.names, .slice a g.rules.length c]]) 11 [(0, false), (1, false), (5, false), (6, false), (2, true), (3, false), (4, false), (7, true), (8, false), (9, false), (10, false)] (by kernel_rfl) (Blind.then (Blind.body (by intro c w h; simp at h))) (by kernel_rfl) (fun w hw => hw.drew) ?_
  refine DW_q rfl (fun w hw => hw.sub (by (repeat (first | exact SubL.nil | exact Pick.head | apply Pick.tail | apply SubL.cons)))) (q_fieldAddr Tryd.underlying24 rfl rfl Tryd.sizeOf3 rfl rfl) rfl ?_
  first | (refine DW_q rfl (fun w hw => hw.sub (by (repeat (first | exact SubL.nil | exact Pick.head | apply Pick.tail | apply SubL.cons)))) (q_load1_own Tryd.isAgg3 rfl rfl (by (repeat (first | exact .head | apply Swap.tail))) (by rfl)) rfl ?_) | (refine DW_q rfl (fun w hw => hw.sub (by (repeat (first | exact SubL.nil | exact Pick.head | apply Pick.tail | apply SubL.cons)))) (q_load1_ro Tryd.isAgg3 rfl (by first | assumption | exact Row.at_ (by assumption) rfl)) rfl ?_)
  refine DW_q rfl (fun w hw => hw.sub (by (repeat (first | exact SubL.nil | exact Pick.head | apply Pick.tail | apply SubL.cons)))) (q_fieldAddr Tryd.underlying24 rfl rfl Tryd.sizeOf3 rfl rfl) rfl ?_
  first | (refine DW_q rfl (fun w hw => hw.sub (by (repeat (first | exact SubL.nil | exact Pick.head | apply Pick.tail | apply SubL.cons)))) (q_load1_own Tryd.isAgg3 rfl rfl (by (repeat (first | exact .head | apply Swap.tail))) (by rfl)) rfl ?_) | (refine DW_q rfl (fun w hw => hw.sub (by (repeat (first | exact SubL.nil | exact Pick.head | apply Pick.tail | apply SubL.cons)))) (q_load1_ro Tryd.isAgg3 rfl (by first | assumption | exact Row.at_ (by assumption) rfl)) rfl ?_)
  refine DW_e rfl (e_call Tryd.call18 rfl (fun w hw => lift_ro (digits_any g.terms (by omega) (by omega) w) hw)) rfl (fun _ w hw => by first | exact hw.sub (by (repeat (first | exact SubL.nil | exact Pick.head | apply Pick.tail | apply SubL.cons))) | exact hw.2.sub (by (repeat (first | exact SubL.nil | exact Pick.head | apply Pick.tail | apply SubL.cons)))) (fun x9 => ?_)
  refine DW_q rfl (fun w hw => hw.sub (by (repeat (first | exact SubL.nil | exact Pick.head | apply Pick.tail | apply SubL.cons)))) (q_addS rfl rfl (by first | omega | (simp only [List.length_cons, List.length_nil] at *; omega))) rfl ?_
  refine DW_q rfl (fun w hw => hw.sub (by (repeat (first | exact SubL.nil | exact Pick.head | apply Pick.tail | apply SubL.cons)))) (q_addS rfl rfl (by first | omega | (simp only [List.length_append, List.length_cons, List.length_nil] at *; omega))) rfl ?_
  refine DW_e rfl (e_call Tryd.call18 rfl (fun w hw => lift_ro (digits_any g.names (by omega) (by omega) w) hw)) rfl (fun _ w hw => by first | exact hw.sub (by (repeat (first | exact SubL.nil | exact Pick.head | apply Pick.tail | apply SubL.cons))) | exact hw.2.sub (by (repeat (first | exact SubL.nil | exact Pick.head | apply Pick.tail | apply SubL.cons)))) (fun x14 => ?_)
  refine DW_q rfl (fun w hw => hw.sub (by (repeat (first | exact SubL.nil | exact Pick.head | apply Pick.tail | apply SubL.cons)))) (q_addS rfl rfl (by first | omega | (simp only [List.length_append, List.length_cons, List.length_nil] at *; omega))) rfl ?_
  refine DW_q rfl (fun w hw => hw.sub (by (repeat (first | exact SubL.nil | exact Pick.head | apply Pick.tail | apply SubL.cons)))) (q_addS rfl rfl (by first | omega | (simp only [List.length_append, List.length_cons, List.length_nil] at *; omega))) rfl ?_
  refine DW_q rfl (fun w hw => hw.sub (by (repeat (first | exact SubL.nil | exact Pick.head | apply Pick.tail | apply SubL.cons)))) (q_assign rfl) rfl ?_
  refine DW_nil ?_
  refine EW_then ?_
  refine CW_seq ?_
  refine CW_seq ?_
  refine CW_region ?_
  refine OW_q (q_assign rfl) rfl ?_
  refine OW_nil ?_
  refine EW_then ?_
  refine CW_block ?_
  refine CW_spell 3 (.string ⟨(headT g ++ rulesT (g.rules.take 0) : List UInt8).toArray⟩) rfl (by first | rfl | (refine congrArg (fun l : List UInt8 => Value.string ⟨l.toArray⟩) ?_; simp [headT, tmB, nmB, rulesT])) ?_
  refine CW_loopP (ι := Nat) (fun k => k ≤ g.rules.length) (fun k => [(1, .pointer (some ⟨b1, 0, none⟩)), (3, .string ⟨(headT g ++ rulesT (g.rules.take k)).toArray⟩), (4, .int .i64 (k : Int))]) (fun k => Sat (Old w) w [cel b1 24 [.int .i64 g.terms, .int .i64 g.names, .slice a g.rules.length c]]) (fun k => g.rules.length - k) 0 ?_ ⟨rfl, rfl, rfl, trivial⟩ (fun w hw => hw.sub (by (repeat (first | exact SubL.nil | exact Pick.head | apply Pick.tail | apply SubL.cons)))) ?_
  · exact Nat.zero_le _
  intro k hpre
  change CW _ _ _ _ [(1, .pointer (some ⟨b1, 0, none⟩)), (3, .string ⟨(headT g ++ rulesT (g.rules.take k)).toArray⟩), (4, .int .i64 (k : Int))] (Sat (Old w) w [cel b1 24 [.int .i64 g.terms, .int .i64 g.names, .slice a g.rules.length c]])
  have hk : k ≤ g.rules.length := hpre
  refine CW_seq ?_
  refine CW_seq ?_
  refine CW_region ?_
  refine OW_q (q_move rfl) rfl ?_
  refine OW_q (q_fieldAddr Tryd.underlying24 rfl rfl Tryd.sizeOf22 rfl rfl) rfl ?_
  first | (refine OW_q (q_load1_own Tryd.isAgg22 rfl rfl (by (repeat (first | exact .head | apply Swap.tail))) (by rfl)) rfl ?_) | (refine OW_q (q_load1_ro Tryd.isAgg22 rfl (by first | assumption | exact Row.at_ (by assumption) rfl)) rfl ?_)
  refine OW_q (q_len Tryd.underlying22 rfl) rfl ?_
  refine OW_q (q_lss rfl rfl) rfl ?_
  refine OW_nil ?_
  refine EW_then ?_
  refine CW_cond rfl (fun h21 => ?_) (fun h21 => ?_)
  · skip
    have hlt : k < g.rules.length := by have := of_decide_eq_true h21; omega
    obtain ⟨r, hq⟩ := get_of_lt hlt
    have hr0 := hsm r (List.mem_of_getElem? hq)
    have hkl := rulesT_len (l := g.rules.take k) (fun x hx => hsm x (List.mem_of_mem_take hx))
    have hkl2 : (g.rules.take k).length ≤ 40 := by rw [List.length_take]; omega
    have hll := leftT_len hr0
    have hsl0 := dec_len (n := r.left.toNat) (by have := hr0.1; have := hr0.2.1; omega)
    have hbl := bodyT_len hr0.2.2.2
    have hr8 := hr0.2.2.1
    obtain ⟨p, rfl, rvq, hsy, hrow⟩ := hrs k r hq
    obtain ⟨ya, yc, rfl, _, _, hys⟩ := id hsy
    refine CW_skip ?_
    refine EW_then ?_
    refine CW_seq ?_
    refine CW_block ?_
    refine CW_seq ?_
    refine CW_region ?_
    refine OW_q (q_move rfl) rfl ?_
    refine OW_q (q_addS rfl rfl (by first | omega | (simp only [List.length_append, List.length_cons, List.length_nil] at *; omega))) rfl ?_
    refine OW_q (q_fieldAddr Tryd.underlying24 rfl rfl Tryd.sizeOf22 rfl rfl) rfl ?_
    first | (refine OW_q (q_load1_own Tryd.isAgg22 rfl rfl (by (repeat (first | exact .head | apply Swap.tail))) (by rfl)) rfl ?_) | (refine OW_q (q_load1_ro Tryd.isAgg22 rfl (by first | assumption | exact Row.at_ (by assumption) rfl)) rfl ?_)
    refine OW_q (q_move rfl) rfl ?_
    refine OW_q (q_indexAddr Tryd.underlying22 Tryd.sizeOf50 rfl rfl (by first | omega | assumption)) rfl ?_
    refine OW_q (q_fieldAddr Tryd.underlying50 rfl rfl Tryd.sizeOf3 rfl rfl) rfl ?_
    refine OW_q (q_load1_ro Tryd.isAgg3 rfl (by first | exact Row.at0 hrow)) rfl ?_
    refine OW_e (e_call Tryd.call18 rfl (fun w hw => lift_ro (digits_any r.left hr0.1 hr0.2.1 w) hw)) rfl (fun x32 => ?_)
    refine OW_q (q_addS rfl rfl (by first | omega | (simp only [List.length_append, List.length_cons, List.length_nil] at *; omega))) rfl ?_
    refine OW_q (q_addS rfl rfl (by first | omega | (simp only [List.length_append, List.length_cons, List.length_nil] at *; omega))) rfl ?_
    refine OW_q (q_assign rfl) rfl ?_
    refine OW_nil ?_
    refine EW_then ?_
    refine CW_seq ?_
    refine CW_seq ?_
    refine CW_region ?_
    refine OW_q (q_assign rfl) rfl ?_
    refine OW_nil ?_
    refine EW_then ?_
    refine CW_block ?_
    refine CW_spell 3 (.string ⟨((headT g ++ rulesT (g.rules.take k)) ++ leftT r ++ bodyT (r.right.take 0) : List UInt8).toArray⟩) rfl (by first | rfl | (refine congrArg (fun l : List UInt8 => Value.string ⟨l.toArray⟩) ?_; simp [leftT, bodyT, symT])) ?_
    refine CW_loopP (ι := Nat) (fun j => j ≤ r.right.length) (fun j => [(1, .pointer (some ⟨b1, 0, none⟩)), (3, .string ⟨((headT g ++ rulesT (g.rules.take k)) ++ leftT r ++ bodyT (r.right.take j)).toArray⟩), (4, .int .i64 (k : Int)), (5, .int .i64 (j : Int))]) (fun j => Sat (Old w) w [cel b1 24 [.int .i64 g.terms, .int .i64 g.names, .slice (some p) g.rules.length c]]) (fun j => r.right.length - j) 0 ?_ ⟨rfl, rfl, rfl, rfl, trivial⟩ (fun w hw => hw.sub (by (repeat (first | exact SubL.nil | exact Pick.head | apply Pick.tail | apply SubL.cons)))) ?_
    · exact Nat.zero_le _
    intro j hpre
    change CW _ _ _ _ [(1, .pointer (some ⟨b1, 0, none⟩)), (3, .string ⟨((headT g ++ rulesT (g.rules.take k)) ++ leftT r ++ bodyT (r.right.take j)).toArray⟩), (4, .int .i64 (k : Int)), (5, .int .i64 (j : Int))] (Sat (Old w) w [cel b1 24 [.int .i64 g.terms, .int .i64 g.names, .slice (some p) g.rules.length c]])
    have hj0 : j ≤ r.right.length := hpre
    refine CW_seq ?_
    refine CW_seq ?_
    refine CW_region ?_
    refine OW_q (q_move rfl) rfl ?_
    refine OW_q (q_fieldAddr Tryd.underlying24 rfl rfl Tryd.sizeOf22 rfl rfl) rfl ?_
    first | (refine OW_q (q_load1_own Tryd.isAgg22 rfl rfl (by (repeat (first | exact .head | apply Swap.tail))) (by rfl)) rfl ?_) | (refine OW_q (q_load1_ro Tryd.isAgg22 rfl (by first | assumption | exact Row.at_ (by assumption) rfl)) rfl ?_)
    refine OW_q (q_move rfl) rfl ?_
    refine OW_q (q_indexAddr Tryd.underlying22 Tryd.sizeOf50 rfl rfl (by first | omega | assumption)) rfl ?_
    refine OW_q (q_fieldAddr Tryd.underlying50 rfl rfl Tryd.sizeOf48 rfl rfl) rfl ?_
    refine OW_q (q_load1_ro Tryd.isAgg48 rfl (by first | exact hrow.at_ (j := 1) rfl)) rfl ?_
    refine OW_q (q_len Tryd.underlying48 rfl) rfl ?_
    refine OW_q (q_lss rfl rfl) rfl ?_
    refine OW_nil ?_
    refine EW_then ?_
    refine CW_cond rfl (fun h43 => ?_) (fun h43 => ?_)
    · skip
      have hlj : j < r.right.length := by have := of_decide_eq_true h43; omega
      obtain ⟨s, hj⟩ := get_of_lt hlj
      have hs0 := hr0.2.2.2 s (List.mem_of_getElem? hj)
      have hsl := (symT_len hs0).2
      have hjl := bodyT_len (l := r.right.take j) (fun x hx => hr0.2.2.2 x (List.mem_of_mem_take hx))
      have hjl2 : (r.right.take j).length ≤ 8 := by rw [List.length_take]; omega
      obtain ⟨p2, rfl, hrw2⟩ := hys j s hj
      refine CW_skip ?_
      refine EW_then ?_
      refine CW_seq ?_
      refine CW_block ?_
      refine CW_seq ?_
      refine CW_region ?_
      refine OW_q (q_fieldAddr Tryd.underlying24 rfl rfl Tryd.sizeOf22 rfl rfl) rfl ?_
      first | (refine OW_q (q_load1_own Tryd.isAgg22 rfl rfl (by (repeat (first | exact .head | apply Swap.tail))) (by rfl)) rfl ?_) | (refine OW_q (q_load1_ro Tryd.isAgg22 rfl (by first | assumption | exact Row.at_ (by assumption) rfl)) rfl ?_)
      refine OW_q (q_move rfl) rfl ?_
      refine OW_q (q_indexAddr Tryd.underlying22 Tryd.sizeOf50 rfl rfl (by first | omega | assumption)) rfl ?_
      refine OW_q (q_fieldAddr Tryd.underlying50 rfl rfl Tryd.sizeOf48 rfl rfl) rfl ?_
      refine OW_q (q_load1_ro Tryd.isAgg48 rfl (by first | exact hrow.at_ (j := 1) rfl)) rfl ?_
      refine OW_q (q_move rfl) rfl ?_
      refine OW_q (q_indexAddr Tryd.underlying48 Tryd.sizeOf53 rfl rfl (by first | omega | assumption)) rfl ?_
      refine OW_q (q_loadN_ro Tryd.isAgg53 Tryd.sizeOf53 rfl (by first | exact hrw2) (by rfl)) rfl ?_
      refine OW_e (e_call Tryd.call19 rfl (fun w hw => lift_ro (symbol9_any s hs0.1 hs0.2 w) hw)) rfl (fun x55 => ?_)
      refine OW_q (q_assign rfl) rfl ?_
      refine OW_nil ?_
      refine EW_then ?_
      refine CW_region ?_
      refine OW_q (q_move rfl) rfl ?_
      refine OW_q (q_addS rfl rfl (by first | omega | (simp only [List.length_append, List.length_cons, List.length_nil] at *; omega))) rfl ?_
      refine OW_q (q_move rfl) rfl ?_
      refine OW_q (q_addS rfl rfl (by first | omega | (simp only [List.length_append, List.length_cons, List.length_nil] at *; omega))) rfl ?_
      refine OW_q (q_assign rfl) rfl ?_
      refine OW_nil ?_
      refine EW_block_normal ?_
      refine EW_then ?_
      refine CW_spell 3 (.string ⟨((headT g ++ rulesT (g.rules.take k)) ++ leftT r ++ bodyT (r.right.take (j + 1)) : List UInt8).toArray⟩) rfl (by first | rfl | (refine congrArg (fun l : List UInt8 => Value.string ⟨l.toArray⟩) ?_; rw [bodyT_next hj]; simp)) ?_
      refine CW_region ?_
      refine OW_q (q_move rfl) rfl ?_
      first | refine OW_q (q_inc rfl rfl (by omega)) rfl ?_ | refine OW_q (q_add rfl rfl (by omega) (by omega)) rfl ?_
      refine OW_q (q_assign rfl) rfl ?_
      refine OW_nil ?_
      refine EW_again (j + 1) ⟨?_, ?_⟩ ⟨rfl, rfl, rfl, rfl, trivial⟩ (fun w hw => hw.sub (by (repeat (first | exact SubL.nil | exact Pick.head | apply Pick.tail | apply SubL.cons))))
      · show r.right.length - (j + 1) < r.right.length - j; omega
      · show j + 1 ≤ _; omega
    · skip
      have hje : r.right.length ≤ j := by have := of_decide_eq_false h43; omega
      refine CW_exit ?_
      refine EW_then_exit ?_
      refine EW_out ?_
      refine EW_block_exit ?_
      refine EW_then ?_
      refine CW_spell 3 (.string ⟨((headT g ++ rulesT (g.rules.take k)) ++ leftT r ++ bodyT r.right : List UInt8).toArray⟩) rfl (by first | rfl | (refine congrArg (fun l : List UInt8 => Value.string ⟨l.toArray⟩) ?_; rw [List.take_of_length_le hje])) ?_
      refine CW_region ?_
      refine OW_q (q_move rfl) rfl ?_
      refine OW_q (q_addS rfl rfl (by first | omega | (simp only [List.length_append, List.length_cons, List.length_nil] at *; omega))) rfl ?_
      refine OW_q (q_assign rfl) rfl ?_
      refine OW_nil ?_
      refine EW_block_normal ?_
      refine EW_then ?_
      refine CW_spell 3 (.string ⟨(headT g ++ rulesT (g.rules.take (k + 1)) : List UInt8).toArray⟩) rfl (by first | rfl | (refine congrArg (fun l : List UInt8 => Value.string ⟨l.toArray⟩) ?_; rw [rulesT_next hq]; simp [ruleT])) ?_
      refine CW_region ?_
      refine OW_q (q_move rfl) rfl ?_
      first | refine OW_q (q_inc rfl rfl (by omega)) rfl ?_ | refine OW_q (q_add rfl rfl (by omega) (by omega)) rfl ?_
      refine OW_q (q_assign rfl) rfl ?_
      refine OW_nil ?_
      refine EW_again (k + 1) ⟨?_, ?_⟩ ⟨rfl, rfl, rfl, trivial⟩ (fun w hw => hw.sub (by (repeat (first | exact SubL.nil | exact Pick.head | apply Pick.tail | apply SubL.cons))))
      · show g.rules.length - (k + 1) < g.rules.length - k; omega
      · show k + 1 ≤ _; omega
  · skip
    have hke : g.rules.length ≤ k := by have := of_decide_eq_false h21; omega
    refine CW_exit ?_
    refine EW_then_exit ?_
    refine EW_out ?_
    refine EW_block_exit ?_
    refine EW_then ?_
    refine CW_seq ?_
    refine CW_spell 3 (.string ⟨(textT g : List UInt8).toArray⟩) rfl (by first | rfl | (refine congrArg (fun l : List UInt8 => Value.string ⟨l.toArray⟩) ?_; rw [List.take_of_length_le hke]; rfl)) ?_
    refine CW_region ?_
    refine OW_q (q_move rfl) rfl ?_
    refine OW_q (q_assign rfl) rfl ?_
    refine OW_nil ?_
    refine EW_then ?_
    refine CW_ret ?_
    refine ret1 Tryd.results7 rfl (fun w hw => ?_)
    exact ⟨rfl, hw.sub .nil⟩

set_option maxRecDepth 20000 in
theorem textPrints_any (gv : Value) (g : Gram) (w : World) (hg : GramAt (Cl w) gv g) : Calls Tryd.prog 3 #[gv] w (fun e w' => e = .returned (.bool true) ∧ Sat (Old w) w [] w') := by
  have hg0 := hg
  obtain ⟨rv, rfl, hr⟩ := hg.mono old_rd
  obtain ⟨a, c, rfl, hc1, hc2, hrs⟩ := id hr
  clear hg
  refine calls_CW Tryd.func3 rfl Tryd.ntmps3 rfl (Sat.start w) ?_
  refine CW_seq ?_
  refine CW_region ?_
  refine OW_e (e_box rfl rfl) rfl (fun b1 => ?_)
  refine OW_q (q_assign rfl) rfl ?_
  refine OW_nil ?_
  refine EW_then ?_
  refine CW_seq ?_
  refine CW_region ?_
  first | (refine OW_q (q_loadN_own Tryd.isAgg24 Tryd.sizeOf24 rfl rfl (by (repeat (first | exact .head | apply Swap.tail))) (by rfl)) rfl ?_) | (refine OW_q (q_loadN_ro Tryd.isAgg24 Tryd.sizeOf24 rfl (by first | assumption | exact Row.at_ (by assumption) rfl) (by rfl)) rfl ?_)
  refine OW_e (e_call Tryd.call5 rfl (fun w hw => lift_ro (print_any _ g w (hg0.mono (fun _ _ h => hw.rd (Rd.old h)))) hw)) rfl (fun x7 => ?_)
  refine OW_q (q_move rfl) rfl ?_
  refine OW_q (q_extract rfl rfl) rfl ?_
  refine OW_q (q_extract rfl rfl) rfl ?_
  refine OW_q (q_assign rfl) rfl ?_
  refine OW_q (q_assign rfl) rfl ?_
  refine OW_nil ?_
  refine EW_then ?_
  refine CW_seq ?_
  refine CW_seq ?_
  refine CW_region ?_
  first | (refine OW_q (q_loadN_own Tryd.isAgg24 Tryd.sizeOf24 rfl rfl (by (repeat (first | exact .head | apply Swap.tail))) (by rfl)) rfl ?_) | (refine OW_q (q_loadN_ro Tryd.isAgg24 Tryd.sizeOf24 rfl (by first | assumption | exact Row.at_ (by assumption) rfl) (by rfl)) rfl ?_)
  refine OW_e (e_call Tryd.call6 rfl (fun w hw => lift_ro (may1_any _ g w (hg0.mono (fun _ _ h => hw.rd (Rd.old h)))) hw)) rfl (fun x11 => ?_)
  refine OW_q (q_not rfl) rfl ?_
  refine OW_nil ?_
  refine EW_then ?_
  refine CW_cond rfl (fun h12 => ?_) (fun h12 => ?_)
  · skip
    have hm : mayB g = false := by simpa using h12
    refine CW_seq ?_
    refine CW_region ?_
    refine OW_q (q_move rfl) rfl ?_
    refine OW_q (q_eqi rfl rfl) rfl ?_
    refine OW_q (q_move rfl) rfl ?_
    refine OW_part (t := 15) rfl (fun hg15 => ?_) (fun hg15 => ?_)
    · skip
      refine OW_wanted rfl rfl rfl ?_
      refine OW_q (q_move rfl) rfl ?_
      refine OW_wanted rfl rfl rfl ?_
      refine OW_q (q_eqS rfl rfl) rfl ?_
      refine OW_q (q_pick_t rfl rfl) rfl ?_
      refine OW_q (q_assign rfl) rfl ?_
      refine OW_nil ?_
      refine EW_then ?_
      refine CW_ret ?_
      refine EW_then_ret ?_
      refine ret1 Tryd.results3 rfl (fun w hw => ?_)
      exact ⟨by simp [hm], hw.sub .nil⟩
    · skip
      exact absurd hg15 (by simp [hm]) --stop
  · skip
    have hm : mayB g = true := by simpa using h12
    refine CW_skip ?_
    refine EW_then ?_
    refine CW_seq ?_
    refine CW_region ?_
    refine OW_q (q_move rfl) rfl ?_
    refine OW_q (q_eqi rfl rfl) rfl ?_
    refine OW_q (q_move rfl) rfl ?_
    refine OW_part (t := 21) rfl (fun hg21 => ?_) (fun hg21 => ?_)
    · skip
      refine OW_wanted rfl rfl rfl ?_
      refine OW_q (q_move rfl) rfl ?_
      refine OW_wanted rfl rfl rfl ?_
      first | (refine OW_q (q_loadN_own Tryd.isAgg24 Tryd.sizeOf24 rfl rfl (by (repeat (first | exact .head | apply Swap.tail))) (by rfl)) rfl ?_) | (refine OW_q (q_loadN_ro Tryd.isAgg24 Tryd.sizeOf24 rfl (by first | assumption | exact Row.at_ (by assumption) rfl) (by rfl)) rfl ?_)
      refine OW_wanted rfl rfl rfl ?_
      refine OW_e (e_call Tryd.call7 rfl (fun w hw => lift_ro (text9_any _ g w hm (hg0.mono (fun _ _ h => hw.rd (Rd.old h)))) hw)) rfl (fun x24 => ?_)
      refine OW_wanted rfl rfl rfl ?_
      refine OW_q (q_eqS rfl rfl) rfl ?_
      refine OW_q (q_pick_t rfl rfl) rfl ?_
      refine OW_q (q_assign rfl) rfl ?_
      refine OW_nil ?_
      refine EW_then ?_
      refine CW_ret ?_
      refine ret1 Tryd.results3 rfl (fun w hw => ?_)
      exact ⟨by simp [hm], hw.sub .nil⟩
    · skip
      exact absurd hg21 (by simp [hm]) --stop

end Go.Sy
