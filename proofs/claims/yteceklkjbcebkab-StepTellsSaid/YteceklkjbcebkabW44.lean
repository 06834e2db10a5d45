/- step.kept. No condition. -/
import Derived.Test.YteceklkjbcebkabW43
namespace Go.Sy
open Go Go.RowKit Go.Proofs

set_option maxRecDepth 20000 in
theorem kept_any (gv : Value) (g : Gram) (w : World) (hm : mayB g = true) (hg : GramAt (Cl w) gv g) : Calls Try.prog 36 #[gv] w (fun e w' => ∃ x : Value × List Bool × List Bool, e = .returned x.1 ∧ (MksOk g x.2.1 ∧ CmsOk g x.2.2) ∧ Sat (Old w) w [trow 3 1 encN x.1 ((keptK g x.2.1 x.2.2 g.rules.length).map (fun (z : Nat) => (z : Int)))] w') := by
  have hg0 := hg
  obtain ⟨rv, rfl, hr⟩ := hg.mono old_rd
  obtain ⟨a, c, rfl, hc1, hc2, hrs⟩ := id hr
  clear hg
  have hM := mayB_true.1 hm
  have hkn : ((g.names.toNat : Nat) : Int) = g.names := by omega
  refine calls_CW Try.func36 rfl Try.ntmps36 rfl (Sat.start w) ?_
  refine CW_seq ?_
  refine CW_region ?_
  refine OW_e (e_box rfl rfl) rfl (fun b1 => ?_)
  refine OW_q (q_assign rfl) rfl ?_
  refine OW_nil ?_
  refine EW_then ?_
  refine CW_seq ?_
  refine CW_region ?_
  first | (refine OW_q (q_loadN_own Try.isAgg24 Try.sizeOf24 rfl rfl (by (repeat (first | exact .head | apply Swap.tail))) (by rfl)) rfl ?_) | (refine OW_q (q_loadN_ro Try.isAgg24 Try.sizeOf24 rfl (by first | assumption | exact Row.at_ (by assumption) rfl) (by rfl)) rfl ?_)
  refine OW_e (e_call Try.call56 rfl (fun w hw => lift_oldP (makes_yes _ g w (hg0.mono (fun _ _ h => hw.rd (Rd.old h))) hm) hw)) rfl (fun x15 => ?_)
  refine OW_pure fun hx15 => ?_
  refine OW_q (q_move rfl) rfl ?_
  refine OW_q (q_extract rfl rfl) rfl ?_
  refine OW_q (q_extract rfl rfl) rfl ?_
  refine OW_q (q_assign rfl) rfl ?_
  refine OW_q (q_assign rfl) rfl ?_
  refine OW_nil ?_
  refine EW_then ?_
  refine CW_seq ?_
  refine CW_region ?_
  first | (refine OW_q (q_loadN_own Try.isAgg24 Try.sizeOf24 rfl rfl (by (repeat (first | exact .head | apply Swap.tail))) (by rfl)) rfl ?_) | (refine OW_q (q_loadN_ro Try.isAgg24 Try.sizeOf24 rfl (by first | assumption | exact Row.at_ (by assumption) rfl) (by rfl)) rfl ?_)
  refine OW_e (e_call Try.call57 rfl (fun w hw => lift_oldP (comes_yes _ g w (hg0.mono (fun _ _ h => hw.rd (Rd.old h))) hm) hw)) rfl (fun x20 => ?_)
  refine OW_pure fun hx20 => ?_
  refine OW_q (q_move rfl) rfl ?_
  refine OW_q (q_extract rfl rfl) rfl ?_
  refine OW_q (q_extract rfl rfl) rfl ?_
  refine OW_q (q_assign rfl) rfl ?_
  refine OW_q (q_assign rfl) rfl ?_
  refine OW_nil ?_
  refine EW_then ?_
  refine CW_seq ?_
  refine CW_region ?_
  refine OW_q (q_assign rfl) rfl ?_
  refine OW_nil ?_
  refine EW_then ?_
  refine CW_seq ?_
  refine CW_seq ?_
  refine CW_region ?_
  refine OW_q (q_fieldAddr Try.underlying24 rfl rfl Try.sizeOf22 rfl rfl) rfl ?_
  first | (refine OW_q (q_load1_own Try.isAgg22 rfl rfl (by (repeat (first | exact .head | apply Swap.tail))) (by rfl)) rfl ?_) | (refine OW_q (q_load1_ro Try.isAgg22 rfl (by first | assumption | exact Row.at_ (by assumption) rfl)) rfl ?_)
  refine OW_q (q_len Try.underlying22 rfl) rfl ?_
  refine OW_q (q_move rfl) rfl ?_
  refine OW_nil ?_
  refine EW_then ?_
  refine CW_block ?_
  refine CW_weak (S' := Sat (Old w) w [trow 3 1 encN (.slice none 0 0) ((keptK g x15.2 x20.2 0).map (fun (z : Nat) => (z : Int))), bools x20.1 4 x20.2, bools x15.1 4 x15.2, cel b1 24 [.int .i64 g.terms, .int .i64 g.names, .slice a g.rules.length c]]) (fun w hw => (hw.tnil 3 1 encN).sub (by repeat (first | exact SubL.nil | exact Pick.head | apply Pick.tail | apply SubL.cons))) ?_
  refine CW_loopP (ι := Nat × Value) (fun i_ => i_.1 ≤ g.rules.length) (fun i_ => [(1, .pointer (some ⟨b1, 0, none⟩)), (3, .slice (some ⟨x15.1, 0, none⟩) g.names.toNat g.names.toNat), (5, .slice (some ⟨x20.1, 0, none⟩) g.names.toNat g.names.toNat), (7, i_.2), (24, .slice a g.rules.length c), (25, .int .i64 (g.rules.length : Int)), (26, .int .i64 (i_.1 : Int))]) (fun i_ => Sat (Old w) w [trow 3 1 encN i_.2 ((keptK g x15.2 x20.2 i_.1).map (fun (z : Nat) => (z : Int))), bools x20.1 4 x20.2, bools x15.1 4 x15.2, cel b1 24 [.int .i64 g.terms, .int .i64 g.names, .slice a g.rules.length c]]) (fun i_ => g.rules.length - i_.1) (0, .slice none 0 0) ?_ ⟨rfl, rfl, rfl, rfl, rfl, rfl, rfl, trivial⟩ (fun w hw => hw.sub (by (repeat (first | exact SubL.nil | exact Pick.head | apply Pick.tail | apply SubL.cons)))) ?_
  · exact Nat.zero_le _
  intro i_ hpre
  obtain ⟨k, v7⟩ := i_
  replace hpre : k ≤ g.rules.length := hpre
  change CW _ _ _ _ [(1, .pointer (some ⟨b1, 0, none⟩)), (3, .slice (some ⟨x15.1, 0, none⟩) g.names.toNat g.names.toNat), (5, .slice (some ⟨x20.1, 0, none⟩) g.names.toNat g.names.toNat), (7, v7), (24, .slice a g.rules.length c), (25, .int .i64 (g.rules.length : Int)), (26, .int .i64 (k : Int))] (Sat (Old w) w [trow 3 1 encN v7 ((keptK g x15.2 x20.2 k).map (fun (z : Nat) => (z : Int))), bools x20.1 4 x20.2, bools x15.1 4 x15.2, cel b1 24 [.int .i64 g.terms, .int .i64 g.names, .slice a g.rules.length c]])
  have hk : k ≤ g.rules.length := hpre
  refine CW_seq ?_
  refine CW_region ?_
  refine OW_q (q_lss rfl rfl) rfl ?_
  refine OW_nil ?_
  refine EW_then ?_
  refine CW_seq ?_
  refine CW_cond rfl (fun h27 => ?_) (fun h27 => ?_)
  · skip
    have hlt : k < g.rules.length := by have := of_decide_eq_true h27; omega
    obtain ⟨q, hq⟩ := get_of_lt hlt
    obtain ⟨p, rfl, rvq, hsy, hrow⟩ := hrs k q hq
    obtain ⟨ya, yc, rfl, hy1, hy2, hys⟩ := id hsy
    have hqr := may_rule hm hq
    have hm1 := atB_get (is := x15.2) hqr.1 (by have := hx15.1; omega)
    have hc1 := atB_get (is := x20.2) hqr.1 (by have := hx20.1; omega)
    have hkl := keptK_len g x15.2 x20.2 k
    refine CW_skip ?_
    refine EW_then ?_
    refine CW_seq ?_
    refine CW_block ?_
    refine CW_seq ?_
    refine CW_region ?_
    refine OW_q (q_move rfl) rfl ?_
    refine OW_q (q_indexAddr Try.underlying22 Try.sizeOf49 rfl rfl (by first | omega | assumption)) rfl ?_
    refine OW_q (q_loadN_ro Try.isAgg49 Try.sizeOf49 rfl (by first | exact hrow) (by rfl)) rfl ?_
    refine OW_e (e_alloc Try.zeroValue49 rfl) rfl (fun b9 => ?_)
    refine OW_q (q_assign rfl) rfl ?_
    refine OW_e0 (e_storeN Try.sizeOf49 rfl rfl rfl rfl (by simp [Value.oneCell']) (by (repeat (first | exact .head | apply Swap.tail))) (by rfl)) (fun _ => ?_)
    refine OW_nil ?_
    refine EW_then ?_
    refine CW_seqJ (ι := Bool) (fun nd => nd = (atB x15.2 q.left && atB x20.2 q.left)) (fun nd => [(1, .pointer (some ⟨b1, 0, none⟩)), (3, .slice (some ⟨x15.1, 0, none⟩) g.names.toNat g.names.toNat), (5, .slice (some ⟨x20.1, 0, none⟩) g.names.toNat g.names.toNat), (7, v7), (8, .int .i64 (k : Int)), (9, .pointer (some ⟨b9, 0, none⟩)), (10, .bool nd), (24, .slice (some p) g.rules.length c), (25, .int .i64 (g.rules.length : Int)), (26, .int .i64 (k : Int))]) (fun nd => Sat (Old w) w [cel b9 49 [.int .i64 q.left, .slice ya q.right.length yc], trow 3 1 encN v7 ((keptK g x15.2 x20.2 k).map (fun (z : Nat) => (z : Int))), bools x20.1 4 x20.2, bools x15.1 4 x15.2, cel b1 24 [.int .i64 g.terms, .int .i64 g.names, .slice (some p) g.rules.length c]]) ?_ ?_
    · skip
      refine CW_region ?_
      refine OW_q (q_move rfl) rfl ?_
      refine OW_q (q_fieldAddr Try.underlying49 rfl rfl Try.sizeOf3 rfl rfl) rfl ?_
      first | (refine OW_q (q_load1_own Try.isAgg3 rfl rfl (by (repeat (first | exact .head | apply Swap.tail))) (by rfl)) rfl ?_) | (refine OW_q (q_load1_ro Try.isAgg3 rfl (by first | assumption | exact Row.at_ (by assumption) rfl)) rfl ?_)
      refine OW_q (q_indexAddrI Try.underlying54 Try.sizeOf4 rfl rfl (by first | omega | assumption) (by first | omega | assumption)) rfl ?_
      refine OW_q (q_load_bools Try.isAgg4 rfl (by (repeat (first | exact .head | apply Swap.tail))) (by exact hm1)) rfl ?_
      refine OW_q (q_move rfl) rfl ?_
      refine OW_part (t := 36) rfl (fun hg36 => ?_) (fun hg36 => ?_)
      · skip
        refine OW_wanted rfl rfl rfl ?_
        refine OW_q (q_move rfl) rfl ?_
        refine OW_wanted rfl rfl rfl ?_
        refine OW_q (q_fieldAddr Try.underlying49 rfl rfl Try.sizeOf3 rfl rfl) rfl ?_
        refine OW_wanted rfl rfl rfl ?_
        first | (refine OW_q (q_load1_own Try.isAgg3 rfl rfl (by (repeat (first | exact .head | apply Swap.tail))) (by rfl)) rfl ?_) | (refine OW_q (q_load1_ro Try.isAgg3 rfl (by first | assumption | exact Row.at_ (by assumption) rfl)) rfl ?_)
        refine OW_wanted rfl rfl rfl ?_
        refine OW_q (q_indexAddrI Try.underlying54 Try.sizeOf4 rfl rfl (by first | omega | assumption) (by first | omega | assumption)) rfl ?_
        refine OW_wanted rfl rfl rfl ?_
        refine OW_q (q_load_bools Try.isAgg4 rfl (by (repeat (first | exact .head | apply Swap.tail))) (by exact hc1)) rfl ?_
        refine OW_q (q_pick_t rfl rfl) rfl ?_
        refine OW_q (q_assign rfl) rfl ?_
        refine OW_nil ?_
        refine EW_again (atB x20.2 q.left) ?_ ⟨rfl, rfl, rfl, rfl, rfl, rfl, rfl, rfl, rfl, rfl, trivial⟩ (fun w hw => hw.sub (by (repeat (first | exact SubL.nil | exact Pick.head | apply Pick.tail | apply SubL.cons))))
        · show _ = _; rw [hg36]; rfl
      · skip
        refine OW_skip rfl rfl rfl rfl ?_
        refine OW_skip rfl rfl rfl rfl ?_
        refine OW_skip rfl rfl rfl rfl ?_
        refine OW_skip rfl rfl rfl rfl ?_
        refine OW_skip rfl rfl rfl rfl ?_
        refine OW_q (q_pick_f rfl rfl) rfl ?_
        refine OW_q (q_assign rfl) rfl ?_
        refine OW_nil ?_
        refine EW_again (false) ?_ ⟨rfl, rfl, rfl, rfl, rfl, rfl, rfl, rfl, rfl, rfl, trivial⟩ (fun w hw => hw.sub (by (repeat (first | exact SubL.nil | exact Pick.head | apply Pick.tail | apply SubL.cons))))
        · show _ = _; rw [hg36]; rfl
    intro nd hpre
    change CW _ _ _ _ [(1, .pointer (some ⟨b1, 0, none⟩)), (3, .slice (some ⟨x15.1, 0, none⟩) g.names.toNat g.names.toNat), (5, .slice (some ⟨x20.1, 0, none⟩) g.names.toNat g.names.toNat), (7, v7), (8, .int .i64 (k : Int)), (9, .pointer (some ⟨b9, 0, none⟩)), (10, .bool nd), (24, .slice (some p) g.rules.length c), (25, .int .i64 (g.rules.length : Int)), (26, .int .i64 (k : Int))] (Sat (Old w) w [cel b9 49 [.int .i64 q.left, .slice ya q.right.length yc], trow 3 1 encN v7 ((keptK g x15.2 x20.2 k).map (fun (z : Nat) => (z : Int))), bools x20.1 4 x20.2, bools x15.1 4 x15.2, cel b1 24 [.int .i64 g.terms, .int .i64 g.names, .slice (some p) g.rules.length c]])
    have hnd : nd = (atB x15.2 q.left && atB x20.2 q.left) := hpre
    refine CW_seq ?_
    refine CW_seq ?_
    refine CW_region ?_
    refine OW_q (q_fieldAddr Try.underlying49 rfl rfl Try.sizeOf46 rfl rfl) rfl ?_
    first | (refine OW_q (q_load1_own Try.isAgg46 rfl rfl (by (repeat (first | exact .head | apply Swap.tail))) (by rfl)) rfl ?_) | (refine OW_q (q_load1_ro Try.isAgg46 rfl (by first | assumption | exact Row.at_ (by assumption) rfl)) rfl ?_)
    refine OW_q (q_len Try.underlying46 rfl) rfl ?_
    refine OW_q (q_move rfl) rfl ?_
    refine OW_nil ?_
    refine EW_then ?_
    refine CW_block ?_
    refine CW_loopP (ι := Nat × Bool) (fun i_ => i_.1 ≤ q.right.length ∧ i_.2 = (nd && allB x15.2 (q.right.take i_.1))) (fun i_ => [(1, .pointer (some ⟨b1, 0, none⟩)), (3, .slice (some ⟨x15.1, 0, none⟩) g.names.toNat g.names.toNat), (5, .slice (some ⟨x20.1, 0, none⟩) g.names.toNat g.names.toNat), (7, v7), (8, .int .i64 (k : Int)), (9, .pointer (some ⟨b9, 0, none⟩)), (10, .bool i_.2), (24, .slice (some p) g.rules.length c), (25, .int .i64 (g.rules.length : Int)), (26, .int .i64 (k : Int)), (44, .slice ya q.right.length yc), (45, .int .i64 (q.right.length : Int)), (46, .int .i64 (i_.1 : Int))]) (fun i_ => Sat (Old w) w [cel b9 49 [.int .i64 q.left, .slice ya q.right.length yc], trow 3 1 encN v7 ((keptK g x15.2 x20.2 k).map (fun (z : Nat) => (z : Int))), bools x20.1 4 x20.2, bools x15.1 4 x15.2, cel b1 24 [.int .i64 g.terms, .int .i64 g.names, .slice (some p) g.rules.length c]]) (fun i_ => q.right.length - i_.1) (0, nd) ?_ ⟨rfl, rfl, rfl, rfl, rfl, rfl, rfl, rfl, rfl, rfl, rfl, rfl, rfl, trivial⟩ (fun w hw => hw.sub (by (repeat (first | exact SubL.nil | exact Pick.head | apply Pick.tail | apply SubL.cons)))) ?_
    · exact ⟨Nat.zero_le _, by simp [allB]⟩
    intro i_ hpre
    obtain ⟨j, nd2⟩ := i_
    replace hpre : j ≤ q.right.length ∧ nd2 = (nd && allB x15.2 (q.right.take j)) := hpre
    change CW _ _ _ _ [(1, .pointer (some ⟨b1, 0, none⟩)), (3, .slice (some ⟨x15.1, 0, none⟩) g.names.toNat g.names.toNat), (5, .slice (some ⟨x20.1, 0, none⟩) g.names.toNat g.names.toNat), (7, v7), (8, .int .i64 (k : Int)), (9, .pointer (some ⟨b9, 0, none⟩)), (10, .bool nd2), (24, .slice (some p) g.rules.length c), (25, .int .i64 (g.rules.length : Int)), (26, .int .i64 (k : Int)), (44, .slice ya q.right.length yc), (45, .int .i64 (q.right.length : Int)), (46, .int .i64 (j : Int))] (Sat (Old w) w [cel b9 49 [.int .i64 q.left, .slice ya q.right.length yc], trow 3 1 encN v7 ((keptK g x15.2 x20.2 k).map (fun (z : Nat) => (z : Int))), bools x20.1 4 x20.2, bools x15.1 4 x15.2, cel b1 24 [.int .i64 g.terms, .int .i64 g.names, .slice (some p) g.rules.length c]])
    obtain ⟨hj, hnd2⟩ := hpre
    refine CW_seq ?_
    refine CW_region ?_
    refine OW_q (q_lss rfl rfl) rfl ?_
    refine OW_nil ?_
    refine EW_then ?_
    refine CW_seq ?_
    refine CW_cond rfl (fun h47 => ?_) (fun h47 => ?_)
    · skip
      have hlj : j < q.right.length := by have := of_decide_eq_true h47; omega
      obtain ⟨s, hsj⟩ := get_of_lt hlj
      obtain ⟨py, rfl, hsym⟩ := hys j s hsj
      have hss := may_sym hm hq hsj
      refine CW_skip ?_
      refine EW_then ?_
      refine CW_seq ?_
      refine CW_block ?_
      refine CW_seq ?_
      refine CW_region ?_
      refine OW_q (q_indexAddr Try.underlying46 Try.sizeOf51 rfl rfl (by first | omega | assumption)) rfl ?_
      refine OW_q (q_loadN_ro Try.isAgg51 Try.sizeOf51 rfl (by first | exact hsym) (by rfl)) rfl ?_
      refine OW_e (e_alloc Try.zeroValue51 rfl) rfl (fun b12 => ?_)
      refine OW_e0 (e_storeN Try.sizeOf51 rfl rfl rfl rfl (by simp [Value.oneCell']) (by (repeat (first | exact .head | apply Swap.tail))) (by rfl)) (fun _ => ?_)
      refine OW_nil ?_
      refine EW_then ?_
      refine CW_region ?_
      refine OW_q (q_move rfl) rfl ?_
      refine OW_q (q_move rfl) rfl ?_
      refine OW_part (t := 51) rfl (fun hg51 => ?_) (fun hg51 => ?_)
      · skip
        refine OW_wanted rfl rfl rfl ?_
        refine OW_q (q_fieldAddr Try.underlying51 rfl rfl Try.sizeOf4 rfl rfl) rfl ?_
        refine OW_wanted rfl rfl rfl ?_
        first | (refine OW_q (q_load1_own Try.isAgg4 rfl rfl (by (repeat (first | exact .head | apply Swap.tail))) (by rfl)) rfl ?_) | (refine OW_q (q_load1_ro Try.isAgg4 rfl (by first | assumption | exact Row.at_ (by assumption) rfl)) rfl ?_)
        refine OW_wanted rfl rfl rfl ?_
        refine OW_q (q_move rfl) rfl ?_
        refine OW_part (t := 54) rfl (fun hg54 => ?_) (fun hg54 => ?_)
        · skip
          refine OW_skip rfl rfl rfl rfl ?_
          refine OW_skip rfl rfl rfl rfl ?_
          refine OW_skip rfl rfl rfl rfl ?_
          refine OW_skip rfl rfl rfl rfl ?_
          refine OW_skip rfl rfl rfl rfl ?_
          refine OW_wanted rfl rfl rfl ?_
          refine OW_q (q_pick_t rfl rfl) rfl ?_
          refine OW_q (q_pick_t rfl rfl) rfl ?_
          refine OW_q (q_assign rfl) rfl ?_
          refine OW_nil ?_
          refine EW_block_normal ?_
          refine EW_then ?_
          refine CW_region ?_
          first | refine OW_q (q_inc rfl rfl (by omega)) rfl ?_ | refine OW_q (q_add rfl rfl (by omega) (by omega)) rfl ?_
          refine OW_q (q_move rfl) rfl ?_
          refine OW_nil ?_
          refine EW_again ((j + 1, true)) ⟨?_, ?_⟩ ⟨rfl, rfl, rfl, rfl, rfl, rfl, rfl, rfl, rfl, rfl, rfl, rfl, rfl, trivial⟩ (fun w hw => hw.sub (by (repeat (first | exact SubL.nil | exact Pick.head | apply Pick.tail | apply SubL.cons))))
          · show q.right.length - (j + 1) < q.right.length - j; omega
          · refine ⟨by show j + 1 ≤ _; omega, ?_⟩
            show (true : Bool) = _
            unfold allB at hnd2 ⊢
            rw [all_take_succ _ hsj]
            rw [hg51] at hnd2; rw [← Bool.and_assoc, ← hnd2, hg54]; rfl
        · skip
          have hs2 := hss.2.2 (by simpa using hg54)
          have hs1 := atB_get (is := x15.2) hss.1 (by have := hx15.1; omega)
          refine OW_wanted rfl rfl rfl ?_
          refine OW_q (q_move rfl) rfl ?_
          refine OW_wanted rfl rfl rfl ?_
          refine OW_q (q_fieldAddr Try.underlying51 rfl rfl Try.sizeOf3 rfl rfl) rfl ?_
          refine OW_wanted rfl rfl rfl ?_
          first | (refine OW_q (q_load1_own Try.isAgg3 rfl rfl (by (repeat (first | exact .head | apply Swap.tail))) (by rfl)) rfl ?_) | (refine OW_q (q_load1_ro Try.isAgg3 rfl (by first | assumption | exact Row.at_ (by assumption) rfl)) rfl ?_)
          refine OW_wanted rfl rfl rfl ?_
          refine OW_q (q_indexAddrI Try.underlying54 Try.sizeOf4 rfl rfl (by first | omega | assumption) (by first | omega | assumption)) rfl ?_
          refine OW_wanted rfl rfl rfl ?_
          refine OW_q (q_load_bools Try.isAgg4 rfl (by (repeat (first | exact .head | apply Swap.tail))) (by exact hs1)) rfl ?_
          refine OW_wanted rfl rfl rfl ?_
          refine OW_q (q_pick_f rfl rfl) rfl ?_
          refine OW_q (q_pick_t rfl rfl) rfl ?_
          refine OW_q (q_assign rfl) rfl ?_
          refine OW_nil ?_
          refine EW_block_normal ?_
          refine EW_then ?_
          refine CW_region ?_
          first | refine OW_q (q_inc rfl rfl (by omega)) rfl ?_ | refine OW_q (q_add rfl rfl (by omega) (by omega)) rfl ?_
          refine OW_q (q_move rfl) rfl ?_
          refine OW_nil ?_
          refine EW_again ((j + 1, atB x15.2 s.n)) ⟨?_, ?_⟩ ⟨rfl, rfl, rfl, rfl, rfl, rfl, rfl, rfl, rfl, rfl, rfl, rfl, rfl, trivial⟩ (fun w hw => hw.sub (by (repeat (first | exact SubL.nil | exact Pick.head | apply Pick.tail | apply SubL.cons))))
          · show q.right.length - (j + 1) < q.right.length - j; omega
          · refine ⟨by show j + 1 ≤ _; omega, ?_⟩
            show (atB x15.2 s.n : Bool) = _
            unfold allB at hnd2 ⊢
            rw [all_take_succ _ hsj]
            rw [hg51] at hnd2; rw [← Bool.and_assoc, ← hnd2, hg54]; simp
      · skip
        refine OW_skip rfl rfl rfl rfl ?_
        refine OW_skip rfl rfl rfl rfl ?_
        refine OW_skip rfl rfl rfl rfl ?_
        refine OW_skipU rfl rfl rfl ?_
        refine OW_skipU rfl rfl rfl ?_
        refine OW_skipU rfl rfl rfl ?_
        refine OW_skipU rfl rfl rfl ?_
        refine OW_skipU rfl rfl rfl ?_
        refine OW_skip rfl rfl rfl rfl ?_
        refine OW_q (q_pick_f rfl rfl) rfl ?_
        refine OW_q (q_assign rfl) rfl ?_
        refine OW_nil ?_
        refine EW_block_normal ?_
        refine EW_then ?_
        refine CW_region ?_
        first | refine OW_q (q_inc rfl rfl (by omega)) rfl ?_ | refine OW_q (q_add rfl rfl (by omega) (by omega)) rfl ?_
        refine OW_q (q_move rfl) rfl ?_
        refine OW_nil ?_
        refine EW_again ((j + 1, false)) ⟨?_, ?_⟩ ⟨rfl, rfl, rfl, rfl, rfl, rfl, rfl, rfl, rfl, rfl, rfl, rfl, rfl, trivial⟩ (fun w hw => hw.sub (by (repeat (first | exact SubL.nil | exact Pick.head | apply Pick.tail | apply SubL.cons))))
        · show q.right.length - (j + 1) < q.right.length - j; omega
        · refine ⟨by show j + 1 ≤ _; omega, ?_⟩
          show (false : Bool) = _
          unfold allB at hnd2 ⊢
          rw [all_take_succ _ hsj]
          rw [hg51] at hnd2; rw [← Bool.and_assoc, ← hnd2]; simp
    · skip
      have hje : j = q.right.length := by have := of_decide_eq_false h47; omega
      have hkb : keptB x15.2 x20.2 q = nd2 := by rw [hnd2, hje, List.take_length, hnd]; rfl
      refine CW_exit ?_
      refine EW_then_exit ?_
      refine EW_out ?_
      refine EW_block_exit ?_
      refine EW_then ?_
      refine CW_seq ?_
      refine CW_region ?_
      refine OW_q (q_move rfl) rfl ?_
      refine OW_nil ?_
      refine EW_then ?_
      refine CW_cond rfl (fun h63 => ?_) (fun h63 => ?_)
      · skip
        refine CW_region ?_
        refine OW_q (q_move rfl) rfl ?_
        refine OW_q (q_move rfl) rfl ?_
        refine OW_e (e_single Try.underlying32 Try.sizeOf3 Try.zeroValue3 (e := 3) (v := .int .i64 (k : Int)) (cs := [.int .i64 (k : Int)]) rfl rfl rfl rfl (by decide) (by decide)) rfl (fun b66 => ?_)
        refine OW_e (e_append_t (x0 := (k : Int)) (enc := encN) Try.underlying32 Try.typeInfo3 rfl rfl rfl rfl rfl rfl rfl (by repeat (first | exact .head | apply Pick.tail)) rfl (by exact fun w hw => hw.news (by repeat (first | exact .head | apply Swap.tail))) (by simp [Value.oneCell']) (by rw [List.length_map]; omega) (by decide)) rfl (fun v67 => ?_)
        refine OW_q (q_assign rfl) rfl ?_
        refine OW_nil ?_
        refine EW_block_normal ?_
        refine EW_then ?_
        refine CW_region ?_
        first | refine OW_q (q_inc rfl rfl (by omega)) rfl ?_ | refine OW_q (q_add rfl rfl (by omega) (by omega)) rfl ?_
        refine OW_q (q_move rfl) rfl ?_
        refine OW_nil ?_
        refine EW_weak (fun w hw => by rw [← List.map_singleton (f := (fun (z : Nat) => (z : Int))), ← List.map_append, ← keptK_yes hq (hkb.trans h63)] at hw; exact hw) ?_
        refine EW_again ((k + 1, v67)) ⟨?_, ?_⟩ ⟨rfl, rfl, rfl, rfl, rfl, rfl, rfl, trivial⟩ (fun w hw => hw.sub (by (repeat (first | exact SubL.nil | exact Pick.head | apply Pick.tail | apply SubL.cons))))
        · show g.rules.length - (k + 1) < g.rules.length - k; omega
        · show k + 1 ≤ _; omega
      · skip
        refine CW_skip ?_
        refine EW_block_normal ?_
        refine EW_then ?_
        refine CW_region ?_
        first | refine OW_q (q_inc rfl rfl (by omega)) rfl ?_ | refine OW_q (q_add rfl rfl (by omega) (by omega)) rfl ?_
        refine OW_q (q_move rfl) rfl ?_
        refine OW_nil ?_
        refine EW_weak (fun w hw => by rw [← keptK_no hq (hkb.trans h63)] at hw; exact hw) ?_
        refine EW_again ((k + 1, v7)) ⟨?_, ?_⟩ ⟨rfl, rfl, rfl, rfl, rfl, rfl, rfl, trivial⟩ (fun w hw => hw.sub (by (repeat (first | exact SubL.nil | exact Pick.head | apply Pick.tail | apply SubL.cons))))
        · show g.rules.length - (k + 1) < g.rules.length - k; omega
        · show k + 1 ≤ _; omega
  · skip
    have hke : k = g.rules.length := by have := of_decide_eq_false h27; omega
    subst hke
    refine CW_exit ?_
    refine EW_then_exit ?_
    refine EW_out ?_
    refine EW_block_exit ?_
    refine EW_then ?_
    refine CW_seq ?_
    refine CW_region ?_
    refine OW_q (q_move rfl) rfl ?_
    refine OW_q (q_assign rfl) rfl ?_
    refine OW_nil ?_
    refine EW_then ?_
    refine CW_ret ?_
    refine ret1 Try.results36 rfl (fun w hw => ?_)
    exact ⟨(v7, x15.2, x20.2), rfl, ⟨hx15, hx20⟩, hw.sub (by repeat (first | exact SubL.nil | exact Pick.head | apply Pick.tail | apply SubL.cons))⟩

end Go.Sy
