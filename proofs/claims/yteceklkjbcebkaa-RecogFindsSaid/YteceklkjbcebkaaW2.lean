/- Walks over package short and its reference. No condition. -/
import Derived.Test.YteceklkjbcebkaaPShort
import Derived.Test.YteceklkjbcebkaaW1
namespace Go.Sy
open Go Go.RowKit Go.Proofs

set_option maxRecDepth 20000 in
theorem ints_any (av bv : Value) (xs ys : List Int) (w : World) (ha : IntsAt (Cl w) av xs) (hb : IntsAt (Cl w) bv ys) : Calls Try.prog 15 #[av, bv] w (fun e w' => e = .returned (.bool (decide (xs = ys))) ∧ Sat (Old w) w [] w') := by
  obtain ⟨a, c, rfl, hc1, hc2, hx⟩ := ha.mono old_rd
  obtain ⟨a2, c2, rfl, hd1, hd2, hy⟩ := hb.mono old_rd
  clear ha hb
  refine calls_CW Try.func15 rfl Try.ntmps15 rfl (Sat.start w) ?_
  refine CW_seq ?_
  refine CW_region ?_
  refine OW_q (q_assign rfl) rfl ?_
  refine OW_nil ?_
  refine EW_then ?_
  refine CW_seq ?_
  refine CW_seq ?_
  refine CW_region ?_
  refine OW_q (q_move rfl) rfl ?_
  refine OW_q (q_len Try.underlying25 rfl) rfl ?_
  refine OW_q (q_move rfl) rfl ?_
  refine OW_q (q_len Try.underlying25 rfl) rfl ?_
  refine OW_q (q_nei rfl rfl) rfl ?_
  refine OW_nil ?_
  refine EW_then ?_
  refine CW_cond rfl (fun h10 => ?_) (fun h10 => ?_)
  · skip
    refine CW_seq ?_
    refine CW_region ?_
    refine OW_q (q_assign rfl) rfl ?_
    refine OW_nil ?_
    refine EW_then ?_
    refine CW_ret ?_
    refine EW_then_ret ?_
    refine ret1 Try.results15 rfl (fun w hw => ?_)
    refine ⟨rf fun hm => ?_, hw⟩
    simp only [decide_eq_true_eq] at hm
    subst hm
    simp at h10
  · skip
    have hlen : xs.length = ys.length := by have := h10; simp only [bne_eq_false_iff_eq] at this; omega
    refine CW_skip ?_
    refine EW_then ?_
    refine CW_seq ?_
    refine CW_seq ?_
    refine CW_region ?_
    refine OW_q (q_assign rfl) rfl ?_
    refine OW_nil ?_
    refine EW_then ?_
    refine CW_block ?_
    refine CW_loopP (ι := Nat) (fun k => k ≤ xs.length ∧ xs.take k = ys.take k) (fun k => [(0, .slice a xs.length c), (1, .slice a2 ys.length c2), (5, .int .i64 (k : Int))]) (fun k => Sat (Old w) w []) (fun k => xs.length - k) 0 ?_ ⟨rfl, rfl, rfl, trivial⟩ (fun w hw => hw.sub (by (repeat (first | exact SubL.nil | exact Pick.head | apply Pick.tail | apply SubL.cons)))) ?_
    · exact ⟨Nat.zero_le _, rfl⟩
    intro k hpre
    change CW _ _ _ _ [(0, .slice a xs.length c), (1, .slice a2 ys.length c2), (5, .int .i64 (k : Int))] (Sat (Old w) w [])
    obtain ⟨hk, hok⟩ := hpre
    refine CW_seq ?_
    refine CW_seq ?_
    refine CW_region ?_
    refine OW_q (q_move rfl) rfl ?_
    refine OW_q (q_move rfl) rfl ?_
    refine OW_q (q_len Try.underlying25 rfl) rfl ?_
    refine OW_q (q_lss rfl rfl) rfl ?_
    refine OW_nil ?_
    refine EW_then ?_
    refine CW_cond rfl (fun h14 => ?_) (fun h14 => ?_)
    · skip
      have hlt : k < xs.length := by simpa using h14
      obtain ⟨x, hxk⟩ := get_of_lt hlt
      obtain ⟨p, rfl, hc⟩ := hx k x hxk
      obtain ⟨y, hyk⟩ := get_of_lt (l := ys) (k := k) (by omega)
      obtain ⟨q, rfl, hd⟩ := hy k y hyk
      refine CW_skip ?_
      refine EW_then ?_
      refine CW_seq ?_
      refine CW_block ?_
      refine CW_seq ?_
      refine CW_drawS 9 [(0, false), (1, false), (2, false), (3, false), (4, false), (5, false), (6, false), (7, false), (8, false)] (by kernel_rfl) (Blind.then (Blind.block (Blind.then (Blind.again (Blind.block (Blind.then (Blind.body (by intro c w h; simp at h)))))))) (by kernel_rfl) (fun w hw => hw.drew) ?_
      refine DW_q rfl (fun w hw => hw.sub (by (repeat (first | exact SubL.nil | exact Pick.head | apply Pick.tail | apply SubL.cons)))) (q_move rfl) rfl ?_
      refine DW_q rfl (fun w hw => hw.sub (by (repeat (first | exact SubL.nil | exact Pick.head | apply Pick.tail | apply SubL.cons)))) (q_move rfl) rfl ?_
      refine DW_q rfl (fun w hw => hw.sub (by (repeat (first | exact SubL.nil | exact Pick.head | apply Pick.tail | apply SubL.cons)))) (q_indexAddr Try.underlying25 Try.sizeOf3 rfl rfl (by first | omega | assumption)) rfl ?_
      refine DW_q rfl (fun w hw => hw.sub (by (repeat (first | exact SubL.nil | exact Pick.head | apply Pick.tail | apply SubL.cons)))) (q_load1_ro Try.isAgg3 rfl (by first | assumption | exact Row.at_ (by assumption) rfl)) rfl ?_
      refine DW_q rfl (fun w hw => hw.sub (by (repeat (first | exact SubL.nil | exact Pick.head | apply Pick.tail | apply SubL.cons)))) (q_move rfl) rfl ?_
      refine DW_q rfl (fun w hw => hw.sub (by (repeat (first | exact SubL.nil | exact Pick.head | apply Pick.tail | apply SubL.cons)))) (q_move rfl) rfl ?_
      refine DW_q rfl (fun w hw => hw.sub (by (repeat (first | exact SubL.nil | exact Pick.head | apply Pick.tail | apply SubL.cons)))) (q_indexAddr Try.underlying25 Try.sizeOf3 rfl rfl (by first | omega | assumption)) rfl ?_
      refine DW_q rfl (fun w hw => hw.sub (by (repeat (first | exact SubL.nil | exact Pick.head | apply Pick.tail | apply SubL.cons)))) (q_load1_ro Try.isAgg3 rfl (by first | assumption | exact Row.at_ (by assumption) rfl)) rfl ?_
      refine DW_q rfl (fun w hw => hw.sub (by (repeat (first | exact SubL.nil | exact Pick.head | apply Pick.tail | apply SubL.cons)))) (q_nei rfl rfl) rfl ?_
      refine DW_nil ?_
      refine EW_then ?_
      refine CW_cond rfl (fun h25 => ?_) (fun h25 => ?_)
      · skip
        refine CW_seq ?_
        refine CW_region ?_
        refine OW_q (q_assign rfl) rfl ?_
        refine OW_nil ?_
        refine EW_then ?_
        refine CW_ret ?_
        refine EW_block_ret ?_
        refine EW_then_ret ?_
        refine EW_out_ret ?_
        refine EW_block_ret ?_
        refine EW_then_ret ?_
        refine ret1 Try.results15 rfl (fun w hw => ?_)
        refine ⟨rf fun hm => ?_, hw⟩
        simp only [decide_eq_true_eq] at hm
        subst hm
        rw [hxk] at hyk
        simp only [Option.some.injEq] at hyk
        subst hyk
        simp at h25
      · skip
        refine CW_skip ?_
        refine EW_block_normal ?_
        refine EW_then ?_
        refine CW_region ?_
        refine OW_q (q_move rfl) rfl ?_
        first | refine OW_q (q_inc rfl rfl (by omega)) rfl ?_ | refine OW_q (q_add rfl rfl (by omega) (by omega)) rfl ?_
        refine OW_q (q_assign rfl) rfl ?_
        refine OW_nil ?_
        refine EW_again (k + 1) ⟨?_, ?_⟩ ⟨rfl, rfl, rfl, trivial⟩ (fun w hw => hw.sub (by (repeat (first | exact SubL.nil | exact Pick.head | apply Pick.tail | apply SubL.cons))))
        · show xs.length - (k + 1) < xs.length - k; omega
        · refine ⟨by omega, ?_⟩
          have e : x = y := by simpa using h25
          rw [List.take_add_one, List.take_add_one, hxk, hyk, hok, e]
    · skip
      refine CW_exit ?_
      refine EW_then_exit ?_
      refine EW_out ?_
      refine EW_block_exit ?_
      refine EW_then ?_
      refine CW_seq ?_
      refine CW_region ?_
      refine OW_q (q_assign rfl) rfl ?_
      refine OW_nil ?_
      refine EW_then ?_
      refine CW_ret ?_
      refine ret1 Try.results15 rfl (fun w hw => ?_)
      refine ⟨rt ?_, hw⟩
      have h1 := take_all (l := xs) (k := k) (by simpa using h14)
      have h2 := take_all (l := ys) (k := k) (by have := (show ¬ k < xs.length by simpa using h14); omega)
      rw [h1, h2] at hok
      simpa using hok

set_option maxRecDepth 20000 in
theorem srule_any (rv ov : Value) (r : Rule) (of : List Int) (w : World) (hr : SymsAt (Cl w) rv r.right) (ho : IntsAt (Cl w) ov of) (hrng : Rng of) (hl : ∀ s ∈ r.right, s.term = false → 0 ≤ s.n ∧ s.n < of.length) : Calls Try.prog 34 #[.agg #[.int .i64 r.left, rv], ov] w (fun e w' => e = .returned (.int .i64 (srule of r.right 0)) ∧ Sat (Old w) w [] w') := by
  obtain ⟨a, c, rfl, hc1, hc2, hx⟩ := ho.mono old_rd
  obtain ⟨a2, c2, rfl, hd1, hd2, hss⟩ := hr.mono old_rd
  clear ho hr
  refine calls_CW Try.func34 rfl Try.ntmps34 rfl (Sat.start w) ?_
  refine CW_seq ?_
  refine CW_region ?_
  refine OW_e (e_box rfl rfl) rfl (fun b2 => ?_)
  refine OW_q (q_assign rfl) rfl ?_
  refine OW_nil ?_
  refine EW_then ?_
  refine CW_seq ?_
  refine CW_region ?_
  refine OW_q (q_assign rfl) rfl ?_
  refine OW_nil ?_
  refine EW_then ?_
  refine CW_seq ?_
  refine CW_seq ?_
  refine CW_region ?_
  refine OW_q (q_fieldAddr Try.underlying41 rfl rfl Try.sizeOf39 rfl rfl) rfl ?_
  first | (refine OW_q (q_load1_own Try.isAgg39 rfl rfl (by (repeat (first | exact .head | apply Swap.tail))) (by rfl)) rfl ?_) | (refine OW_q (q_load1_ro Try.isAgg39 rfl (by first | assumption | exact Row.at_ (by assumption) rfl)) rfl ?_)
  refine OW_q (q_len Try.underlying39 rfl) rfl ?_
  refine OW_q (q_move rfl) rfl ?_
  refine OW_nil ?_
  refine EW_then ?_
  refine CW_block ?_
  refine CW_loopP (ι := Nat × Int) (fun i_ => i_.1 ≤ r.right.length ∧ srule of r.right 0 = srule of (r.right.drop i_.1) i_.2 ∧ 0 ≤ i_.2 ∧ i_.2 ≤ 1000000000) (fun i_ => [(1, .slice a of.length c), (5, .int .i64 i_.2), (9, .slice a2 r.right.length c2), (10, .int .i64 (r.right.length : Int)), (11, .int .i64 (i_.1 : Int))]) (fun i_ => Sat (Old w) w []) (fun i_ => r.right.length - i_.1) (0, 0) ?_ ⟨rfl, rfl, rfl, rfl, rfl, trivial⟩ (fun w hw => hw.sub (by (repeat (first | exact SubL.nil | exact Pick.head | apply Pick.tail | apply SubL.cons)))) ?_
  · exact ⟨Nat.zero_le _, rfl, by decide, by decide⟩
  intro i_ hpre
  obtain ⟨j, n⟩ := i_
  change CW _ _ _ _ [(1, .slice a of.length c), (5, .int .i64 n), (9, .slice a2 r.right.length c2), (10, .int .i64 (r.right.length : Int)), (11, .int .i64 (j : Int))] (Sat (Old w) w [])
  obtain ⟨hj, he, hn0, hn1⟩ := hpre
  refine CW_seq ?_
  refine CW_region ?_
  refine OW_q (q_lss rfl rfl) rfl ?_
  refine OW_nil ?_
  refine EW_then ?_
  refine CW_seq ?_
  refine CW_cond rfl (fun h12 => ?_) (fun h12 => ?_)
  · skip
    have hltj : j < r.right.length := by simpa using h12
    obtain ⟨s, hs⟩ := get_of_lt hltj
    obtain ⟨p2, rfl, hrow2⟩ := hss j s hs
    have hmem := hl s (List.mem_of_getElem? hs)
    refine CW_skip ?_
    refine EW_then ?_
    refine CW_seq ?_
    refine CW_block ?_
    refine CW_seq ?_
    refine CW_region ?_
    refine OW_q (q_indexAddr Try.underlying39 Try.sizeOf62 rfl rfl (by first | omega | assumption)) rfl ?_
    refine OW_q (q_loadN_ro Try.isAgg62 Try.sizeOf62 rfl (by first | assumption | exact Row.at_ (by assumption) rfl) (by rfl)) rfl ?_
    refine OW_e (e_alloc Try.zeroValue62 rfl) rfl (fun b7 => ?_)
    refine OW_e0 (e_storeN Try.sizeOf62 rfl rfl rfl rfl (by simp [Value.oneCell']) (by (repeat (first | exact .head | apply Swap.tail))) (by rfl)) (fun _ => ?_)
    refine OW_nil ?_
    refine EW_then ?_
    refine CW_seq ?_
    refine CW_block ?_
    refine CW_seq ?_
    refine CW_region ?_
    refine OW_q (q_fieldAddr Try.underlying62 rfl rfl Try.sizeOf4 rfl rfl) rfl ?_
    first | (refine OW_q (q_load1_own Try.isAgg4 rfl rfl (by (repeat (first | exact .head | apply Swap.tail))) (by rfl)) rfl ?_) | (refine OW_q (q_load1_ro Try.isAgg4 rfl (by first | assumption | exact Row.at_ (by assumption) rfl)) rfl ?_)
    refine OW_q (q_assign rfl) rfl ?_
    refine OW_nil ?_
    refine EW_then ?_
    refine CW_cond rfl (fun h22 => ?_) (fun h22 => ?_)
    · skip
      refine CW_region ?_
      refine OW_q (q_move rfl) rfl ?_
      skip
      first | refine OW_q (q_inc rfl rfl (by omega)) rfl ?_ | refine OW_q (q_add rfl rfl (by omega) (by omega)) rfl ?_
      refine OW_q (q_assign rfl) rfl ?_
      refine OW_nil ?_
      refine EW_block_normal ?_
      refine EW_then ?_
      refine CW_region ?_
      refine OW_q (q_move rfl) rfl ?_
      refine OW_q (q_min rfl rfl) rfl ?_
      refine OW_q (q_assign rfl) rfl ?_
      refine OW_nil ?_
      refine EW_block_normal ?_
      refine EW_then ?_
      refine CW_region ?_
      first | refine OW_q (q_inc rfl rfl (by omega)) rfl ?_ | refine OW_q (q_add rfl rfl (by omega) (by omega)) rfl ?_
      refine OW_q (q_move rfl) rfl ?_
      refine OW_nil ?_
      refine EW_again ((j + 1, min (n + 1) 1000000000)) ⟨?_, ?_⟩ ⟨rfl, rfl, rfl, rfl, rfl, trivial⟩ (fun w hw => hw.sub (by (repeat (first | exact SubL.nil | exact Pick.head | apply Pick.tail | apply SubL.cons))))
      · show r.right.length - (j + 1) < r.right.length - j; omega
      · refine ⟨by show j + 1 ≤ _; omega, ?_, by show 0 ≤ min (n + 1) _; omega, by show min (n + 1) _ ≤ _; omega⟩
        rw [he, drop_cons hs, srule, if_pos h22]
    · skip
      have hs1 := hmem h22
      have hcell := at0_get hs1.1 hs1.2
      obtain ⟨q, rfl, hq⟩ := hx s.n.toNat _ hcell
      refine CW_seq ?_
      refine CW_region ?_
      refine OW_q (q_move rfl) rfl ?_
      refine OW_q (q_fieldAddr Try.underlying62 rfl rfl Try.sizeOf3 rfl rfl) rfl ?_
      first | (refine OW_q (q_load1_own Try.isAgg3 rfl rfl (by (repeat (first | exact .head | apply Swap.tail))) (by rfl)) rfl ?_) | (refine OW_q (q_load1_ro Try.isAgg3 rfl (by first | assumption | exact Row.at_ (by assumption) rfl)) rfl ?_)
      refine OW_q (q_indexAddrI Try.underlying25 Try.sizeOf3 rfl rfl (by first | omega | assumption) (by first | omega | assumption)) rfl ?_
      refine OW_q (q_load1_ro Try.isAgg3 rfl (by first | assumption | exact Row.at_ (by assumption) rfl)) rfl ?_
      refine OW_q (q_lss rfl rfl) rfl ?_
      refine OW_q (q_assign rfl) rfl ?_
      refine OW_nil ?_
      refine EW_then ?_
      refine CW_cond rfl (fun h27 => ?_) (fun h27 => ?_)
      · skip
        refine CW_seq ?_
        refine CW_region ?_
        refine OW_q (q_assign rfl) rfl ?_
        refine OW_nil ?_
        refine EW_then ?_
        refine CW_ret ?_
        refine EW_block_ret ?_
        refine EW_then_ret ?_
        refine EW_block_ret ?_
        refine EW_then_ret ?_
        refine EW_out_ret ?_
        refine EW_block_ret ?_
        refine EW_then_ret ?_
        refine ret1 Try.results34 rfl (fun w hw => ?_)
        refine ⟨?_, hw.sub .nil⟩
        rw [he, drop_cons hs, srule, if_neg (by simp [h22]), if_pos (by simpa using h27)]
      · skip
        have hneg0 : ¬ at0 of s.n < 0 := by simpa using h27
        have hr0 := hrng.at0 s.n
        refine CW_region ?_
        refine OW_q (q_move rfl) rfl ?_
        refine OW_q (q_move rfl) rfl ?_
        refine OW_q (q_fieldAddr Try.underlying62 rfl rfl Try.sizeOf3 rfl rfl) rfl ?_
        first | (refine OW_q (q_load1_own Try.isAgg3 rfl rfl (by (repeat (first | exact .head | apply Swap.tail))) (by rfl)) rfl ?_) | (refine OW_q (q_load1_ro Try.isAgg3 rfl (by first | assumption | exact Row.at_ (by assumption) rfl)) rfl ?_)
        refine OW_q (q_indexAddrI Try.underlying25 Try.sizeOf3 rfl rfl (by first | omega | assumption) (by first | omega | assumption)) rfl ?_
        refine OW_q (q_load1_ro Try.isAgg3 rfl (by first | assumption | exact Row.at_ (by assumption) rfl)) rfl ?_
        first | refine OW_q (q_inc rfl rfl (by omega)) rfl ?_ | refine OW_q (q_add rfl rfl (by omega) (by omega)) rfl ?_
        refine OW_q (q_assign rfl) rfl ?_
        refine OW_nil ?_
        refine EW_block_normal ?_
        refine EW_then ?_
        refine CW_region ?_
        refine OW_q (q_move rfl) rfl ?_
        refine OW_q (q_min rfl rfl) rfl ?_
        refine OW_q (q_assign rfl) rfl ?_
        refine OW_nil ?_
        refine EW_block_normal ?_
        refine EW_then ?_
        refine CW_region ?_
        first | refine OW_q (q_inc rfl rfl (by omega)) rfl ?_ | refine OW_q (q_add rfl rfl (by omega) (by omega)) rfl ?_
        refine OW_q (q_move rfl) rfl ?_
        refine OW_nil ?_
        refine EW_again ((j + 1, min (n + at0 of s.n) 1000000000)) ⟨?_, ?_⟩ ⟨rfl, rfl, rfl, rfl, rfl, trivial⟩ (fun w hw => hw.sub (by (repeat (first | exact SubL.nil | exact Pick.head | apply Pick.tail | apply SubL.cons))))
        · show r.right.length - (j + 1) < r.right.length - j; omega
        · have hneg : ¬ at0 of s.n < 0 := by simpa using h27
          refine ⟨by show j + 1 ≤ _; omega, ?_, by show 0 ≤ min (n + at0 of s.n) _; omega, by show min (n + at0 of s.n) _ ≤ _; omega⟩
          rw [he, drop_cons hs, srule, if_neg (by simp [h22]), if_neg hneg]
  · skip
    have hend : r.right.drop j = [] := List.drop_eq_nil_of_le (by have := (show ¬ j < r.right.length by simpa using h12); omega)
    refine CW_exit ?_
    refine EW_then_exit ?_
    refine EW_out ?_
    refine EW_block_exit ?_
    refine EW_then ?_
    refine CW_seq ?_
    refine CW_region ?_
    refine OW_q (q_move rfl) rfl ?_
    refine OW_q (q_assign rfl) rfl ?_
    refine OW_nil ?_
    refine EW_then ?_
    refine CW_ret ?_
    refine ret1 Try.results34 rfl (fun w hw => ?_)
    refine ⟨?_, hw⟩
    rw [he, hend, srule]

set_option maxRecDepth 20000 in
theorem rrule_any (rv ov : Value) (r : Rule) (of : List Int) (w : World) (hr : SymsAt (Cl w) rv r.right) (ho : IntsAt (Cl w) ov of) (hrng : Rng of) (h8 : r.right.length ≤ 8) (hl : ∀ s ∈ r.right, s.term = false → 0 ≤ s.n ∧ s.n < of.length) : Calls Try.prog 35 #[.agg #[.int .i64 r.left, rv], ov] w (fun e w' => e = .returned (.int .i64 (srule of r.right 0)) ∧ Sat (Old w) w [] w') := by
  obtain ⟨a, c, rfl, hc1, hc2, hx⟩ := ho.mono old_rd
  obtain ⟨a2, c2, rfl, hd1, hd2, hss⟩ := hr.mono old_rd
  clear ho hr
  refine calls_CW Try.func35 rfl Try.ntmps35 rfl (Sat.start w) ?_
  refine CW_seq ?_
  refine CW_region ?_
  refine OW_e (e_box rfl rfl) rfl (fun b2 => ?_)
  refine OW_q (q_assign rfl) rfl ?_
  refine OW_nil ?_
  refine EW_then ?_
  refine CW_seq ?_
  refine CW_region ?_
  refine OW_q (q_assign rfl) rfl ?_
  refine OW_nil ?_
  refine EW_then ?_
  refine CW_seq ?_
  refine CW_seq ?_
  refine CW_region ?_
  refine OW_q (q_assign rfl) rfl ?_
  refine OW_nil ?_
  refine EW_then ?_
  refine CW_block ?_
  refine CW_loopP (ι := Nat × Int) (fun i_ => i_.1 ≤ r.right.length ∧ srule of r.right 0 = rrule of (r.right.drop i_.1) i_.2 ∧ 0 ≤ i_.2 ∧ i_.2 ≤ (i_.1 : Int) * 1000000000) (fun i_ => [(1, .slice a of.length c), (2, .pointer (some ⟨b2, 0, none⟩)), (5, .int .i64 i_.2), (6, .int .i64 (i_.1 : Int))]) (fun i_ => Sat (Old w) w [cel b2 41 [.int .i64 r.left, .slice a2 r.right.length c2]]) (fun i_ => r.right.length - i_.1) (0, 0) ?_ ⟨rfl, rfl, rfl, rfl, trivial⟩ (fun w hw => hw.sub (by (repeat (first | exact SubL.nil | exact Pick.head | apply Pick.tail | apply SubL.cons)))) ?_
  · exact ⟨Nat.zero_le _, by rw [rrule_eq]; rfl, by decide, by decide⟩
  intro i_ hpre
  obtain ⟨j, n⟩ := i_
  change CW _ _ _ _ [(1, .slice a of.length c), (2, .pointer (some ⟨b2, 0, none⟩)), (5, .int .i64 n), (6, .int .i64 (j : Int))] (Sat (Old w) w [cel b2 41 [.int .i64 r.left, .slice a2 r.right.length c2]])
  obtain ⟨hj, he, hn0, hn1⟩ := hpre
  refine CW_seq ?_
  refine CW_seq ?_
  refine CW_region ?_
  refine OW_q (q_move rfl) rfl ?_
  refine OW_q (q_fieldAddr Try.underlying41 rfl rfl Try.sizeOf39 rfl rfl) rfl ?_
  first | (refine OW_q (q_load1_own Try.isAgg39 rfl rfl (by (repeat (first | exact .head | apply Swap.tail))) (by rfl)) rfl ?_) | (refine OW_q (q_load1_ro Try.isAgg39 rfl (by first | assumption | exact Row.at_ (by assumption) rfl)) rfl ?_)
  refine OW_q (q_len Try.underlying39 rfl) rfl ?_
  refine OW_q (q_lss rfl rfl) rfl ?_
  refine OW_nil ?_
  refine EW_then ?_
  refine CW_cond rfl (fun h12 => ?_) (fun h12 => ?_)
  · skip
    have hltj : j < r.right.length := by simpa using h12
    obtain ⟨s, hs⟩ := get_of_lt hltj
    obtain ⟨p2, rfl, hrow2⟩ := hss j s hs
    have hmem := hl s (List.mem_of_getElem? hs)
    refine CW_skip ?_
    refine EW_then ?_
    refine CW_seq ?_
    refine CW_block ?_
    refine CW_seq ?_
    refine CW_seq ?_
    refine CW_region ?_
    refine OW_q (q_fieldAddr Try.underlying41 rfl rfl Try.sizeOf39 rfl rfl) rfl ?_
    first | (refine OW_q (q_load1_own Try.isAgg39 rfl rfl (by (repeat (first | exact .head | apply Swap.tail))) (by rfl)) rfl ?_) | (refine OW_q (q_load1_ro Try.isAgg39 rfl (by first | assumption | exact Row.at_ (by assumption) rfl)) rfl ?_)
    refine OW_q (q_move rfl) rfl ?_
    refine OW_q (q_indexAddr Try.underlying39 Try.sizeOf62 rfl rfl (by first | omega | assumption)) rfl ?_
    refine OW_q (q_fieldAddr Try.underlying62 rfl rfl Try.sizeOf4 rfl rfl) rfl ?_
    refine OW_q (q_load1_ro Try.isAgg4 rfl (by first | assumption | exact Row.at_ (by assumption) rfl)) rfl ?_
    refine OW_nil ?_
    refine EW_then ?_
    refine CW_cond rfl (fun h20 => ?_) (fun h20 => ?_)
    · skip
      refine CW_seq ?_
      refine CW_region ?_
      refine OW_q (q_move rfl) rfl ?_
      first | refine OW_q (q_inc rfl rfl (by omega)) rfl ?_ | refine OW_q (q_add rfl rfl (by omega) (by omega)) rfl ?_
      refine OW_q (q_assign rfl) rfl ?_
      refine OW_nil ?_
      refine EW_then ?_
      refine CW_exit ?_
      refine EW_then_exit ?_
      refine EW_block_exit ?_
      refine EW_then ?_
      refine CW_region ?_
      refine OW_q (q_move rfl) rfl ?_
      first | refine OW_q (q_inc rfl rfl (by omega)) rfl ?_ | refine OW_q (q_add rfl rfl (by omega) (by omega)) rfl ?_
      refine OW_q (q_assign rfl) rfl ?_
      refine OW_nil ?_
      refine EW_again ((j + 1, n + 1)) ⟨?_, ?_⟩ ⟨rfl, rfl, rfl, rfl, trivial⟩ (fun w hw => hw.sub (by (repeat (first | exact SubL.nil | exact Pick.head | apply Pick.tail | apply SubL.cons))))
      · show r.right.length - (j + 1) < r.right.length - j; omega
      · refine ⟨by show j + 1 ≤ _; omega, ?_, by show 0 ≤ n + 1; omega, by show n + 1 ≤ ((j + 1 : Nat) : Int) * _; omega⟩
        rw [he, drop_cons hs, rrule, if_pos h20]
    · skip
      have hs1 := hmem h20
      have hcell := at0_get hs1.1 hs1.2
      obtain ⟨q, rfl, hq⟩ := hx s.n.toNat _ hcell
      refine CW_skip ?_
      refine EW_then ?_
      refine CW_seq ?_
      refine CW_region ?_
      refine OW_q (q_move rfl) rfl ?_
      refine OW_q (q_fieldAddr Try.underlying41 rfl rfl Try.sizeOf39 rfl rfl) rfl ?_
      first | (refine OW_q (q_load1_own Try.isAgg39 rfl rfl (by (repeat (first | exact .head | apply Swap.tail))) (by rfl)) rfl ?_) | (refine OW_q (q_load1_ro Try.isAgg39 rfl (by first | assumption | exact Row.at_ (by assumption) rfl)) rfl ?_)
      refine OW_q (q_move rfl) rfl ?_
      refine OW_q (q_indexAddr Try.underlying39 Try.sizeOf62 rfl rfl (by first | omega | assumption)) rfl ?_
      refine OW_q (q_fieldAddr Try.underlying62 rfl rfl Try.sizeOf3 rfl rfl) rfl ?_
      refine OW_q (q_load1_ro Try.isAgg3 rfl (by first | assumption | exact Row.at_ (by assumption) rfl)) rfl ?_
      refine OW_q (q_indexAddrI Try.underlying25 Try.sizeOf3 rfl rfl (by first | omega | assumption) (by first | omega | assumption)) rfl ?_
      refine OW_q (q_load1_ro Try.isAgg3 rfl (by first | assumption | exact Row.at_ (by assumption) rfl)) rfl ?_
      refine OW_q (q_assign rfl) rfl ?_
      refine OW_nil ?_
      refine EW_then ?_
      refine CW_seq ?_
      refine CW_seq ?_
      refine CW_region ?_
      refine OW_q (q_move rfl) rfl ?_
      refine OW_q (q_lss rfl rfl) rfl ?_
      refine OW_nil ?_
      refine EW_then ?_
      refine CW_cond rfl (fun h33 => ?_) (fun h33 => ?_)
      · skip
        refine CW_seq ?_
        refine CW_region ?_
        refine OW_q (q_assign rfl) rfl ?_
        refine OW_nil ?_
        refine EW_then ?_
        refine CW_ret ?_
        refine EW_then_ret ?_
        refine EW_block_ret ?_
        refine EW_then_ret ?_
        refine EW_out_ret ?_
        refine EW_block_ret ?_
        refine EW_then_ret ?_
        refine ret1 Try.results35 rfl (fun w hw => ?_)
        refine ⟨?_, hw.sub .nil⟩
        rw [he, drop_cons hs, rrule, if_neg (by simp [h20]), if_pos (by simpa using h33)]
      · skip
        have hneg0 : ¬ at0 of s.n < 0 := by simpa using h33
        have hr0 := hrng.at0 s.n
        refine CW_skip ?_
        refine EW_then ?_
        refine CW_region ?_
        refine OW_q (q_move rfl) rfl ?_
        refine OW_q (q_move rfl) rfl ?_
        first | refine OW_q (q_inc rfl rfl (by omega)) rfl ?_ | refine OW_q (q_add rfl rfl (by omega) (by omega)) rfl ?_
        refine OW_q (q_assign rfl) rfl ?_
        refine OW_nil ?_
        refine EW_block_normal ?_
        refine EW_then ?_
        refine CW_region ?_
        refine OW_q (q_move rfl) rfl ?_
        first | refine OW_q (q_inc rfl rfl (by omega)) rfl ?_ | refine OW_q (q_add rfl rfl (by omega) (by omega)) rfl ?_
        refine OW_q (q_assign rfl) rfl ?_
        refine OW_nil ?_
        refine EW_again ((j + 1, n + at0 of s.n)) ⟨?_, ?_⟩ ⟨rfl, rfl, rfl, rfl, trivial⟩ (fun w hw => hw.sub (by (repeat (first | exact SubL.nil | exact Pick.head | apply Pick.tail | apply SubL.cons))))
        · show r.right.length - (j + 1) < r.right.length - j; omega
        · refine ⟨by show j + 1 ≤ _; omega, ?_, by show 0 ≤ n + at0 of s.n; omega, by show n + at0 of s.n ≤ ((j + 1 : Nat) : Int) * _; omega⟩
          rw [he, drop_cons hs, rrule, if_neg (by simp [h20]), if_neg hneg0]
  · skip
    have hend : r.right.drop j = [] := List.drop_eq_nil_of_le (by have := (show ¬ j < r.right.length by simpa using h12); omega)
    refine CW_exit ?_
    refine EW_then_exit ?_
    refine EW_out ?_
    refine EW_block_exit ?_
    refine EW_then ?_
    refine CW_seq ?_
    refine CW_seq ?_
    refine CW_region ?_
    refine OW_q (q_move rfl) rfl ?_
    refine OW_q (q_gtr rfl rfl) rfl ?_
    refine OW_nil ?_
    refine EW_then ?_
    refine CW_cond rfl (fun h38 => ?_) (fun h38 => ?_)
    · skip
      refine CW_seq ?_
      refine CW_region ?_
      refine OW_q (q_assign rfl) rfl ?_
      refine OW_nil ?_
      refine EW_then ?_
      refine CW_ret ?_
      refine EW_then_ret ?_
      refine ret1 Try.results35 rfl (fun w hw => ?_)
      refine ⟨?_, hw.sub .nil⟩
      have h1 : (1000000000 : Int) < n := by simpa using h38
      rw [he, hend, rrule, show min n 1000000000 = 1000000000 by omega]
    · skip
      refine CW_skip ?_
      refine EW_then ?_
      refine CW_seq ?_
      refine CW_region ?_
      refine OW_q (q_move rfl) rfl ?_
      refine OW_q (q_assign rfl) rfl ?_
      refine OW_nil ?_
      refine EW_then ?_
      refine CW_ret ?_
      refine ret1 Try.results35 rfl (fun w hw => ?_)
      refine ⟨?_, hw.sub .nil⟩
      have h1 : ¬ (1000000000 : Int) < n := by simpa using h38
      rw [he, hend, rrule, show min n 1000000000 = n by omega]

end Go.Sy
