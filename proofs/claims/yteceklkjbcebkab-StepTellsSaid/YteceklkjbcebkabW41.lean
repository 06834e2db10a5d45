/- Package step: the small ones. No condition. -/
import Derived.Test.YteceklkjbcebkabW1
import Derived.Test.YteceklkjbcebkabW40
import Derived.Test.YteceklkjbcebkabStp
namespace Go.Sy
open Go Go.RowKit Go.Proofs

theorem sym_eq (s y : Sym) (w : World) : (Op.equalIn 10000 51 (.agg (encY s).toArray) (.agg (encY y).toArray)).run Try.prog w = .ok (decide (s = y)) w := by
  have h1 : Try.prog.underlying 51 = some (.struct (Try.prog.fieldsOf 51)) := by kernel_rfl
  have h2 : Try.prog.stoodInHeld 51 = false := by kernel_rfl
  have h3 : (Try.prog.fieldsOf 51).toList = [⟨"Term", 4, 0, false, "", "", 0⟩, ⟨"N", 3, 1, false, "", "", 8⟩] := by kernel_rfl
  rw [run_equalIn_agg w 9999 51 _ _ h1 h2, h3]
  obtain ⟨t, n⟩ := s
  obtain ⟨t', n'⟩ := y
  by_cases e1 : t = t' <;> by_cases e2 : n = n' <;> simp [Op.eqFields, go_sem, Try.sizeOf3, Try.underlying3, Try.sizeOf4, Try.underlying4, e1, e2]
set_option maxRecDepth 20000 in
theorem inS_any (n lo hi : Int) (w : World) : Calls Try.prog 27 #[.int .i64 n, .int .i64 lo, .int .i64 hi] w (fun e w' => e = .returned (.bool (inR n lo hi)) ∧ w' = w) := by
  refine calls_CW (S := (fun w' => w' = w)) Try.func27 rfl Try.ntmps27 rfl (rfl) ?_
  refine CW_seq ?_
  refine CW_region ?_
  refine OW_q (q_assign rfl) rfl ?_
  refine OW_nil ?_
  refine EW_then ?_
  refine CW_seq ?_
  refine CW_region ?_
  refine OW_q (q_move rfl) rfl ?_
  refine OW_q (q_move rfl) rfl ?_
  refine OW_q (q_geq rfl rfl) rfl ?_
  refine OW_q (q_move rfl) rfl ?_
  refine OW_part (t := 10) rfl (fun hg10 => ?_) (fun hg10 => ?_)
  · skip
    refine OW_wanted rfl rfl rfl ?_
    refine OW_q (q_move rfl) rfl ?_
    refine OW_wanted rfl rfl rfl ?_
    refine OW_q (q_move rfl) rfl ?_
    refine OW_wanted rfl rfl rfl ?_
    refine OW_q (q_lss rfl rfl) rfl ?_
    refine OW_q (q_pick_t rfl rfl) rfl ?_
    refine OW_q (q_assign rfl) rfl ?_
    refine OW_nil ?_
    refine EW_then ?_
    refine CW_ret ?_
    refine ret1 Try.results27 rfl (fun w hw => ?_)
    exact ⟨by first | (simp_all [inR]; done) | (simp_all [inR]; omega), hw⟩
  · skip
    refine OW_skip rfl rfl rfl rfl ?_
    refine OW_skip rfl rfl rfl rfl ?_
    refine OW_skip rfl rfl rfl rfl ?_
    refine OW_q (q_pick_f rfl rfl) rfl ?_
    refine OW_q (q_assign rfl) rfl ?_
    refine OW_nil ?_
    refine EW_then ?_
    refine CW_ret ?_
    refine ret1 Try.results27 rfl (fun w hw => ?_)
    exact ⟨by first | (simp_all [inR]; done) | (simp_all [inR]; omega), hw⟩

set_option maxRecDepth 20000 in
theorem name_any (n : Int) (w : World) : Calls Try.prog 31 #[.int .i64 n] w (fun e w' => e = .returned (.agg (encY (nameS n)).toArray) ∧ Sat (Old w) w [] w') := by
  refine calls_CW Try.func31 rfl Try.ntmps31 rfl (Sat.start w) ?_
  refine CW_seq ?_
  refine CW_region ?_
  refine OW_e (e_alloc Try.zeroValue51 rfl) rfl (fun b2 => ?_)
  refine OW_nil ?_
  refine EW_then ?_
  refine CW_seq ?_
  refine CW_region ?_
  refine OW_q (q_move rfl) rfl ?_
  refine OW_q (q_build (ps := #[(1, .int .i64 n)]) (v := .agg #[.bool false, .int .i64 n]) rfl (fun w => by kernel_rfl)) rfl ?_
  refine OW_e0 (e_storeN Try.sizeOf51 rfl rfl rfl rfl (by simp [Value.oneCell']) (by (repeat (first | exact .head | apply Swap.tail))) (by rfl)) (fun _ => ?_)
  refine OW_nil ?_
  refine EW_then ?_
  refine CW_ret ?_
  refine retc1a (vs := [.bool false, .int .i64 n]) Try.results31 Try.isAgg51 Try.sizeOf51 rfl rfl (fun w hw j u hj => by rw [Addr.add_lit, hw.cell (cs := [.bool false, .int .i64 n]) (A' := cel 0 0 []) .head, Nat.zero_add]; exact hj) (fun w hw => ?_)
  exact ⟨rfl, hw.sub .nil⟩

set_option maxRecDepth 20000 in
theorem ofS_any (gv : Value) (g : Gram) (n : Int) (w : World) (hl : g.rules.length ≤ 1000) (hg : GramAt (Cl w) gv g) : Calls Try.prog 28 #[gv, .int .i64 n] w (fun e w' => ∃ v : Value, e = .returned v ∧ Sat (Old w) w [trow 3 1 encN v ((ofL g.rules n).map (fun (z : Nat) => (z : Int)))] w') := by
  have hg0 := hg
  obtain ⟨rv, rfl, hr⟩ := hg.mono old_rd
  obtain ⟨a, c, rfl, hc1, hc2, hrs⟩ := id hr
  clear hg
  refine calls_CW Try.func28 rfl Try.ntmps28 rfl (Sat.start w) ?_
  refine CW_seq ?_
  refine CW_region ?_
  refine OW_e (e_box rfl rfl) rfl (fun b2 => ?_)
  refine OW_q (q_assign rfl) rfl ?_
  refine OW_nil ?_
  refine EW_then ?_
  refine CW_seq ?_
  refine CW_region ?_
  refine OW_q (q_assign rfl) rfl ?_
  refine OW_nil ?_
  refine EW_then ?_
  refine CW_seq ?_
  refine CW_seq ?_
  refine CW_region ?_
  refine OW_q (q_fieldAddr Try.underlying24 rfl rfl Try.sizeOf22 rfl rfl) rfl ?_
  first | (refine OW_q (q_load1_own Try.isAgg22 rfl rfl (by (repeat (first | exact .head | apply Swap.tail))) (by rfl)) rfl ?_) | (refine OW_q (q_load1_ro Try.isAgg22 rfl (by first | assumption | exact Row.at_ (by assumption) rfl)) rfl ?_)
  refine OW_q (q_len Try.underlying22 rfl) rfl ?_
  refine OW_q (q_move rfl) rfl ?_
  refine OW_nil ?_
  refine EW_then ?_
  refine CW_block ?_
  refine CW_weak (S' := Sat (Old w) w [trow 3 1 encN (.slice none 0 0) ((ofLk g.rules n 0).map (fun (z : Nat) => (z : Int))), cel b2 24 [.int .i64 g.terms, .int .i64 g.names, .slice a g.rules.length c]]) (fun w hw => (hw.tnil 3 1 encN).sub (by repeat (first | exact SubL.nil | exact Pick.head | apply Pick.tail | apply SubL.cons))) ?_
  refine CW_loopP (ι := Nat × Value) (fun i_ => i_.1 ≤ g.rules.length) (fun i_ => [(1, .int .i64 n), (2, .pointer (some ⟨b2, 0, none⟩)), (5, i_.2), (9, .slice a g.rules.length c), (10, .int .i64 (g.rules.length : Int)), (11, .int .i64 (i_.1 : Int))]) (fun i_ => Sat (Old w) w [trow 3 1 encN i_.2 ((ofLk g.rules n i_.1).map (fun (z : Nat) => (z : Int))), cel b2 24 [.int .i64 g.terms, .int .i64 g.names, .slice a g.rules.length c]]) (fun i_ => g.rules.length - i_.1) (0, .slice none 0 0) ?_ ⟨rfl, rfl, rfl, rfl, rfl, rfl, trivial⟩ (fun w hw => hw.sub (by (repeat (first | exact SubL.nil | exact Pick.head | apply Pick.tail | apply SubL.cons)))) ?_
  · exact Nat.zero_le _
  intro i_ hpre
  obtain ⟨k, v5⟩ := i_
  replace hpre : k ≤ g.rules.length := hpre
  change CW _ _ _ _ [(1, .int .i64 n), (2, .pointer (some ⟨b2, 0, none⟩)), (5, v5), (9, .slice a g.rules.length c), (10, .int .i64 (g.rules.length : Int)), (11, .int .i64 (k : Int))] (Sat (Old w) w [trow 3 1 encN v5 ((ofLk g.rules n k).map (fun (z : Nat) => (z : Int))), cel b2 24 [.int .i64 g.terms, .int .i64 g.names, .slice a g.rules.length c]])
  have hk : k ≤ g.rules.length := hpre
  refine CW_seq ?_
  refine CW_region ?_
  refine OW_q (q_lss rfl rfl) rfl ?_
  refine OW_nil ?_
  refine EW_then ?_
  refine CW_seq ?_
  refine CW_cond rfl (fun h12 => ?_) (fun h12 => ?_)
  · skip
    have hlt : k < g.rules.length := by have := of_decide_eq_true h12; omega
    obtain ⟨x, hx⟩ := get_of_lt hlt
    obtain ⟨p, rfl, rv, hsy, hrow⟩ := hrs k x hx
    obtain ⟨ya, yc, rfl, _, _, _⟩ := hsy
    have hkl := ofLk_len g.rules n k
    refine CW_skip ?_
    refine EW_then ?_
    refine CW_seq ?_
    refine CW_block ?_
    refine CW_seq ?_
    refine CW_region ?_
    refine OW_q (q_move rfl) rfl ?_
    refine OW_q (q_indexAddr Try.underlying22 Try.sizeOf49 rfl rfl (by first | omega | assumption)) rfl ?_
    refine OW_q (q_loadN_ro Try.isAgg49 Try.sizeOf49 rfl (by first | exact hrow) (by rfl)) rfl ?_
    refine OW_e (e_alloc Try.zeroValue49 rfl) rfl (fun b7 => ?_)
    refine OW_q (q_assign rfl) rfl ?_
    refine OW_e0 (e_storeN Try.sizeOf49 rfl rfl rfl rfl (by simp [Value.oneCell']) (by (repeat (first | exact .head | apply Swap.tail))) (by rfl)) (fun _ => ?_)
    refine OW_nil ?_
    refine EW_then ?_
    refine CW_seq ?_
    refine CW_region ?_
    refine OW_q (q_fieldAddr Try.underlying49 rfl rfl Try.sizeOf3 rfl rfl) rfl ?_
    first | (refine OW_q (q_load1_own Try.isAgg3 rfl rfl (by (repeat (first | exact .head | apply Swap.tail))) (by rfl)) rfl ?_) | (refine OW_q (q_load1_ro Try.isAgg3 rfl (by first | assumption | exact Row.at_ (by assumption) rfl)) rfl ?_)
    refine OW_q (q_move rfl) rfl ?_
    refine OW_q (q_eqi rfl rfl) rfl ?_
    refine OW_nil ?_
    refine EW_then ?_
    refine CW_cond rfl (fun h19 => ?_) (fun h19 => ?_)
    · skip
      refine CW_region ?_
      refine OW_q (q_move rfl) rfl ?_
      refine OW_q (q_move rfl) rfl ?_
      refine OW_e (e_single Try.underlying32 Try.sizeOf3 Try.zeroValue3 (e := 3) (v := .int .i64 (k : Int)) (cs := [.int .i64 (k : Int)]) rfl rfl rfl rfl (by decide) (by decide)) rfl (fun b22 => ?_)
      refine OW_e (e_append_t (x0 := (k : Int)) (enc := encN) Try.underlying32 Try.typeInfo3 rfl rfl rfl rfl rfl rfl rfl (by repeat (first | exact .head | apply Pick.tail)) rfl (by exact fun w hw => hw.news (by repeat (first | exact .head | apply Swap.tail))) (by simp [Value.oneCell']) (by rw [List.length_map]; omega) (by decide)) rfl (fun v23 => ?_)
      refine OW_q (q_assign rfl) rfl ?_
      refine OW_nil ?_
      refine EW_block_normal ?_
      refine EW_then ?_
      refine CW_region ?_
      first | refine OW_q (q_inc rfl rfl (by omega)) rfl ?_ | refine OW_q (q_add rfl rfl (by omega) (by omega)) rfl ?_
      refine OW_q (q_move rfl) rfl ?_
      refine OW_nil ?_
      refine EW_weak (fun w hw => by rw [← List.map_singleton (f := fun (k : Nat) => (k : Int)), ← List.map_append, ← ofLk_yes hx (by simpa using h19)] at hw; exact hw) ?_
      refine EW_again ((k + 1, v23)) ⟨?_, ?_⟩ ⟨rfl, rfl, rfl, rfl, rfl, rfl, trivial⟩ (fun w hw => hw.sub (by (repeat (first | exact SubL.nil | exact Pick.head | apply Pick.tail | apply SubL.cons))))
      · show g.rules.length - (k + 1) < g.rules.length - k; omega
      · show k + 1 ≤ _; omega
    · skip
      refine CW_skip ?_
      refine EW_block_normal ?_
      refine EW_then ?_
      refine CW_region ?_
      first | refine OW_q (q_inc rfl rfl (by omega)) rfl ?_ | refine OW_q (q_add rfl rfl (by omega) (by omega)) rfl ?_
      refine OW_q (q_move rfl) rfl ?_
      refine OW_nil ?_
      refine EW_weak (fun w hw => by rw [← ofLk_no hx (by simpa using h19)] at hw; exact hw) ?_
      refine EW_again ((k + 1, v5)) ⟨?_, ?_⟩ ⟨rfl, rfl, rfl, rfl, rfl, rfl, trivial⟩ (fun w hw => hw.sub (by (repeat (first | exact SubL.nil | exact Pick.head | apply Pick.tail | apply SubL.cons))))
      · show g.rules.length - (k + 1) < g.rules.length - k; omega
      · show k + 1 ≤ _; omega
  · skip
    have hke : k = g.rules.length := by have := of_decide_eq_false h12; omega
    subst hke
    refine CW_exit ?_
    refine EW_then_exit ?_
    refine EW_out ?_
    refine EW_block_exit ?_
    refine EW_then ?_
    refine CW_seq ?_
    refine CW_region ?_
    refine OW_q (q_move rfl) rfl ?_
    refine OW_q (q_assign rfl) rfl ?_
    refine OW_nil ?_
    refine EW_then ?_
    refine CW_ret ?_
    refine ret1 Try.results28 rfl (fun w hw => ?_)
    exact ⟨v5, rfl, hw.sub (by repeat (first | exact SubL.nil | exact Pick.head | apply Pick.tail | apply SubL.cons))⟩

set_option maxRecDepth 20000 in
theorem loops_any (r : Rule) (rv : Value) (w : World) (hs : SymsAt (Cl w) rv r.right) : Calls Try.prog 29 #[.agg #[.int .i64 r.left, rv]] w (fun e w' => e = .returned (.bool (loopsB r)) ∧ Sat (Old w) w [] w') := by
  obtain ⟨a, c, rfl, hd1, hd2, hss⟩ := hs.mono old_rd
  clear hs
  refine calls_CW Try.func29 rfl Try.ntmps29 rfl (Sat.start w) ?_
  refine CW_seq ?_
  refine CW_region ?_
  refine OW_e (e_box rfl rfl) rfl (fun b1 => ?_)
  refine OW_q (q_assign rfl) rfl ?_
  refine OW_nil ?_
  refine EW_then ?_
  refine CW_seq ?_
  refine CW_drawS 15 [(0, false), (1, false), (2, false), (3, false), (4, false), (5, false), (6, false), (7, false), (8, false), (9, false), (10, false), (11, true), (12, false), (13, false), (14, false)] (by kernel_rfl) (Blind.then (Blind.body (by intro c w h; simp at h))) (by kernel_rfl) (fun w hw => hw.drew) ?_
  refine DW_q rfl (fun w hw => hw.sub (by (repeat (first | exact SubL.nil | exact Pick.head | apply Pick.tail | apply SubL.cons)))) (q_fieldAddr Try.underlying49 rfl rfl Try.sizeOf46 rfl rfl) rfl ?_
  first | (refine DW_q rfl (fun w hw => hw.sub (by (repeat (first | exact SubL.nil | exact Pick.head | apply Pick.tail | apply SubL.cons)))) (q_load1_own Try.isAgg46 rfl rfl (by (repeat (first | exact .head | apply Swap.tail))) (by rfl)) rfl ?_) | (refine DW_q rfl (fun w hw => hw.sub (by (repeat (first | exact SubL.nil | exact Pick.head | apply Pick.tail | apply SubL.cons)))) (q_load1_ro Try.isAgg46 rfl (by first | assumption | exact Row.at_ (by assumption) rfl)) rfl ?_)
  refine DW_q rfl (fun w hw => hw.sub (by (repeat (first | exact SubL.nil | exact Pick.head | apply Pick.tail | apply SubL.cons)))) (q_len Try.underlying46 rfl) rfl ?_
  refine DW_q rfl (fun w hw => hw.sub (by (repeat (first | exact SubL.nil | exact Pick.head | apply Pick.tail | apply SubL.cons)))) (q_gtr rfl rfl) rfl ?_
  refine DW_q rfl (fun w hw => hw.sub (by (repeat (first | exact SubL.nil | exact Pick.head | apply Pick.tail | apply SubL.cons)))) (q_move rfl) rfl ?_
  refine DW_part (t := 7) rfl (fun hg7 => ?_) (fun hg7 => ?_)
  · skip
    obtain ⟨s, l, hl⟩ : ∃ s l, r.right = s :: l := by
      cases hr : r.right with
      | nil => rw [hr] at hg7; simp at hg7
      | cons s l => exact ⟨s, l, rfl⟩
    obtain ⟨p, rfl, hrow⟩ := hss 0 s (by rw [hl]; rfl)
    have hlt0 : (0 : Int) < (r.right.length : Int) := by rw [hl]; simp only [List.length_cons]; omega
    refine DW_qg rfl (fun w hw => hw.sub (by (repeat (first | exact SubL.nil | exact Pick.head | apply Pick.tail | apply SubL.cons)))) rfl rfl rfl (q_fieldAddr Try.underlying49 rfl rfl Try.sizeOf46 rfl rfl) rfl ?_
    first | (refine DW_qg rfl (fun w hw => hw.sub (by (repeat (first | exact SubL.nil | exact Pick.head | apply Pick.tail | apply SubL.cons)))) rfl rfl rfl (q_load1_own Try.isAgg46 rfl rfl (by (repeat (first | exact .head | apply Swap.tail))) (by rfl)) rfl ?_) | (refine DW_qg rfl (fun w hw => hw.sub (by (repeat (first | exact SubL.nil | exact Pick.head | apply Pick.tail | apply SubL.cons)))) rfl rfl rfl (q_load1_ro Try.isAgg46 rfl (by first | assumption | exact Row.at_ (by assumption) rfl)) rfl ?_)
    refine DW_qg rfl (fun w hw => hw.sub (by (repeat (first | exact SubL.nil | exact Pick.head | apply Pick.tail | apply SubL.cons)))) rfl rfl rfl (q_indexAddrI Try.underlying46 Try.sizeOf51 rfl rfl (by first | omega | assumption) (by first | omega | assumption)) rfl ?_
    refine DW_qg rfl (fun w hw => hw.sub (by (repeat (first | exact SubL.nil | exact Pick.head | apply Pick.tail | apply SubL.cons)))) rfl rfl rfl (q_loadN_ro Try.isAgg51 Try.sizeOf51 rfl (by first | exact hrow) (by rfl)) rfl ?_
    refine DW_qg rfl (fun w hw => hw.sub (by (repeat (first | exact SubL.nil | exact Pick.head | apply Pick.tail | apply SubL.cons)))) rfl rfl rfl (q_fieldAddr Try.underlying49 rfl rfl Try.sizeOf3 rfl rfl) rfl ?_
    first | (refine DW_qg rfl (fun w hw => hw.sub (by (repeat (first | exact SubL.nil | exact Pick.head | apply Pick.tail | apply SubL.cons)))) rfl rfl rfl (q_load1_own Try.isAgg3 rfl rfl (by (repeat (first | exact .head | apply Swap.tail))) (by rfl)) rfl ?_) | (refine DW_qg rfl (fun w hw => hw.sub (by (repeat (first | exact SubL.nil | exact Pick.head | apply Pick.tail | apply SubL.cons)))) rfl rfl rfl (q_load1_ro Try.isAgg3 rfl (by first | assumption | exact Row.at_ (by assumption) rfl)) rfl ?_)
    refine DW_eg rfl rfl rfl rfl (e_call Try.call31 rfl (fun w hw => lift_ro (name_any _ w) hw)) rfl (fun _ w hw => by first | exact hw.sub (by (repeat (first | exact SubL.nil | exact Pick.head | apply Pick.tail | apply SubL.cons))) | exact hw.2.sub (by (repeat (first | exact SubL.nil | exact Pick.head | apply Pick.tail | apply SubL.cons)))) (fun x14 => ?_)
    refine DW_qg rfl (fun w hw => hw.sub (by repeat (first | exact SubL.nil | exact Pick.head | apply Pick.tail | apply SubL.cons))) rfl rfl rfl (q_eqAgg (by kernel_rfl) rfl rfl (sym_eq s (nameS r.left))) rfl ?_
    refine DW_q rfl (fun w hw => hw.sub (by (repeat (first | exact SubL.nil | exact Pick.head | apply Pick.tail | apply SubL.cons)))) (q_pick_t rfl rfl) rfl ?_
    refine DW_q rfl (fun w hw => hw.sub (by (repeat (first | exact SubL.nil | exact Pick.head | apply Pick.tail | apply SubL.cons)))) (q_assign rfl) rfl ?_
    refine DW_nil ?_
    refine EW_then ?_
    refine CW_ret ?_
    refine ret1 Try.results29 rfl (fun w hw => ?_)
    exact ⟨by unfold loopsB; rw [hl], hw.sub .nil⟩
  · skip
    have hl : r.right = [] := by
      cases hr : r.right with
      | nil => rfl
      | cons s l => rw [hr] at hg7; simp at hg7
    refine DW_skip rfl (fun w hw => hw.sub (by (repeat (first | exact SubL.nil | exact Pick.head | apply Pick.tail | apply SubL.cons)))) rfl rfl rfl rfl ?_
    refine DW_skip rfl (fun w hw => hw.sub (by (repeat (first | exact SubL.nil | exact Pick.head | apply Pick.tail | apply SubL.cons)))) rfl rfl rfl rfl ?_
    refine DW_skip rfl (fun w hw => hw.sub (by (repeat (first | exact SubL.nil | exact Pick.head | apply Pick.tail | apply SubL.cons)))) rfl rfl rfl rfl ?_
    refine DW_skip rfl (fun w hw => hw.sub (by (repeat (first | exact SubL.nil | exact Pick.head | apply Pick.tail | apply SubL.cons)))) rfl rfl rfl rfl ?_
    refine DW_skip rfl (fun w hw => hw.sub (by (repeat (first | exact SubL.nil | exact Pick.head | apply Pick.tail | apply SubL.cons)))) rfl rfl rfl rfl ?_
    refine DW_skip rfl (fun w hw => hw.sub (by (repeat (first | exact SubL.nil | exact Pick.head | apply Pick.tail | apply SubL.cons)))) rfl rfl rfl rfl ?_
    refine DW_eskip rfl (fun w hw => hw.sub (by (repeat (first | exact SubL.nil | exact Pick.head | apply Pick.tail | apply SubL.cons)))) rfl rfl rfl rfl ?_
    refine DW_skip rfl (fun w hw => hw.sub (by (repeat (first | exact SubL.nil | exact Pick.head | apply Pick.tail | apply SubL.cons)))) rfl rfl rfl rfl ?_
    refine DW_q rfl (fun w hw => hw.sub (by (repeat (first | exact SubL.nil | exact Pick.head | apply Pick.tail | apply SubL.cons)))) (q_pick_f rfl rfl) rfl ?_
    refine DW_q rfl (fun w hw => hw.sub (by (repeat (first | exact SubL.nil | exact Pick.head | apply Pick.tail | apply SubL.cons)))) (q_assign rfl) rfl ?_
    refine DW_nil ?_
    refine EW_then ?_
    refine CW_ret ?_
    refine ret1 Try.results29 rfl (fun w hw => ?_)
    exact ⟨by unfold loopsB; rw [hl], hw.sub .nil⟩

end Go.Sy
