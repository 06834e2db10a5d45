/- step.change: swaps and prunes. No condition. -/
import Derived.Test.YteceklkjbcebkabW45
namespace Go.Sy
open Go Go.RowKit Go.Proofs

theorem range_pick {α : Type} (l : List α) (f : α → Bool) : ∀ n : Nat, ((List.range n).filter (fun k => decide (l[k]?.map f = some true))).filterMap (fun k => l[k]?) = (l.take n).filter f
  | 0 => by simp
  | n + 1 => by
    rw [List.range_succ, List.filter_append, List.filterMap_append, range_pick l f n, List.take_add_one, List.filter_append]
    congr 1
    cases h : l[n]? with
    | none => simp [h]
    | some x =>
      cases hf : f x <;> simp [h, hf]
theorem keptK_pick {g : Gram} {ms cs : List Bool} {rs : List RV} (hrl : plainR rs = g.rules) : (keptK g ms cs g.rules.length).filterMap (fun k => rs[k]?) = rs.filter (fun x => keptB ms cs x.r) := by
  have hl : rs.length = g.rules.length := by rw [← hrl]; simp [plainR]
  have := range_pick rs (fun x => keptB ms cs x.r) rs.length
  rw [List.take_length] at this
  rw [← this]
  unfold keptK
  rw [hl]
  congr 1
  apply List.filter_congr
  intro k _
  rw [← hrl]
  unfold plainR
  rw [List.getElem?_map]
  cases rs[k]? <;> simp
set_option maxRecDepth 20000 in
theorem change1_any (gv : Value) (g : Gram) (s : SStep) (w : World) (hm : mayB g = true) (hs : mayS g s = true) (hop : s.op = 1) (hg : GramAt (Cl w) gv g) : Calls Try.prog 20 #[gv, stepV s] w (fun e w' => ∃ x : Value × List RV × List Bool × List Bool, e = .returned (.agg #[.int .i64 g.terms, .int .i64 (stepG g s x.2.2.1 x.2.2.2).names, x.1]) ∧ ((s.op = 5 → MksOk g x.2.2.1 ∧ CmsOk g x.2.2.2) ∧ plainR x.2.1 = (stepG g s x.2.2.1 x.2.2.2).rules) ∧ Sat (Old w) w [rulesA x.1 x.2.1, symsA x.2.1] w') := by
  have hg0 := hg
  obtain ⟨rv, rfl, hr⟩ := hg.mono old_rd
  obtain ⟨a, c, rfl, hc1, hc2, hrs⟩ := id hr
  clear hg
  have hM := mayB_true.1 hm
  have hr8 : ∀ r ∈ g.rules, r.right.length ≤ 1000 := fun r hr => by
    obtain ⟨k, hk⟩ := List.getElem?_of_mem hr
    have := (may_rule hm hk).2.2
    omega
  refine calls_CW Try.func20 rfl Try.ntmps20 rfl (Sat.start w) ?_
  refine CW_seq ?_
  refine CW_region ?_
  refine OW_e (e_box rfl rfl) rfl (fun b2 => ?_)
  refine OW_e (e_box rfl rfl) rfl (fun b3 => ?_)
  refine OW_e (e_alloc Try.zeroValue24 rfl) rfl (fun b4 => ?_)
  refine OW_nil ?_
  refine EW_then ?_
  refine CW_seq ?_
  refine CW_region ?_
  first | (refine OW_q (q_loadN_own Try.isAgg24 Try.sizeOf24 rfl rfl (by (repeat (first | exact .head | apply Swap.tail))) (by rfl)) rfl ?_) | (refine OW_q (q_loadN_ro Try.isAgg24 Try.sizeOf24 rfl (by first | assumption | exact Row.at_ (by assumption) rfl) (by rfl)) rfl ?_)
  refine OW_e (e_call Try.call30 rfl (fun w hw => lift_oldP (cloneG_any _ g w (by omega) hr8 (hg0.mono (fun _ _ h => hw.rd (Rd.old h)))) hw)) rfl (fun x20 => ?_)
  refine OW_pure fun hx20 => ?_
  obtain ⟨ov, rs⟩ := x20
  have hrl : plainR rs = g.rules := hx20
  have hrsl : rs.length = g.rules.length := by rw [← hrl]; simp [plainR]
  refine OW_fact (fun w hw => hw.tform (v := ov) (l := rs) (enc := encRV) (by repeat (first | exact .head | apply Swap.tail))) (fun hf => ?_)
  obtain ⟨ao, co, rfl, _, _, hbo⟩ := hf
  refine OW_spell 20 (.agg #[.int .i64 g.terms, .int .i64 g.names, .slice ao rs.length co]) rfl rfl ?_
  refine OW_weak (S' := Sat (Old w) w [rulesA (.slice ao rs.length co) rs, symsA rs, cel b4 24 [.int .i64 0, .int .i64 0, .slice none 0 0], cel b3 26 [.int .i64 s.op, .int .i64 s.a, .int .i64 s.b, .int .i64 s.c], cel b2 24 [.int .i64 g.terms, .int .i64 g.names, .slice a g.rules.length c]]) (fun w hw => hw) ?_
  refine OW_fact (fun w hw => hw.symsOne (by repeat (first | exact .head | apply Swap.tail))) (fun hone => ?_)
  refine OW_e (e_alloc Try.zeroValue24 rfl) rfl (fun b5 => ?_)
  refine OW_e0 (e_storeN Try.sizeOf24 rfl rfl rfl rfl (by simp [Value.oneCell']) (by (repeat (first | exact .head | apply Swap.tail))) (by rfl)) (fun _ => ?_)
  refine OW_nil ?_
  refine EW_then ?_
  refine CW_seq ?_
  refine CW_region ?_
  refine OW_q (q_fieldAddr Try.underlying24 rfl rfl Try.sizeOf3 rfl rfl) rfl ?_
  first | (refine OW_q (q_load1_own Try.isAgg3 rfl rfl (by (repeat (first | exact .head | apply Swap.tail))) (by rfl)) rfl ?_) | (refine OW_q (q_load1_ro Try.isAgg3 rfl (by first | assumption | exact Row.at_ (by assumption) rfl)) rfl ?_)
  refine OW_e (e_call Try.call31 rfl (fun w hw => lift_ro (name_any g.names w) hw)) rfl (fun x23 => ?_)
  refine OW_e (e_alloc Try.zeroValue51 rfl) rfl (fun b6 => ?_)
  refine OW_e0 (e_storeN Try.sizeOf51 rfl rfl rfl rfl (by simp [Value.oneCell']) (by (repeat (first | exact .head | apply Swap.tail))) (by rfl)) (fun _ => ?_)
  refine OW_nil ?_
  refine EW_then ?_
  refine CW_seq ?_
  refine CW_seq ?_
  refine CW_region ?_
  refine OW_q (q_fieldAddr Try.underlying26 rfl rfl Try.sizeOf3 rfl rfl) rfl ?_
  first | (refine OW_q (q_load1_own Try.isAgg3 rfl rfl (by (repeat (first | exact .head | apply Swap.tail))) (by rfl)) rfl ?_) | (refine OW_q (q_load1_ro Try.isAgg3 rfl (by first | assumption | exact Row.at_ (by assumption) rfl)) rfl ?_)
  refine OW_nil ?_
  refine EW_then ?_
  refine CW_block ?_
  refine CW_seq ?_
  refine CW_region ?_
  refine OW_q (q_eqi rfl rfl) rfl ?_
  refine OW_q (q_assign rfl) rfl ?_
  refine OW_nil ?_
  refine EW_then ?_
  refine CW_true rfl (by simp [hop]) ?_
  have hr8' : ∀ x ∈ rs, x.r.right.length ≤ 1000 := fun x hx => hr8 _ (by rw [← hrl]; exact List.mem_map_of_mem hx)
  refine CW_region ?_
  refine OW_q (q_fieldAddr Try.underlying26 rfl rfl Try.sizeOf3 rfl rfl) rfl ?_
  first | (refine OW_q (q_load1_own Try.isAgg3 rfl rfl (by (repeat (first | exact .head | apply Swap.tail))) (by rfl)) rfl ?_) | (refine OW_q (q_load1_ro Try.isAgg3 rfl (by first | assumption | exact Row.at_ (by assumption) rfl)) rfl ?_)
  refine OW_q (q_fieldAddr Try.underlying26 rfl rfl Try.sizeOf3 rfl rfl) rfl ?_
  first | (refine OW_q (q_load1_own Try.isAgg3 rfl rfl (by (repeat (first | exact .head | apply Swap.tail))) (by rfl)) rfl ?_) | (refine OW_q (q_load1_ro Try.isAgg3 rfl (by first | assumption | exact Row.at_ (by assumption) rfl)) rfl ?_)
  refine OW_e (e_call Try.call32 rfl (fun w hw => lift_mutL (M0 := [cel b5 24 [.int .i64 g.terms, .int .i64 g.names, .slice ao rs.length co], rulesA (.slice ao rs.length co) rs, symsA rs]) (L1 := [cel b6 51 [.bool false, .int .i64 g.names], cel b4 24 [.int .i64 0, .int .i64 0, .slice none 0 0], cel b3 26 [.int .i64 s.op, .int .i64 s.a, .int .i64 s.b, .int .i64 s.c], cel b2 24 [.int .i64 g.terms, .int .i64 g.names, .slice a g.rules.length c]]) (hw.sub (by repeat (first | exact SubL.nil | exact Pick.head | apply Pick.tail | apply SubL.cons))) (fun F2 hF => swapG_any b5 _ _ s.a s.b _ rs _ _ w F2 (by omega) hr8' hF))) rfl (fun x32 => ?_)
  refine OW_pure fun _ => ?_
  refine OW_nil ?_
  refine EW_block_normal ?_
  refine EW_then ?_
  refine CW_seq ?_
  refine CW_region ?_
  first | (refine OW_q (q_loadN_own Try.isAgg24 Try.sizeOf24 rfl rfl (by (repeat (first | exact .head | apply Swap.tail))) (by rfl)) rfl ?_) | (refine OW_q (q_loadN_ro Try.isAgg24 Try.sizeOf24 rfl (by first | assumption | exact Row.at_ (by assumption) rfl) (by rfl)) rfl ?_)
  refine OW_e0 (e_storeN Try.sizeOf24 rfl rfl rfl rfl (by simp [Value.oneCell']) (by (repeat (first | exact .head | apply Swap.tail))) (by rfl)) (fun _ => ?_)
  refine OW_nil ?_
  refine EW_then ?_
  refine CW_ret ?_
  refine retc1a (vs := [.int .i64 g.terms, .int .i64 g.names, .slice ao rs.length co]) Try.results20 Try.isAgg24 Try.sizeOf24 rfl rfl (fun w hw j u hj => by rw [Addr.add_lit, hw.cell (t := 24) (cs := [.int .i64 g.terms, .int .i64 g.names, .slice ao rs.length co]) (A' := cel b4 24 [.int .i64 g.terms, .int .i64 g.names, .slice ao rs.length co]) (by repeat (first | exact .head | apply Swap.tail)), Nat.zero_add]; exact hj) (fun w hw => ?_)
  have hst : ∀ ms cs, stepG g s ms cs = ⟨g.terms, g.names, g.rules.map (swapR s.a s.b)⟩ := fun ms cs => by unfold stepG; rw [if_pos hop]
  refine ⟨(.slice ao rs.length co, rs.map (swRV s.a s.b), [], []), by simp only [hst], ⟨fun h => by omega, ?_⟩, hw.sub (by repeat (first | exact SubL.nil | exact Pick.head | apply Pick.tail | apply SubL.cons))⟩
  simp only [hst]
  rw [← hrl]
  simp [plainR, swRV]

set_option maxRecDepth 20000 in
theorem change5_any (gv : Value) (g : Gram) (s : SStep) (w : World) (hm : mayB g = true) (hs : mayS g s = true) (hop : s.op = 5) (hg : GramAt (Cl w) gv g) : Calls Try.prog 20 #[gv, stepV s] w (fun e w' => ∃ x : Value × List RV × List Bool × List Bool, e = .returned (.agg #[.int .i64 g.terms, .int .i64 (stepG g s x.2.2.1 x.2.2.2).names, x.1]) ∧ ((s.op = 5 → MksOk g x.2.2.1 ∧ CmsOk g x.2.2.2) ∧ plainR x.2.1 = (stepG g s x.2.2.1 x.2.2.2).rules) ∧ Sat (Old w) w [rulesA x.1 x.2.1, symsA x.2.1] w') := by
  have hg0 := hg
  obtain ⟨rv, rfl, hr⟩ := hg.mono old_rd
  obtain ⟨a, c, rfl, hc1, hc2, hrs⟩ := id hr
  clear hg
  have hM := mayB_true.1 hm
  have hr8 : ∀ r ∈ g.rules, r.right.length ≤ 1000 := fun r hr => by
    obtain ⟨k, hk⟩ := List.getElem?_of_mem hr
    have := (may_rule hm hk).2.2
    omega
  refine calls_CW Try.func20 rfl Try.ntmps20 rfl (Sat.start w) ?_
  refine CW_seq ?_
  refine CW_region ?_
  refine OW_e (e_box rfl rfl) rfl (fun b2 => ?_)
  refine OW_e (e_box rfl rfl) rfl (fun b3 => ?_)
  refine OW_e (e_alloc Try.zeroValue24 rfl) rfl (fun b4 => ?_)
  refine OW_nil ?_
  refine EW_then ?_
  refine CW_seq ?_
  refine CW_region ?_
  first | (refine OW_q (q_loadN_own Try.isAgg24 Try.sizeOf24 rfl rfl (by (repeat (first | exact .head | apply Swap.tail))) (by rfl)) rfl ?_) | (refine OW_q (q_loadN_ro Try.isAgg24 Try.sizeOf24 rfl (by first | assumption | exact Row.at_ (by assumption) rfl) (by rfl)) rfl ?_)
  refine OW_e (e_call Try.call30 rfl (fun w hw => lift_oldP (cloneG_any _ g w (by omega) hr8 (hg0.mono (fun _ _ h => hw.rd (Rd.old h)))) hw)) rfl (fun x20 => ?_)
  refine OW_pure fun hx20 => ?_
  obtain ⟨ov, rs⟩ := x20
  have hrl : plainR rs = g.rules := hx20
  have hrsl : rs.length = g.rules.length := by rw [← hrl]; simp [plainR]
  refine OW_fact (fun w hw => hw.tform (v := ov) (l := rs) (enc := encRV) (by repeat (first | exact .head | apply Swap.tail))) (fun hf => ?_)
  obtain ⟨ao, co, rfl, _, _, hbo⟩ := hf
  refine OW_spell 20 (.agg #[.int .i64 g.terms, .int .i64 g.names, .slice ao rs.length co]) rfl rfl ?_
  refine OW_weak (S' := Sat (Old w) w [rulesA (.slice ao rs.length co) rs, symsA rs, cel b4 24 [.int .i64 0, .int .i64 0, .slice none 0 0], cel b3 26 [.int .i64 s.op, .int .i64 s.a, .int .i64 s.b, .int .i64 s.c], cel b2 24 [.int .i64 g.terms, .int .i64 g.names, .slice a g.rules.length c]]) (fun w hw => hw) ?_
  refine OW_fact (fun w hw => hw.symsOne (by repeat (first | exact .head | apply Swap.tail))) (fun hone => ?_)
  refine OW_e (e_alloc Try.zeroValue24 rfl) rfl (fun b5 => ?_)
  refine OW_e0 (e_storeN Try.sizeOf24 rfl rfl rfl rfl (by simp [Value.oneCell']) (by (repeat (first | exact .head | apply Swap.tail))) (by rfl)) (fun _ => ?_)
  refine OW_nil ?_
  refine EW_then ?_
  refine CW_seq ?_
  refine CW_region ?_
  refine OW_q (q_fieldAddr Try.underlying24 rfl rfl Try.sizeOf3 rfl rfl) rfl ?_
  first | (refine OW_q (q_load1_own Try.isAgg3 rfl rfl (by (repeat (first | exact .head | apply Swap.tail))) (by rfl)) rfl ?_) | (refine OW_q (q_load1_ro Try.isAgg3 rfl (by first | assumption | exact Row.at_ (by assumption) rfl)) rfl ?_)
  refine OW_e (e_call Try.call31 rfl (fun w hw => lift_ro (name_any g.names w) hw)) rfl (fun x23 => ?_)
  refine OW_e (e_alloc Try.zeroValue51 rfl) rfl (fun b6 => ?_)
  refine OW_e0 (e_storeN Try.sizeOf51 rfl rfl rfl rfl (by simp [Value.oneCell']) (by (repeat (first | exact .head | apply Swap.tail))) (by rfl)) (fun _ => ?_)
  refine OW_nil ?_
  refine EW_then ?_
  refine CW_seq ?_
  refine CW_seq ?_
  refine CW_region ?_
  refine OW_q (q_fieldAddr Try.underlying26 rfl rfl Try.sizeOf3 rfl rfl) rfl ?_
  first | (refine OW_q (q_load1_own Try.isAgg3 rfl rfl (by (repeat (first | exact .head | apply Swap.tail))) (by rfl)) rfl ?_) | (refine OW_q (q_load1_ro Try.isAgg3 rfl (by first | assumption | exact Row.at_ (by assumption) rfl)) rfl ?_)
  refine OW_nil ?_
  refine EW_then ?_
  refine CW_block ?_
  refine CW_seq ?_
  refine CW_region ?_
  refine OW_q (q_eqi rfl rfl) rfl ?_
  refine OW_q (q_assign rfl) rfl ?_
  refine OW_nil ?_
  refine EW_then ?_
  refine CW_false rfl (by simp [hop]) ?_
  refine CW_seq ?_
  refine CW_region ?_
  refine OW_q (q_eqi rfl rfl) rfl ?_
  refine OW_q (q_assign rfl) rfl ?_
  refine OW_nil ?_
  refine EW_then ?_
  refine CW_false rfl (by simp [hop]) ?_
  refine CW_seq ?_
  refine CW_region ?_
  refine OW_q (q_eqi rfl rfl) rfl ?_
  refine OW_q (q_assign rfl) rfl ?_
  refine OW_nil ?_
  refine EW_then ?_
  refine CW_false rfl (by simp [hop]) ?_
  refine CW_seq ?_
  refine CW_region ?_
  refine OW_q (q_eqi rfl rfl) rfl ?_
  refine OW_q (q_assign rfl) rfl ?_
  refine OW_nil ?_
  refine EW_then ?_
  refine CW_false rfl (by simp [hop]) ?_
  refine CW_seq ?_
  refine CW_region ?_
  refine OW_q (q_eqi rfl rfl) rfl ?_
  refine OW_q (q_assign rfl) rfl ?_
  refine OW_nil ?_
  refine EW_then ?_
  refine CW_true rfl (by simp [hop]) ?_
  refine CW_seq ?_
  refine CW_region ?_
  refine OW_q (q_assign rfl) rfl ?_
  refine OW_nil ?_
  refine EW_then ?_
  refine CW_seq ?_
  refine CW_seq ?_
  refine CW_region ?_
  first | (refine OW_q (q_loadN_own Try.isAgg24 Try.sizeOf24 rfl rfl (by (repeat (first | exact .head | apply Swap.tail))) (by rfl)) rfl ?_) | (refine OW_q (q_loadN_ro Try.isAgg24 Try.sizeOf24 rfl (by first | assumption | exact Row.at_ (by assumption) rfl) (by rfl)) rfl ?_)
  refine OW_e (e_call Try.call36 rfl (fun w hw => lift_oldP (kept_any _ g w hm (hg0.mono (fun _ _ h => hw.rd (Rd.old h)))) hw)) rfl (fun x192 => ?_)
  refine OW_pure fun hx192 => ?_
  obtain ⟨v192, ms, cs⟩ := x192
  have hmc : MksOk g ms ∧ CmsOk g cs := hx192
  obtain ⟨kl, hkl⟩ : ∃ kl, kl = keptK g ms cs g.rules.length := ⟨_, rfl⟩
  refine OW_weak (S' := Sat (Old w) w [trow 3 1 encN v192 (kl.map (fun (z : Nat) => (z : Int))), rulesA (.slice ao rs.length co) rs, symsA rs, cel b6 51 [.bool false, .int .i64 g.names], cel b5 24 [.int .i64 g.terms, .int .i64 g.names, .slice ao rs.length co], cel b4 24 [.int .i64 0, .int .i64 0, .slice none 0 0], cel b3 26 [.int .i64 s.op, .int .i64 s.a, .int .i64 s.b, .int .i64 s.c], cel b2 24 [.int .i64 g.terms, .int .i64 g.names, .slice a g.rules.length c]]) (fun w hw => by rw [hkl]; exact hw.sub (by repeat (first | exact SubL.nil | exact Pick.head | apply Pick.tail | apply SubL.cons))) ?_
  refine OW_fact (fun w hw => hw.tform (v := v192) (l := kl.map (fun (z : Nat) => (z : Int))) (enc := encN) (by repeat (first | exact .head | apply Swap.tail))) (fun hf => ?_)
  obtain ⟨aq, cq, rfl, _, _, hbq⟩ := hf
  rw [List.length_map] at hbq
  refine OW_spell 192 (.slice aq kl.length cq) rfl (by rw [List.length_map]) ?_
  refine OW_weak (S' := Sat (Old w) w [trow 3 1 encN (.slice aq kl.length cq) (kl.map (fun (z : Nat) => (z : Int))), rulesA (.slice ao rs.length co) rs, symsA rs, cel b6 51 [.bool false, .int .i64 g.names], cel b5 24 [.int .i64 g.terms, .int .i64 g.names, .slice ao rs.length co], cel b4 24 [.int .i64 0, .int .i64 0, .slice none 0 0], cel b3 26 [.int .i64 s.op, .int .i64 s.a, .int .i64 s.b, .int .i64 s.c], cel b2 24 [.int .i64 g.terms, .int .i64 g.names, .slice a g.rules.length c]]) (fun w hw => by rw [List.length_map] at hw; exact hw) ?_
  have hkll : kl.length ≤ g.rules.length := by rw [hkl]; exact keptK_len _ _ _ _
  refine OW_q (q_len Try.underlying32 rfl) rfl ?_
  refine OW_q (q_move rfl) rfl ?_
  refine OW_nil ?_
  refine EW_then ?_
  refine CW_block ?_
  refine CW_weak (S' := Sat (Old w) w [trow 3 1 encN (.slice aq kl.length cq) (kl.map (fun (z : Nat) => (z : Int))), rulesA (.slice none 0 0) [], rulesA (.slice ao rs.length co) rs, symsA rs, cel b6 51 [.bool false, .int .i64 g.names], cel b5 24 [.int .i64 g.terms, .int .i64 g.names, .slice ao rs.length co], cel b4 24 [.int .i64 0, .int .i64 0, .slice none 0 0], cel b3 26 [.int .i64 s.op, .int .i64 s.a, .int .i64 s.b, .int .i64 s.c], cel b2 24 [.int .i64 g.terms, .int .i64 g.names, .slice a g.rules.length c]]) (fun w hw => (hw.tnil 49 2 encRV).sub (by repeat (first | exact SubL.nil | exact Pick.head | apply Pick.tail | apply SubL.cons))) ?_
  refine CW_loopP (ι := Nat × Value × List RV) (fun i_ => i_.1 ≤ kl.length ∧ i_.2.2 = (kl.take i_.1).filterMap (fun z => rs[z]?)) (fun i_ => [(2, .pointer (some ⟨b2, 0, none⟩)), (3, .pointer (some ⟨b3, 0, none⟩)), (4, .pointer (some ⟨b4, 0, none⟩)), (5, .pointer (some ⟨b5, 0, none⟩)), (6, .pointer (some ⟨b6, 0, none⟩)), (16, i_.2.1), (192, .slice aq kl.length cq), (193, .int .i64 (kl.length : Int)), (194, .int .i64 (i_.1 : Int))]) (fun i_ => Sat (Old w) w [trow 3 1 encN (.slice aq kl.length cq) (kl.map (fun (z : Nat) => (z : Int))), rulesA i_.2.1 i_.2.2, rulesA (.slice ao rs.length co) rs, symsA rs, cel b6 51 [.bool false, .int .i64 g.names], cel b5 24 [.int .i64 g.terms, .int .i64 g.names, .slice ao rs.length co], cel b4 24 [.int .i64 0, .int .i64 0, .slice none 0 0], cel b3 26 [.int .i64 s.op, .int .i64 s.a, .int .i64 s.b, .int .i64 s.c], cel b2 24 [.int .i64 g.terms, .int .i64 g.names, .slice a g.rules.length c]]) (fun i_ => kl.length - i_.1) (0, .slice none 0 0, []) ?_ ⟨rfl, rfl, rfl, rfl, rfl, rfl, rfl, rfl, rfl, trivial⟩ (fun w hw => hw.sub (by (repeat (first | exact SubL.nil | exact Pick.head | apply Pick.tail | apply SubL.cons)))) ?_
  · exact ⟨Nat.zero_le _, by simp⟩
  intro i_ hpre
  obtain ⟨k, lv, lrs⟩ := i_
  replace hpre : k ≤ kl.length ∧ lrs = (kl.take k).filterMap (fun z => rs[z]?) := hpre
  change CW _ _ _ _ [(2, .pointer (some ⟨b2, 0, none⟩)), (3, .pointer (some ⟨b3, 0, none⟩)), (4, .pointer (some ⟨b4, 0, none⟩)), (5, .pointer (some ⟨b5, 0, none⟩)), (6, .pointer (some ⟨b6, 0, none⟩)), (16, lv), (192, .slice aq kl.length cq), (193, .int .i64 (kl.length : Int)), (194, .int .i64 (k : Int))] (Sat (Old w) w [trow 3 1 encN (.slice aq kl.length cq) (kl.map (fun (z : Nat) => (z : Int))), rulesA lv lrs, rulesA (.slice ao rs.length co) rs, symsA rs, cel b6 51 [.bool false, .int .i64 g.names], cel b5 24 [.int .i64 g.terms, .int .i64 g.names, .slice ao rs.length co], cel b4 24 [.int .i64 0, .int .i64 0, .slice none 0 0], cel b3 26 [.int .i64 s.op, .int .i64 s.a, .int .i64 s.b, .int .i64 s.c], cel b2 24 [.int .i64 g.terms, .int .i64 g.names, .slice a g.rules.length c]])
  obtain ⟨hk, hlr⟩ := hpre
  have hll : lrs.length ≤ k := by rw [hlr]; have := List.length_filterMap_le (fun z => rs[z]?) (kl.take k); rw [List.length_take] at this; omega
  refine CW_seq ?_
  refine CW_region ?_
  refine OW_q (q_lss rfl rfl) rfl ?_
  refine OW_nil ?_
  refine EW_then ?_
  refine CW_seq ?_
  refine CW_cond rfl (fun h195 => ?_) (fun h195 => ?_)
  · skip
    have hlk : k < kl.length := by have := of_decide_eq_true h195; omega
    obtain ⟨j, hj⟩ := get_of_lt hlk
    have hjm : (kl.map (fun (z : Nat) => (z : Int)))[k]? = some ((j : Nat) : Int) := by rw [List.getElem?_map, hj]; rfl
    obtain ⟨bq, rfl⟩ := hbq (by omega)
    have hjr : j < g.rules.length := by
      have h1 := List.mem_of_getElem? hj
      rw [hkl] at h1
      have := (List.mem_filter.1 h1).1
      exact List.mem_range.1 this
    obtain ⟨x, hx⟩ := get_of_lt (l := rs) (k := j) (by omega)
    obtain ⟨bo, rfl⟩ := hbo (by omega)
    have hxo := hone x (List.mem_of_getElem? hx)
    refine CW_skip ?_
    refine EW_then ?_
    refine CW_seq ?_
    refine CW_block ?_
    refine CW_seq ?_
    refine CW_region ?_
    refine OW_q (q_indexAddr Try.underlying32 Try.sizeOf3 rfl rfl (by first | omega | assumption)) rfl ?_
    refine OW_q (q_load_t1 (enc := encN) (k := k) (v := .slice (some ⟨bq, 0, none⟩) kl.length cq) (l := kl.map (fun (z : Nat) => (z : Int))) Try.isAgg3 (fun _ => rfl) rfl (by repeat (first | exact .head | apply Swap.tail)) rfl hjm rfl) rfl ?_
    refine OW_q (q_assign rfl) rfl ?_
    refine OW_nil ?_
    refine EW_then ?_
    refine CW_region ?_
    refine OW_q (q_move rfl) rfl ?_
    refine OW_q (q_fieldAddr Try.underlying24 rfl rfl Try.sizeOf22 rfl rfl) rfl ?_
    first | (refine OW_q (q_load1_own Try.isAgg22 rfl rfl (by (repeat (first | exact .head | apply Swap.tail))) (by rfl)) rfl ?_) | (refine OW_q (q_load1_ro Try.isAgg22 rfl (by first | assumption | exact Row.at_ (by assumption) rfl)) rfl ?_)
    refine OW_q (q_move rfl) rfl ?_
    refine OW_q (q_indexAddr Try.underlying22 Try.sizeOf49 rfl rfl (by first | omega | assumption)) rfl ?_
    refine OW_q (q_loadN_t (enc := encRV) (k := j) (v := .slice (some ⟨bo, 0, none⟩) rs.length co) (l := rs) Try.isAgg49 Try.sizeOf49 (fun _ => rfl) rfl (by repeat (first | exact .head | apply Swap.tail)) rfl hx) rfl ?_
    refine OW_e (e_single Try.underlying22 Try.sizeOf49 Try.zeroValue49 (e := 49) (v := .agg (encRV x).toArray) (cs := encRV x) rfl rfl rfl rfl (by decide) (by decide)) rfl (fun b204 => ?_)
    refine OW_e (e_append_t (x0 := x) (enc := encRV) (l := lrs) Try.underlying22 Try.typeInfo49 rfl rfl rfl rfl rfl rfl rfl (by repeat (first | exact .head | apply Pick.tail)) rfl (by exact fun w hw => hw.news (by repeat (first | exact .head | apply Swap.tail))) (encRV_1 hxo) (by omega) (by decide)) rfl (fun v205 => ?_)
    refine OW_q (q_assign rfl) rfl ?_
    refine OW_nil ?_
    refine EW_block_normal ?_
    refine EW_then ?_
    refine CW_region ?_
    first | refine OW_q (q_inc rfl rfl (by omega)) rfl ?_ | refine OW_q (q_add rfl rfl (by omega) (by omega)) rfl ?_
    refine OW_q (q_move rfl) rfl ?_
    refine OW_nil ?_
    refine EW_again ((k + 1, v205, lrs ++ [x])) ⟨?_, ?_⟩ ⟨rfl, rfl, rfl, rfl, rfl, rfl, rfl, rfl, rfl, trivial⟩ (fun w hw => hw.sub (by (repeat (first | exact SubL.nil | exact Pick.head | apply Pick.tail | apply SubL.cons))))
    · show kl.length - (k + 1) < kl.length - k; omega
    · refine ⟨by show k + 1 ≤ _; omega, ?_⟩
      show lrs ++ [x] = _
      rw [take_next hj, List.filterMap_append, ← hlr]
      simp [hx]
  · skip
    have hke : k = kl.length := by have := of_decide_eq_false h195; omega
    refine CW_exit ?_
    refine EW_then_exit ?_
    refine EW_out ?_
    refine EW_block_exit ?_
    refine EW_then ?_
    refine CW_fact (fun w hw => hw.tform (v := lv) (l := lrs) (enc := encRV) (by repeat (first | exact .head | apply Swap.tail))) (fun hf => ?_)
    obtain ⟨al, cl, rfl, _, _, hbl⟩ := hf
    refine CW_region ?_
    refine OW_q (q_move rfl) rfl ?_
    refine OW_q (q_fieldAddr Try.underlying24 rfl rfl Try.sizeOf22 rfl rfl) rfl ?_
    refine OW_e0 (e_store Try.sizeOf22 rfl rfl rfl rfl (by (repeat (first | exact .head | apply Swap.tail))) (by rfl)) (fun _ => ?_)
    refine OW_nil ?_
    refine EW_block_normal ?_
    refine EW_then ?_
    refine CW_seq ?_
    refine CW_region ?_
    first | (refine OW_q (q_loadN_own Try.isAgg24 Try.sizeOf24 rfl rfl (by (repeat (first | exact .head | apply Swap.tail))) (by rfl)) rfl ?_) | (refine OW_q (q_loadN_ro Try.isAgg24 Try.sizeOf24 rfl (by first | assumption | exact Row.at_ (by assumption) rfl) (by rfl)) rfl ?_)
    refine OW_e0 (e_storeN Try.sizeOf24 rfl rfl rfl rfl (by simp [Value.oneCell']) (by (repeat (first | exact .head | apply Swap.tail))) (by rfl)) (fun _ => ?_)
    refine OW_nil ?_
    refine EW_then ?_
    refine CW_ret ?_
    refine retc1a (vs := [.int .i64 g.terms, .int .i64 g.names, .slice al lrs.length cl]) Try.results20 Try.isAgg24 Try.sizeOf24 rfl rfl (fun w hw j u hj => by rw [Addr.add_lit, hw.cell (t := 24) (cs := [.int .i64 g.terms, .int .i64 g.names, .slice al lrs.length cl]) (A' := cel b4 24 [.int .i64 g.terms, .int .i64 g.names, .slice al lrs.length cl]) (by repeat (first | exact .head | apply Swap.tail)), Nat.zero_add]; exact hj) (fun w hw => ?_)
    have hst : stepG g s ms cs = ⟨g.terms, g.names, g.rules.filter (keptB ms cs)⟩ := by unfold stepG; rw [if_neg (by omega), if_neg (by omega), if_neg (by omega), if_neg (by omega)]
    have hlf : lrs = rs.filter (fun x => keptB ms cs x.r) := by rw [hlr, hke, List.take_length, hkl]; exact keptK_pick hrl
    refine ⟨(.slice al lrs.length cl, lrs, ms, cs), by simp only [hst], ⟨fun _ => hmc, ?_⟩, ?_⟩
    · simp only [hst]
      rw [hlf, ← hrl]
      simp [plainR, List.filter_map, Function.comp_def]
    · have h1 : Sat (Old _) _ (symsA rs :: [rulesA (.slice al lrs.length cl) lrs]) w := hw.sub (by repeat (first | exact SubL.nil | exact Pick.head | apply Pick.tail | apply SubL.cons))
      have h2 := h1.symsSub (l := lrs) (by rw [hlf]; exact List.filter_sublist)
      exact h2.sub (by repeat (first | exact SubL.nil | exact Pick.head | apply Pick.tail | apply SubL.cons))

end Go.Sy
