/- Walks and plain laws, part 7. No condition. -/
import Derived.Test.YteceklkjbcebkabM3
import Derived.Test.YteceklkjbcebkabM4
import Derived.Test.YteceklkjbcebkabM6
/- step.change: swaps and prunes. No condition. -/
namespace Go.Sy
open Go Go.RowKit Go.Proofs

theorem range_pick {α : Type} (l : List α) (f : α → Bool) : ∀ n : Nat, ((List.range n).filter (fun k => decide (l[k]?.map f = some true))).filterMap (fun k => l[k]?) = (l.take n).filter f
 | 0 => by simp
 | n + 1 => by
   rw [List.range_succ, List.filter_append, List.filterMap_append, range_pick l f n, List.take_add_one, List.filter_append]
   congr 1
   cases h : l[n]? with
   | none => simp [h]
   | some x =>
     cases hf : f x <;> simp [h, hf]
theorem keptK_pick {g : Gram} {ms cs : List Bool} {rs : List RV} (hrl : plainR rs = g.rules) : (keptK g ms cs g.rules.length).filterMap (fun k => rs[k]?) = rs.filter (fun x => keptB ms cs x.r) := by
 have hl : rs.length = g.rules.length := by rw [← hrl]; simp [plainR]
 have := range_pick rs (fun x => keptB ms cs x.r) rs.length
 rw [List.take_length] at this
 rw [← this]
 unfold keptK
 rw [hl]
 congr 1
 apply List.filter_congr
 intro k _
 rw [← hrl]
 unfold plainR
 rw [List.getElem?_map]
 cases rs[k]? <;> simp
set_option maxRecDepth 20000 in
theorem change1_any (gv : Value) (g : Gram) (s : SStep) (w : World) (hm : mayB g = true) (hs : mayS g s = true) (hop : s.op = 1) (hg : GramAt (Cl w) gv g) : Calls Try.prog 20 #[gv, stepV s] w (fun e w' => ∃ x : Value × List RV × List Bool × List Bool, e = .returned (.agg #[.int .i64 g.terms, .int .i64 (stepG g s x.2.2.1 x.2.2.2).names, x.1]) ∧ ((s.op = 5 → MksOk g x.2.2.1 ∧ CmsOk g x.2.2.2) ∧ plainR x.2.1 = (stepG g s x.2.2.1 x.2.2.2).rules) ∧ Sat (Old w) w [rulesA x.1 x.2.1, symsA x.2.1] w') := by
 have hg0 := hg
 obtain ⟨rv, rfl, hr⟩ := hg.mono old_rd
 obtain ⟨a, c, rfl, hc1, hc2, hrs⟩ := id hr
 clear hg
 have hM := mayB_true.1 hm
 have hr8 : ∀ r ∈ g.rules, r.right.length ≤ 1000 := fun r hr => by
   obtain ⟨k, hk⟩ := List.getElem?_of_mem hr
   have := (may_rule hm hk).2.2
   omega
 refine calls_CW Try.func20 rfl Try.ntmps20 rfl (Sat.start w) ?_
 refine nx3 ?_
 refine OW_e (e_box rfl rfl) rfl (fun b2 => ?_)
 refine OW_e (e_box rfl rfl) rfl (fun b3 => ?_)
 refine OW_e (e_alloc Try.zeroValue24 rfl) rfl (fun b4 => ?_)
 refine nx4 ?_
 refine OW_q (q_loadN_own Try.isAgg24 Try.sizeOf24 rfl rfl swt (by rfl)) rfl ?_
 refine OW_e (e_call Try.call30 rfl (fun w hw => lift_oldP (cloneG_any _ g w (by omega) hr8 (hg0.mono (fun _ _ h => hw.rd (Rd.old h)))) hw)) rfl (fun x20 => ?_)
 refine OW_pure fun hx20 => ?_
 obtain ⟨ov, rs⟩ := x20
 have hrl : plainR rs = g.rules := hx20
 have hrsl : rs.length = g.rules.length := by rw [← hrl]; simp [plainR]
 refine OW_fact (fun w hw => hw.tform (v := ov) (l := rs) (enc := encRV) swt) (fun hf => ?_)
 obtain ⟨ao, co, rfl, _, _, hbo⟩ := hf
 refine OW_spell 20 (.agg #[.int .i64 g.terms, .int .i64 g.names, .slice ao rs.length co]) rfl rfl ?_
 refine OW_weak (S' := Sat (Old w) w [rulesA (.slice ao rs.length co) rs, symsA rs, cel b4 24 [.int .i64 0, .int .i64 0, .slice none 0 0], cel b3 26 [.int .i64 s.op, .int .i64 s.a, .int .i64 s.b, .int .i64 s.c], cel b2 24 [.int .i64 g.terms, .int .i64 g.names, .slice a g.rules.length c]]) (fun w hw => hw) ?_
 refine OW_fact (fun w hw => hw.symsOne swt) (fun hone => ?_)
 refine OW_e (e_alloc Try.zeroValue24 rfl) rfl (fun b5 => ?_)
 refine OW_e0 (e_storeN Try.sizeOf24 rfl rfl rfl rfl (by simp [Value.oneCell']) swt (by rfl)) (fun _ => ?_)
 refine nx4 ?_
 refine OW_q (q_fieldAddr Try.underlying24 rfl rfl Try.sizeOf3 rfl rfl) rfl ?_
 refine OW_q (q_load1_own Try.isAgg3 rfl rfl swt (by rfl)) rfl ?_
 refine OW_e (e_call Try.call31 rfl (fun w hw => lift_ro (name_any g.names w) hw)) rfl (fun x23 => ?_)
 refine OW_e (e_alloc Try.zeroValue51 rfl) rfl (fun b6 => ?_)
 refine OW_e0 (e_storeN Try.sizeOf51 rfl rfl rfl rfl (by simp [Value.oneCell']) swt (by rfl)) (fun _ => ?_)
 refine nx2 ?_
 refine CW_seq ?_
 refine nx3 ?_
 refine OW_q (q_fieldAddr Try.underlying26 rfl rfl Try.sizeOf3 rfl rfl) rfl ?_
 refine OW_q (q_load1_own Try.isAgg3 rfl rfl swt (by rfl)) rfl ?_
 refine nx2 ?_
 refine CW_block ?_
 refine nx3 ?_
 refine OW_q (q_eqi rfl rfl) rfl ?_
 refine aO ?_
 refine nx2 ?_
 refine CW_true rfl (by simp [hop]) ?_
 have hr8' : ∀ x ∈ rs, x.r.right.length ≤ 1000 := fun x hx => hr8 _ (by rw [← hrl]; exact List.mem_map_of_mem hx)
 refine CW_region ?_
 refine OW_q (q_fieldAddr Try.underlying26 rfl rfl Try.sizeOf3 rfl rfl) rfl ?_
 refine OW_q (q_load1_own Try.isAgg3 rfl rfl swt (by rfl)) rfl ?_
 refine OW_q (q_fieldAddr Try.underlying26 rfl rfl Try.sizeOf3 rfl rfl) rfl ?_
 refine OW_q (q_load1_own Try.isAgg3 rfl rfl swt (by rfl)) rfl ?_
 refine OW_e (e_call Try.call32 rfl (fun w hw => lift_mutL (M0 := [cel b5 24 [.int .i64 g.terms, .int .i64 g.names, .slice ao rs.length co], rulesA (.slice ao rs.length co) rs, symsA rs]) (L1 := [cel b6 51 [.bool false, .int .i64 g.names], cel b4 24 [.int .i64 0, .int .i64 0, .slice none 0 0], cel b3 26 [.int .i64 s.op, .int .i64 s.a, .int .i64 s.b, .int .i64 s.c], cel b2 24 [.int .i64 g.terms, .int .i64 g.names, .slice a g.rules.length c]]) (hw.sub sbt) (fun F2 hF => swapG_any b5 _ _ s.a s.b _ rs _ _ w F2 (by omega) hr8' hF))) rfl (fun x32 => ?_)
 refine OW_pure fun _ => ?_
 refine OW_nil ?_
 refine EW_block_normal ?_
 refine EW_then ?_
 refine nx3 ?_
 refine OW_q (q_loadN_own Try.isAgg24 Try.sizeOf24 rfl rfl swt (by rfl)) rfl ?_
 refine OW_e0 (e_storeN Try.sizeOf24 rfl rfl rfl rfl (by simp [Value.oneCell']) swt (by rfl)) (fun _ => ?_)
 refine nx2 ?_
 refine CW_ret ?_
 refine retc1a (vs := [.int .i64 g.terms, .int .i64 g.names, .slice ao rs.length co]) Try.results20 Try.isAgg24 Try.sizeOf24 rfl rfl (fun w hw j u hj => by rw [Addr.add_lit, hw.cell (t := 24) (cs := [.int .i64 g.terms, .int .i64 g.names, .slice ao rs.length co]) (A' := cel b4 24 [.int .i64 g.terms, .int .i64 g.names, .slice ao rs.length co]) swt, Nat.zero_add]; exact hj) (fun w hw => ?_)
 have hst : ∀ ms cs, stepG g s ms cs = ⟨g.terms, g.names, g.rules.map (swapR s.a s.b)⟩ := fun ms cs => by unfold stepG; rw [if_pos hop]
 refine ⟨(.slice ao rs.length co, rs.map (swRV s.a s.b), [], []), by simp only [hst], ⟨fun h => by omega, ?_⟩, hw.sub sbt⟩
 simp only [hst]
 rw [← hrl]
 simp [plainR, swRV]

set_option maxRecDepth 20000 in
theorem change5_any (gv : Value) (g : Gram) (s : SStep) (w : World) (hm : mayB g = true) (hs : mayS g s = true) (hop : s.op = 5) (hg : GramAt (Cl w) gv g) : Calls Try.prog 20 #[gv, stepV s] w (fun e w' => ∃ x : Value × List RV × List Bool × List Bool, e = .returned (.agg #[.int .i64 g.terms, .int .i64 (stepG g s x.2.2.1 x.2.2.2).names, x.1]) ∧ ((s.op = 5 → MksOk g x.2.2.1 ∧ CmsOk g x.2.2.2) ∧ plainR x.2.1 = (stepG g s x.2.2.1 x.2.2.2).rules) ∧ Sat (Old w) w [rulesA x.1 x.2.1, symsA x.2.1] w') := by
 have hg0 := hg
 obtain ⟨rv, rfl, hr⟩ := hg.mono old_rd
 obtain ⟨a, c, rfl, hc1, hc2, hrs⟩ := id hr
 clear hg
 have hM := mayB_true.1 hm
 have hr8 : ∀ r ∈ g.rules, r.right.length ≤ 1000 := fun r hr => by
   obtain ⟨k, hk⟩ := List.getElem?_of_mem hr
   have := (may_rule hm hk).2.2
   omega
 refine calls_CW Try.func20 rfl Try.ntmps20 rfl (Sat.start w) ?_
 refine nx3 ?_
 refine OW_e (e_box rfl rfl) rfl (fun b2 => ?_)
 refine OW_e (e_box rfl rfl) rfl (fun b3 => ?_)
 refine OW_e (e_alloc Try.zeroValue24 rfl) rfl (fun b4 => ?_)
 refine nx4 ?_
 refine OW_q (q_loadN_own Try.isAgg24 Try.sizeOf24 rfl rfl swt (by rfl)) rfl ?_
 refine OW_e (e_call Try.call30 rfl (fun w hw => lift_oldP (cloneG_any _ g w (by omega) hr8 (hg0.mono (fun _ _ h => hw.rd (Rd.old h)))) hw)) rfl (fun x20 => ?_)
 refine OW_pure fun hx20 => ?_
 obtain ⟨ov, rs⟩ := x20
 have hrl : plainR rs = g.rules := hx20
 have hrsl : rs.length = g.rules.length := by rw [← hrl]; simp [plainR]
 refine OW_fact (fun w hw => hw.tform (v := ov) (l := rs) (enc := encRV) swt) (fun hf => ?_)
 obtain ⟨ao, co, rfl, _, _, hbo⟩ := hf
 refine OW_spell 20 (.agg #[.int .i64 g.terms, .int .i64 g.names, .slice ao rs.length co]) rfl rfl ?_
 refine OW_weak (S' := Sat (Old w) w [rulesA (.slice ao rs.length co) rs, symsA rs, cel b4 24 [.int .i64 0, .int .i64 0, .slice none 0 0], cel b3 26 [.int .i64 s.op, .int .i64 s.a, .int .i64 s.b, .int .i64 s.c], cel b2 24 [.int .i64 g.terms, .int .i64 g.names, .slice a g.rules.length c]]) (fun w hw => hw) ?_
 refine OW_fact (fun w hw => hw.symsOne swt) (fun hone => ?_)
 refine OW_e (e_alloc Try.zeroValue24 rfl) rfl (fun b5 => ?_)
 refine OW_e0 (e_storeN Try.sizeOf24 rfl rfl rfl rfl (by simp [Value.oneCell']) swt (by rfl)) (fun _ => ?_)
 refine nx4 ?_
 refine OW_q (q_fieldAddr Try.underlying24 rfl rfl Try.sizeOf3 rfl rfl) rfl ?_
 refine OW_q (q_load1_own Try.isAgg3 rfl rfl swt (by rfl)) rfl ?_
 refine OW_e (e_call Try.call31 rfl (fun w hw => lift_ro (name_any g.names w) hw)) rfl (fun x23 => ?_)
 refine OW_e (e_alloc Try.zeroValue51 rfl) rfl (fun b6 => ?_)
 refine OW_e0 (e_storeN Try.sizeOf51 rfl rfl rfl rfl (by simp [Value.oneCell']) swt (by rfl)) (fun _ => ?_)
 refine nx2 ?_
 refine CW_seq ?_
 refine nx3 ?_
 refine OW_q (q_fieldAddr Try.underlying26 rfl rfl Try.sizeOf3 rfl rfl) rfl ?_
 refine OW_q (q_load1_own Try.isAgg3 rfl rfl swt (by rfl)) rfl ?_
 refine nx2 ?_
 refine CW_block ?_
 refine nx3 ?_
 refine OW_q (q_eqi rfl rfl) rfl ?_
 refine aO ?_
 refine nx2 ?_
 refine CW_false rfl (by simp [hop]) ?_
 refine nx3 ?_
 refine OW_q (q_eqi rfl rfl) rfl ?_
 refine aO ?_
 refine nx2 ?_
 refine CW_false rfl (by simp [hop]) ?_
 refine nx3 ?_
 refine OW_q (q_eqi rfl rfl) rfl ?_
 refine aO ?_
 refine nx2 ?_
 refine CW_false rfl (by simp [hop]) ?_
 refine nx3 ?_
 refine OW_q (q_eqi rfl rfl) rfl ?_
 refine aO ?_
 refine nx2 ?_
 refine CW_false rfl (by simp [hop]) ?_
 refine nx3 ?_
 refine OW_q (q_eqi rfl rfl) rfl ?_
 refine aO ?_
 refine nx2 ?_
 refine CW_true rfl (by simp [hop]) ?_
 refine nx3 ?_
 refine aO ?_
 refine nx2 ?_
 refine CW_seq ?_
 refine nx3 ?_
 refine OW_q (q_loadN_own Try.isAgg24 Try.sizeOf24 rfl rfl swt (by rfl)) rfl ?_
 refine OW_e (e_call Try.call36 rfl (fun w hw => lift_oldP (kept_any _ g w hm (hg0.mono (fun _ _ h => hw.rd (Rd.old h)))) hw)) rfl (fun x192 => ?_)
 refine OW_pure fun hx192 => ?_
 obtain ⟨v192, ms, cs⟩ := x192
 have hmc : MksOk g ms ∧ CmsOk g cs := hx192
 obtain ⟨kl, hkl⟩ : ∃ kl, kl = keptK g ms cs g.rules.length := ⟨_, rfl⟩
 refine OW_weak (S' := Sat (Old w) w [trow 3 1 encN v192 (kl.map (fun (z : Nat) => (z : Int))), rulesA (.slice ao rs.length co) rs, symsA rs, cel b6 51 [.bool false, .int .i64 g.names], cel b5 24 [.int .i64 g.terms, .int .i64 g.names, .slice ao rs.length co], cel b4 24 [.int .i64 0, .int .i64 0, .slice none 0 0], cel b3 26 [.int .i64 s.op, .int .i64 s.a, .int .i64 s.b, .int .i64 s.c], cel b2 24 [.int .i64 g.terms, .int .i64 g.names, .slice a g.rules.length c]]) (fun w hw => by rw [hkl]; exact hw.sub sbt) ?_
 refine OW_fact (fun w hw => hw.tform (v := v192) (l := kl.map (fun (z : Nat) => (z : Int))) (enc := encN) swt) (fun hf => ?_)
 obtain ⟨aq, cq, rfl, _, _, hbq⟩ := hf
 rw [List.length_map] at hbq
 refine OW_spell 192 (.slice aq kl.length cq) rfl (by rw [List.length_map]) ?_
 refine OW_weak (S' := Sat (Old w) w [trow 3 1 encN (.slice aq kl.length cq) (kl.map (fun (z : Nat) => (z : Int))), rulesA (.slice ao rs.length co) rs, symsA rs, cel b6 51 [.bool false, .int .i64 g.names], cel b5 24 [.int .i64 g.terms, .int .i64 g.names, .slice ao rs.length co], cel b4 24 [.int .i64 0, .int .i64 0, .slice none 0 0], cel b3 26 [.int .i64 s.op, .int .i64 s.a, .int .i64 s.b, .int .i64 s.c], cel b2 24 [.int .i64 g.terms, .int .i64 g.names, .slice a g.rules.length c]]) (fun w hw => by rw [List.length_map] at hw; exact hw) ?_
 have hkll : kl.length ≤ g.rules.length := by rw [hkl]; exact keptK_len _ _ _ _
 refine OW_q (q_len Try.underlying32 rfl) rfl ?_
 refine mO ?_
 refine nx2 ?_
 refine CW_block ?_
 refine CW_weak (S' := Sat (Old w) w [trow 3 1 encN (.slice aq kl.length cq) (kl.map (fun (z : Nat) => (z : Int))), rulesA (.slice none 0 0) [], rulesA (.slice ao rs.length co) rs, symsA rs, cel b6 51 [.bool false, .int .i64 g.names], cel b5 24 [.int .i64 g.terms, .int .i64 g.names, .slice ao rs.length co], cel b4 24 [.int .i64 0, .int .i64 0, .slice none 0 0], cel b3 26 [.int .i64 s.op, .int .i64 s.a, .int .i64 s.b, .int .i64 s.c], cel b2 24 [.int .i64 g.terms, .int .i64 g.names, .slice a g.rules.length c]]) (fun w hw => (hw.tnil 49 2 encRV).sub sbt) ?_
 refine CW_loopP (ι := Nat × Value × List RV) (fun i_ => i_.1 ≤ kl.length ∧ i_.2.2 = (kl.take i_.1).filterMap (fun z => rs[z]?)) (fun i_ => [(2, .pointer (some ⟨b2, 0, none⟩)), (3, .pointer (some ⟨b3, 0, none⟩)), (4, .pointer (some ⟨b4, 0, none⟩)), (5, .pointer (some ⟨b5, 0, none⟩)), (6, .pointer (some ⟨b6, 0, none⟩)), (16, i_.2.1), (192, .slice aq kl.length cq), (193, .int .i64 (kl.length : Int)), (194, .int .i64 (i_.1 : Int))]) (fun i_ => Sat (Old w) w [trow 3 1 encN (.slice aq kl.length cq) (kl.map (fun (z : Nat) => (z : Int))), rulesA i_.2.1 i_.2.2, rulesA (.slice ao rs.length co) rs, symsA rs, cel b6 51 [.bool false, .int .i64 g.names], cel b5 24 [.int .i64 g.terms, .int .i64 g.names, .slice ao rs.length co], cel b4 24 [.int .i64 0, .int .i64 0, .slice none 0 0], cel b3 26 [.int .i64 s.op, .int .i64 s.a, .int .i64 s.b, .int .i64 s.c], cel b2 24 [.int .i64 g.terms, .int .i64 g.names, .slice a g.rules.length c]]) (fun i_ => kl.length - i_.1) (0, .slice none 0 0, []) ?_ ⟨rfl, rfl, rfl, rfl, rfl, rfl, rfl, rfl, rfl, trivial⟩ sft ?_
 · exact ⟨Nat.zero_le _, by simp⟩
 intro i_ hpre
 obtain ⟨k, lv, lrs⟩ := i_
 replace hpre : k ≤ kl.length ∧ lrs = (kl.take k).filterMap (fun z => rs[z]?) := hpre
 change CW _ _ _ _ [(2, .pointer (some ⟨b2, 0, none⟩)), (3, .pointer (some ⟨b3, 0, none⟩)), (4, .pointer (some ⟨b4, 0, none⟩)), (5, .pointer (some ⟨b5, 0, none⟩)), (6, .pointer (some ⟨b6, 0, none⟩)), (16, lv), (192, .slice aq kl.length cq), (193, .int .i64 (kl.length : Int)), (194, .int .i64 (k : Int))] (Sat (Old w) w [trow 3 1 encN (.slice aq kl.length cq) (kl.map (fun (z : Nat) => (z : Int))), rulesA lv lrs, rulesA (.slice ao rs.length co) rs, symsA rs, cel b6 51 [.bool false, .int .i64 g.names], cel b5 24 [.int .i64 g.terms, .int .i64 g.names, .slice ao rs.length co], cel b4 24 [.int .i64 0, .int .i64 0, .slice none 0 0], cel b3 26 [.int .i64 s.op, .int .i64 s.a, .int .i64 s.b, .int .i64 s.c], cel b2 24 [.int .i64 g.terms, .int .i64 g.names, .slice a g.rules.length c]])
 obtain ⟨hk, hlr⟩ := hpre
 have hll : lrs.length ≤ k := by rw [hlr]; have := List.length_filterMap_le (fun z => rs[z]?) (kl.take k); rw [List.length_take] at this; omega
 refine nx3 ?_
 refine OW_q (q_lss rfl rfl) rfl ?_
 refine nx2 ?_
 refine CW_seq ?_
 refine CW_cond rfl (fun h195 => ?_) (fun h195 => ?_)
 · skip
   have hlk : k < kl.length := by have := of_decide_eq_true h195; omega
   obtain ⟨j, hj⟩ := get_of_lt hlk
   have hjm : (kl.map (fun (z : Nat) => (z : Int)))[k]? = some ((j : Nat) : Int) := by rw [List.getElem?_map, hj]; rfl
   obtain ⟨bq, rfl⟩ := hbq (by omega)
   have hjr : j < g.rules.length := by
     have h1 := List.mem_of_getElem? hj
     rw [hkl] at h1
     have := (List.mem_filter.1 h1).1
     exact List.mem_range.1 this
   obtain ⟨x, hx⟩ := get_of_lt (l := rs) (k := j) (by omega)
   obtain ⟨bo, rfl⟩ := hbo (by omega)
   have hxo := hone x (List.mem_of_getElem? hx)
   refine CW_skip ?_
   refine EW_then ?_
   refine CW_seq ?_
   refine CW_block ?_
   refine nx3 ?_
   refine OW_q (q_indexAddr Try.underlying32 Try.sizeOf3 rfl rfl (by omega)) rfl ?_
   refine OW_q (q_load_t1 (enc := encN) (k := k) (v := .slice (some ⟨bq, 0, none⟩) kl.length cq) (l := kl.map (fun (z : Nat) => (z : Int))) Try.isAgg3 (fun _ => rfl) rfl swt rfl hjm rfl) rfl ?_
   refine aO ?_
   refine nx2 ?_
   refine CW_region ?_
   refine mO ?_
   refine OW_q (q_fieldAddr Try.underlying24 rfl rfl Try.sizeOf22 rfl rfl) rfl ?_
   refine OW_q (q_load1_own Try.isAgg22 rfl rfl swt (by rfl)) rfl ?_
   refine mO ?_
   refine OW_q (q_indexAddr Try.underlying22 Try.sizeOf49 rfl rfl (by omega)) rfl ?_
   refine OW_q (q_loadN_t (enc := encRV) (k := j) (v := .slice (some ⟨bo, 0, none⟩) rs.length co) (l := rs) Try.isAgg49 Try.sizeOf49 (fun _ => rfl) rfl swt rfl hx) rfl ?_
   refine OW_e (e_single Try.underlying22 Try.sizeOf49 Try.zeroValue49 (e := 49) (v := .agg (encRV x).toArray) (cs := encRV x) rfl rfl rfl rfl (by decide) (by decide)) rfl (fun b204 => ?_)
   refine OW_e (e_append_t (x0 := x) (enc := encRV) (l := lrs) Try.underlying22 Try.typeInfo49 rfl rfl rfl rfl rfl rfl rfl pkt rfl (by exact fun w hw => hw.news swt) (encRV_1 hxo) (by omega) (by decide)) rfl (fun v205 => ?_)
   refine aO ?_
   refine OW_nil ?_
   refine EW_block_normal ?_
   refine EW_then ?_
   refine CW_region ?_
   refine OW_q (q_add rfl rfl (by omega) (by omega)) rfl ?_
   refine mO ?_
   refine OW_nil ?_
   refine EW_again ((k + 1, v205, lrs ++ [x])) ⟨?_, ?_⟩ ⟨rfl, rfl, rfl, rfl, rfl, rfl, rfl, rfl, rfl, trivial⟩ sft
   · show kl.length - (k + 1) < kl.length - k; omega
   · refine ⟨by show k + 1 ≤ _; omega, ?_⟩
     show lrs ++ [x] = _
     rw [take_next hj, List.filterMap_append, ← hlr]
     simp [hx]
 have hke : k = kl.length := by have := of_decide_eq_false h195; omega
 refine CW_exit ?_
 refine EW_then_exit ?_
 refine EW_out ?_
 refine EW_block_exit ?_
 refine EW_then ?_
 refine CW_fact (fun w hw => hw.tform (v := lv) (l := lrs) (enc := encRV) swt) (fun hf => ?_)
 obtain ⟨al, cl, rfl, _, _, hbl⟩ := hf
 refine CW_region ?_
 refine mO ?_
 refine OW_q (q_fieldAddr Try.underlying24 rfl rfl Try.sizeOf22 rfl rfl) rfl ?_
 refine OW_e0 (e_store Try.sizeOf22 rfl rfl rfl rfl swt (by rfl)) (fun _ => ?_)
 refine OW_nil ?_
 refine EW_block_normal ?_
 refine EW_then ?_
 refine nx3 ?_
 refine OW_q (q_loadN_own Try.isAgg24 Try.sizeOf24 rfl rfl swt (by rfl)) rfl ?_
 refine OW_e0 (e_storeN Try.sizeOf24 rfl rfl rfl rfl (by simp [Value.oneCell']) swt (by rfl)) (fun _ => ?_)
 refine nx2 ?_
 refine CW_ret ?_
 refine retc1a (vs := [.int .i64 g.terms, .int .i64 g.names, .slice al lrs.length cl]) Try.results20 Try.isAgg24 Try.sizeOf24 rfl rfl (fun w hw j u hj => by rw [Addr.add_lit, hw.cell (t := 24) (cs := [.int .i64 g.terms, .int .i64 g.names, .slice al lrs.length cl]) (A' := cel b4 24 [.int .i64 g.terms, .int .i64 g.names, .slice al lrs.length cl]) swt, Nat.zero_add]; exact hj) (fun w hw => ?_)
 have hst : stepG g s ms cs = ⟨g.terms, g.names, g.rules.filter (keptB ms cs)⟩ := by unfold stepG; rw [if_neg (by omega), if_neg (by omega), if_neg (by omega), if_neg (by omega)]
 have hlf : lrs = rs.filter (fun x => keptB ms cs x.r) := by rw [hlr, hke, List.take_length, hkl]; exact keptK_pick hrl
 refine ⟨(.slice al lrs.length cl, lrs, ms, cs), by simp only [hst], ⟨fun _ => hmc, ?_⟩, ?_⟩
 · simp only [hst]
   rw [hlf, ← hrl]
   simp [plainR, List.filter_map, Function.comp_def]
 · have h1 : Sat (Old _) _ (symsA rs :: [rulesA (.slice al lrs.length cl) lrs]) w := hw.sub sbt
   have h2 := h1.symsSub (l := lrs) (by rw [hlf]; exact List.filter_sublist)
   exact h2.sub sbt

end Go.Sy
/- step.change: a part taken out. No condition. -/
namespace Go.Sy
open Go Go.RowKit Go.Proofs

theorem DW_weak [Inhabited (List Deferred)] {P : Program} {Q : Exit → Act → World → Prop} {n : Nat} {K : Env} {S S' : World → Prop} {ops : Array Oper} {C : World → Prop} {z : Nat} {l : List (Nat × Bool)} (hp : ∀ w, S w → S' w) (h : DW P ops Q C z l n K S') : DW P ops Q C z l n K S := fun a w ha hw => h a w ha (hp w hw)
theorem plain_get {rs : List RV} {l : List Rule} (h : plainR rs = l) {k : Nat} {q : Rule} (hq : l[k]? = some q) : ∃ v, rs[k]? = some ⟨q, v⟩ := by
 rw [← h] at hq
 unfold plainR at hq
 rw [List.getElem?_map] at hq
 obtain ⟨⟨r, v⟩, h1, rfl⟩ := Option.map_eq_some_iff.1 hq
 exact ⟨v, h1⟩
set_option maxRecDepth 20000 in
theorem change2_any (gv : Value) (g : Gram) (s : SStep) (w : World) (hm : mayB g = true) (hs : mayS g s = true) (hop : s.op = 2) (hg : GramAt (Cl w) gv g) : Calls Try.prog 20 #[gv, stepV s] w (fun e w' => ∃ x : Value × List RV × List Bool × List Bool, e = .returned (.agg #[.int .i64 g.terms, .int .i64 (stepG g s x.2.2.1 x.2.2.2).names, x.1]) ∧ ((s.op = 5 → MksOk g x.2.2.1 ∧ CmsOk g x.2.2.2) ∧ plainR x.2.1 = (stepG g s x.2.2.1 x.2.2.2).rules) ∧ Sat (Old w) w [rulesA x.1 x.2.1, symsA x.2.1] w') := by
 have hg0 := hg
 obtain ⟨rv, rfl, hr⟩ := hg.mono old_rd
 obtain ⟨a, c, rfl, hc1, hc2, hrs⟩ := id hr
 clear hg
 have hM := mayB_true.1 hm
 have hr8 : ∀ r ∈ g.rules, r.right.length ≤ 1000 := fun r hr => by
   obtain ⟨k, hk⟩ := List.getElem?_of_mem hr
   have := (may_rule hm hk).2.2
   omega
 have hs2 := hs
 unfold mayS at hs2
 rw [if_neg (by omega), if_pos hop] at hs2
 simp only [Bool.and_eq_true, inR_true, decide_eq_true_eq] at hs2
 obtain ⟨⟨⟨ha0, ha1⟩, hb0, hbc⟩, hcr⟩ := hs2
 obtain ⟨q, hq⟩ := get_of_lt (l := g.rules) (k := s.a.toNat) (by omega)
 rw [ruleAt_get hq] at hcr
 have hq8 := (may_rule hm hq).2.2
 obtain ⟨pt, hpt⟩ : ∃ pt, pt = (q.right.take s.c.toNat).drop s.b.toNat := ⟨_, rfl⟩
 have hptl : pt.length = s.c.toNat - s.b.toNat := by rw [hpt, List.length_drop, List.length_take]; omega
 refine calls_CW Try.func20 rfl Try.ntmps20 rfl (Sat.start w) ?_
 refine nx3 ?_
 refine OW_e (e_box rfl rfl) rfl (fun b2 => ?_)
 refine OW_e (e_box rfl rfl) rfl (fun b3 => ?_)
 refine OW_e (e_alloc Try.zeroValue24 rfl) rfl (fun b4 => ?_)
 refine nx4 ?_
 refine OW_q (q_loadN_own Try.isAgg24 Try.sizeOf24 rfl rfl swt (by rfl)) rfl ?_
 refine OW_e (e_call Try.call30 rfl (fun w hw => lift_oldP (cloneG_any _ g w (by omega) hr8 (hg0.mono (fun _ _ h => hw.rd (Rd.old h)))) hw)) rfl (fun x20 => ?_)
 refine OW_pure fun hx20 => ?_
 obtain ⟨ov, rs⟩ := x20
 have hrl : plainR rs = g.rules := hx20
 have hrsl : rs.length = g.rules.length := by rw [← hrl]; simp [plainR]
 refine OW_fact (fun w hw => hw.tform (v := ov) (l := rs) (enc := encRV) swt) (fun hf => ?_)
 obtain ⟨ao, co, rfl, _, _, hbo⟩ := hf
 refine OW_spell 20 (.agg #[.int .i64 g.terms, .int .i64 g.names, .slice ao rs.length co]) rfl rfl ?_
 refine OW_weak (S' := Sat (Old w) w [rulesA (.slice ao rs.length co) rs, symsA rs, cel b4 24 [.int .i64 0, .int .i64 0, .slice none 0 0], cel b3 26 [.int .i64 s.op, .int .i64 s.a, .int .i64 s.b, .int .i64 s.c], cel b2 24 [.int .i64 g.terms, .int .i64 g.names, .slice a g.rules.length c]]) (fun w hw => hw) ?_
 refine OW_fact (fun w hw => hw.symsOne swt) (fun hone => ?_)
 refine OW_e (e_alloc Try.zeroValue24 rfl) rfl (fun b5 => ?_)
 refine OW_e0 (e_storeN Try.sizeOf24 rfl rfl rfl rfl (by simp [Value.oneCell']) swt (by rfl)) (fun _ => ?_)
 refine nx4 ?_
 refine OW_q (q_fieldAddr Try.underlying24 rfl rfl Try.sizeOf3 rfl rfl) rfl ?_
 refine OW_q (q_load1_own Try.isAgg3 rfl rfl swt (by rfl)) rfl ?_
 refine OW_e (e_call Try.call31 rfl (fun w hw => lift_ro (name_any g.names w) hw)) rfl (fun x23 => ?_)
 refine OW_e (e_alloc Try.zeroValue51 rfl) rfl (fun b6 => ?_)
 refine OW_e0 (e_storeN Try.sizeOf51 rfl rfl rfl rfl (by simp [Value.oneCell']) swt (by rfl)) (fun _ => ?_)
 refine nx2 ?_
 refine CW_seq ?_
 refine nx3 ?_
 refine OW_q (q_fieldAddr Try.underlying26 rfl rfl Try.sizeOf3 rfl rfl) rfl ?_
 refine OW_q (q_load1_own Try.isAgg3 rfl rfl swt (by rfl)) rfl ?_
 refine nx2 ?_
 refine CW_block ?_
 refine nx3 ?_
 refine OW_q (q_eqi rfl rfl) rfl ?_
 refine aO ?_
 refine nx2 ?_
 refine CW_false rfl (by simp [hop]) ?_
 refine nx3 ?_
 refine OW_q (q_eqi rfl rfl) rfl ?_
 refine aO ?_
 refine nx2 ?_
 refine CW_true rfl (by simp [hop]) ?_
 refine CW_seq ?_
 obtain ⟨xv, hx⟩ := plain_get hrl hq
 obtain ⟨bo, rfl⟩ := hbo (by have := (List.getElem?_eq_some_iff.1 hx).1; omega)
 refine CW_weak (S' := Sat (Old w) w [rulesA (.slice (some ⟨bo, 0, none⟩) rs.length co) rs, symsA rs, cel b6 51 [.bool false, .int .i64 g.names], cel b5 24 [.int .i64 g.terms, .int .i64 g.names, .slice (some ⟨bo, 0, none⟩) rs.length co], cel b4 24 [.int .i64 0, .int .i64 0, .slice none 0 0], cel b3 26 [.int .i64 s.op, .int .i64 s.a, .int .i64 s.b, .int .i64 s.c], cel b2 24 [.int .i64 g.terms, .int .i64 g.names, .slice a g.rules.length c]]) sft ?_
 refine CW_fact (fun w hw => hw.tform (v := xv) (l := q.right) (enc := encY) ((Hole.tail (Hole.sym hx)).swap _)) (fun hf => ?_)
 obtain ⟨ax, cx, rfl, _, _, hbx⟩ := hf
 refine CW_region ?_
 refine OW_q (q_fieldAddr Try.underlying24 rfl rfl Try.sizeOf22 rfl rfl) rfl ?_
 refine OW_q (q_load1_own Try.isAgg22 rfl rfl swt (by rfl)) rfl ?_
 refine OW_q (q_fieldAddr Try.underlying26 rfl rfl Try.sizeOf3 rfl rfl) rfl ?_
 refine OW_q (q_load1_own Try.isAgg3 rfl rfl swt (by rfl)) rfl ?_
 refine OW_q (q_indexAddrI Try.underlying22 Try.sizeOf49 rfl rfl (by omega) (by omega)) rfl ?_
 refine aO ?_
 refine nx2 ?_
 refine CW_seq ?_
 refine CW_drawS 11 [(0, false), (1, false), (2, false), (3, false), (4, false), (5, false), (6, false), (7, false), (8, false), (9, true), (10, false)] (by kernel_rfl) (Blind.then (Blind.block (Blind.then (Blind.body (by intro c w h; simp at h))))) (by kernel_rfl) (fun w hw => hw.drew) ?_
 refine mD ?_
 refine DW_q rfl sft (q_nilCheck rfl) rfl ?_
 refine DW_q rfl sft (q_fieldAddr Try.underlying49 rfl rfl Try.sizeOf46 rfl rfl) rfl ?_
 refine DW_q rfl sft (q_load1_t (enc := encRV) (k := s.a.toNat) (off := 1) (v := .slice (some ⟨bo, 0, none⟩) rs.length co) (l := rs) Try.isAgg46 (fun _ => rfl) rfl swt rfl hx rfl) rfl ?_
 refine DW_q rfl sft (q_fieldAddr Try.underlying26 rfl rfl Try.sizeOf3 rfl rfl) rfl ?_
 refine DW_q rfl sft (q_load1_own Try.isAgg3 rfl rfl swt (by rfl)) rfl ?_
 refine DW_q rfl sft (q_fieldAddr Try.underlying26 rfl rfl Try.sizeOf3 rfl rfl) rfl ?_
 refine DW_q rfl sft (q_load1_own Try.isAgg3 rfl rfl swt (by rfl)) rfl ?_
 refine DW_spell 45 (.int .i64 ((s.b.toNat : Nat) : Int)) rfl (congrArg (Value.int .i64) (by omega)) ?_
 refine DW_spell 47 (.int .i64 ((s.c.toNat : Nat) : Int)) rfl (congrArg (Value.int .i64) (by omega)) ?_
 refine DW_q rfl sft (q_slice Try.underlying46 Try.sizeOf51 rfl (.inr ⟨_, rfl, rfl⟩) (.inr ⟨_, rfl, rfl⟩) (by omega) (by omega) (by omega)) rfl ?_
 refine DW_e rfl (e_call Try.call33 rfl (fun w hw => lift_old (cloneY_any _ pt w (by omega) (by rw [hpt]; exact SlAt.sub (hw.symsIn ((Hole.tail (Hole.sym hx)).swap _)) (by omega) (by omega))) hw)) rfl (fun _ w hw => by first | exact hw.sub sbt | exact hw.2.sub sbt) (fun x49 => ?_)
 refine DW_fact (fun w hw => hw.tform (v := x49) (l := pt) (enc := encY) swt) (fun hf => ?_)
 obtain ⟨a49, c49, rfl, _, _, hb49⟩ := hf
 refine DW_q rfl sft (q_assign rfl) rfl ?_
 refine DW_nil ?_
 refine EW_then ?_
 refine CW_seq ?_
 refine CW_draw (Sat (Old w) w [rulesA (.slice (some ⟨bo, 0, none⟩) rs.length co) rs, cel b6 51 [.bool false, .int .i64 g.names], cel b5 24 [.int .i64 g.terms, .int .i64 g.names, (.slice (some ⟨bo, 0, none⟩) rs.length co)], cel b4 24 [.int .i64 0, .int .i64 0, .slice none 0 0], cel b3 26 [.int .i64 s.op, .int .i64 s.a, .int .i64 s.b, .int .i64 s.c], cel b2 24 [.int .i64 g.terms, .int .i64 g.names, .slice a g.rules.length c]]) 14 [(0, false), (1, false), (2, false), (3, false), (4, false), (5, false), (6, false), (7, false), (8, false), (9, false), (10, true), (11, true), (12, false), (13, false), (14, true)] (by kernel_rfl) (Blind.then (Blind.block (Blind.then (Blind.body (by intro c w h; simp at h))))) (by kernel_rfl) (fun w hw => hw.drew) ?_
 refine mD ?_
 refine mD ?_
 refine DW_q rfl sft (q_nilCheck rfl) rfl ?_
 refine DW_q rfl sft (q_fieldAddr Try.underlying49 rfl rfl Try.sizeOf46 rfl rfl) rfl ?_
 refine DW_q rfl sft (q_load1_t (enc := encRV) (k := s.a.toNat) (off := 1) (v := .slice (some ⟨bo, 0, none⟩) rs.length co) (l := rs) Try.isAgg46 (fun _ => rfl) rfl swt rfl hx rfl) rfl ?_
 refine DW_q rfl sft (q_fieldAddr Try.underlying26 rfl rfl Try.sizeOf3 rfl rfl) rfl ?_
 refine DW_q rfl sft (q_load1_own Try.isAgg3 rfl rfl swt (by rfl)) rfl ?_
 refine DW_q rfl sft (q_fieldAddr Try.underlying26 rfl rfl Try.sizeOf3 rfl rfl) rfl ?_
 refine DW_q rfl sft (q_load1_own Try.isAgg3 rfl rfl swt (by rfl)) rfl ?_
 refine DW_q rfl sft (q_loadN_own Try.isAgg51 Try.sizeOf51 rfl rfl swt (by rfl)) rfl ?_
 refine DW_e rfl (e_single Try.underlying46 Try.sizeOf51 Try.zeroValue51 (e := 51) (v := .agg #[.bool false, .int .i64 g.names]) (cs := [.bool false, .int .i64 g.names]) rfl rfl rfl rfl (by decide) (by decide)) rfl (fun _ => sft) (fun b60 => ?_)
 refine DW_spell 56 (.int .i64 ((s.b.toNat : Nat) : Int)) rfl (congrArg (Value.int .i64) (by omega)) ?_
 refine DW_spell 58 (.int .i64 ((s.c.toNat : Nat) : Int)) rfl (congrArg (Value.int .i64) (by omega)) ?_
 refine DW_e rfl (e_call Try.call34 rfl (fun w hw => lift_two (VA := cel b60 51 [.bool false, .int .i64 g.names]) (Hole.tail (Hole.tail (Hole.sym hx))) hw (fun F hF => replY_any (.slice ax q.right.length cx) q.right [nameS g.names] s.b.toNat s.c.toNat 1 (some ⟨b60, 0, none⟩) _ _ w _ (by omega) (by omega) (by simp only [List.length_singleton]; omega) (VIn.star (VIn.cel (off := 0))) hF))) rfl (fun _ w hw => by first | exact hw.sub sbt | exact hw.2.sub sbt) (fun x61 => ?_)
 refine DW_weak (S' := Sat (Old w) w [cel b60 51 [.bool false, .int .i64 g.names], trow 51 2 encY (.slice a49 pt.length c49) pt, rulesA (.slice (some ⟨bo, 0, none⟩) rs.length co) rs, symsA (rs.set s.a.toNat (⟨⟨q.left, (q.right.take s.b.toNat ++ [nameS g.names] ++ q.right.drop s.c.toNat)⟩, x61⟩ : RV)), cel b6 51 [.bool false, .int .i64 g.names], cel b5 24 [.int .i64 g.terms, .int .i64 g.names, (.slice (some ⟨bo, 0, none⟩) rs.length co)], cel b4 24 [.int .i64 0, .int .i64 0, .slice none 0 0], cel b3 26 [.int .i64 s.op, .int .i64 s.a, .int .i64 s.b, .int .i64 s.c], cel b2 24 [.int .i64 g.terms, .int .i64 g.names, .slice a g.rules.length c]]) (fun w hw => by rw [← symsA_set (rs := rs) (k := s.a.toNat) (⟨⟨q.left, (q.right.take s.b.toNat ++ [nameS g.names] ++ q.right.drop s.c.toNat)⟩, x61⟩ : RV)]; exact hw) ?_
 have hx61 : (rs.set s.a.toNat (⟨⟨q.left, (q.right.take s.b.toNat ++ [nameS g.names] ++ q.right.drop s.c.toNat)⟩, x61⟩ : RV))[s.a.toNat]? = some (⟨⟨q.left, (q.right.take s.b.toNat ++ [nameS g.names] ++ q.right.drop s.c.toNat)⟩, x61⟩ : RV) := List.getElem?_set_self (List.getElem?_eq_some_iff.1 hx).1
 refine DW_fact (fun w hw => hw.tform (v := x61) (l := (q.right.take s.b.toNat ++ [nameS g.names] ++ q.right.drop s.c.toNat)) (enc := encY) ((Hole.tail (Hole.tail (Hole.tail (Hole.sym hx61)))).swap _)) (fun hf => ?_)
 obtain ⟨a61, c61, e61, _, _, hb61⟩ := hf
 refine DW_q rfl sft (q_nilCheck rfl) rfl ?_
 refine DW_q rfl sft (q_fieldAddr Try.underlying49 rfl rfl Try.sizeOf46 rfl rfl) rfl ?_
 refine DW_z0 rfl (e_store_t (enc := encRV) (k := s.a.toNat) (off := 1) (v := .slice (some ⟨bo, 0, none⟩) rs.length co) (l := rs) (y := ⟨q, .slice ax q.right.length cx⟩) (y' := (⟨⟨q.left, (q.right.take s.b.toNat ++ [nameS g.names] ++ q.right.drop s.c.toNat)⟩, x61⟩ : RV)) Try.sizeOf46 (fun _ => rfl) rfl rfl (by rw [e61]; rfl) rfl hx rfl swt) (fun _ => ?_)
 refine EW_then ?_
 refine nx3 ?_
 refine OW_q (q_fieldAddr Try.underlying24 rfl rfl Try.sizeOf3 rfl rfl) rfl ?_
 refine OW_q (q_load1_own Try.isAgg3 rfl rfl swt (by rfl)) rfl ?_
 refine OW_q (q_add rfl rfl (by omega) (by omega)) rfl ?_
 refine OW_q (q_fieldAddr Try.underlying24 rfl rfl Try.sizeOf3 rfl rfl) rfl ?_
 refine OW_e0 (e_store Try.sizeOf3 rfl rfl rfl rfl swt (by rfl)) (fun _ => ?_)
 refine nx2 ?_
 refine CW_region ?_
 refine OW_q (q_fieldAddr Try.underlying24 rfl rfl Try.sizeOf22 rfl rfl) rfl ?_
 refine OW_q (q_load1_own Try.isAgg22 rfl rfl swt (by rfl)) rfl ?_
 refine OW_q (q_fieldAddr Try.underlying24 rfl rfl Try.sizeOf3 rfl rfl) rfl ?_
 refine OW_q (q_load1_own Try.isAgg3 rfl rfl swt (by rfl)) rfl ?_
 refine mO ?_
 refine OW_q (q_build (ps := #[(0, .int .i64 g.names), (1, .slice a49 pt.length c49)]) (v := .agg #[.int .i64 g.names, .slice a49 pt.length c49]) rfl (fun w => by kernel_rfl)) rfl ?_
 refine OW_e (e_single Try.underlying22 Try.sizeOf49 Try.zeroValue49 (e := 49) (v := .agg #[.int .i64 g.names, .slice a49 pt.length c49]) (cs := [.int .i64 g.names, .slice a49 pt.length c49]) rfl rfl rfl rfl (by decide) (by decide)) rfl (fun b74 => ?_)
 refine OW_e (e_append_t (x0 := (⟨⟨g.names, pt⟩, .slice a49 pt.length c49⟩ : RV)) (enc := encRV) (v := .slice (some ⟨bo, 0, none⟩) rs.length co) (l := (rs.set s.a.toNat (⟨⟨q.left, (q.right.take s.b.toNat ++ [nameS g.names] ++ q.right.drop s.c.toNat)⟩, x61⟩ : RV))) Try.underlying22 Try.typeInfo49 rfl rfl rfl rfl rfl rfl rfl pkt rfl (by exact fun w hw => hw.news swt) (by simp [Value.oneCell']) (by rw [List.length_set]; omega) (by decide)) rfl (fun v75 => ?_)
 refine OW_fact (fun w hw => hw.tform (v := v75) (l := (rs.set s.a.toNat (⟨⟨q.left, (q.right.take s.b.toNat ++ [nameS g.names] ++ q.right.drop s.c.toNat)⟩, x61⟩ : RV)) ++ [(⟨⟨g.names, pt⟩, .slice a49 pt.length c49⟩ : RV)]) (enc := encRV) swt) (fun hf => ?_)
 obtain ⟨a75, c75, rfl, _, _, hb75⟩ := hf
 refine OW_q (q_fieldAddr Try.underlying24 rfl rfl Try.sizeOf22 rfl rfl) rfl ?_
 refine OW_e0 (e_store Try.sizeOf22 rfl rfl rfl rfl swt (by rfl)) (fun _ => ?_)
 refine OW_nil ?_
 refine EW_block_normal ?_
 refine EW_then ?_
 refine nx3 ?_
 refine OW_q (q_loadN_own Try.isAgg24 Try.sizeOf24 rfl rfl swt (by rfl)) rfl ?_
 refine OW_e0 (e_storeN Try.sizeOf24 rfl rfl rfl rfl (by simp [Value.oneCell']) swt (by rfl)) (fun _ => ?_)
 refine nx2 ?_
 refine CW_ret ?_
 refine retc1a (vs := [.int .i64 g.terms, .int .i64 (g.names + 1), .slice a75 ((rs.set s.a.toNat (⟨⟨q.left, (q.right.take s.b.toNat ++ [nameS g.names] ++ q.right.drop s.c.toNat)⟩, x61⟩ : RV)) ++ [(⟨⟨g.names, pt⟩, .slice a49 pt.length c49⟩ : RV)]).length c75]) Try.results20 Try.isAgg24 Try.sizeOf24 rfl rfl (fun w hw j u hj => by rw [Addr.add_lit, hw.cell (t := 24) (cs := [.int .i64 g.terms, .int .i64 (g.names + 1), .slice a75 ((rs.set s.a.toNat (⟨⟨q.left, (q.right.take s.b.toNat ++ [nameS g.names] ++ q.right.drop s.c.toNat)⟩, x61⟩ : RV)) ++ [(⟨⟨g.names, pt⟩, .slice a49 pt.length c49⟩ : RV)]).length c75]) (A' := cel b4 24 [.int .i64 g.terms, .int .i64 (g.names + 1), .slice a75 ((rs.set s.a.toNat (⟨⟨q.left, (q.right.take s.b.toNat ++ [nameS g.names] ++ q.right.drop s.c.toNat)⟩, x61⟩ : RV)) ++ [(⟨⟨g.names, pt⟩, .slice a49 pt.length c49⟩ : RV)]).length c75]) swt, Nat.zero_add]; exact hj) (fun w hw => ?_)
 have hst : ∀ ms cs, stepG g s ms cs = ⟨g.terms, g.names + 1, g.rules.set s.a.toNat (extR q s.b.toNat s.c.toNat (nameS g.names)) ++ [⟨g.names, (q.right.drop s.b.toNat).take (s.c.toNat - s.b.toNat)⟩]⟩ := fun ms cs => by
   unfold stepG
   rw [if_neg (by omega), if_pos hop, ruleAt_get hq]
 refine ⟨(.slice a75 ((rs.set s.a.toNat (⟨⟨q.left, (q.right.take s.b.toNat ++ [nameS g.names] ++ q.right.drop s.c.toNat)⟩, x61⟩ : RV)) ++ [(⟨⟨g.names, pt⟩, .slice a49 pt.length c49⟩ : RV)]).length c75, (rs.set s.a.toNat (⟨⟨q.left, (q.right.take s.b.toNat ++ [nameS g.names] ++ q.right.drop s.c.toNat)⟩, x61⟩ : RV)) ++ [(⟨⟨g.names, pt⟩, .slice a49 pt.length c49⟩ : RV)], [], []), by simp only [hst], ⟨fun h => by omega, ?_⟩, ?_⟩
 · simp only [hst]
   rw [← hrl, hpt, List.drop_take]
   simp [plainR, extR, List.map_set]
 · have h1 : Sat (Old _) _ (symsA (rs.set s.a.toNat (⟨⟨q.left, (q.right.take s.b.toNat ++ [nameS g.names] ++ q.right.drop s.c.toNat)⟩, x61⟩ : RV)) :: symA (⟨⟨g.names, pt⟩, .slice a49 pt.length c49⟩ : RV) :: [rulesA (.slice a75 ((rs.set s.a.toNat (⟨⟨q.left, (q.right.take s.b.toNat ++ [nameS g.names] ++ q.right.drop s.c.toNat)⟩, x61⟩ : RV)) ++ [(⟨⟨g.names, pt⟩, .slice a49 pt.length c49⟩ : RV)]).length c75) ((rs.set s.a.toNat (⟨⟨q.left, (q.right.take s.b.toNat ++ [nameS g.names] ++ q.right.drop s.c.toNat)⟩, x61⟩ : RV)) ++ [(⟨⟨g.names, pt⟩, .slice a49 pt.length c49⟩ : RV)])]) w := hw.sub sbt
   exact h1.symsPush.sub sbt

end Go.Sy
/- step.change: a name put in its rules. No condition. -/
namespace Go.Sy
open Go Go.RowKit Go.Proofs

theorem lift_mutN {P : Program} {R : Nat → Prop} {w0 w : World} {L1 : List HP} {f : FuncId} {vs : Array Value} {ι : Type} {V : ι → Value} {M0 : List HP} {M : ι → List HP} (hS : Sat R w0 (M0 ++ L1) w)
   (h : ∀ F, Sat R w0 (M0 ++ [F]) w → Calls P f vs w (fun e w' => ∃ x, e = .returned (V x) ∧ Sat R w0 (M x ++ [F]) w')) :
   Calls P f vs w (fun e w' => ∃ x, e = .returned (V x) ∧ Sat R w0 (M x ++ L1) w') :=
 (lift_mutL (p := fun _ => True) hS fun F hF => (h F hF).mono fun _ _ ⟨x, he, hw⟩ => ⟨x, he, trivial, hw⟩).mono fun _ _ ⟨x, he, _, hw⟩ => ⟨x, he, hw⟩
theorem ofL_pick {rs : List Rule} {n : Int} : (ofL rs n).filterMap (fun k => rs[k]?) = rs.filter (fun r => decide (r.left = n)) := by
 have := range_pick rs (fun r => decide (r.left = n)) rs.length
 rw [List.take_length] at this
 rw [← this]
 unfold ofL
 congr 1
 apply List.filter_congr
 intro k _
 cases rs[k]? <;> simp
section
variable {R : Nat → Prop} {w0 w : World} {L : List HP}
theorem Sat.symsPutIn {rs ys : List RV} {i : Nat} (h : Sat R w0 (symsA rs :: symsA ys :: L) w) : Sat R w0 (symsA (rs.take i ++ ys ++ rs.drop (i + 1)) :: L) w := by
 have h1 : Sat R w0 (symsA (rs.take i ++ rs.drop i) :: symsA ys :: L) w := by rw [List.take_append_drop]; exact h
 have h2 := h1.symsCut
 have h3 : Sat R w0 (symsA (rs.drop i) :: symsA (rs.take i) :: symsA ys :: L) w := h2.pick (.tail .head)
 have h4 := h3.symsSub (l := rs.drop (i + 1)) (by rw [← List.drop_drop]; exact List.drop_sublist _ _)
 have h5 := (h4.pick (.tail (.tail .head))).pick (.tail (.tail .head))
 exact (h5.symsJoin).symsJoin
end
set_option maxRecDepth 20000 in
theorem change3_any (gv : Value) (g : Gram) (s : SStep) (w : World) (hm : mayB g = true) (hs : mayS g s = true) (hop : s.op = 3) (hg : GramAt (Cl w) gv g) : Calls Try.prog 20 #[gv, stepV s] w (fun e w' => ∃ x : Value × List RV × List Bool × List Bool, e = .returned (.agg #[.int .i64 g.terms, .int .i64 (stepG g s x.2.2.1 x.2.2.2).names, x.1]) ∧ ((s.op = 5 → MksOk g x.2.2.1 ∧ CmsOk g x.2.2.2) ∧ plainR x.2.1 = (stepG g s x.2.2.1 x.2.2.2).rules) ∧ Sat (Old w) w [rulesA x.1 x.2.1, symsA x.2.1] w') := by
 have hg0 := hg
 obtain ⟨rv, rfl, hr⟩ := hg.mono old_rd
 obtain ⟨a, c, rfl, hc1, hc2, hrs⟩ := id hr
 clear hg
 have hM := mayB_true.1 hm
 have hr8 : ∀ r ∈ g.rules, r.right.length ≤ 1000 := fun r hr => by
   obtain ⟨k, hk⟩ := List.getElem?_of_mem hr
   have := (may_rule hm hk).2.2
   omega
 have hs2 := hs
 unfold mayS at hs2
 rw [if_neg (by omega), if_neg (by omega), if_pos hop] at hs2
 simp only [Bool.and_eq_true, inR_true, decide_eq_true_eq] at hs2
 obtain ⟨⟨⟨⟨ha0, ha1⟩, hc0⟩, hb0, hb1⟩, hil⟩ := hs2
 obtain ⟨q, hq⟩ := get_of_lt (l := g.rules) (k := s.a.toNat) (by omega)
 have hra := ruleAt_get hq
 unfold inlB at hil
 rw [hra] at hb1 hil
 obtain ⟨y, hy⟩ := get_of_lt (l := q.right) (k := s.b.toNat) (by omega)
 rw [hy] at hil
 have hq8 := (may_rule hm hq).2.2
 obtain ⟨kl, hkl⟩ : ∃ kl, kl = ofL g.rules y.n := ⟨_, rfl⟩
 have hkll : kl.length ≤ g.rules.length := by rw [hkl]; exact ofLk_len _ _ _
 refine calls_CW Try.func20 rfl Try.ntmps20 rfl (Sat.start w) ?_
 refine nx3 ?_
 refine OW_e (e_box rfl rfl) rfl (fun b2 => ?_)
 refine OW_e (e_box rfl rfl) rfl (fun b3 => ?_)
 refine OW_e (e_alloc Try.zeroValue24 rfl) rfl (fun b4 => ?_)
 refine nx4 ?_
 refine OW_q (q_loadN_own Try.isAgg24 Try.sizeOf24 rfl rfl swt (by rfl)) rfl ?_
 refine OW_e (e_call Try.call30 rfl (fun w hw => lift_oldP (cloneG_any _ g w (by omega) hr8 (hg0.mono (fun _ _ h => hw.rd (Rd.old h)))) hw)) rfl (fun x20 => ?_)
 refine OW_pure fun hx20 => ?_
 obtain ⟨ov, rs⟩ := x20
 have hrl : plainR rs = g.rules := hx20
 have hrsl : rs.length = g.rules.length := by rw [← hrl]; simp [plainR]
 refine OW_fact (fun w hw => hw.tform (v := ov) (l := rs) (enc := encRV) swt) (fun hf => ?_)
 obtain ⟨ao, co, rfl, _, _, hbo⟩ := hf
 refine OW_spell 20 (.agg #[.int .i64 g.terms, .int .i64 g.names, .slice ao rs.length co]) rfl rfl ?_
 refine OW_weak (S' := Sat (Old w) w [rulesA (.slice ao rs.length co) rs, symsA rs, cel b4 24 [.int .i64 0, .int .i64 0, .slice none 0 0], cel b3 26 [.int .i64 s.op, .int .i64 s.a, .int .i64 s.b, .int .i64 s.c], cel b2 24 [.int .i64 g.terms, .int .i64 g.names, .slice a g.rules.length c]]) (fun w hw => hw) ?_
 refine OW_fact (fun w hw => hw.symsOne swt) (fun hone => ?_)
 refine OW_e (e_alloc Try.zeroValue24 rfl) rfl (fun b5 => ?_)
 refine OW_e0 (e_storeN Try.sizeOf24 rfl rfl rfl rfl (by simp [Value.oneCell']) swt (by rfl)) (fun _ => ?_)
 refine nx4 ?_
 refine OW_q (q_fieldAddr Try.underlying24 rfl rfl Try.sizeOf3 rfl rfl) rfl ?_
 refine OW_q (q_load1_own Try.isAgg3 rfl rfl swt (by rfl)) rfl ?_
 refine OW_e (e_call Try.call31 rfl (fun w hw => lift_ro (name_any g.names w) hw)) rfl (fun x23 => ?_)
 refine OW_e (e_alloc Try.zeroValue51 rfl) rfl (fun b6 => ?_)
 refine OW_e0 (e_storeN Try.sizeOf51 rfl rfl rfl rfl (by simp [Value.oneCell']) swt (by rfl)) (fun _ => ?_)
 refine nx2 ?_
 refine CW_seq ?_
 refine nx3 ?_
 refine OW_q (q_fieldAddr Try.underlying26 rfl rfl Try.sizeOf3 rfl rfl) rfl ?_
 refine OW_q (q_load1_own Try.isAgg3 rfl rfl swt (by rfl)) rfl ?_
 refine nx2 ?_
 refine CW_block ?_
 refine nx3 ?_
 refine OW_q (q_eqi rfl rfl) rfl ?_
 refine aO ?_
 refine nx2 ?_
 refine CW_false rfl (by simp [hop]) ?_
 refine nx3 ?_
 refine OW_q (q_eqi rfl rfl) rfl ?_
 refine aO ?_
 refine nx2 ?_
 refine CW_false rfl (by simp [hop]) ?_
 refine nx3 ?_
 refine OW_q (q_eqi rfl rfl) rfl ?_
 refine aO ?_
 refine nx2 ?_
 refine CW_true rfl (by simp [hop]) ?_
 refine CW_seq ?_
 obtain ⟨p, rfl, rvq, hsy, hrow⟩ := hrs s.a.toNat q hq
 obtain ⟨ya, yc, rfl, hy1, hy2, hys⟩ := id hsy
 obtain ⟨py, rfl, hry⟩ := hys s.b.toNat y hy
 refine CW_weak (S' := Sat (Old w) w [rulesA (.slice ao rs.length co) rs, symsA rs, cel b6 51 [.bool false, .int .i64 g.names], cel b5 24 [.int .i64 g.terms, .int .i64 g.names, .slice ao rs.length co], cel b4 24 [.int .i64 0, .int .i64 0, .slice none 0 0], cel b3 26 [.int .i64 s.op, .int .i64 s.a, .int .i64 s.b, .int .i64 s.c], cel b2 24 [.int .i64 g.terms, .int .i64 g.names, .slice (some p) g.rules.length c]]) sft ?_
 refine CW_region ?_
 refine OW_q (q_fieldAddr Try.underlying24 rfl rfl Try.sizeOf22 rfl rfl) rfl ?_
 refine OW_q (q_load1_own Try.isAgg22 rfl rfl swt (by rfl)) rfl ?_
 refine OW_q (q_fieldAddr Try.underlying26 rfl rfl Try.sizeOf3 rfl rfl) rfl ?_
 refine OW_q (q_load1_own Try.isAgg3 rfl rfl swt (by rfl)) rfl ?_
 refine OW_q (q_indexAddrI Try.underlying22 Try.sizeOf49 rfl rfl (by omega) (by omega)) rfl ?_
 refine OW_q (q_loadN_ro Try.isAgg49 Try.sizeOf49 rfl (by exact hrow) (by rfl)) rfl ?_
 refine OW_e (e_alloc Try.zeroValue49 rfl) rfl (fun b9 => ?_)
 refine OW_e0 (e_storeN Try.sizeOf49 rfl rfl rfl rfl (by simp [Value.oneCell']) swt (by rfl)) (fun _ => ?_)
 refine nx4 ?_
 refine aO ?_
 refine nx2 ?_
 refine CW_seq ?_
 refine CW_seq ?_
 refine CW_drawS 11 [(0, false), (1, false), (2, false), (3, false), (4, false), (5, false), (6, false), (7, false), (10, false), (8, true), (9, false)] (by kernel_rfl) (Blind.then (Blind.then (Blind.block (Blind.then (Blind.body (by intro c w h; simp at h)))))) (by kernel_rfl) (fun w hw => hw.drew) ?_
 refine DW_q rfl sft (q_loadN_own Try.isAgg24 Try.sizeOf24 rfl rfl swt (by rfl)) rfl ?_
 refine DW_q rfl sft (q_fieldAddr Try.underlying49 rfl rfl Try.sizeOf46 rfl rfl) rfl ?_
 refine DW_q rfl sft (q_load1_own Try.isAgg46 rfl rfl swt (by rfl)) rfl ?_
 refine DW_q rfl sft (q_fieldAddr Try.underlying26 rfl rfl Try.sizeOf3 rfl rfl) rfl ?_
 refine DW_q rfl sft (q_load1_own Try.isAgg3 rfl rfl swt (by rfl)) rfl ?_
 refine DW_q rfl sft (q_indexAddrI Try.underlying46 Try.sizeOf51 rfl rfl (by omega) (by omega)) rfl ?_
 refine DW_q rfl sft (q_fieldAddr Try.underlying51 rfl rfl Try.sizeOf3 rfl rfl) rfl ?_
 refine DW_q rfl sft (q_load1_ro Try.isAgg3 rfl (by exact hry.at_ (j := 1) rfl)) rfl ?_
 refine mD ?_
 refine DW_e rfl (e_call Try.call28 rfl (fun w hw => lift_old (ofS_any _ g y.n w (by omega) (hg0.mono (fun _ _ h => hw.rd (Rd.old h)))) hw)) rfl (fun _ w hw => by first | exact hw.sub sbt | exact hw.2.sub sbt) (fun x93 => ?_)
 refine DW_fact (fun w hw => hw.tform (v := x93) (l := (ofL g.rules y.n).map (fun (z : Nat) => (z : Int))) (enc := encN) swt) (fun hf => ?_)
 obtain ⟨aq, cq, rfl, _, _, hbq⟩ := hf
 rw [← hkl, List.length_map] at hbq
 refine DW_spell 93 (.slice aq kl.length cq) rfl (by rw [← hkl, List.length_map]) ?_
 refine DW_weak (S' := Sat (Old w) w [trow 3 1 encN (.slice aq kl.length cq) (kl.map (fun (z : Nat) => (z : Int))), cel b9 49 [.int .i64 q.left, .slice (some py) q.right.length yc], rulesA (.slice ao rs.length co) rs, symsA rs, cel b6 51 [.bool false, .int .i64 g.names], cel b5 24 [.int .i64 g.terms, .int .i64 g.names, .slice ao rs.length co], cel b4 24 [.int .i64 0, .int .i64 0, .slice none 0 0], cel b3 26 [.int .i64 s.op, .int .i64 s.a, .int .i64 s.b, .int .i64 s.c], cel b2 24 [.int .i64 g.terms, .int .i64 g.names, .slice (some p) g.rules.length c]]) (fun w hw => by rw [← hkl, List.length_map] at hw; exact hw.sub sbt) ?_
 refine DW_q rfl sft (q_len Try.underlying32 rfl) rfl ?_
 refine DW_nil ?_
 refine EW_then ?_
 refine CW_block ?_
 refine CW_weak (S' := Sat (Old w) w [trow 3 1 encN (.slice aq kl.length cq) (kl.map (fun (z : Nat) => (z : Int))), rulesA (.slice none 0 0) [], symsA [], cel b9 49 [.int .i64 q.left, .slice (some py) q.right.length yc], rulesA (.slice ao rs.length co) rs, symsA rs, cel b6 51 [.bool false, .int .i64 g.names], cel b5 24 [.int .i64 g.terms, .int .i64 g.names, .slice ao rs.length co], cel b4 24 [.int .i64 0, .int .i64 0, .slice none 0 0], cel b3 26 [.int .i64 s.op, .int .i64 s.a, .int .i64 s.b, .int .i64 s.c], cel b2 24 [.int .i64 g.terms, .int .i64 g.names, .slice (some p) g.rules.length c]]) (fun w hw => ((hw.tnil 49 2 encRV).addEmp (A := symsA []) rfl).sub sbt) ?_
 refine CW_loopP (ι := Nat × Value × List RV) (fun i_ => i_.1 ≤ kl.length ∧ plainR i_.2.2 = ((kl.take i_.1).filterMap (fun z => g.rules[z]?)).map (inlR q s.b.toNat)) (fun i_ => [(2, .pointer (some ⟨b2, 0, none⟩)), (3, .pointer (some ⟨b3, 0, none⟩)), (4, .pointer (some ⟨b4, 0, none⟩)), (5, .pointer (some ⟨b5, 0, none⟩)), (6, .pointer (some ⟨b6, 0, none⟩)), (9, .pointer (some ⟨b9, 0, none⟩)), (10, i_.2.1), (93, .slice aq kl.length cq), (94, .int .i64 (kl.length : Int)), (95, .int .i64 (i_.1 : Int))]) (fun i_ => Sat (Old w) w [trow 3 1 encN (.slice aq kl.length cq) (kl.map (fun (z : Nat) => (z : Int))), rulesA i_.2.1 i_.2.2, symsA i_.2.2, cel b9 49 [.int .i64 q.left, .slice (some py) q.right.length yc], rulesA (.slice ao rs.length co) rs, symsA rs, cel b6 51 [.bool false, .int .i64 g.names], cel b5 24 [.int .i64 g.terms, .int .i64 g.names, .slice ao rs.length co], cel b4 24 [.int .i64 0, .int .i64 0, .slice none 0 0], cel b3 26 [.int .i64 s.op, .int .i64 s.a, .int .i64 s.b, .int .i64 s.c], cel b2 24 [.int .i64 g.terms, .int .i64 g.names, .slice (some p) g.rules.length c]]) (fun i_ => kl.length - i_.1) (0, .slice none 0 0, []) ?_ ⟨rfl, rfl, rfl, rfl, rfl, rfl, rfl, rfl, rfl, rfl, trivial⟩ sft ?_
 · exact ⟨Nat.zero_le _, by simp [plainR]⟩
 intro i_ hpre
 obtain ⟨k, lv, lrs⟩ := i_
 replace hpre : k ≤ kl.length ∧ plainR lrs = ((kl.take k).filterMap (fun z => g.rules[z]?)).map (inlR q s.b.toNat) := hpre
 change CW _ _ _ _ [(2, .pointer (some ⟨b2, 0, none⟩)), (3, .pointer (some ⟨b3, 0, none⟩)), (4, .pointer (some ⟨b4, 0, none⟩)), (5, .pointer (some ⟨b5, 0, none⟩)), (6, .pointer (some ⟨b6, 0, none⟩)), (9, .pointer (some ⟨b9, 0, none⟩)), (10, lv), (93, .slice aq kl.length cq), (94, .int .i64 (kl.length : Int)), (95, .int .i64 (k : Int))] (Sat (Old w) w [trow 3 1 encN (.slice aq kl.length cq) (kl.map (fun (z : Nat) => (z : Int))), rulesA lv lrs, symsA lrs, cel b9 49 [.int .i64 q.left, .slice (some py) q.right.length yc], rulesA (.slice ao rs.length co) rs, symsA rs, cel b6 51 [.bool false, .int .i64 g.names], cel b5 24 [.int .i64 g.terms, .int .i64 g.names, .slice ao rs.length co], cel b4 24 [.int .i64 0, .int .i64 0, .slice none 0 0], cel b3 26 [.int .i64 s.op, .int .i64 s.a, .int .i64 s.b, .int .i64 s.c], cel b2 24 [.int .i64 g.terms, .int .i64 g.names, .slice (some p) g.rules.length c]])
 obtain ⟨hk, hlr⟩ := hpre
 have hll : lrs.length ≤ k := by have h1 := congrArg List.length hlr; have := List.length_filterMap_le (fun z => g.rules[z]?) (kl.take k); unfold plainR at h1; rw [List.length_map, List.length_map] at h1; rw [List.length_take] at this; omega
 refine nx3 ?_
 refine OW_q (q_lss rfl rfl) rfl ?_
 refine nx2 ?_
 refine CW_seq ?_
 refine CW_cond rfl (fun h96 => ?_) (fun h96 => ?_)
 · skip
   have hlk : k < kl.length := by have := of_decide_eq_true h96; omega
   obtain ⟨j, hj⟩ := get_of_lt hlk
   have hjm : (kl.map (fun (z : Nat) => (z : Int)))[k]? = some ((j : Nat) : Int) := by rw [List.getElem?_map, hj]; rfl
   obtain ⟨bq, rfl⟩ := hbq (by omega)
   obtain ⟨q2, hq2, _⟩ := ofL_mem (rs := g.rules) (n := y.n) (by rw [← hkl]; exact List.mem_of_getElem? hj)
   have hjr := (List.getElem?_eq_some_iff.1 hq2).1
   have hq28 := (may_rule hm hq2).2.2
   obtain ⟨p', hp', rv2, hsy2, hrow2⟩ := hrs j q2 hq2
   cases hp'
   obtain ⟨ja, jc, rfl, _, _, _⟩ := id hsy2
   refine CW_skip ?_
   refine EW_then ?_
   refine CW_seq ?_
   refine CW_block ?_
   refine nx3 ?_
   refine OW_q (q_indexAddr Try.underlying32 Try.sizeOf3 rfl rfl (by omega)) rfl ?_
   refine OW_q (q_load_t1 (enc := encN) (k := k) (v := .slice (some ⟨bq, 0, none⟩) kl.length cq) (l := kl.map (fun (z : Nat) => (z : Int))) Try.isAgg3 (fun _ => rfl) rfl swt rfl hjm rfl) rfl ?_
   refine aO ?_
   refine nx2 ?_
   refine CW_draw (Sat (Old w) w [cel b9 49 [.int .i64 q.left, .slice (some py) q.right.length yc], cel b3 26 [.int .i64 s.op, .int .i64 s.a, .int .i64 s.b, .int .i64 s.c], cel b2 24 [.int .i64 g.terms, .int .i64 g.names, .slice (some p) g.rules.length c]]) 22 [(0, false), (1, false), (2, false), (3, false), (4, false), (6, false), (7, false), (8, false), (9, false), (10, false), (11, false), (12, false), (13, false), (14, false), (15, false), (16, false), (5, true), (17, true), (18, false), (19, true), (20, true), (21, false)] (by kernel_rfl) (Blind.block (Blind.then (Blind.again (Blind.block (Blind.then (Blind.block (Blind.then (Blind.body (by intro c w h; simp at h))))))))) (by kernel_rfl) (fun w hw => hw.drew) ?_
   refine mD ?_
   refine DW_q rfl sft (q_fieldAddr Try.underlying49 rfl rfl Try.sizeOf3 rfl rfl) rfl ?_
   refine DW_q rfl sft (q_load1_own Try.isAgg3 rfl rfl swt (by rfl)) rfl ?_
   refine DW_q rfl sft (q_fieldAddr Try.underlying49 rfl rfl Try.sizeOf46 rfl rfl) rfl ?_
   refine DW_q rfl sft (q_load1_own Try.isAgg46 rfl rfl swt (by rfl)) rfl ?_
   refine DW_q rfl sft (q_fieldAddr Try.underlying26 rfl rfl Try.sizeOf3 rfl rfl) rfl ?_
   refine DW_q rfl sft (q_load1_own Try.isAgg3 rfl rfl swt (by rfl)) rfl ?_
   refine DW_q rfl sft (q_fieldAddr Try.underlying26 rfl rfl Try.sizeOf3 rfl rfl) rfl ?_
   refine DW_q rfl sft (q_load1_own Try.isAgg3 rfl rfl swt (by rfl)) rfl ?_
   refine DW_q rfl sft (q_add rfl rfl (by omega) (by omega)) rfl ?_
   refine DW_q rfl sft (q_fieldAddr Try.underlying24 rfl rfl Try.sizeOf22 rfl rfl) rfl ?_
   refine DW_q rfl sft (q_load1_own Try.isAgg22 rfl rfl swt (by rfl)) rfl ?_
   refine mD ?_
   refine DW_q rfl sft (q_indexAddr Try.underlying22 Try.sizeOf49 rfl rfl (by omega)) rfl ?_
   refine DW_q rfl sft (q_fieldAddr Try.underlying49 rfl rfl Try.sizeOf46 rfl rfl) rfl ?_
   refine DW_q rfl sft (q_load1_ro Try.isAgg46 rfl (by exact hrow2.at_ (j := 1) rfl)) rfl ?_
   refine DW_e rfl (e_call Try.call33 rfl (fun w hw => lift_old (cloneY_any _ q.right w (by omega) (hsy.mono fun _ _ h => hw.rd h)) hw)) rfl (fun _ w hw => by first | exact hw.sub sbt | exact hw.2.sub sbt) (fun x104 => ?_)
   refine DW_spell 106 (.int .i64 ((s.b.toNat : Nat) : Int)) rfl (congrArg (Value.int .i64) (by omega)) ?_
   refine DW_spell 109 (.int .i64 ((s.b.toNat + 1 : Nat) : Int)) rfl (congrArg (Value.int .i64) (by omega)) ?_
   refine DW_e rfl (e_call Try.call34 rfl (fun w hw => lift_mutN (M0 := [trow 51 2 encY x104 q.right]) (L1 := [trow 3 1 encN (.slice (some ⟨bq, 0, none⟩) kl.length cq) (kl.map (fun (z : Nat) => (z : Int))), rulesA lv lrs, symsA lrs, cel b9 49 [.int .i64 q.left, .slice (some py) q.right.length yc], rulesA (.slice ao rs.length co) rs, symsA rs, cel b6 51 [.bool false, .int .i64 g.names], cel b5 24 [.int .i64 g.terms, .int .i64 g.names, .slice ao rs.length co], cel b4 24 [.int .i64 0, .int .i64 0, .slice none 0 0], cel b3 26 [.int .i64 s.op, .int .i64 s.a, .int .i64 s.b, .int .i64 s.c], cel b2 24 [.int .i64 g.terms, .int .i64 g.names, .slice (some p) g.rules.length c]]) (hw.sub sbt) (fun F hF => replY_any x104 q.right q2.right s.b.toNat (s.b.toNat + 1) jc ja _ _ w F (by omega) (by omega) (by omega) (VIn.syms hsy2) hF))) rfl (fun _ w hw => by first | exact hw.sub sbt | exact hw.2.sub sbt) (fun x116 => ?_)
   refine DW_fact (fun w hw => hw.tform (v := x116) (l := (inlR q s.b.toNat q2).right) (enc := encY) swt) (fun hf => ?_)
   obtain ⟨a116, c116, rfl, _, _, hb116⟩ := hf
   refine DW_q rfl sft (q_build (ps := #[(0, .int .i64 q.left), (1, .slice a116 (inlR q s.b.toNat q2).right.length c116)]) (v := .agg #[.int .i64 q.left, .slice a116 (inlR q s.b.toNat q2).right.length c116]) rfl (fun w => by kernel_rfl)) rfl ?_
   refine DW_e rfl (e_single Try.underlying22 Try.sizeOf49 Try.zeroValue49 (e := 49) (v := .agg #[.int .i64 q.left, .slice a116 (inlR q s.b.toNat q2).right.length c116]) (cs := [.int .i64 q.left, .slice a116 (inlR q s.b.toNat q2).right.length c116]) rfl rfl rfl rfl (by decide) (by decide)) rfl (fun _ => sft) (fun b118 => ?_)
   refine DW_e rfl (e_append_t (x0 := (⟨(inlR q s.b.toNat q2), .slice a116 (inlR q s.b.toNat q2).right.length c116⟩ : RV)) (enc := encRV) (l := lrs) Try.underlying22 Try.typeInfo49 rfl rfl rfl rfl rfl rfl rfl pkt rfl (by exact fun w hw => hw.news swt) (by simp [Value.oneCell']) (by omega) (by decide)) rfl (fun _ => sft) (fun v119 => ?_)
   refine DW_q rfl sft (q_assign rfl) rfl ?_
   refine DW_nil ?_
   refine EW_block_normal ?_
   refine EW_then ?_
   refine CW_region ?_
   refine OW_q (q_add rfl rfl (by omega) (by omega)) rfl ?_
   refine mO ?_
   refine OW_nil ?_
   refine EW_weak (S' := Sat (Old _) _ [trow 3 1 encN (.slice (some ⟨bq, 0, none⟩) kl.length cq) (kl.map (fun (z : Nat) => (z : Int))), rulesA v119 (lrs ++ [(⟨(inlR q s.b.toNat q2), .slice a116 (inlR q s.b.toNat q2).right.length c116⟩ : RV)]), symsA (lrs ++ [(⟨(inlR q s.b.toNat q2), .slice a116 (inlR q s.b.toNat q2).right.length c116⟩ : RV)]), cel b9 49 [.int .i64 q.left, .slice (some py) q.right.length yc], rulesA (.slice ao rs.length co) rs, symsA rs, cel b6 51 [.bool false, .int .i64 g.names], cel b5 24 [.int .i64 g.terms, .int .i64 g.names, .slice ao rs.length co], cel b4 24 [.int .i64 0, .int .i64 0, .slice none 0 0], cel b3 26 [.int .i64 s.op, .int .i64 s.a, .int .i64 s.b, .int .i64 s.c], cel b2 24 [.int .i64 g.terms, .int .i64 g.names, .slice (some p) g.rules.length c]]) (fun w hw => by
     have h1 : Sat _ _ (symsA lrs :: symA (⟨(inlR q s.b.toNat q2), .slice a116 (inlR q s.b.toNat q2).right.length c116⟩ : RV) :: [trow 3 1 encN (.slice (some ⟨bq, 0, none⟩) kl.length cq) (kl.map (fun (z : Nat) => (z : Int))), rulesA v119 (lrs ++ [(⟨(inlR q s.b.toNat q2), .slice a116 (inlR q s.b.toNat q2).right.length c116⟩ : RV)]), cel b9 49 [.int .i64 q.left, .slice (some py) q.right.length yc], rulesA (.slice ao rs.length co) rs, symsA rs, cel b6 51 [.bool false, .int .i64 g.names], cel b5 24 [.int .i64 g.terms, .int .i64 g.names, .slice ao rs.length co], cel b4 24 [.int .i64 0, .int .i64 0, .slice none 0 0], cel b3 26 [.int .i64 s.op, .int .i64 s.a, .int .i64 s.b, .int .i64 s.c], cel b2 24 [.int .i64 g.terms, .int .i64 g.names, .slice (some p) g.rules.length c]]) w := hw.sub sbt
     exact h1.symsPush.sub sbt) ?_
   refine EW_again ((k + 1, v119, lrs ++ [(⟨(inlR q s.b.toNat q2), .slice a116 (inlR q s.b.toNat q2).right.length c116⟩ : RV)])) ⟨?_, ?_⟩ ⟨rfl, rfl, rfl, rfl, rfl, rfl, rfl, rfl, rfl, rfl, trivial⟩ sft
   · show kl.length - (k + 1) < kl.length - k; omega
   · refine ⟨by show k + 1 ≤ _; omega, ?_⟩
     show plainR (lrs ++ [_]) = _
     rw [take_next hj, List.filterMap_append, List.map_append, ← hlr]
     simp [plainR, hq2]
 have hke : k = kl.length := by have := of_decide_eq_false h96; omega
 refine CW_exit ?_
 refine EW_then_exit ?_
 refine EW_out ?_
 refine EW_block_exit ?_
 refine EW_then ?_
 refine CW_fact (fun w hw => hw.tform (v := lv) (l := lrs) (enc := encRV) swt) (fun hf => ?_)
 obtain ⟨al, cl, rfl, _, _, hbl⟩ := hf
 refine CW_fact (fun w hw => hw.symsOne (rs := lrs) swt) (fun hone2 => ?_)
 refine CW_weak (S' := Sat (Old w) w [rulesA (.slice al lrs.length cl) lrs, rulesA (.slice ao rs.length co) rs, symsA rs, symsA lrs, cel b6 51 [.bool false, .int .i64 g.names], cel b5 24 [.int .i64 g.terms, .int .i64 g.names, .slice ao rs.length co], cel b4 24 [.int .i64 0, .int .i64 0, .slice none 0 0], cel b3 26 [.int .i64 s.op, .int .i64 s.a, .int .i64 s.b, .int .i64 s.c], cel b2 24 [.int .i64 g.terms, .int .i64 g.names, .slice (some p) g.rules.length c]]) sft ?_
 refine CW_region ?_
 refine OW_q (q_fieldAddr Try.underlying24 rfl rfl Try.sizeOf22 rfl rfl) rfl ?_
 refine OW_q (q_load1_own Try.isAgg22 rfl rfl swt (by rfl)) rfl ?_
 refine OW_q (q_fieldAddr Try.underlying26 rfl rfl Try.sizeOf3 rfl rfl) rfl ?_
 refine OW_q (q_load1_own Try.isAgg3 rfl rfl swt (by rfl)) rfl ?_
 refine OW_q (q_fieldAddr Try.underlying26 rfl rfl Try.sizeOf3 rfl rfl) rfl ?_
 refine OW_q (q_load1_own Try.isAgg3 rfl rfl swt (by rfl)) rfl ?_
 refine OW_q (q_add rfl rfl (by omega) (by omega)) rfl ?_
 refine mO ?_
 refine OW_spell 124 (.int .i64 ((s.a.toNat : Nat) : Int)) rfl (congrArg (Value.int .i64) (by omega)) ?_
 refine OW_spell 127 (.int .i64 ((s.a.toNat + 1 : Nat) : Int)) rfl (congrArg (Value.int .i64) (by omega)) ?_
 refine OW_e (e_call Try.call35 rfl (fun w hw => lift_two (VA := rulesA (.slice al lrs.length cl) lrs) Hole.head hw (fun F hF => replRV_any (.slice ao rs.length co) rs lrs s.a.toNat (s.a.toNat + 1) cl al _ _ w _ (by omega) (by omega) (by omega) hone hone2 (VIn.star VIn.trow) hF))) rfl (fun x129 => ?_)
 refine OW_fact (fun w hw => hw.tform (v := x129) (l := (rs.take s.a.toNat ++ lrs ++ rs.drop (s.a.toNat + 1))) (enc := encRV) swt) (fun hf => ?_)
 obtain ⟨a129, c129, rfl, _, _, hb129⟩ := hf
 refine OW_q (q_fieldAddr Try.underlying24 rfl rfl Try.sizeOf22 rfl rfl) rfl ?_
 refine OW_e0 (e_store Try.sizeOf22 rfl rfl rfl rfl swt (by rfl)) (fun _ => ?_)
 refine OW_nil ?_
 refine EW_block_normal ?_
 refine EW_then ?_
 refine nx3 ?_
 refine OW_q (q_loadN_own Try.isAgg24 Try.sizeOf24 rfl rfl swt (by rfl)) rfl ?_
 refine OW_e0 (e_storeN Try.sizeOf24 rfl rfl rfl rfl (by simp [Value.oneCell']) swt (by rfl)) (fun _ => ?_)
 refine nx2 ?_
 refine CW_ret ?_
 refine retc1a (vs := [.int .i64 g.terms, .int .i64 g.names, .slice a129 (rs.take s.a.toNat ++ lrs ++ rs.drop (s.a.toNat + 1)).length c129]) Try.results20 Try.isAgg24 Try.sizeOf24 rfl rfl (fun w hw j u hj => by rw [Addr.add_lit, hw.cell (t := 24) (cs := [.int .i64 g.terms, .int .i64 g.names, .slice a129 (rs.take s.a.toNat ++ lrs ++ rs.drop (s.a.toNat + 1)).length c129]) (A' := cel b4 24 [.int .i64 g.terms, .int .i64 g.names, .slice a129 (rs.take s.a.toNat ++ lrs ++ rs.drop (s.a.toNat + 1)).length c129]) swt, Nat.zero_add]; exact hj) (fun w hw => ?_)
 have hst : ∀ ms cs, stepG g s ms cs = ⟨g.terms, g.names, g.rules.take s.a.toNat ++ inlL g s ++ g.rules.drop (s.a.toNat + 1)⟩ := fun ms cs => by unfold stepG; rw [if_neg (by omega), if_neg (by omega), if_pos hop]
 refine ⟨(.slice a129 (rs.take s.a.toNat ++ lrs ++ rs.drop (s.a.toNat + 1)).length c129, rs.take s.a.toNat ++ lrs ++ rs.drop (s.a.toNat + 1), [], []), by simp only [hst], ⟨fun h => by omega, ?_⟩, ?_⟩
 · simp only [hst]
   have e1 : inlL g s = plainR lrs := by
     rw [hlr, hke, List.take_length, hkl, ofL_pick]
     unfold inlL
     rw [hra, hy]
     simp
   rw [e1, ← hrl]
   simp [plainR, List.map_take, List.map_drop]
 · have h1 : Sat (Old _) _ (symsA rs :: symsA lrs :: [rulesA (.slice a129 (rs.take s.a.toNat ++ lrs ++ rs.drop (s.a.toNat + 1)).length c129) (rs.take s.a.toNat ++ lrs ++ rs.drop (s.a.toNat + 1))]) w := hw.sub sbt
   exact h1.symsPutIn.sub sbt

end Go.Sy
/- Regions that draw their order and write more than once what is read in them: who writes waits for who reads. No condition. -/
namespace Go.Sy
open Go Go.RowKit

section
variable {P : Program} {ops : Array Oper} {Q : Exit → Act → World → Prop} {md : Region.Mode} {S : World → Prop} {br : List Nat}

/-- One of those that break the class is listed. -/
def Bk (br : List Nat) (listed : Array Bool) : Prop := ∃ k, k ∈ br ∧ listed.getD k false = true
theorem Bk.set {i : Nat} {listed : Array Bool} (h : Bk br listed) : Bk br (listed.setIfInBounds i true) := let ⟨k, h1, h2⟩ := h; ⟨k, h1, getD_set_true h2⟩
theorem Bk.unset {i : Nat} {listed : Array Bool} (h : Bk br (listed.setIfInBounds i true)) (hi : i ∉ br) : Bk br listed := by
  obtain ⟨k, h1, h2⟩ := h
  have hne : i ≠ k := fun e => hi (e ▸ h1)
  rw [getD_set_ne false hne] at h2
  exact ⟨k, h1, h2⟩

/-- Whatever order is picked from here on, and the class holds till one is listed that breaks it. -/
def wpAnyR (P : Program) (md : Region.Mode) (ops : Array Oper) (Q : Exit → Act → World → Prop) (S : World → Prop) (br : List Nat) : Nat → Array Bool → Act → World → Prop
  | 0, listed, a, w => Region.ready md ops listed = [] ∧ Q .normal a w
  | fuel + 1, listed, a, w =>
    (Region.ready md ops listed = [] → Q .normal a w) ∧
    ∀ i ∈ Region.ready md ops listed, wpOp P ops Q i (fun a' w' => (Bk br (listed.setIfInBounds i true) ∨ S w') ∧ wpAnyR P md ops Q S br fuel (listed.setIfInBounds i true) a' w') a w

theorem wpAny_of_R : ∀ (fuel : Nat) (listed : Array Bool) (a : Act) (w : World), wpAnyR P md ops Q S br fuel listed a w → wpAny P md ops Q fuel listed a w
  | 0, _, _, _, h => h
  | fuel + 1, _, _, _, h => ⟨h.1, fun i hi => wpOp_mono (fun a' w' h' => wpAny_of_R fuel _ a' w' h'.2) (h.2 i hi)⟩

/-- Every one that breaks the class waits for this one. -/
def waitsB (md : Region.Mode) (ops : Array Oper) (br : List Nat) (i : Nat) : Bool := br.all fun k => match ops[k]? with
  | some o => o.after.toList.any (fun e => Region.binds md e && e.on == i)
  | none => true

theorem waits_not {i j : Nat} {listed : Array Bool} (hw : waitsB md ops br i = true) (hun : listed.getD i true = false) (hj : j ∈ Region.ready md ops listed) : j ∉ br := by
  intro hb
  obtain ⟨_, oj, hoj, hall⟩ := mem_ready.1 hj
  have h1 := List.all_eq_true.1 hw j hb
  simp only [hoj] at h1
  obtain ⟨e, he, h2⟩ := List.any_eq_true.1 h1
  simp only [Bool.and_eq_true, beq_iff_eq] at h2
  have h3 := hall e (by simpa using he) h2.1
  rw [h2.2] at h3
  rcases Nat.lt_or_ge i listed.size with h' | h'
  · simp [h'] at hun h3; rw [hun] at h3; cases h3
  · simp [Array.getElem?_eq_none h'] at h3

theorem wpAnyR_first {i : Nat} {oi : Oper} {v : Value} {rd : Bool} (hi : ops[i]? = some oi) (hsel : ∀ (j : Nat) (o : Oper) cs b, ops[j]? = some o → o.op ≠ .select cs b)
    (hQ : ∀ c a w, Q (.panic c) (a.put oi.dst v) w → Q (.panic c) a w) (hbi : i ∉ br) (hwt : rd = true → waitsB md ops br i = true) :
    ∀ (fuel : Nat) (listed : Array Bool) (a : Act) (w : World), (rd = true → ¬ Bk br listed) →
      (∀ j oj, ops[j]? = some oj → j ≠ i → listed.getD j true = false → (∀ e ∈ oj.after, Region.binds md e = true → e.on ≠ i) → oi.apart ops oj = true) →
      i ∈ Region.ready md ops listed → YieldsIf P ops (fun w => rd = true → S w) oi v a → (Bk br listed ∨ S w) →
      wpAnyR P md ops Q S br fuel (listed.setIfInBounds i true) (a.put oi.dst v) w → wpAnyR P md ops Q S br (fuel + 1) listed a w := by
  intro fuel
  induction fuel with
  | zero =>
    intro listed a w hnb _ hr hy hS H
    refine ⟨fun h => (by rw [h] at hr; cases hr), fun j hj => ?_⟩
    by_cases hji : j = i
    · subst hji; exact hy.wpOp hi (fun h => hS.resolve_left (hnb h)) ⟨hS.imp Bk.set id, H⟩
    · have := ready_mono hj hji
      rw [H.1] at this
      cases this
  | succ fuel ih =>
    intro listed a w hnb hfree hr hy hS H
    refine ⟨fun h => (by rw [h] at hr; cases hr), fun j hj => ?_⟩
    by_cases hji : j = i
    · subst hji; exact hy.wpOp hi (fun h => hS.resolve_left (hnb h)) ⟨hS.imp Bk.set id, H⟩
    · have h1 := H.2 j (ready_mono hj hji)
      obtain ⟨hjun, oj, hoj, hall⟩ := mem_ready.1 hj
      have hiun := (mem_ready.1 hr).1
      have hnot : ∀ e ∈ oj.after, Region.binds md e = true → e.on ≠ i := fun e he hb heq => by
        have h1 := hall e he hb
        rw [heq] at h1
        rcases Nat.lt_or_ge i listed.size with h' | h'
        · simp [h'] at hiun h1; rw [hiun] at h1; cases h1
        · simp [Array.getElem?_eq_none h'] at h1
      have h2 := wpOp_putIf hoj (hfree j oj hoj hji hjun hnot) (fun cs b => hsel i oi cs b hi) (fun cs b => hsel j oj cs b hoj) hQ hy h1
      have hfree' : ∀ k ok, ops[k]? = some ok → k ≠ i → (listed.setIfInBounds j true).getD k true = false →
          (∀ e ∈ ok.after, Region.binds md e = true → e.on ≠ i) → oi.apart ops ok = true := fun k ok hk hki hun hno => by
        refine hfree k ok hk hki ?_ hno
        by_cases hjk : j = k
        · subst hjk; exact hjun
        · rw [getD_set_ne true hjk] at hun; exact hun
      refine wpOp_mono (fun a' w' h3 => ?_) h2
      have hnb' : rd = true → ¬ Bk br (listed.setIfInBounds j true) := fun h hb => hnb h (hb.unset (waits_not (hwt h) hiun hj))
      have hS' : Bk br (listed.setIfInBounds j true) ∨ S w' := by
        rcases h3.2.1 with hb | hs
        · rw [Array.setIfInBounds_comm _ _ (Ne.symm hji)] at hb
          exact .inl (hb.unset hbi)
        · exact .inr hs
      refine ⟨hS', ih (listed.setIfInBounds j true) a' w' hnb' hfree' (ready_mono hr (Ne.symm hji)) h3.1 hS' ?_⟩
      rw [Array.setIfInBounds_comm _ _ hji]
      exact h3.2.2

/-- A walk's order: of each operation whether it reads the world, only reckons, or turns the world; at a place two that turn it may come first. -/
inductive Sch
  | nil
  | q (i : Nat) (rd : Bool) (l : Sch)
  | e (i : Nat) (l : Sch)
  | alt (i : Nat) (l : Sch) (j : Nat) (l2 : Sch)
def Sch.len : Sch → Nat
  | nil => 0
  | q _ _ l => l.len + 1
  | e _ l => l.len + 1
  | alt _ l _ _ => l.len + 1
def wpT (P : Program) (ops : Array Oper) (Q : Exit → Act → World → Prop) (S : World → Prop) (br : List Nat) : Sch → Bool → Act → World → Prop
  | .nil, _, a, w => Q .normal a w
  | .q i rd l, bk, a, w => (bk = true ∨ S w) ∧ ∃ o v, ops[i]? = some o ∧ YieldsIf P ops (fun w => rd = true → S w) o v a ∧ wpT P ops Q S br l bk (a.put o.dst v) w
  | .e i l, bk, a, w => wpOp P ops Q i (fun a' w' => ((bk || br.contains i) = true ∨ S w') ∧ wpT P ops Q S br l (bk || br.contains i) a' w') a w
  | .alt i l j l2, bk, a, w => wpOp P ops Q i (fun a' w' => ((bk || br.contains i) = true ∨ S w') ∧ wpT P ops Q S br l (bk || br.contains i) a' w') a w ∧ wpOp P ops Q j (fun a' w' => ((bk || br.contains j) = true ∨ S w') ∧ wpT P ops Q S br l2 (bk || br.contains j) a' w') a w

def schedT (md : Region.Mode) (ops : Array Oper) (br : List Nat) : Sch → Bool → Array Bool → Bool
  | .nil, _, listed => (Region.ready md ops listed).isEmpty
  | .q i rd l, bk, listed => (Region.ready md ops listed).contains i && Region.free md ops listed i && !br.contains i && (!rd || (!bk && waitsB md ops br i)) && schedT md ops br l bk (listed.setIfInBounds i true)
  | .e i l, bk, listed => (Region.ready md ops listed == [i]) && Nat.blt i listed.size && schedT md ops br l (bk || br.contains i) (listed.setIfInBounds i true)
  | .alt i l j l2, bk, listed => (Region.ready md ops listed == [i, j]) && Nat.blt i listed.size && Nat.blt j listed.size && Nat.beq l.len l2.len && schedT md ops br l (bk || br.contains i) (listed.setIfInBounds i true) && schedT md ops br l2 (bk || br.contains j) (listed.setIfInBounds j true)

theorem bk_next {bk : Bool} {listed : Array Bool} {i : Nat} (hbk : bk = true ↔ Bk br listed) (hlt : i < listed.size) : (bk || br.contains i) = true ↔ Bk br (listed.setIfInBounds i true) := by
  rw [Bool.or_eq_true]
  constructor
  · rintro (h | h)
    · exact (hbk.1 h).set
    · exact ⟨i, by simpa using h, by simp [hlt]⟩
  · intro h
    by_cases hb : i ∈ br
    · exact .inr (by simpa using hb)
    · exact .inl (hbk.2 (h.unset hb))
theorem wpAnyR_of_T (hsel : Region.noSelect ops = true) (hQ : ∀ c (a : Act) (d : Option Nat) (v : Value) w, Q (.panic c) (a.put d v) w → Q (.panic c) a w) : ∀ (l : Sch) (bk : Bool) (listed : Array Bool) (a : Act) (w : World), (bk = true ↔ Bk br listed) → schedT md ops br l bk listed = true →
    wpT P ops Q S br l bk a w → wpAnyR P md ops Q S br l.len listed a w
  | .nil, bk, listed, a, w, _, hB, h => ⟨by simpa [schedT] using hB, h⟩
  | .q i rd l, bk, listed, a, w, hbk, hB, h => by
    have hB2 : (Region.ready md ops listed).contains i = true ∧ Region.free md ops listed i = true ∧ br.contains i = false ∧ (rd = true → bk = false ∧ waitsB md ops br i = true) ∧ schedT md ops br l bk (listed.setIfInBounds i true) = true := by
      unfold schedT at hB
      simp only [Bool.and_eq_true, Bool.or_eq_true, Bool.not_eq_true'] at hB
      obtain ⟨⟨⟨⟨h1, h2⟩, h3⟩, h4⟩, h5⟩ := hB
      exact ⟨h1, h2, h3, fun hr => h4.resolve_left (by rw [hr]; decide), h5⟩
    obtain ⟨hr, hf, hb, hrd, hB'⟩ := hB2
    obtain ⟨hS, o, v, ho, hy, hrest⟩ := h
    have hbi : i ∉ br := by simpa using hb
    have hr' : i ∈ Region.ready md ops listed := by simpa using hr
    exact wpAnyR_first ho (Region.noSelect_spec hsel) (fun c a w hq => hQ c a _ _ w hq) hbi (fun h => (hrd h).2) l.len listed a w (fun h hb => by have := hbk.2 hb; rw [(hrd h).1] at this; cases this) (Region.free_spec ho hf) hr' hy (hS.imp hbk.1 id)
      (wpAnyR_of_T hsel hQ l bk _ _ w ⟨fun h => (hbk.1 h).set, fun h => hbk.2 (h.unset hbi)⟩ hB' hrest)
  | .e i l, bk, listed, a, w, hbk, hB, h => by
    have hB2 : (Region.ready md ops listed == [i]) = true ∧ Nat.blt i listed.size = true ∧ schedT md ops br l (bk || br.contains i) (listed.setIfInBounds i true) = true := by
      unfold schedT at hB
      simpa [and_assoc] using hB
    obtain ⟨hr, hi0, hB'⟩ := hB2
    have hr' : Region.ready md ops listed = [i] := by simpa using hr
    have hlt : i < listed.size := by simpa [Nat.blt_eq] using hi0
    have hbk' := bk_next hbk hlt
    refine ⟨fun h0 => (by rw [h0] at hr'; cases hr'), fun j hj => ?_⟩
    rw [hr'] at hj
    have hji : j = i := by simpa using hj
    subst hji
    exact wpOp_mono (fun a' w' h2 => ⟨h2.1.imp hbk'.1 id, wpAnyR_of_T hsel hQ l _ _ a' w' hbk' hB' h2.2⟩) h
  | .alt i l j l2, bk, listed, a, w, hbk, hB, h => by
    unfold schedT at hB
    simp only [Bool.and_eq_true] at hB
    obtain ⟨⟨⟨⟨⟨hr, hi0⟩, hj0⟩, hl⟩, hB1⟩, hB2⟩ := hB
    have hr' : Region.ready md ops listed = [i, j] := by simpa using hr
    have hlti : i < listed.size := by simpa [Nat.blt_eq] using hi0
    have hltj : j < listed.size := by simpa [Nat.blt_eq] using hj0
    have hll : l.len = l2.len := Nat.eq_of_beq_eq_true hl
    have hbki := bk_next hbk hlti
    have hbkj := bk_next hbk hltj
    refine ⟨fun h0 => (by rw [h0] at hr'; cases hr'), fun k hk => ?_⟩
    rw [hr'] at hk
    rcases List.mem_cons.1 hk with rfl | hk
    · exact wpOp_mono (fun a' w' h2 => ⟨h2.1.imp hbki.1 id, wpAnyR_of_T hsel hQ l _ _ a' w' hbki hB1 h2.2⟩) h.1
    · have hkj : k = j := by simpa using hk
      subst hkj
      rw [hll]
      exact wpOp_mono (fun a' w' h2 => ⟨h2.1.imp hbkj.1 id, wpAnyR_of_T hsel hQ l2 _ _ a' w' hbkj hB2 h2.2⟩) h.2

def drawT (ops : Array Oper) (br : List Nat) (l : Sch) : Bool :=
  Region.noSelect ops && Nat.beq l.len ops.size && schedT .any ops br l false (Array.replicate ops.size false)

theorem wp_region_T {id : Nat} {a : Act} {w : World} {l : Sch} (hm : P.follows .mixedOrders = true) (hQ : ∀ c (a : Act) (d : Option Nat) (v : Value) w, Q (.panic c) (a.put d v) w → Q (.panic c) a w) (hB : drawT ops br l = true)
    (h : wpT P ops Q S br l false a { w with drawn := w.drawn + 1 }) : (Code.region id ops true).wp P Q a w := by
  simp only [drawT, Bool.and_eq_true] at hB
  obtain ⟨⟨hsel, hl⟩, hB⟩ := hB
  refine wp_region_any hm (wpAny_of_R (S := S) (br := br) _ _ _ _ ?_)
  have := wpAnyR_of_T hsel hQ l false (Array.replicate ops.size false) a _ ⟨(fun h => by cases h), (fun ⟨k, _, hk⟩ => by simp [Array.getElem?_replicate] at hk; split at hk <;> cases hk)⟩ hB h
  rwa [Nat.eq_of_beq_eq_true hl] at this
end

/-- The rest of a schedule, from a known frame and a world of the class. -/
def DT (P : Program) (ops : Array Oper) (Q : Exit → Act → World → Prop) (C : World → Prop) (br : List Nat) (bk : Bool) (l : Sch) (n : Nat) (K : Env) (S : World → Prop) : Prop :=
  ∀ a w, Kn n K a → S w → wpT P ops Q C br l bk a w

section
variable {P : Program} {Q : Exit → Act → World → Prop} {n : Nat} {K : Env} {S C : World → Prop} {ops : Array Oper} {br : List Nat} {bk : Bool} {l l2 : Sch}
theorem CW_drawT {id : Nat} {lo : List Oper} (C : World → Prop) (br : List Nat) (l : Sch) (hm : P.follows .mixedOrders = true) (hQ : Blind Q) (hB : drawT lo.toArray br l = true) (hS : ∀ w, S w → S w.drew)
    (h : DT P lo.toArray Q C br false l n K S) : CW P (.region id lo.toArray true) Q n K S := fun a w ha hw => wp_region_T hm hQ hB (h a w.drew ha (hS w hw))
theorem DT_nil (h : EW .normal Q n K S) : DT P ops Q C br bk .nil n K S := fun a w ha hw => h a w ha hw
/-- Either may come first. -/
theorem DT_alt {i j : Nat} (h : DT P ops Q C br bk (.e i l) n K S) (h2 : DT P ops Q C br bk (.e j l2) n K S) : DT P ops Q C br bk (.alt i l j l2) n K S := fun a w ha hw => ⟨h a w ha hw, h2 a w ha hw⟩
/-- One that reads; one that only reckons. -/
theorem DT_q {i d : Nat} {op : Op} {T : TypeId} {pos : String} {af : Array Edge} {v : Value} (hi : ops[i]? = some ⟨some d, op, T, pos, af, none⟩) (hC : ∀ w, S w → C w)
    (hq : Qt P n K C ⟨some d, op, T, pos, af, none⟩ v) (hd : Nat.blt d n = true) (h : DT P ops Q C br bk l n ((d, v) :: K) S) : DT P ops Q C br bk (.q i true l) n K S := fun a w ha hw =>
  ⟨.inr (hC w hw), _, v, hi, .inl ⟨by simp [Region.wanted], fun w' hw' => hq a ha w' (hw' rfl)⟩, h _ w (ha.put hd v) hw⟩
theorem DT_p {i d : Nat} {op : Op} {T : TypeId} {pos : String} {af : Array Edge} {v : Value} (hi : ops[i]? = some ⟨some d, op, T, pos, af, none⟩) (hC : bk = true ∨ ∀ w, S w → C w)
    (hq : Qt P n K (fun _ => True) ⟨some d, op, T, pos, af, none⟩ v) (hd : Nat.blt d n = true) (h : DT P ops Q C br bk l n ((d, v) :: K) S) : DT P ops Q C br bk (.q i false l) n K S := fun a w ha hw =>
  ⟨hC.imp id (fun h => h w hw), _, v, hi, .inl ⟨by simp [Region.wanted], fun w' _ => hq a ha w' trivial⟩, h _ w (ha.put hd v) hw⟩
theorem DT_e {i d : Nat} {op : Op} {T : TypeId} {pos : String} {af : Array Edge} {ι : Type} {V : ι → Value} {S' : ι → World → Prop} (hi : ops[i]? = some ⟨some d, op, T, pos, af, none⟩)
    (he : Ef P n K S ⟨some d, op, T, pos, af, none⟩ V S') (hd : Nat.blt d n = true) (hC : (bk || br.contains i) = true ∨ ∀ x w, S' x w → C w) (h : ∀ x, DT P ops Q C br (bk || br.contains i) l n ((d, V x) :: K) (S' x)) :
    DT P ops Q C br bk (.e i l) n K S := fun a w ha hw => by
  show wpOp P ops Q i (fun a' w' => ((bk || br.contains i) = true ∨ C w') ∧ wpT P ops Q C br l (bk || br.contains i) a' w') a w
  unfold wpOp
  rw [hi]
  simp only [Region.wanted, if_true]
  exact .inl (he a w ha hw _ _ fun x w' hx => ⟨hC.imp id (fun h => h x w' hx), h x _ w' (ha.put hd _) hx⟩)
theorem DT_e0 {i : Nat} {op : Op} {T : TypeId} {pos : String} {af : Array Edge} {ι : Type} {V : ι → Value} {S' : ι → World → Prop} (hi : ops[i]? = some ⟨none, op, T, pos, af, none⟩)
    (he : Ef P n K S ⟨none, op, T, pos, af, none⟩ V S') (hC : (bk || br.contains i) = true ∨ ∀ x w, S' x w → C w) (h : ∀ x, DT P ops Q C br (bk || br.contains i) l n K (S' x)) :
    DT P ops Q C br bk (.e i l) n K S := fun a w ha hw => by
  show wpOp P ops Q i (fun a' w' => ((bk || br.contains i) = true ∨ C w') ∧ wpT P ops Q C br l (bk || br.contains i) a' w') a w
  unfold wpOp
  rw [hi]
  simp only [Region.wanted, if_true]
  exact .inl (he a w ha hw _ _ fun x w' hx => ⟨hC.imp id (fun h => h x w' hx), h x _ w' ha hx⟩)
theorem DT_fact {p : Prop} (hp : ∀ w, S w → p) (h : p → DT P ops Q C br bk l n K S) : DT P ops Q C br bk l n K S := fun a w ha hw => h (hp w hw) a w ha hw
end
end Go.Sy
/- pollardingref8.one: swaps. No condition. -/
namespace Go.Sy
open Go Go.RowKit Go.Proofs

section
variable {P : Program} {n : Nat} {K : Env} {dst : Option Nat} {T : TypeId} {pos : String} {af : Array Edge} {g : Option (Nat × Bool)} {R : Nat → Prop} {w0 : World} {L : List HP}
/-- append of what can be read, be it nothing. -/
theorem e_appendG [Inhabited (List Deferred)] {α : Type} {enc : α → List Value} {t e : TypeId} {s x : Operand} {i : TypeInfo} {z v : Value} {size bytes m c : Nat} {l ys : List α} {sa : Option Addr} {L1 : List HP} (he : ∀ x, (enc x).length = size) (hu : P.underlying t = some (.slice e)) (hi : ∀ w, (typeInfo e).run P w = .ok i w) (hz : i.zero = some z)
   (hsize : i.size = size) (hby : i.bytes = bytes) (hzs : z.cells.size = size) (hsz : Nat.beq size 0 = false)
   (hs : ev K s = some v) (hx : ev K x = some (.slice sa m c)) (hp : Pick L (trow e size enc v l) L1)
   (hl : ys.length = m) (hsrc : ∀ w, Sat R w0 L w → ∀ j u, (ys.flatMap enc)[j]? = some u → ∃ a, sa = some a ∧ w.cell? (a.add j) = some u) (h1 : ∀ u ∈ ys.flatMap enc, u.oneCell' = true)
   (hroom : l.length + m ≤ 1000000000000) (hbyt : bytes ≤ 64) :
   Ef P n K (Sat R w0 L) ⟨dst, .call { callee := .builtin .append, args := #[s, x], argTypes := #[t, t] }, T, pos, af, g⟩ (fun v' : Value => v') (fun v' => Sat R w0 (trow e size enc v' (l ++ ys) :: L1)) := by
 intro a w ha hw next Q h
 cases ys with
 | nil =>
   have hm0 : m = 0 := hl.symm
   subst hm0
   have hpk := hw.pick hp
   obtain ⟨p, cc, e1, hc1, _⟩ := hpk.rowSl (A' := trow e size enc v l) .head
   subst e1
   have := h (.slice p l.length cc) w (by rw [List.append_nil]; exact hpk)
   have hl0 : ∀ (x : Addr), (loadCells x 0).run P w = .ok #[] w := fun x => by simpa using run_loadCells_list (P := P) w x [] (by simp)
   have hinfo := info_of P hi w
   have hr : (Builtin.append_ #[t, t] T #[.slice p l.length cc, .slice sa 0 c]).run P w = .ok (.slice p l.length cc) w := by
     cases sa <;> cases p <;> simp [Builtin.append_, run_underlying hu, sizeOf, typeInfo, hinfo, Builtin.lenOf, Builtin.firstCells, hc1, storeCells, hl0]
   simp only [Oper.wp, execOp, resolve, invoke, builtin, Sem.run_bind, Sem.run_pure, Result.andThen_ok, List.map_toArray, List.map_cons, List.map_nil, ha.ev hs, ha.ev hx, hr, Oper.upon]
   exact this
 | cons y ys =>
   have hsr := hsrc w hw
   have hf : ((y :: ys).flatMap enc).length = m * size := by rw [flat_length he, hl]
   have hsz' : 0 < size := Nat.pos_of_ne_zero (Nat.ne_of_beq_eq_false hsz)
   obtain ⟨u0, us, hus⟩ : ∃ u us, (y :: ys).flatMap enc = u :: us := by
     cases hc : (y :: ys).flatMap enc with
     | nil =>
       rw [hc] at hf
       have hm1 : 0 < m := by rw [← hl]; simp
       have := Nat.mul_pos hm1 hsz'
       rw [← hf] at this
       simp at this
     | cons u us => exact ⟨u, us, rfl⟩
   obtain ⟨ad, rfl, _⟩ := hsr 0 u0 (by rw [hus]; rfl)
   have key := e_append (P := P) (n := n) (K := K) (dst := dst) (T := T) (pos := pos) (af := af) (g := g) (R := R) (w0 := w0) (L := L) hu hi hz hsize hby hzs hsz hs hx (hp : Pick L (row e size v l.length (l.flatMap enc)) L1) hf
     (fun w hw j u hj => by
       obtain ⟨a1, e1, hc⟩ := hsrc w hw j u hj
       cases e1
       exact hc) h1 hroom hbyt
   refine key a w ha hw next Q fun v' w' hS => h v' w' ?_
   unfold trow
   rw [List.flatMap_append, List.length_append, hl]
   exact hS
end
section
variable {R : Nat → Prop} {w0 w : World} {L L' : List HP}
theorem Sat.oneRule {b : Nat} {n : Int} {v : Value} {ys : List Sym} (h : Sat R w0 (cel b 49 [.int .i64 n, v] :: trow 51 2 encY v ys :: L) w) : Sat R w0 (rulesA (.slice (some ⟨b, 0, none⟩) 1 1) [⟨⟨n, ys⟩, v⟩] :: symsA [⟨⟨n, ys⟩, v⟩] :: L) w := by
 have h1 : Sat R w0 (rulesA (.slice (some ⟨b, 0, none⟩) 1 1) [⟨⟨n, ys⟩, v⟩] :: trow 51 2 encY v ys :: L) w := h.swap .head fun hh hb => row_of_cel (n := 1) (size := 2) rfl (by simp [maxLen]) hh hb
 have h2 : Sat R w0 (symsA [] :: symA ⟨⟨n, ys⟩, v⟩ :: rulesA (.slice (some ⟨b, 0, none⟩) 1 1) [⟨⟨n, ys⟩, v⟩] :: L) w := (h1.pick (.tail .head)).addEmp rfl
 exact (h2.symsPush).pick (.tail .head)
/-- Cells of a part of an owned row. -/
theorem Sat.tailIn {v : Value} {l : List Sym} {a : Option Addr} {c k : Nat} (h : Sat R w0 L w) (s : Swap L (trow 51 2 encY v l) (trow 51 2 encY v l) L') (hv : v = .slice a l.length c) (hk : k ≤ l.length) : ∀ j u, ((l.drop k).flatMap encY)[j]? = some u → ∃ p, (if c = k then a else a.map (·.add (k * 2))) = some p ∧ w.cell? (p.add j) = some u := by
 intro j u hj
 have h1 := SlAt.sub (hv ▸ h.symsIn s) hk (Nat.le_refl _)
 rw [List.take_length] at h1
 obtain ⟨a', c', e1, _, _, hx⟩ := h1
 injection e1 with e2 _ _
 have hj2 := (List.getElem?_eq_some_iff.1 hj).1
 rw [flat_length (enc := encY) (size := 2) (fun _ => rfl)] at hj2
 obtain ⟨x, hx2⟩ := get_of_lt (l := l.drop k) (k := j / 2) (by omega)
 obtain ⟨p, hp, hr⟩ := hx (j / 2) x hx2
 refine ⟨p, e2.trans hp, ?_⟩
 have hf := flat_get (enc := encY) (size := 2) (fun _ => rfl) hx2 (Nat.mod_lt j (by omega : 0 < 2))
 rw [Nat.div_add_mod' j 2] at hf
 rw [hf] at hj
 have := hr (j % 2) u hj
 rw [add_twice, Nat.div_add_mod' j 2] at this
 exact this
end
/-- What a rule becomes. -/
def oneR (g : Gram) (s : SStep) (ms cs : List Bool) (k : Nat) (q : Rule) : List Rule :=
 if s.op = 1 then [swapR s.a s.b q] else if s.op = 2 then (if (k : Int) = s.a then [extR q s.b.toNat s.c.toNat (nameS g.names)] else [q]) else if s.op = 3 then (if (k : Int) = s.a then inlL g s else [q]) else if s.op = 4 then [leftR g s.a q] else if keptB ms cs q then [q] else []
set_option maxRecDepth 20000 in
theorem one1_any (gv : Value) (g : Gram) (s : SStep) (k : Nat) (q : Rule) (w : World) (hm : mayB g = true) (hs : mayS g s = true) (hop : s.op = 1) (hq : g.rules[k]? = some q) (hg : GramAt (Cl w) gv g) : Calls Try.prog 22 #[gv, stepV s, .int .i64 (k : Int)] w (fun e w' => ∃ x : Value × List RV × List Bool × List Bool, e = .returned x.1 ∧ ((s.op = 5 → MksOk g x.2.2.1 ∧ CmsOk g x.2.2.2) ∧ plainR x.2.1 = oneR g s x.2.2.1 x.2.2.2 k q) ∧ Sat (Old w) w [rulesA x.1 x.2.1, symsA x.2.1] w') := by
 have hg0 := hg
 obtain ⟨rv, rfl, hr⟩ := hg.mono old_rd
 obtain ⟨a, c, rfl, hc1, hc2, hrs⟩ := id hr
 clear hg
 have hM := mayB_true.1 hm
 have hlk := (List.getElem?_eq_some_iff.1 hq).1
 have hq8 := (may_rule hm hq).2.2
 obtain ⟨p, rfl, rvq, hsy, hrow⟩ := hrs k q hq
 obtain ⟨ya, yc, rfl, hy1, hy2, hys⟩ := id hsy
 refine calls_CW Try.func22 rfl Try.ntmps22 rfl (Sat.start w) ?_
 refine nx3 ?_
 refine OW_e (e_box rfl rfl) rfl (fun b3 => ?_)
 refine OW_e (e_box rfl rfl) rfl (fun b4 => ?_)
 refine aO ?_
 refine nx2 ?_
 refine CW_seqJ (ι := Nat × Option Addr × Nat) (fun i_ => q.right.length ≤ i_.2.2 ∧ i_.2.2 ≤ 9223372036854775807 ∧ (0 < q.right.length → ∃ g, i_.2.1 = some ⟨g, 0, none⟩)) (fun i_ => [(2, .int .i64 (k : Int)), (3, .pointer (some ⟨b3, 0, none⟩)), (4, .pointer (some ⟨b4, 0, none⟩)), (7, .pointer (some ⟨i_.1, 0, none⟩))]) (fun i_ => Sat (Old w) w [cel i_.1 49 [.int .i64 q.left, .slice i_.2.1 q.right.length i_.2.2], trow 51 2 encY (.slice i_.2.1 q.right.length i_.2.2) q.right, cel b4 26 [.int .i64 s.op, .int .i64 s.a, .int .i64 s.b, .int .i64 s.c], cel b3 24 [.int .i64 g.terms, .int .i64 g.names, .slice (some p) g.rules.length c]]) ?_ ?_
 · skip
   refine CW_drawT (Sat (Old w) w [cel b4 26 [.int .i64 s.op, .int .i64 s.a, .int .i64 s.b, .int .i64 s.c], cel b3 24 [.int .i64 g.terms, .int .i64 g.names, .slice (some p) g.rules.length c]]) [15] (.q 0 false (.q 1 true (.q 2 false (.q 3 false (.q 4 false (.q 5 true (.q 6 false (.q 7 true (.q 8 false (.q 9 false (.q 10 false (.q 11 true (.alt 12 (.q 13 false (.e 14 (.e 15 .nil))) 14 (.e 12 (.q 13 false (.e 15 .nil)))))))))))))))) (by kernel_rfl) (Blind.again Blind.bodyP) (by kernel_rfl) (fun w hw => hw.drew) ?_
   refine DT_p rfl (.inr (fun w hw => (by exact hw.sub sbt))) (q_fieldAddr Try.underlying24 rfl rfl Try.sizeOf22 rfl rfl) rfl ?_
   refine DT_q rfl (fun w hw => (by exact hw.sub sbt)) (q_load1_own Try.isAgg22 rfl rfl swt (by rfl)) rfl ?_
   refine DT_p rfl (.inr (fun w hw => (by exact hw.sub sbt))) (q_move rfl) rfl ?_
   refine DT_p rfl (.inr (fun w hw => (by exact hw.sub sbt))) (q_indexAddr Try.underlying22 Try.sizeOf49 rfl rfl (by omega)) rfl ?_
   refine DT_p rfl (.inr (fun w hw => (by exact hw.sub sbt))) (q_fieldAddr Try.underlying49 rfl rfl Try.sizeOf3 rfl rfl) rfl ?_
   refine DT_q rfl (fun w hw => (by exact hw.sub sbt)) (q_load1_ro Try.isAgg3 rfl (by exact Row.at0 hrow)) rfl ?_
   refine DT_p rfl (.inr (fun w hw => (by exact hw.sub sbt))) (q_fieldAddr Try.underlying24 rfl rfl Try.sizeOf22 rfl rfl) rfl ?_
   refine DT_q rfl (fun w hw => (by exact hw.sub sbt)) (q_load1_own Try.isAgg22 rfl rfl swt (by rfl)) rfl ?_
   refine DT_p rfl (.inr (fun w hw => (by exact hw.sub sbt))) (q_move rfl) rfl ?_
   refine DT_p rfl (.inr (fun w hw => (by exact hw.sub sbt))) (q_indexAddr Try.underlying22 Try.sizeOf49 rfl rfl (by omega)) rfl ?_
   refine DT_p rfl (.inr (fun w hw => (by exact hw.sub sbt))) (q_fieldAddr Try.underlying49 rfl rfl Try.sizeOf46 rfl rfl) rfl ?_
   refine DT_q rfl (fun w hw => (by exact hw.sub sbt)) (q_load1_ro Try.isAgg46 rfl (by exact hrow.at_ (j := 1) rfl)) rfl ?_
   refine DT_alt ?_ ?_
   · skip
     refine DT_e rfl (e_call Try.call23 rfl (fun w hw => lift_old (copied_any _ q.right w (by omega) (hsy.mono fun _ _ h => hw.rd h)) hw)) rfl (.inr (fun _ w hw => (by exact hw.sub sbt))) (fun x30 => ?_)
     refine DT_fact (fun w hw => hw.tform (v := x30) (l := q.right) (enc := encY) swt) (fun hf => ?_)
     obtain ⟨ax, cx, rfl, hcx1, hcx2, hbx⟩ := hf
     refine DT_p rfl (.inr (fun w hw => (by exact hw.sub sbt))) (q_build (ps := #[(0, .int .i64 q.left), (1, .slice ax q.right.length cx)]) (v := .agg #[.int .i64 q.left, .slice ax q.right.length cx]) rfl (fun w => by kernel_rfl)) rfl ?_
     refine DT_e rfl (e_alloc Try.zeroValue49 rfl) rfl (.inr (fun _ w hw => (by exact hw.sub sbt))) (fun b7 => ?_)
     refine DT_e0 rfl (e_storeN Try.sizeOf49 rfl rfl rfl rfl (by simp [Value.oneCell']) swt (by rfl)) (.inl rfl) (fun _ => ?_)
     refine DT_nil ?_
     refine EW_again ((b7, ax, cx)) ?_ ⟨rfl, rfl, rfl, rfl, trivial⟩ sft
     · exact ⟨hcx1, hcx2, hbx⟩
   refine DT_e rfl (e_alloc Try.zeroValue49 rfl) rfl (.inr (fun _ w hw => (by exact hw.sub sbt))) (fun b7 => ?_)
   refine DT_e rfl (e_call Try.call23 rfl (fun w hw => lift_old (copied_any _ q.right w (by omega) (hsy.mono fun _ _ h => hw.rd h)) hw)) rfl (.inr (fun _ w hw => (by exact hw.sub sbt))) (fun x30 => ?_)
   refine DT_fact (fun w hw => hw.tform (v := x30) (l := q.right) (enc := encY) swt) (fun hf => ?_)
   obtain ⟨ax, cx, rfl, hcx1, hcx2, hbx⟩ := hf
   refine DT_p rfl (.inr (fun w hw => (by exact hw.sub sbt))) (q_build (ps := #[(0, .int .i64 q.left), (1, .slice ax q.right.length cx)]) (v := .agg #[.int .i64 q.left, .slice ax q.right.length cx]) rfl (fun w => by kernel_rfl)) rfl ?_
   refine DT_e0 rfl (e_storeN Try.sizeOf49 rfl rfl rfl rfl (by simp [Value.oneCell']) swt (by rfl)) (.inl rfl) (fun _ => ?_)
   refine DT_nil ?_
   refine EW_again ((b7, ax, cx)) ?_ ⟨rfl, rfl, rfl, rfl, trivial⟩ sft
   · exact ⟨hcx1, hcx2, hbx⟩
 intro i_ hpre
 obtain ⟨b7, ax, cx⟩ := i_
 replace hpre : q.right.length ≤ cx ∧ cx ≤ 9223372036854775807 ∧ (0 < q.right.length → ∃ g, ax = some ⟨g, 0, none⟩) := hpre
 change CW _ _ _ _ [(2, .int .i64 (k : Int)), (3, .pointer (some ⟨b3, 0, none⟩)), (4, .pointer (some ⟨b4, 0, none⟩)), (7, .pointer (some ⟨b7, 0, none⟩))] (Sat (Old w) w [cel b7 49 [.int .i64 q.left, .slice ax q.right.length cx], trow 51 2 encY (.slice ax q.right.length cx) q.right, cel b4 26 [.int .i64 s.op, .int .i64 s.a, .int .i64 s.b, .int .i64 s.c], cel b3 24 [.int .i64 g.terms, .int .i64 g.names, .slice (some p) g.rules.length c]])
 obtain ⟨hcx1, hcx2, hbx⟩ := hpre
 refine nx3 ?_
 refine OW_q (q_fieldAddr Try.underlying24 rfl rfl Try.sizeOf3 rfl rfl) rfl ?_
 refine OW_q (q_load1_own Try.isAgg3 rfl rfl swt (by rfl)) rfl ?_
 refine OW_q (q_build (ps := #[(1, .int .i64 g.names)]) (v := .agg #[.bool false, .int .i64 g.names]) rfl (fun w => by kernel_rfl)) rfl ?_
 refine OW_e (e_alloc Try.zeroValue51 rfl) rfl (fun b8 => ?_)
 refine OW_e0 (e_storeN Try.sizeOf51 rfl rfl rfl rfl (by simp [Value.oneCell']) swt (by rfl)) (fun _ => ?_)
 refine nx2 ?_
 refine CW_seq ?_
 refine nx3 ?_
 refine OW_q (q_fieldAddr Try.underlying26 rfl rfl Try.sizeOf3 rfl rfl) rfl ?_
 refine OW_q (q_load1_own Try.isAgg3 rfl rfl swt (by rfl)) rfl ?_
 refine nx2 ?_
 refine CW_block ?_
 refine nx3 ?_
 refine OW_q (q_eqi rfl rfl) rfl ?_
 refine aO ?_
 refine nx2 ?_
 refine CW_true rfl (by simp [hop]) ?_
 refine nx3 ?_
 refine OW_q (q_fieldAddr Try.underlying49 rfl rfl Try.sizeOf3 rfl rfl) rfl ?_
 refine OW_q (q_load1_own Try.isAgg3 rfl rfl swt (by rfl)) rfl ?_
 refine OW_q (q_fieldAddr Try.underlying26 rfl rfl Try.sizeOf3 rfl rfl) rfl ?_
 refine OW_q (q_load1_own Try.isAgg3 rfl rfl swt (by rfl)) rfl ?_
 refine OW_q (q_fieldAddr Try.underlying26 rfl rfl Try.sizeOf3 rfl rfl) rfl ?_
 refine OW_q (q_load1_own Try.isAgg3 rfl rfl swt (by rfl)) rfl ?_
 refine OW_e (e_call Try.call38 rfl (fun w hw => lift_ro (swapped_any _ _ _ w) hw)) rfl (fun x45 => ?_)
 refine OW_q (q_fieldAddr Try.underlying49 rfl rfl Try.sizeOf3 rfl rfl) rfl ?_
 refine OW_e0 (e_store Try.sizeOf3 rfl rfl rfl rfl swt (by rfl)) (fun _ => ?_)
 refine nx4 ?_
 refine aO ?_
 refine nx2 ?_
 refine CW_block ?_
 refine CW_loopP (ι := Nat × List Sym) (fun i_ => i_.1 ≤ q.right.length ∧ i_.2.length = q.right.length ∧ ∀ j, i_.2[j]? = if j < i_.1 then (q.right[j]?).map (swapY s.a s.b) else q.right[j]?) (fun i_ => [(2, .int .i64 (k : Int)), (3, .pointer (some ⟨b3, 0, none⟩)), (4, .pointer (some ⟨b4, 0, none⟩)), (7, .pointer (some ⟨b7, 0, none⟩)), (8, .pointer (some ⟨b8, 0, none⟩)), (9, .int .i64 (i_.1 : Int))]) (fun i_ => Sat (Old w) w [cel b8 51 [.bool false, .int .i64 g.names], cel b7 49 [.int .i64 (swapN s.a s.b q.left), .slice ax q.right.length cx], trow 51 2 encY (.slice ax q.right.length cx) i_.2, cel b4 26 [.int .i64 s.op, .int .i64 s.a, .int .i64 s.b, .int .i64 s.c], cel b3 24 [.int .i64 g.terms, .int .i64 g.names, .slice (some p) g.rules.length c]]) (fun i_ => q.right.length - i_.1) (0, q.right) ?_ ⟨rfl, rfl, rfl, rfl, rfl, rfl, trivial⟩ sft ?_
 · exact ⟨Nat.zero_le _, rfl, fun j => by simp⟩
 intro i_ hpre
 obtain ⟨i, ys⟩ := i_
 replace hpre : i ≤ q.right.length ∧ ys.length = q.right.length ∧ ∀ j, ys[j]? = if j < i then (q.right[j]?).map (swapY s.a s.b) else q.right[j]? := hpre
 change CW _ _ _ _ [(2, .int .i64 (k : Int)), (3, .pointer (some ⟨b3, 0, none⟩)), (4, .pointer (some ⟨b4, 0, none⟩)), (7, .pointer (some ⟨b7, 0, none⟩)), (8, .pointer (some ⟨b8, 0, none⟩)), (9, .int .i64 (i : Int))] (Sat (Old w) w [cel b8 51 [.bool false, .int .i64 g.names], cel b7 49 [.int .i64 (swapN s.a s.b q.left), .slice ax q.right.length cx], trow 51 2 encY (.slice ax q.right.length cx) ys, cel b4 26 [.int .i64 s.op, .int .i64 s.a, .int .i64 s.b, .int .i64 s.c], cel b3 24 [.int .i64 g.terms, .int .i64 g.names, .slice (some p) g.rules.length c]])
 obtain ⟨hi, hysl, hyk⟩ := hpre
 refine CW_seq ?_
 refine nx3 ?_
 refine mO ?_
 refine OW_q (q_fieldAddr Try.underlying49 rfl rfl Try.sizeOf46 rfl rfl) rfl ?_
 refine OW_q (q_load1_own Try.isAgg46 rfl rfl swt (by rfl)) rfl ?_
 refine OW_q (q_len Try.underlying46 rfl) rfl ?_
 refine OW_q (q_lss rfl rfl) rfl ?_
 refine nx2 ?_
 refine CW_cond rfl (fun h51 => ?_) (fun h51 => ?_)
 · skip
   have hli : i < q.right.length := by have := of_decide_eq_true h51; omega
   obtain ⟨bx, rfl⟩ := hbx (by omega)
   obtain ⟨y, hyi⟩ := get_of_lt (l := ys) (k := i) (by omega)
   have hxi := hyk i
   rw [if_neg (by omega), hyi] at hxi
   refine CW_skip ?_
   refine EW_then ?_
   refine CW_seq ?_
   refine CW_block ?_
   refine nx3 ?_
   refine OW_q (q_fieldAddr Try.underlying49 rfl rfl Try.sizeOf46 rfl rfl) rfl ?_
   refine OW_q (q_load1_own Try.isAgg46 rfl rfl swt (by rfl)) rfl ?_
   refine mO ?_
   refine OW_q (q_indexAddr Try.underlying46 Try.sizeOf51 rfl rfl (by omega)) rfl ?_
   refine OW_q (q_fieldAddr Try.underlying51 rfl rfl Try.sizeOf4 rfl rfl) rfl ?_
   refine OW_q (q_load1_t (enc := encY) (k := i) (off := 0) (v := .slice (some ⟨bx, 0, none⟩) q.right.length cx) (l := ys) Try.isAgg4 (fun _ => rfl) rfl swt rfl hyi rfl) rfl ?_
   refine OW_q (q_not rfl) rfl ?_
   refine nx2 ?_
   refine CW_cond rfl (fun h60 => ?_) (fun h60 => ?_)
   · skip
     refine CW_drawS 16 [(0, false), (1, false), (2, false), (3, false), (4, false), (5, false), (6, false), (7, false), (8, false), (9, false), (10, false), (11, false), (12, false), (13, true), (14, false), (15, false), (16, true)] (by kernel_rfl) (Blind.block (Blind.then (Blind.again (Blind.block (Blind.block (Blind.then Blind.bodyP)))))) (by kernel_rfl) (fun w hw => hw.drew) ?_
     refine DW_q rfl sft (q_fieldAddr Try.underlying49 rfl rfl Try.sizeOf46 rfl rfl) rfl ?_
     refine DW_q rfl sft (q_load1_own Try.isAgg46 rfl rfl swt (by rfl)) rfl ?_
     refine mD ?_
     refine DW_q rfl sft (q_fieldAddr Try.underlying49 rfl rfl Try.sizeOf46 rfl rfl) rfl ?_
     refine DW_q rfl sft (q_load1_own Try.isAgg46 rfl rfl swt (by rfl)) rfl ?_
     refine mD ?_
     refine DW_q rfl sft (q_indexAddr Try.underlying46 Try.sizeOf51 rfl rfl (by omega)) rfl ?_
     refine DW_q rfl sft (q_fieldAddr Try.underlying51 rfl rfl Try.sizeOf3 rfl rfl) rfl ?_
     refine DW_q rfl sft (q_load1_t (enc := encY) (k := i) (off := 1) (v := .slice (some ⟨bx, 0, none⟩) q.right.length cx) (l := ys) Try.isAgg3 (fun _ => rfl) rfl swt rfl hyi rfl) rfl ?_
     refine DW_q rfl sft (q_fieldAddr Try.underlying26 rfl rfl Try.sizeOf3 rfl rfl) rfl ?_
     refine DW_q rfl sft (q_load1_own Try.isAgg3 rfl rfl swt (by rfl)) rfl ?_
     refine DW_q rfl sft (q_fieldAddr Try.underlying26 rfl rfl Try.sizeOf3 rfl rfl) rfl ?_
     refine DW_q rfl sft (q_load1_own Try.isAgg3 rfl rfl swt (by rfl)) rfl ?_
     refine DW_e rfl (e_call Try.call38 rfl (fun w hw => lift_ro (swapped_any _ _ _ w) hw)) rfl (fun _ w hw => by first | exact hw.sub sbt | exact hw.2.sub sbt) (fun x74 => ?_)
     refine DW_q rfl sft (q_indexAddr Try.underlying46 Try.sizeOf51 rfl rfl (by omega)) rfl ?_
     refine DW_q rfl sft (q_fieldAddr Try.underlying51 rfl rfl Try.sizeOf3 rfl rfl) rfl ?_
     refine DW_z0 rfl (e_store_t (enc := encY) (k := i) (off := 1) (v := .slice (some ⟨bx, 0, none⟩) q.right.length cx) (l := ys) (y := y) (y' := ⟨y.term, swapN s.a s.b y.n⟩) Try.sizeOf3 (fun _ => rfl) rfl rfl rfl rfl hyi rfl swt) (fun _ => ?_)
     refine EW_block_normal ?_
     refine EW_then ?_
     refine CW_region ?_
     refine mO ?_
     refine OW_q (q_add rfl rfl (by omega) (by omega)) rfl ?_
     refine aO ?_
     refine OW_nil ?_
     refine EW_again ((i + 1, ys.set i ⟨y.term, swapN s.a s.b y.n⟩)) ⟨?_, ?_⟩ ⟨rfl, rfl, rfl, rfl, rfl, rfl, trivial⟩ sft
     · show q.right.length - (i + 1) < q.right.length - i; omega
     · refine ⟨by show i + 1 ≤ _; omega, by show (ys.set i _).length = _; rw [List.length_set]; exact hysl, fun j => ?_⟩
       show (ys.set i _)[j]? = if j < i + 1 then _ else _
       by_cases e : i = j
       · subst e
         rw [List.getElem?_set_self (by omega), if_pos (by omega), ← hxi]
         show some _ = some (swapY s.a s.b y)
         unfold swapY
         have hf : y.term = false := by simpa using h60
         rw [if_neg (by rw [hf]; decide), hf]
       · rw [List.getElem?_set_ne e, hyk j]
         by_cases e2 : j < i
         · rw [if_pos e2, if_pos (by omega)]
         · rw [if_neg e2, if_neg (by omega)]
   refine CW_skip ?_
   refine EW_block_normal ?_
   refine EW_then ?_
   refine CW_region ?_
   refine mO ?_
   refine OW_q (q_add rfl rfl (by omega) (by omega)) rfl ?_
   refine aO ?_
   refine OW_nil ?_
   refine EW_again ((i + 1, ys)) ⟨?_, ?_⟩ ⟨rfl, rfl, rfl, rfl, rfl, rfl, trivial⟩ sft
   · show q.right.length - (i + 1) < q.right.length - i; omega
   · refine ⟨by show i + 1 ≤ _; omega, hysl, fun j => ?_⟩
     show ys[j]? = if j < i + 1 then _ else _
     rw [hyk j]
     by_cases e : i = j
     · subst e
       rw [if_neg (by omega), if_pos (by omega), ← hxi]
       show some _ = some (swapY s.a s.b y)
       unfold swapY
       have hf : y.term = true := by simpa using h60
       rw [if_pos hf]
     · by_cases e2 : j < i
       · rw [if_pos e2, if_pos (by omega)]
       · rw [if_neg e2, if_neg (by omega)]
 have hie : q.right.length ≤ i := by have := of_decide_eq_false h51; omega
 have hye : ys = q.right.map (swapY s.a s.b) := by
   apply List.ext_getElem?
   intro z
   rw [hyk z, List.getElem?_map]
   split
   · rfl
   · rw [List.getElem?_eq_none (by omega)]; rfl
 refine CW_exit ?_
 refine EW_then_exit ?_
 refine EW_out ?_
 refine EW_block_exit ?_
 refine EW_block_normal ?_
 refine EW_then ?_
 refine nx3 ?_
 refine OW_q (q_loadN_own Try.isAgg49 Try.sizeOf49 rfl rfl swt (by rfl)) rfl ?_
 refine OW_e (e_single Try.underlying22 Try.sizeOf49 Try.zeroValue49 (e := 49) (v := .agg #[.int .i64 (swapN s.a s.b q.left), .slice ax q.right.length cx]) (cs := [.int .i64 (swapN s.a s.b q.left), .slice ax q.right.length cx]) rfl rfl rfl rfl (by decide) (by decide)) rfl (fun b229 => ?_)
 refine aO ?_
 refine nx2 ?_
 refine CW_ret ?_
 refine ret1 Try.results22 rfl (fun w hw => ?_)
 refine ⟨(.slice (some ⟨b229, 0, none⟩) 1 1, [⟨⟨(swapN s.a s.b q.left), ys⟩, .slice ax q.right.length cx⟩], [], []), rfl, ⟨(fun h => by omega), ?_⟩, ?_⟩
 · unfold oneR; rw [if_pos hop, hye]; rfl
 · have h1 : Sat (Old _) _ [cel b229 49 [.int .i64 (swapN s.a s.b q.left), .slice ax q.right.length cx], trow 51 2 encY (.slice ax q.right.length cx) ys] w := hw.sub sbt
   exact h1.oneRule

end Go.Sy
/- What a grammar has stays, whatever step is done: in plain terms. No condition. -/
namespace Go.Sy
open Go

/-! ### Swaps -/
/-! ### Prunes -/
/-! ### A part taken out -/
section
variable {t n : Int} {rs : List Rule} {tk : List Int} {a b c : Nat} {q : Rule}
def partR (q : Rule) (b c : Nat) : List Sym := (q.right.take c).drop b
def unF (n : Int) (pt : List Sym) (l : List Sym) : List Sym := l.flatMap fun s => if s = nameS n then pt else [s]
theorem part_join (hbc : b ≤ c) : q.right = q.right.take b ++ (partR q b c ++ q.right.drop c) := by
  unfold partR
  have e1 : q.right.take b = (q.right.take c).take b := by rw [List.take_take, Nat.min_eq_left hbc]
  rw [e1, ← List.append_assoc, List.take_append_drop, List.take_append_drop]
end

/-! ### A name put in -/
section
variable {t n : Int} {rs : List Rule} {tk : List Int} {a b : Nat} {q : Rule} {y : Sym}
def inlS (rs : List Rule) (q : Rule) (b : Nat) (y : Sym) : List Rule := (rs.filter (fun r => decide (r.left = y.n))).map (inlR q b)
theorem inl_join (hy : q.right[b]? = some y) : q.right = q.right.take b ++ y :: q.right.drop (b + 1) := by
  obtain ⟨h, e⟩ := List.getElem?_eq_some_iff.1 hy
  conv => lhs; rw [← List.take_append_drop b q.right, List.drop_eq_getElem_cons h, e]
end

/-! ### A name that begins with itself -/
section
variable {t n : Int} {rs : List Rule} {tk : List Int} {a : Int}
def leftS (rs : List Rule) (n a : Int) : List Rule := rs.map (leftR ⟨0, n, []⟩ a) ++ [⟨n, []⟩]
/-- What stands behind a name that begins with itself, again and again. -/
inductive FT (g : Gram) (tk : List Int) (rs : List Rule) (a : Int) : Nat → Nat → Prop
  | nil {i : Nat} : FT g tk rs a i i
  | step {r : Rule} {i m k : Nat} : r ∈ rs → r.left = a → loopsB r = true → Yl g tk r.right.tail i m → FT g tk rs a m k → FT g tk rs a i k
theorem loops_cons {r : Rule} (h : loopsB r = true) : r.right = nameS r.left :: r.right.tail := by
  unfold loopsB at h
  cases hr : r.right with
  | nil => rw [hr] at h; cases h
  | cons s l => rw [hr] at h; simp at h; rw [h]; rfl
theorem leftR_loop {r : Rule} (hl : r.left = a) (ho : loopsB r = true) : leftR ⟨0, n, []⟩ a r = ⟨n, r.right.tail ++ [nameS n]⟩ := by unfold leftR; rw [if_pos hl, if_pos ho]
theorem leftR_end {r : Rule} (hl : r.left = a) (ho : loopsB r = false) : leftR ⟨0, n, []⟩ a r = ⟨r.left, r.right ++ [nameS n]⟩ := by unfold leftR; rw [if_pos hl, if_neg (by rw [ho]; decide)]
theorem leftR_else {r : Rule} (hl : r.left ≠ a) : leftR ⟨0, n, []⟩ a r = r := by unfold leftR; rw [if_neg hl]
def noF (n : Int) (l : List Sym) : Prop := ∀ s ∈ l, s.term = false → s.n < n
end
end Go.Sy
