/- Sets: sets.Of. No condition. -/
import Derived.Test.YteceklkjbcebkaaW14
namespace Go.Sy
open Go Go.RowKit Go.Proofs

set_option maxRecDepth 20000 in
theorem setsOf_no (gv : Value) (g : Gram) (w : World) (hg : GramAt (Cl w) gv g) (hm : mayB g = false) : Calls Try.prog 26 #[gv] w (fun e w' => e = .returned (.tuple #[.agg #[.slice none 0 0, .slice none 0 0, .slice none 0 0], .int .i64 2]) ∧ Sat (Old w) w [] w') := by
  have hg0 := hg
  obtain ⟨rv, rfl, hr⟩ := hg.mono old_rd
  have hrr := hr
  obtain ⟨a, c, rfl, hc1, hc2, hrs⟩ := hr
  refine calls_CW Try.func26 rfl Try.ntmps26 rfl (Sat.start w) ?_
  refine CW_seq ?_
  refine CW_region ?_
  refine OW_e (e_box rfl rfl) rfl (fun b1 => ?_)
  refine OW_e (e_alloc Try.zeroValue53 rfl) rfl (fun b2 => ?_)
  refine OW_q (q_assign rfl) rfl ?_
  refine OW_nil ?_
  refine EW_then ?_
  refine CW_seq ?_
  refine CW_seq ?_
  refine CW_region ?_
  first | (refine OW_q (q_loadN_own Try.isAgg24 Try.sizeOf24 rfl rfl (by (repeat (first | exact .head | apply Swap.tail))) (by rfl)) rfl ?_) | (refine OW_q (q_loadN_ro Try.isAgg24 Try.sizeOf24 rfl (by first | assumption | exact Row.at_ (by assumption) rfl) (by rfl)) rfl ?_)
  refine OW_e (e_call Try.call20 rfl (fun w hw => lift_ro (may_any _ g w (hg0.mono (fun _ _ h => hw.rd (Rd.old h)))) hw)) rfl (fun x6 => ?_)
  refine OW_q (q_not rfl) rfl ?_
  refine OW_nil ?_
  refine EW_then ?_
  refine CW_true rfl (by simp [hm]) ?_
  refine CW_seq ?_
  refine CW_region ?_
  refine OW_q (q_build (ps := #[]) (v := .agg #[.slice none 0 0, .slice none 0 0, .slice none 0 0]) rfl (fun w => by kernel_rfl)) rfl ?_
  refine OW_e0 (e_storeN Try.sizeOf53 rfl rfl rfl rfl (by simp [Value.oneCell']) (by (repeat (first | exact .head | apply Swap.tail))) (by rfl)) (fun _ => ?_)
  refine OW_q (q_assign rfl) rfl ?_
  refine OW_nil ?_
  refine EW_then ?_
  refine CW_ret ?_
  refine EW_then_ret ?_
  refine retc2 (vs := [.slice none 0 0, .slice none 0 0, .slice none 0 0]) Try.results26 Try.isAgg53 Try.sizeOf53 rfl rfl (fun w hw j u hj => by rw [Addr.add_lit, hw.cell (b := b2) (cs := [.slice none 0 0, .slice none 0 0, .slice none 0 0]) (A' := ints 0 0 []) (by repeat (first | exact .head | apply Swap.tail))]; simpa using hj) rfl (fun w hw => ?_)
  exact ⟨rfl, hw.sub .nil⟩

set_option maxRecDepth 20000 in
theorem setsOf_yes (gv : Value) (g : Gram) (w : World) (hg : GramAt (Cl w) gv g) (hm : mayB g = true) : Calls Try.prog 26 #[gv] w (fun e w' => ∃ x : SR, e = .returned (.tuple #[.agg #[.slice (some ⟨x.bn, 0, none⟩) g.names.toNat g.names.toNat, .slice (some ⟨x.bf, 0, none⟩) g.names.toNat x.cf, .slice (some ⟨x.bo, 0, none⟩) g.names.toNat x.co], .int .i64 0]) ∧ SetsOk g g.names.toNat x ∧ Sat (Old w) w [bools x.bn 4 x.nl, tabA 4 x.blf x.fs, trow 36 1 (encR g.terms.toNat) (.slice (some ⟨x.bf, 0, none⟩) g.names.toNat x.cf) x.blf, trow 36 1 (encR (g.terms + 1).toNat) (.slice (some ⟨x.bo, 0, none⟩) g.names.toNat x.co) x.blo, tabA 4 x.blo x.fo] w') := by
  have hg0 := hg
  obtain ⟨rv, rfl, hr⟩ := hg.mono old_rd
  have hrr := hr
  obtain ⟨a, c, rfl, hc1, hc2, hrs⟩ := hr
  have hM := mayB_true.1 hm
  refine calls_CW Try.func26 rfl Try.ntmps26 rfl (Sat.start w) ?_
  refine CW_seq ?_
  refine CW_region ?_
  refine OW_e (e_box rfl rfl) rfl (fun b1 => ?_)
  refine OW_e (e_alloc Try.zeroValue53 rfl) rfl (fun b2 => ?_)
  refine OW_q (q_assign rfl) rfl ?_
  refine OW_nil ?_
  refine EW_then ?_
  refine CW_seq ?_
  refine CW_seq ?_
  refine CW_region ?_
  first | (refine OW_q (q_loadN_own Try.isAgg24 Try.sizeOf24 rfl rfl (by (repeat (first | exact .head | apply Swap.tail))) (by rfl)) rfl ?_) | (refine OW_q (q_loadN_ro Try.isAgg24 Try.sizeOf24 rfl (by first | assumption | exact Row.at_ (by assumption) rfl) (by rfl)) rfl ?_)
  refine OW_e (e_call Try.call20 rfl (fun w hw => lift_ro (may_any _ g w (hg0.mono (fun _ _ h => hw.rd (Rd.old h)))) hw)) rfl (fun x6 => ?_)
  refine OW_q (q_not rfl) rfl ?_
  refine OW_nil ?_
  refine EW_then ?_
  refine CW_false rfl (by simp [hm]) ?_
  refine CW_skip ?_
  refine EW_then ?_
  refine CW_seq ?_
  refine CW_region ?_
  refine OW_q (q_fieldAddr Try.underlying24 rfl rfl Try.sizeOf3 rfl rfl) rfl ?_
  first | (refine OW_q (q_load1_own Try.isAgg3 rfl rfl (by (repeat (first | exact .head | apply Swap.tail))) (by rfl)) rfl ?_) | (refine OW_q (q_load1_ro Try.isAgg3 rfl (by first | assumption | exact Row.at_ (by assumption) rfl)) rfl ?_)
  refine OW_e (e_makeB Try.underlying36 Try.typeInfo4 rfl rfl (by decide) rfl rfl (by omega) (by omega)) rfl (fun b11 => ?_)
  refine OW_q (q_build (ps := #[(0, .slice (some ⟨b11, 0, none⟩) g.names.toNat g.names.toNat)]) (v := .agg #[.slice (some ⟨b11, 0, none⟩) g.names.toNat g.names.toNat, .slice none 0 0, .slice none 0 0]) rfl (fun w => by kernel_rfl)) rfl ?_
  refine OW_e (e_alloc Try.zeroValue53 rfl) rfl (fun b4 => ?_)
  refine OW_e0 (e_storeN Try.sizeOf53 rfl rfl rfl rfl (by simp [Value.oneCell']) (by (repeat (first | exact .head | apply Swap.tail))) (by rfl)) (fun _ => ?_)
  refine OW_nil ?_
  refine EW_then ?_
  refine CW_seq ?_
  refine CW_seq ?_
  refine CW_region ?_
  refine OW_q (q_fieldAddr Try.underlying24 rfl rfl Try.sizeOf3 rfl rfl) rfl ?_
  first | (refine OW_q (q_load1_own Try.isAgg3 rfl rfl (by (repeat (first | exact .head | apply Swap.tail))) (by rfl)) rfl ?_) | (refine OW_q (q_load1_ro Try.isAgg3 rfl (by first | assumption | exact Row.at_ (by assumption) rfl)) rfl ?_)
  refine OW_q (q_move rfl) rfl ?_
  refine OW_nil ?_
  refine EW_then ?_
  refine CW_block ?_
  refine CW_loopP (ι := Nat × List Nat × List Nat × Value × Value) (fun i_ => i_.1 ≤ g.names.toNat ∧ i_.2.1.length = i_.1 ∧ i_.2.2.1.length = i_.1) (fun i_ => [(1, .pointer (some ⟨b1, 0, none⟩)), (2, .pointer (some ⟨b2, 0, none⟩)), (4, .pointer (some ⟨b4, 0, none⟩)), (14, .int .i64 g.names), (15, .int .i64 (i_.1 : Int))]) (fun i_ => Sat (Old w) w [tabA 4 i_.2.2.1 (List.replicate i_.1 (List.replicate (g.terms + 1).toNat false)), trow 36 1 (encR g.terms.toNat) i_.2.2.2.1 i_.2.1, tabA 4 i_.2.1 (List.replicate i_.1 (List.replicate g.terms.toNat false)), trow 36 1 (encR (g.terms + 1).toNat) i_.2.2.2.2 i_.2.2.1, bools b11 4 (List.replicate g.names.toNat false), cel b4 53 [.slice (some ⟨b11, 0, none⟩) g.names.toNat g.names.toNat, i_.2.2.2.1, i_.2.2.2.2], cel b2 53 [.slice none 0 0, .slice none 0 0, .slice none 0 0], cel b1 24 [.int .i64 g.terms, .int .i64 g.names, .slice a g.rules.length c]]) (fun i_ => g.names.toNat - i_.1) (0, [], [], .slice none 0 0, .slice none 0 0) ?_ ⟨rfl, rfl, rfl, rfl, rfl, trivial⟩ (fun w hw => (((((hw.tabNil 4).tnil 36 1 (encR g.terms.toNat)).tabNil 4).tnil 36 1 (encR (g.terms + 1).toNat)).sub (by repeat (first | exact SubL.nil | exact Pick.head | apply Pick.tail | apply SubL.cons)))) ?_
  · exact ⟨Nat.zero_le _, rfl, rfl⟩
  intro i_ hpre
  obtain ⟨k, blf, blo, vf, vo⟩ := i_
  replace hpre : k ≤ g.names.toNat ∧ blf.length = k ∧ blo.length = k := hpre
  change CW _ _ _ _ [(1, .pointer (some ⟨b1, 0, none⟩)), (2, .pointer (some ⟨b2, 0, none⟩)), (4, .pointer (some ⟨b4, 0, none⟩)), (14, .int .i64 g.names), (15, .int .i64 (k : Int))] (Sat (Old w) w [tabA 4 blo (List.replicate k (List.replicate (g.terms + 1).toNat false)), trow 36 1 (encR g.terms.toNat) vf blf, tabA 4 blf (List.replicate k (List.replicate g.terms.toNat false)), trow 36 1 (encR (g.terms + 1).toNat) vo blo, bools b11 4 (List.replicate g.names.toNat false), cel b4 53 [.slice (some ⟨b11, 0, none⟩) g.names.toNat g.names.toNat, vf, vo], cel b2 53 [.slice none 0 0, .slice none 0 0, .slice none 0 0], cel b1 24 [.int .i64 g.terms, .int .i64 g.names, .slice a g.rules.length c]])
  obtain ⟨hk, hlf, hlo⟩ := hpre
  refine CW_seq ?_
  refine CW_region ?_
  refine OW_q (q_lss rfl rfl) rfl ?_
  refine OW_nil ?_
  refine EW_then ?_
  refine CW_seq ?_
  refine CW_cond rfl (fun h16 => ?_) (fun h16 => ?_)
  · skip
    have hlt : k < g.names.toNat := by have := of_decide_eq_true h16; omega
    refine CW_skip ?_
    refine EW_then ?_
    refine CW_seq ?_
    refine CW_block ?_
    refine CW_seq ?_
    refine CW_draw (Sat (Old w) w [cel b4 53 [.slice (some ⟨b11, 0, none⟩) g.names.toNat g.names.toNat, vf, vo], cel b1 24 [.int .i64 g.terms, .int .i64 g.names, .slice a g.rules.length c]]) 8 [(0, false), (1, false), (2, false), (3, false), (4, true), (5, true), (6, true), (7, false), (8, true)] (by kernel_rfl) (Blind.then (Blind.block (Blind.then (Blind.again (Blind.block (Blind.then (Blind.body (by intro c w h; simp at h)))))))) (by kernel_rfl) (fun w hw => hw.drew) ?_
    refine DW_q rfl (fun w hw => hw.sub (by (repeat (first | exact SubL.nil | exact Pick.head | apply Pick.tail | apply SubL.cons)))) (q_fieldAddr Try.underlying53 rfl rfl Try.sizeOf51 rfl rfl) rfl ?_
    first | (refine DW_q rfl (fun w hw => hw.sub (by (repeat (first | exact SubL.nil | exact Pick.head | apply Pick.tail | apply SubL.cons)))) (q_load1_own Try.isAgg51 rfl rfl (by (repeat (first | exact .head | apply Swap.tail))) (by rfl)) rfl ?_) | (refine DW_q rfl (fun w hw => hw.sub (by (repeat (first | exact SubL.nil | exact Pick.head | apply Pick.tail | apply SubL.cons)))) (q_load1_ro Try.isAgg51 rfl (by first | assumption | exact Row.at_ (by assumption) rfl)) rfl ?_)
    refine DW_q rfl (fun w hw => hw.sub (by (repeat (first | exact SubL.nil | exact Pick.head | apply Pick.tail | apply SubL.cons)))) (q_fieldAddr Try.underlying24 rfl rfl Try.sizeOf3 rfl rfl) rfl ?_
    first | (refine DW_q rfl (fun w hw => hw.sub (by (repeat (first | exact SubL.nil | exact Pick.head | apply Pick.tail | apply SubL.cons)))) (q_load1_own Try.isAgg3 rfl rfl (by (repeat (first | exact .head | apply Swap.tail))) (by rfl)) rfl ?_) | (refine DW_q rfl (fun w hw => hw.sub (by (repeat (first | exact SubL.nil | exact Pick.head | apply Pick.tail | apply SubL.cons)))) (q_load1_ro Try.isAgg3 rfl (by first | assumption | exact Row.at_ (by assumption) rfl)) rfl ?_)
    refine DW_e rfl (e_makeB Try.underlying36 Try.typeInfo4 rfl rfl (by decide) rfl rfl (by omega) (by omega)) rfl (fun _ w hw => hw.sub (by (repeat (first | exact SubL.nil | exact Pick.head | apply Pick.tail | apply SubL.cons)))) (fun b21 => ?_)
    refine DW_e rfl (e_single Try.underlying51 Try.sizeOf36 Try.zeroValue36 (e := 36) (v := .slice (some ⟨b21, 0, none⟩) g.terms.toNat g.terms.toNat) (cs := [.slice (some ⟨b21, 0, none⟩) g.terms.toNat g.terms.toNat]) rfl rfl rfl rfl (by decide) (by decide)) rfl (fun _ w hw => hw.sub (by repeat (first | exact SubL.nil | exact Pick.head | apply Pick.tail | apply SubL.cons))) (fun b22 => ?_)
    refine DW_e rfl (e_append_t (x0 := b21) (enc := encR g.terms.toNat) Try.underlying51 Try.typeInfo36 rfl rfl rfl rfl rfl rfl rfl (by repeat (first | exact .head | apply Pick.tail)) rfl (by exact fun w hw => hw.news (by repeat (first | exact .head | apply Swap.tail))) (by simp [Value.oneCell']) (by omega) (by decide)) rfl (fun _ w hw => hw.sub (by repeat (first | exact SubL.nil | exact Pick.head | apply Pick.tail | apply SubL.cons))) (fun v23 => ?_)
    refine DW_q rfl (fun w hw => hw.sub (by (repeat (first | exact SubL.nil | exact Pick.head | apply Pick.tail | apply SubL.cons)))) (q_fieldAddr Try.underlying53 rfl rfl Try.sizeOf51 rfl rfl) rfl ?_
    refine DW_fact (fun w hw => hw.tform (v := v23) (by repeat (first | exact .head | apply Swap.tail))) (fun hf => ?_)
    obtain ⟨_, _, hv23, _⟩ := hf
    refine DW_z0 rfl (e_store Try.sizeOf51 rfl rfl rfl (by show Value.oneCell' v23 = true; rw [hv23]; rfl) (by repeat (first | exact .head | apply Swap.tail)) rfl) (fun _ => ?_)
    refine EW_then ?_
    refine CW_draw (Sat (Old w) w [cel b4 53 [.slice (some ⟨b11, 0, none⟩) g.names.toNat g.names.toNat, v23, vo], cel b1 24 [.int .i64 g.terms, .int .i64 g.names, .slice a g.rules.length c]]) 9 [(0, false), (1, false), (2, false), (3, false), (4, false), (5, true), (6, true), (7, true), (8, false), (9, true)] (by kernel_rfl) (Blind.block (Blind.then (Blind.again (Blind.block (Blind.then (Blind.body (by intro c w h; simp at h))))))) (by kernel_rfl) (fun w hw => hw.drew) ?_
    refine DW_q rfl (fun w hw => hw.sub (by (repeat (first | exact SubL.nil | exact Pick.head | apply Pick.tail | apply SubL.cons)))) (q_fieldAddr Try.underlying53 rfl rfl Try.sizeOf51 rfl rfl) rfl ?_
    first | (refine DW_q rfl (fun w hw => hw.sub (by (repeat (first | exact SubL.nil | exact Pick.head | apply Pick.tail | apply SubL.cons)))) (q_load1_own Try.isAgg51 rfl rfl (by (repeat (first | exact .head | apply Swap.tail))) (by rfl)) rfl ?_) | (refine DW_q rfl (fun w hw => hw.sub (by (repeat (first | exact SubL.nil | exact Pick.head | apply Pick.tail | apply SubL.cons)))) (q_load1_ro Try.isAgg51 rfl (by first | assumption | exact Row.at_ (by assumption) rfl)) rfl ?_)
    refine DW_q rfl (fun w hw => hw.sub (by (repeat (first | exact SubL.nil | exact Pick.head | apply Pick.tail | apply SubL.cons)))) (q_fieldAddr Try.underlying24 rfl rfl Try.sizeOf3 rfl rfl) rfl ?_
    first | (refine DW_q rfl (fun w hw => hw.sub (by (repeat (first | exact SubL.nil | exact Pick.head | apply Pick.tail | apply SubL.cons)))) (q_load1_own Try.isAgg3 rfl rfl (by (repeat (first | exact .head | apply Swap.tail))) (by rfl)) rfl ?_) | (refine DW_q rfl (fun w hw => hw.sub (by (repeat (first | exact SubL.nil | exact Pick.head | apply Pick.tail | apply SubL.cons)))) (q_load1_ro Try.isAgg3 rfl (by first | assumption | exact Row.at_ (by assumption) rfl)) rfl ?_)
    first | refine DW_q rfl (fun w hw => hw.sub (by (repeat (first | exact SubL.nil | exact Pick.head | apply Pick.tail | apply SubL.cons)))) (q_inc rfl rfl (by omega)) rfl ?_ | refine DW_q rfl (fun w hw => hw.sub (by (repeat (first | exact SubL.nil | exact Pick.head | apply Pick.tail | apply SubL.cons)))) (q_add rfl rfl (by omega) (by omega)) rfl ?_
    refine DW_e rfl (e_makeB Try.underlying36 Try.typeInfo4 rfl rfl (by decide) rfl rfl (by omega) (by omega)) rfl (fun _ w hw => hw.sub (by (repeat (first | exact SubL.nil | exact Pick.head | apply Pick.tail | apply SubL.cons)))) (fun b30 => ?_)
    refine DW_e rfl (e_single Try.underlying51 Try.sizeOf36 Try.zeroValue36 (e := 36) (v := .slice (some ⟨b30, 0, none⟩) (g.terms + 1).toNat (g.terms + 1).toNat) (cs := [.slice (some ⟨b30, 0, none⟩) (g.terms + 1).toNat (g.terms + 1).toNat]) rfl rfl rfl rfl (by decide) (by decide)) rfl (fun _ w hw => hw.sub (by repeat (first | exact SubL.nil | exact Pick.head | apply Pick.tail | apply SubL.cons))) (fun b31 => ?_)
    refine DW_e rfl (e_append_t (x0 := b30) (enc := encR (g.terms + 1).toNat) Try.underlying51 Try.typeInfo36 rfl rfl rfl rfl rfl rfl rfl (by repeat (first | exact .head | apply Pick.tail)) rfl (by exact fun w hw => hw.news (by repeat (first | exact .head | apply Swap.tail))) (by simp [Value.oneCell']) (by omega) (by decide)) rfl (fun _ w hw => hw.sub (by repeat (first | exact SubL.nil | exact Pick.head | apply Pick.tail | apply SubL.cons))) (fun v32 => ?_)
    refine DW_q rfl (fun w hw => hw.sub (by (repeat (first | exact SubL.nil | exact Pick.head | apply Pick.tail | apply SubL.cons)))) (q_fieldAddr Try.underlying53 rfl rfl Try.sizeOf51 rfl rfl) rfl ?_
    refine DW_fact (fun w hw => hw.tform (v := v32) (by repeat (first | exact .head | apply Swap.tail))) (fun hf => ?_)
    obtain ⟨_, _, hv32, _⟩ := hf
    refine DW_z0 rfl (e_store Try.sizeOf51 rfl rfl rfl (by show Value.oneCell' v32 = true; rw [hv32]; rfl) (by repeat (first | exact .head | apply Swap.tail)) rfl) (fun _ => ?_)
    refine EW_block_normal ?_
    refine EW_then ?_
    refine CW_region ?_
    first | refine OW_q (q_inc rfl rfl (by omega)) rfl ?_ | refine OW_q (q_add rfl rfl (by omega) (by omega)) rfl ?_
    refine OW_q (q_move rfl) rfl ?_
    refine OW_nil ?_
    refine EW_again ((k + 1, blf ++ [b21], blo ++ [b30], v23, v32)) ⟨?_, ?_⟩ ⟨rfl, rfl, rfl, rfl, rfl, trivial⟩ (fun w hw => by
        have h1 := (hw.sub (L' := [tabA 4 blf (List.replicate k (List.replicate g.terms.toNat false)), bools b21 4 (List.replicate g.terms.toNat false), tabA 4 blo (List.replicate k (List.replicate (g.terms + 1).toNat false)), bools b30 4 (List.replicate (g.terms + 1).toNat false), trow 36 1 (encR g.terms.toNat) v23 (blf ++ [b21]), trow 36 1 (encR (g.terms + 1).toNat) v32 (blo ++ [b30]), bools b11 4 (List.replicate g.names.toNat false), cel b4 53 [.slice (some ⟨b11, 0, none⟩) g.names.toNat g.names.toNat, v23, v32], cel b2 53 [.slice none 0 0, .slice none 0 0, .slice none 0 0], cel b1 24 [.int .i64 g.terms, .int .i64 g.names, .slice a g.rules.length c]]) (by repeat (first | exact SubL.nil | exact Pick.head | apply Pick.tail | apply SubL.cons))).tabAdd (by rw [hlf, List.length_replicate])
        have h2 := (h1.sub (L' := [tabA 4 blo (List.replicate k (List.replicate (g.terms + 1).toNat false)), bools b30 4 (List.replicate (g.terms + 1).toNat false), tabA 4 (blf ++ [b21]) (List.replicate k (List.replicate g.terms.toNat false) ++ [List.replicate g.terms.toNat false]), trow 36 1 (encR g.terms.toNat) v23 (blf ++ [b21]), trow 36 1 (encR (g.terms + 1).toNat) v32 (blo ++ [b30]), bools b11 4 (List.replicate g.names.toNat false), cel b4 53 [.slice (some ⟨b11, 0, none⟩) g.names.toNat g.names.toNat, v23, v32], cel b2 53 [.slice none 0 0, .slice none 0 0, .slice none 0 0], cel b1 24 [.int .i64 g.terms, .int .i64 g.names, .slice a g.rules.length c]]) (by repeat (first | exact SubL.nil | exact Pick.head | apply Pick.tail | apply SubL.cons))).tabAdd (by rw [hlo, List.length_replicate])
        rw [← List.replicate_succ', ← List.replicate_succ'] at h2
        exact h2.sub (by repeat (first | exact SubL.nil | exact Pick.head | apply Pick.tail | apply SubL.cons)))
    · show g.names.toNat - (k + 1) < g.names.toNat - k; omega
    · exact ⟨hlt, by show (blf ++ [b21]).length = k + 1; rw [List.length_append, hlf]; rfl, by show (blo ++ [b30]).length = k + 1; rw [List.length_append, hlo]; rfl⟩
  · skip
    obtain rfl : k = g.names.toNat := by have := of_decide_eq_false h16; omega
    refine CW_fact (fun w hw => hw.tform (v := vf) (by repeat (first | exact .head | apply Swap.tail))) (fun hf => ?_)
    rw [hlf] at hf
    obtain ⟨af, cf, rfl, hf1, hf2, hf3⟩ := hf
    obtain ⟨bf, rfl⟩ := hf3 (by omega)
    refine CW_fact (fun w hw => hw.tform (v := vo) (by repeat (first | exact .head | apply Swap.tail))) (fun hf => ?_)
    rw [hlo] at hf
    obtain ⟨ao, co, rfl, hg1, hg2, hg3⟩ := hf
    obtain ⟨bo, rfl⟩ := hg3 (by omega)
    obtain ⟨bl0, hbl0⟩ := get_of_lt (l := blo) (k := 0) (by omega)
    have hd0 := dim_new g.names.toNat (g.terms + 1).toNat
    have hr0 := hd0.row (n := 0) (by omega) (by omega)
    have hrow0 := row2_get (tab := List.replicate g.names.toNat (List.replicate (g.terms + 1).toNat false)) (n := 0) (by omega) (by rw [List.length_replicate]; omega)
    have ho0 : OS g (put2 (List.replicate g.names.toNat (List.replicate (g.terms + 1).toNat false)) 0 g.terms) := fun n t hn ht hb => by
      rw [at2_put (by omega) (by rw [List.length_replicate]; omega) hM.1 (by omega) hn ht, at2_new] at hb
      simp only [Bool.false_or, Bool.and_eq_true, decide_eq_true_eq] at hb
      rw [hb.1, hb.2]; exact .top
    have ho1 : at2 (put2 (List.replicate g.names.toNat (List.replicate (g.terms + 1).toNat false)) 0 g.terms) 0 g.terms = true := by
      rw [at2_put (by omega) (by rw [List.length_replicate]; omega) hM.1 (by omega) (by omega) hM.1]
      simp
    refine CW_exit ?_
    refine EW_then_exit ?_
    refine EW_out ?_
    refine EW_block_exit ?_
    refine EW_then ?_
    refine CW_seq ?_
    refine CW_drawS 7 [(0, false), (1, false), (2, false), (3, false), (4, false), (5, false), (6, false), (7, true)] (by kernel_rfl) (Blind.then (Blind.body (by intro c w h; simp at h))) (by kernel_rfl) (fun w hw => hw.drew) ?_
    refine DW_q rfl (fun w hw => hw.sub (by (repeat (first | exact SubL.nil | exact Pick.head | apply Pick.tail | apply SubL.cons)))) (q_fieldAddr Try.underlying53 rfl rfl Try.sizeOf51 rfl rfl) rfl ?_
    first | (refine DW_q rfl (fun w hw => hw.sub (by (repeat (first | exact SubL.nil | exact Pick.head | apply Pick.tail | apply SubL.cons)))) (q_load1_own Try.isAgg51 rfl rfl (by (repeat (first | exact .head | apply Swap.tail))) (by rfl)) rfl ?_) | (refine DW_q rfl (fun w hw => hw.sub (by (repeat (first | exact SubL.nil | exact Pick.head | apply Pick.tail | apply SubL.cons)))) (q_load1_ro Try.isAgg51 rfl (by first | assumption | exact Row.at_ (by assumption) rfl)) rfl ?_)
    refine DW_q rfl (fun w hw => hw.sub (by (repeat (first | exact SubL.nil | exact Pick.head | apply Pick.tail | apply SubL.cons)))) (q_indexAddrI Try.underlying51 Try.sizeOf36 rfl rfl (by first | omega | assumption) (by first | omega | assumption)) rfl ?_
    refine DW_q rfl (fun w hw => hw.sub (by repeat (first | exact SubL.nil | exact Pick.head | apply Pick.tail | apply SubL.cons))) (q_load_t1 (k := (0 : Int).toNat) Try.isAgg36 (fun _ => rfl) rfl (by repeat (first | exact .head | apply Swap.tail)) rfl hbl0 rfl) rfl ?_
    refine DW_q rfl (fun w hw => hw.sub (by (repeat (first | exact SubL.nil | exact Pick.head | apply Pick.tail | apply SubL.cons)))) (q_fieldAddr Try.underlying24 rfl rfl Try.sizeOf3 rfl rfl) rfl ?_
    first | (refine DW_q rfl (fun w hw => hw.sub (by (repeat (first | exact SubL.nil | exact Pick.head | apply Pick.tail | apply SubL.cons)))) (q_load1_own Try.isAgg3 rfl rfl (by (repeat (first | exact .head | apply Swap.tail))) (by rfl)) rfl ?_) | (refine DW_q rfl (fun w hw => hw.sub (by (repeat (first | exact SubL.nil | exact Pick.head | apply Pick.tail | apply SubL.cons)))) (q_load1_ro Try.isAgg3 rfl (by first | assumption | exact Row.at_ (by assumption) rfl)) rfl ?_)
    refine DW_q rfl (fun w hw => hw.sub (by (repeat (first | exact SubL.nil | exact Pick.head | apply Pick.tail | apply SubL.cons)))) (q_indexAddrI Try.underlying36 Try.sizeOf4 rfl rfl (by first | omega | assumption) (by first | omega | assumption)) rfl ?_
    refine DW_z0 rfl (e_store_bools (l := row2 (List.replicate g.names.toNat (List.replicate (g.terms + 1).toNat false)) 0) Try.sizeOf4 rfl rfl ((Hole.tab hbl0 hrow0).swap _) (by omega)) (fun _ => ?_)
    refine EW_then ?_
    refine CW_seq ?_
    refine CW_weak (fun w hw => by rw [tabL_set (i := 0) hbl0] at hw; exact hw) ?_
    refine CW_weak (fun w hw => (hw : Sat _ _ (tabA 4 blo (put2 (List.replicate g.names.toNat (List.replicate (g.terms + 1).toNat false)) 0 g.terms) :: _) w)) ?_
    refine CW_region ?_
    refine OW_q (q_makeFuncL (us := [.pointer (some ⟨b1, 0, none⟩), .pointer (some ⟨b4, 0, none⟩)]) rfl) rfl ?_
    refine OW_weak (fun w hw => Sat.join (M := [bools b11 4 (List.replicate g.names.toNat false), tabA 4 blf (List.replicate g.names.toNat (List.replicate g.terms.toNat false)), trow 36 1 (encR g.terms.toNat) (.slice (some ⟨bf, 0, none⟩) g.names.toNat cf) blf, trow 36 1 (encR (g.terms + 1).toNat) (.slice (some ⟨bo, 0, none⟩) g.names.toNat co) blo, tabA 4 blo (put2 (List.replicate g.names.toNat (List.replicate (g.terms + 1).toNat false)) 0 g.terms), cel b4 53 [.slice (some ⟨b11, 0, none⟩) g.names.toNat g.names.toNat, (.slice (some ⟨bf, 0, none⟩) g.names.toNat cf), (.slice (some ⟨bo, 0, none⟩) g.names.toNat co)], cel b1 24 [.int .i64 g.terms, .int .i64 g.names, .slice a g.rules.length c]]) (L := [cel b2 53 [.slice none 0 0, .slice none 0 0, .slice none 0 0]]) (hw.sub (by repeat (first | exact SubL.nil | exact Pick.head | apply Pick.tail | apply SubL.cons)))) ?_
    refine OW_e (e_call Try.call46 rfl (fun w hw => lift_mut (A' := fun x : List Bool × List (List Bool) => stars [bools b11 4 x.1, tabA 4 blf x.2, trow 36 1 (encR g.terms.toNat) (.slice (some ⟨bf, 0, none⟩) g.names.toNat cf) blf, trow 36 1 (encR (g.terms + 1).toNat) (.slice (some ⟨bo, 0, none⟩) g.names.toNat co) blo, tabA 4 blo (put2 (List.replicate g.names.toNat (List.replicate (g.terms + 1).toNat false)) 0 g.terms), cel b4 53 [.slice (some ⟨b11, 0, none⟩) g.names.toNat g.names.toNat, (.slice (some ⟨bf, 0, none⟩) g.names.toNat cf), (.slice (some ⟨bo, 0, none⟩) g.names.toNat co)], cel b1 24 [.int .i64 g.terms, .int .i64 g.names, .slice a g.rules.length c]]) (by repeat (first | exact .head | apply Pick.tail)) hw (fun F hF => grow1 g hm g.names.toNat rfl b1 b4 b11 bf bo cf co blf blo hlf hlo a c (Old _) _ w F hrr (List.replicate g.names.toNat false) (List.replicate g.names.toNat (List.replicate g.terms.toNat false)) (put2 (List.replicate g.names.toNat (List.replicate (g.terms + 1).toNat false)) 0 g.terms) ⟨List.length_replicate, dim_new _ _, (fun n _ h => by rw [atB_new] at h; cases h), (fun n t _ _ h => by rw [at2_new] at h; cases h)⟩ hF))) rfl (fun x43 => ?_)
    refine OW_pure fun hx43 => ?_
    refine OW_weak (fun w hw => (hw.unjoin : Sat _ _ [bools b11 4 x43.1, tabA 4 blf x43.2, trow 36 1 (encR g.terms.toNat) (.slice (some ⟨bf, 0, none⟩) g.names.toNat cf) blf, trow 36 1 (encR (g.terms + 1).toNat) (.slice (some ⟨bo, 0, none⟩) g.names.toNat co) blo, tabA 4 blo (put2 (List.replicate g.names.toNat (List.replicate (g.terms + 1).toNat false)) 0 g.terms), cel b4 53 [.slice (some ⟨b11, 0, none⟩) g.names.toNat g.names.toNat, (.slice (some ⟨bf, 0, none⟩) g.names.toNat cf), (.slice (some ⟨bo, 0, none⟩) g.names.toNat co)], cel b1 24 [.int .i64 g.terms, .int .i64 g.names, .slice a g.rules.length c], cel b2 53 [.slice none 0 0, .slice none 0 0, .slice none 0 0]] w)) ?_
    refine OW_nil ?_
    refine EW_then ?_
    refine CW_seq ?_
    refine CW_region ?_
    refine OW_q (q_makeFuncL (us := [.pointer (some ⟨b1, 0, none⟩), .pointer (some ⟨b4, 0, none⟩)]) rfl) rfl ?_
    refine OW_weak (fun w hw => Sat.join (M := [tabA 4 blo (put2 (List.replicate g.names.toNat (List.replicate (g.terms + 1).toNat false)) 0 g.terms), bools b11 4 x43.1, tabA 4 blf x43.2, trow 36 1 (encR g.terms.toNat) (.slice (some ⟨bf, 0, none⟩) g.names.toNat cf) blf, trow 36 1 (encR (g.terms + 1).toNat) (.slice (some ⟨bo, 0, none⟩) g.names.toNat co) blo, cel b4 53 [.slice (some ⟨b11, 0, none⟩) g.names.toNat g.names.toNat, (.slice (some ⟨bf, 0, none⟩) g.names.toNat cf), (.slice (some ⟨bo, 0, none⟩) g.names.toNat co)], cel b1 24 [.int .i64 g.terms, .int .i64 g.names, .slice a g.rules.length c]]) (L := [cel b2 53 [.slice none 0 0, .slice none 0 0, .slice none 0 0]]) (hw.sub (by repeat (first | exact SubL.nil | exact Pick.head | apply Pick.tail | apply SubL.cons)))) ?_
    refine OW_e (e_call Try.call46 rfl (fun w hw => lift_mut (A' := fun x : List (List Bool) => stars [tabA 4 blo x, bools b11 4 x43.1, tabA 4 blf x43.2, trow 36 1 (encR g.terms.toNat) (.slice (some ⟨bf, 0, none⟩) g.names.toNat cf) blf, trow 36 1 (encR (g.terms + 1).toNat) (.slice (some ⟨bo, 0, none⟩) g.names.toNat co) blo, cel b4 53 [.slice (some ⟨b11, 0, none⟩) g.names.toNat g.names.toNat, (.slice (some ⟨bf, 0, none⟩) g.names.toNat cf), (.slice (some ⟨bo, 0, none⟩) g.names.toNat co)], cel b1 24 [.int .i64 g.terms, .int .i64 g.names, .slice a g.rules.length c]]) (by repeat (first | exact .head | apply Pick.tail)) hw (fun F hF => grow2 g hm g.names.toNat rfl b1 b4 b11 bf bo cf co blf blo hlf hlo a c (Old _) _ w F hrr x43.1 x43.2 (put2 (List.replicate g.names.toNat (List.replicate (g.terms + 1).toNat false)) 0 g.terms) hx43.1.1 hx43.1.2.1 hx43.1.2.2.1 hx43.1.2.2.2 ((dim_new _ _).put (by omega) (by omega)) ⟨ho0, ho1⟩ hF))) rfl (fun x45 => ?_)
    refine OW_pure fun hx45 => ?_
    refine OW_weak (fun w hw => (hw.unjoin : Sat _ _ [tabA 4 blo x45, bools b11 4 x43.1, tabA 4 blf x43.2, trow 36 1 (encR g.terms.toNat) (.slice (some ⟨bf, 0, none⟩) g.names.toNat cf) blf, trow 36 1 (encR (g.terms + 1).toNat) (.slice (some ⟨bo, 0, none⟩) g.names.toNat co) blo, cel b4 53 [.slice (some ⟨b11, 0, none⟩) g.names.toNat g.names.toNat, (.slice (some ⟨bf, 0, none⟩) g.names.toNat cf), (.slice (some ⟨bo, 0, none⟩) g.names.toNat co)], cel b1 24 [.int .i64 g.terms, .int .i64 g.names, .slice a g.rules.length c], cel b2 53 [.slice none 0 0, .slice none 0 0, .slice none 0 0]] w)) ?_
    refine OW_nil ?_
    refine EW_then ?_
    refine CW_seq ?_
    refine CW_region ?_
    first | (refine OW_q (q_loadN_own Try.isAgg53 Try.sizeOf53 rfl rfl (by (repeat (first | exact .head | apply Swap.tail))) (by rfl)) rfl ?_) | (refine OW_q (q_loadN_ro Try.isAgg53 Try.sizeOf53 rfl (by first | assumption | exact Row.at_ (by assumption) rfl) (by rfl)) rfl ?_)
    refine OW_e0 (e_storeN Try.sizeOf53 rfl rfl rfl rfl (by simp [Value.oneCell']) (by (repeat (first | exact .head | apply Swap.tail))) (by rfl)) (fun _ => ?_)
    refine OW_q (q_assign rfl) rfl ?_
    refine OW_nil ?_
    refine EW_then ?_
    refine CW_ret ?_
    refine retc2 (vs := [.slice (some ⟨b11, 0, none⟩) g.names.toNat g.names.toNat, (.slice (some ⟨bf, 0, none⟩) g.names.toNat cf), (.slice (some ⟨bo, 0, none⟩) g.names.toNat co)]) Try.results26 Try.isAgg53 Try.sizeOf53 rfl rfl (fun w hw j u hj => by rw [Addr.add_lit, hw.cell (b := b2) (A' := ints 0 0 []) (by repeat (first | exact .head | apply Swap.tail))]; simpa using hj) rfl (fun w hw => ?_)
    exact ⟨⟨b11, bf, bo, cf, co, blf, blo, x43.1, x43.2, x45⟩, rfl, ⟨⟨hx43.1.1, hx43.1.2.1, hx45.1.1, hlf, hlo⟩, ⟨hx43.1.2.2.1, hx43.1.2.2.2, hx45.1.2⟩, fun r hr => (hx43.2 r hr).1, fun r hr => (hx43.2 r hr).2, fun r hr => hx45.2 r hr⟩, hw.sub (by repeat (first | exact SubL.nil | exact Pick.head | apply Pick.tail | apply SubL.cons))⟩

end Go.Sy
