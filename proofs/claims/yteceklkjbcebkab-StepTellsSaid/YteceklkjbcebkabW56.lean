/- pollardingref8.one: names that begin with themselves, and prunes. No condition. -/
import Derived.Test.YteceklkjbcebkabW55
import Derived.Test.YteceklkjbcebkabW49
import Derived.Test.YteceklkjbcebkabW19
namespace Go.Sy
open Go Go.RowKit Go.Proofs

set_option maxRecDepth 20000 in
theorem one5_any (gv : Value) (g : Gram) (s : SStep) (k : Nat) (q : Rule) (w : World) (hm : mayB g = true) (hs : mayS g s = true) (hop : s.op = 5) (hq : g.rules[k]? = some q) (hg : GramAt (Cl w) gv g) : Calls Try.prog 22 #[gv, stepV s, .int .i64 (k : Int)] w (fun e w' => ∃ x : Value × List RV × List Bool × List Bool, e = .returned x.1 ∧ ((s.op = 5 → MksOk g x.2.2.1 ∧ CmsOk g x.2.2.2) ∧ plainR x.2.1 = oneR g s x.2.2.1 x.2.2.2 k q) ∧ Sat (Old w) w [rulesA x.1 x.2.1, symsA x.2.1] w') := by
  have hg0 := hg
  obtain ⟨rv, rfl, hr⟩ := hg.mono old_rd
  obtain ⟨a, c, rfl, hc1, hc2, hrs⟩ := id hr
  clear hg
  have hM := mayB_true.1 hm
  have hlk := (List.getElem?_eq_some_iff.1 hq).1
  have hq8 := (may_rule hm hq).2.2
  obtain ⟨p, rfl, rvq, hsy, hrow⟩ := hrs k q hq
  obtain ⟨ya, yc, rfl, hy1, hy2, hys⟩ := id hsy
  have hkn : ((g.names.toNat : Nat) : Int) = g.names := by omega
  have hqr := may_rule hm hq
  refine calls_CW Try.func22 rfl Try.ntmps22 rfl (Sat.start w) ?_
  refine CW_seq ?_
  refine CW_region ?_
  refine OW_e (e_box rfl rfl) rfl (fun b3 => ?_)
  refine OW_e (e_box rfl rfl) rfl (fun b4 => ?_)
  refine OW_q (q_assign rfl) rfl ?_
  refine OW_nil ?_
  refine EW_then ?_
  refine CW_seqJ (ι := Nat × Option Addr × Nat) (fun i_ => q.right.length ≤ i_.2.2 ∧ i_.2.2 ≤ 9223372036854775807 ∧ (0 < q.right.length → ∃ g, i_.2.1 = some ⟨g, 0, none⟩)) (fun i_ => [(2, .int .i64 (k : Int)), (3, .pointer (some ⟨b3, 0, none⟩)), (4, .pointer (some ⟨b4, 0, none⟩)), (7, .pointer (some ⟨i_.1, 0, none⟩))]) (fun i_ => Sat (Old w) w [cel i_.1 49 [.int .i64 q.left, .slice i_.2.1 q.right.length i_.2.2], trow 51 2 encY (.slice i_.2.1 q.right.length i_.2.2) q.right, cel b4 26 [.int .i64 s.op, .int .i64 s.a, .int .i64 s.b, .int .i64 s.c], cel b3 24 [.int .i64 g.terms, .int .i64 g.names, .slice (some p) g.rules.length c]]) ?_ ?_
  · skip
    refine CW_drawT (Sat (Old w) w [cel b4 26 [.int .i64 s.op, .int .i64 s.a, .int .i64 s.b, .int .i64 s.c], cel b3 24 [.int .i64 g.terms, .int .i64 g.names, .slice (some p) g.rules.length c]]) [15] (.q 0 false (.q 1 true (.q 2 false (.q 3 false (.q 4 false (.q 5 true (.q 6 false (.q 7 true (.q 8 false (.q 9 false (.q 10 false (.q 11 true (.alt 12 (.q 13 false (.e 14 (.e 15 .nil))) 14 (.e 12 (.q 13 false (.e 15 .nil)))))))))))))))) (by kernel_rfl) (Blind.again Blind.bodyP) (by kernel_rfl) (fun w hw => hw.drew) ?_
    refine DT_p rfl (.inr (fun w hw => (by first | exact hw.sub (by (repeat (first | exact SubL.nil | exact Pick.head | apply Pick.tail | apply SubL.cons))) | exact hw.2.sub (by (repeat (first | exact SubL.nil | exact Pick.head | apply Pick.tail | apply SubL.cons)))))) (q_fieldAddr Try.underlying24 rfl rfl Try.sizeOf22 rfl rfl) rfl ?_
    first | (refine DT_q rfl (fun w hw => (by first | exact hw.sub (by (repeat (first | exact SubL.nil | exact Pick.head | apply Pick.tail | apply SubL.cons))) | exact hw.2.sub (by (repeat (first | exact SubL.nil | exact Pick.head | apply Pick.tail | apply SubL.cons))))) (q_load1_own Try.isAgg22 rfl rfl (by (repeat (first | exact .head | apply Swap.tail))) (by rfl)) rfl ?_) | (refine DT_q rfl (fun w hw => (by first | exact hw.sub (by (repeat (first | exact SubL.nil | exact Pick.head | apply Pick.tail | apply SubL.cons))) | exact hw.2.sub (by (repeat (first | exact SubL.nil | exact Pick.head | apply Pick.tail | apply SubL.cons))))) (q_load1_ro Try.isAgg22 rfl (by first | assumption | exact Row.at_ (by assumption) rfl)) rfl ?_)
    refine DT_p rfl (.inr (fun w hw => (by first | exact hw.sub (by (repeat (first | exact SubL.nil | exact Pick.head | apply Pick.tail | apply SubL.cons))) | exact hw.2.sub (by (repeat (first | exact SubL.nil | exact Pick.head | apply Pick.tail | apply SubL.cons)))))) (q_move rfl) rfl ?_
    refine DT_p rfl (.inr (fun w hw => (by first | exact hw.sub (by (repeat (first | exact SubL.nil | exact Pick.head | apply Pick.tail | apply SubL.cons))) | exact hw.2.sub (by (repeat (first | exact SubL.nil | exact Pick.head | apply Pick.tail | apply SubL.cons)))))) (q_indexAddr Try.underlying22 Try.sizeOf49 rfl rfl (by first | omega | assumption)) rfl ?_
    refine DT_p rfl (.inr (fun w hw => (by first | exact hw.sub (by (repeat (first | exact SubL.nil | exact Pick.head | apply Pick.tail | apply SubL.cons))) | exact hw.2.sub (by (repeat (first | exact SubL.nil | exact Pick.head | apply Pick.tail | apply SubL.cons)))))) (q_fieldAddr Try.underlying49 rfl rfl Try.sizeOf3 rfl rfl) rfl ?_
    refine DT_q rfl (fun w hw => (by first | exact hw.sub (by (repeat (first | exact SubL.nil | exact Pick.head | apply Pick.tail | apply SubL.cons))) | exact hw.2.sub (by (repeat (first | exact SubL.nil | exact Pick.head | apply Pick.tail | apply SubL.cons))))) (q_load1_ro Try.isAgg3 rfl (by first | exact Row.at0 hrow)) rfl ?_
    refine DT_p rfl (.inr (fun w hw => (by first | exact hw.sub (by (repeat (first | exact SubL.nil | exact Pick.head | apply Pick.tail | apply SubL.cons))) | exact hw.2.sub (by (repeat (first | exact SubL.nil | exact Pick.head | apply Pick.tail | apply SubL.cons)))))) (q_fieldAddr Try.underlying24 rfl rfl Try.sizeOf22 rfl rfl) rfl ?_
    first | (refine DT_q rfl (fun w hw => (by first | exact hw.sub (by (repeat (first | exact SubL.nil | exact Pick.head | apply Pick.tail | apply SubL.cons))) | exact hw.2.sub (by (repeat (first | exact SubL.nil | exact Pick.head | apply Pick.tail | apply SubL.cons))))) (q_load1_own Try.isAgg22 rfl rfl (by (repeat (first | exact .head | apply Swap.tail))) (by rfl)) rfl ?_) | (refine DT_q rfl (fun w hw => (by first | exact hw.sub (by (repeat (first | exact SubL.nil | exact Pick.head | apply Pick.tail | apply SubL.cons))) | exact hw.2.sub (by (repeat (first | exact SubL.nil | exact Pick.head | apply Pick.tail | apply SubL.cons))))) (q_load1_ro Try.isAgg22 rfl (by first | assumption | exact Row.at_ (by assumption) rfl)) rfl ?_)
    refine DT_p rfl (.inr (fun w hw => (by first | exact hw.sub (by (repeat (first | exact SubL.nil | exact Pick.head | apply Pick.tail | apply SubL.cons))) | exact hw.2.sub (by (repeat (first | exact SubL.nil | exact Pick.head | apply Pick.tail | apply SubL.cons)))))) (q_move rfl) rfl ?_
    refine DT_p rfl (.inr (fun w hw => (by first | exact hw.sub (by (repeat (first | exact SubL.nil | exact Pick.head | apply Pick.tail | apply SubL.cons))) | exact hw.2.sub (by (repeat (first | exact SubL.nil | exact Pick.head | apply Pick.tail | apply SubL.cons)))))) (q_indexAddr Try.underlying22 Try.sizeOf49 rfl rfl (by first | omega | assumption)) rfl ?_
    refine DT_p rfl (.inr (fun w hw => (by first | exact hw.sub (by (repeat (first | exact SubL.nil | exact Pick.head | apply Pick.tail | apply SubL.cons))) | exact hw.2.sub (by (repeat (first | exact SubL.nil | exact Pick.head | apply Pick.tail | apply SubL.cons)))))) (q_fieldAddr Try.underlying49 rfl rfl Try.sizeOf46 rfl rfl) rfl ?_
    refine DT_q rfl (fun w hw => (by first | exact hw.sub (by (repeat (first | exact SubL.nil | exact Pick.head | apply Pick.tail | apply SubL.cons))) | exact hw.2.sub (by (repeat (first | exact SubL.nil | exact Pick.head | apply Pick.tail | apply SubL.cons))))) (q_load1_ro Try.isAgg46 rfl (by first | exact hrow.at_ (j := 1) rfl)) rfl ?_
    refine DT_alt ?_ ?_
    · skip
      refine DT_e rfl (e_call Try.call23 rfl (fun w hw => lift_old (copied_any _ q.right w (by omega) (hsy.mono fun _ _ h => hw.rd h)) hw)) rfl (.inr (fun _ w hw => (by first | exact hw.sub (by (repeat (first | exact SubL.nil | exact Pick.head | apply Pick.tail | apply SubL.cons))) | exact hw.2.sub (by (repeat (first | exact SubL.nil | exact Pick.head | apply Pick.tail | apply SubL.cons)))))) (fun x30 => ?_)
      refine DT_fact (fun w hw => hw.tform (v := x30) (l := q.right) (enc := encY) (by repeat (first | exact .head | apply Swap.tail))) (fun hf => ?_)
      obtain ⟨ax, cx, rfl, hcx1, hcx2, hbx⟩ := hf
      refine DT_p rfl (.inr (fun w hw => (by first | exact hw.sub (by (repeat (first | exact SubL.nil | exact Pick.head | apply Pick.tail | apply SubL.cons))) | exact hw.2.sub (by (repeat (first | exact SubL.nil | exact Pick.head | apply Pick.tail | apply SubL.cons)))))) (q_build (ps := #[(0, .int .i64 q.left), (1, .slice ax q.right.length cx)]) (v := .agg #[.int .i64 q.left, .slice ax q.right.length cx]) rfl (fun w => by kernel_rfl)) rfl ?_
      refine DT_e rfl (e_alloc Try.zeroValue49 rfl) rfl (.inr (fun _ w hw => (by first | exact hw.sub (by (repeat (first | exact SubL.nil | exact Pick.head | apply Pick.tail | apply SubL.cons))) | exact hw.2.sub (by (repeat (first | exact SubL.nil | exact Pick.head | apply Pick.tail | apply SubL.cons)))))) (fun b7 => ?_)
      refine DT_e0 rfl (e_storeN Try.sizeOf49 rfl rfl rfl rfl (by simp [Value.oneCell']) (by (repeat (first | exact .head | apply Swap.tail))) (by rfl)) (.inl rfl) (fun _ => ?_)
      refine DT_nil ?_
      refine EW_again ((b7, ax, cx)) ?_ ⟨rfl, rfl, rfl, rfl, trivial⟩ (fun w hw => hw.sub (by (repeat (first | exact SubL.nil | exact Pick.head | apply Pick.tail | apply SubL.cons))))
      · exact ⟨hcx1, hcx2, hbx⟩
    · skip
      refine DT_e rfl (e_alloc Try.zeroValue49 rfl) rfl (.inr (fun _ w hw => (by first | exact hw.sub (by (repeat (first | exact SubL.nil | exact Pick.head | apply Pick.tail | apply SubL.cons))) | exact hw.2.sub (by (repeat (first | exact SubL.nil | exact Pick.head | apply Pick.tail | apply SubL.cons)))))) (fun b7 => ?_)
      refine DT_e rfl (e_call Try.call23 rfl (fun w hw => lift_old (copied_any _ q.right w (by omega) (hsy.mono fun _ _ h => hw.rd h)) hw)) rfl (.inr (fun _ w hw => (by first | exact hw.sub (by (repeat (first | exact SubL.nil | exact Pick.head | apply Pick.tail | apply SubL.cons))) | exact hw.2.sub (by (repeat (first | exact SubL.nil | exact Pick.head | apply Pick.tail | apply SubL.cons)))))) (fun x30 => ?_)
      refine DT_fact (fun w hw => hw.tform (v := x30) (l := q.right) (enc := encY) (by repeat (first | exact .head | apply Swap.tail))) (fun hf => ?_)
      obtain ⟨ax, cx, rfl, hcx1, hcx2, hbx⟩ := hf
      refine DT_p rfl (.inr (fun w hw => (by first | exact hw.sub (by (repeat (first | exact SubL.nil | exact Pick.head | apply Pick.tail | apply SubL.cons))) | exact hw.2.sub (by (repeat (first | exact SubL.nil | exact Pick.head | apply Pick.tail | apply SubL.cons)))))) (q_build (ps := #[(0, .int .i64 q.left), (1, .slice ax q.right.length cx)]) (v := .agg #[.int .i64 q.left, .slice ax q.right.length cx]) rfl (fun w => by kernel_rfl)) rfl ?_
      refine DT_e0 rfl (e_storeN Try.sizeOf49 rfl rfl rfl rfl (by simp [Value.oneCell']) (by (repeat (first | exact .head | apply Swap.tail))) (by rfl)) (.inl rfl) (fun _ => ?_)
      refine DT_nil ?_
      refine EW_again ((b7, ax, cx)) ?_ ⟨rfl, rfl, rfl, rfl, trivial⟩ (fun w hw => hw.sub (by (repeat (first | exact SubL.nil | exact Pick.head | apply Pick.tail | apply SubL.cons))))
      · exact ⟨hcx1, hcx2, hbx⟩
  intro i_ hpre
  obtain ⟨b7, ax, cx⟩ := i_
  replace hpre : q.right.length ≤ cx ∧ cx ≤ 9223372036854775807 ∧ (0 < q.right.length → ∃ g, ax = some ⟨g, 0, none⟩) := hpre
  change CW _ _ _ _ [(2, .int .i64 (k : Int)), (3, .pointer (some ⟨b3, 0, none⟩)), (4, .pointer (some ⟨b4, 0, none⟩)), (7, .pointer (some ⟨b7, 0, none⟩))] (Sat (Old w) w [cel b7 49 [.int .i64 q.left, .slice ax q.right.length cx], trow 51 2 encY (.slice ax q.right.length cx) q.right, cel b4 26 [.int .i64 s.op, .int .i64 s.a, .int .i64 s.b, .int .i64 s.c], cel b3 24 [.int .i64 g.terms, .int .i64 g.names, .slice (some p) g.rules.length c]])
  obtain ⟨hcx1, hcx2, hbx⟩ := hpre
  refine CW_seq ?_
  refine CW_region ?_
  refine OW_q (q_fieldAddr Try.underlying24 rfl rfl Try.sizeOf3 rfl rfl) rfl ?_
  first | (refine OW_q (q_load1_own Try.isAgg3 rfl rfl (by (repeat (first | exact .head | apply Swap.tail))) (by rfl)) rfl ?_) | (refine OW_q (q_load1_ro Try.isAgg3 rfl (by first | assumption | exact Row.at_ (by assumption) rfl)) rfl ?_)
  refine OW_q (q_build (ps := #[(1, .int .i64 g.names)]) (v := .agg #[.bool false, .int .i64 g.names]) rfl (fun w => by kernel_rfl)) rfl ?_
  refine OW_e (e_alloc Try.zeroValue51 rfl) rfl (fun b8 => ?_)
  refine OW_e0 (e_storeN Try.sizeOf51 rfl rfl rfl rfl (by simp [Value.oneCell']) (by (repeat (first | exact .head | apply Swap.tail))) (by rfl)) (fun _ => ?_)
  refine OW_nil ?_
  refine EW_then ?_
  refine CW_seq ?_
  refine CW_seq ?_
  refine CW_region ?_
  refine OW_q (q_fieldAddr Try.underlying26 rfl rfl Try.sizeOf3 rfl rfl) rfl ?_
  first | (refine OW_q (q_load1_own Try.isAgg3 rfl rfl (by (repeat (first | exact .head | apply Swap.tail))) (by rfl)) rfl ?_) | (refine OW_q (q_load1_ro Try.isAgg3 rfl (by first | assumption | exact Row.at_ (by assumption) rfl)) rfl ?_)
  refine OW_nil ?_
  refine EW_then ?_
  refine CW_block ?_
  refine CW_seq ?_
  refine CW_region ?_
  refine OW_q (q_eqi rfl rfl) rfl ?_
  refine OW_q (q_assign rfl) rfl ?_
  refine OW_nil ?_
  refine EW_then ?_
  refine CW_false rfl (by simp [hop]) ?_
  refine CW_seq ?_
  refine CW_region ?_
  refine OW_q (q_eqi rfl rfl) rfl ?_
  refine OW_q (q_assign rfl) rfl ?_
  refine OW_nil ?_
  refine EW_then ?_
  refine CW_false rfl (by simp [hop]) ?_
  refine CW_seq ?_
  refine CW_region ?_
  refine OW_q (q_eqi rfl rfl) rfl ?_
  refine OW_q (q_assign rfl) rfl ?_
  refine OW_nil ?_
  refine EW_then ?_
  refine CW_false rfl (by simp [hop]) ?_
  refine CW_seq ?_
  refine CW_region ?_
  refine OW_q (q_eqi rfl rfl) rfl ?_
  refine OW_q (q_assign rfl) rfl ?_
  refine OW_nil ?_
  refine EW_then ?_
  refine CW_false rfl (by simp [hop]) ?_
  refine CW_seq ?_
  refine CW_region ?_
  refine OW_q (q_eqi rfl rfl) rfl ?_
  refine OW_q (q_assign rfl) rfl ?_
  refine OW_nil ?_
  refine EW_then ?_
  refine CW_true rfl (by simp [hop]) ?_
  refine CW_seq ?_
  refine CW_region ?_
  first | (refine OW_q (q_loadN_own Try.isAgg24 Try.sizeOf24 rfl rfl (by (repeat (first | exact .head | apply Swap.tail))) (by rfl)) rfl ?_) | (refine OW_q (q_loadN_ro Try.isAgg24 Try.sizeOf24 rfl (by first | assumption | exact Row.at_ (by assumption) rfl) (by rfl)) rfl ?_)
  refine OW_e (e_call Try.call40 rfl (fun w hw => lift_oldP (makes3_any _ g w (hg0.mono (fun _ _ h => hw.rd (Rd.old h))) hm) hw)) rfl (fun x184 => ?_)
  refine OW_pure fun hx184 => ?_
  have hm1 := atB_get (is := x184.2) hqr.1 (by have := hx184.1; omega)
  refine OW_q (q_assign rfl) rfl ?_
  refine OW_nil ?_
  refine EW_then ?_
  refine CW_seq ?_
  refine CW_region ?_
  first | (refine OW_q (q_loadN_own Try.isAgg24 Try.sizeOf24 rfl rfl (by (repeat (first | exact .head | apply Swap.tail))) (by rfl)) rfl ?_) | (refine OW_q (q_loadN_ro Try.isAgg24 Try.sizeOf24 rfl (by first | assumption | exact Row.at_ (by assumption) rfl) (by rfl)) rfl ?_)
  refine OW_e (e_call Try.call41 rfl (fun w hw => lift_oldP (comes3_any _ g w (hg0.mono (fun _ _ h => hw.rd (Rd.old h))) hm) hw)) rfl (fun x186 => ?_)
  refine OW_pure fun hx186 => ?_
  have hc1 := atB_get (is := x186.2) hqr.1 (by have := hx186.1; omega)
  refine OW_q (q_assign rfl) rfl ?_
  refine OW_nil ?_
  refine EW_then ?_
  refine CW_seqJ (ι := Bool) (fun nd => nd = (atB x184.2 q.left && atB x186.2 q.left)) (fun nd => [(2, .int .i64 (k : Int)), (3, .pointer (some ⟨b3, 0, none⟩)), (4, .pointer (some ⟨b4, 0, none⟩)), (7, .pointer (some ⟨b7, 0, none⟩)), (8, .pointer (some ⟨b8, 0, none⟩)), (14, .slice (some ⟨x184.1, 0, none⟩) g.names.toNat g.names.toNat), (15, .slice (some ⟨x186.1, 0, none⟩) g.names.toNat g.names.toNat), (16, .bool nd)]) (fun nd => Sat (Old w) w [bools x186.1 4 x186.2, bools x184.1 4 x184.2, cel b8 51 [.bool false, .int .i64 g.names], cel b7 49 [.int .i64 q.left, .slice ax q.right.length cx], trow 51 2 encY (.slice ax q.right.length cx) q.right, cel b4 26 [.int .i64 s.op, .int .i64 s.a, .int .i64 s.b, .int .i64 s.c], cel b3 24 [.int .i64 g.terms, .int .i64 g.names, .slice (some p) g.rules.length c]]) ?_ ?_
  · skip
    refine CW_region ?_
    refine OW_q (q_move rfl) rfl ?_
    refine OW_q (q_fieldAddr Try.underlying49 rfl rfl Try.sizeOf3 rfl rfl) rfl ?_
    first | (refine OW_q (q_load1_own Try.isAgg3 rfl rfl (by (repeat (first | exact .head | apply Swap.tail))) (by rfl)) rfl ?_) | (refine OW_q (q_load1_ro Try.isAgg3 rfl (by first | assumption | exact Row.at_ (by assumption) rfl)) rfl ?_)
    refine OW_q (q_indexAddrI Try.underlying54 Try.sizeOf4 rfl rfl (by first | omega | assumption) (by first | omega | assumption)) rfl ?_
    refine OW_q (q_load_bools Try.isAgg4 rfl (by (repeat (first | exact .head | apply Swap.tail))) (by exact hm1)) rfl ?_
    refine OW_q (q_move rfl) rfl ?_
    refine OW_part (t := 192) rfl (fun hg192 => ?_) (fun hg192 => ?_)
    · skip
      refine OW_wanted rfl rfl rfl ?_
      refine OW_q (q_move rfl) rfl ?_
      refine OW_wanted rfl rfl rfl ?_
      refine OW_q (q_fieldAddr Try.underlying49 rfl rfl Try.sizeOf3 rfl rfl) rfl ?_
      refine OW_wanted rfl rfl rfl ?_
      first | (refine OW_q (q_load1_own Try.isAgg3 rfl rfl (by (repeat (first | exact .head | apply Swap.tail))) (by rfl)) rfl ?_) | (refine OW_q (q_load1_ro Try.isAgg3 rfl (by first | assumption | exact Row.at_ (by assumption) rfl)) rfl ?_)
      refine OW_wanted rfl rfl rfl ?_
      refine OW_q (q_indexAddrI Try.underlying54 Try.sizeOf4 rfl rfl (by first | omega | assumption) (by first | omega | assumption)) rfl ?_
      refine OW_wanted rfl rfl rfl ?_
      refine OW_q (q_load_bools Try.isAgg4 rfl (by (repeat (first | exact .head | apply Swap.tail))) (by exact hc1)) rfl ?_
      refine OW_q (q_pick_t rfl rfl) rfl ?_
      refine OW_q (q_assign rfl) rfl ?_
      refine OW_nil ?_
      refine EW_again (atB x186.2 q.left) ?_ ⟨rfl, rfl, rfl, rfl, rfl, rfl, rfl, rfl, trivial⟩ (fun w hw => hw.sub (by (repeat (first | exact SubL.nil | exact Pick.head | apply Pick.tail | apply SubL.cons))))
      · show _ = _; rw [hg192]; rfl
    · skip
      refine OW_skip rfl rfl rfl rfl ?_
      refine OW_skip rfl rfl rfl rfl ?_
      refine OW_skip rfl rfl rfl rfl ?_
      refine OW_skip rfl rfl rfl rfl ?_
      refine OW_skip rfl rfl rfl rfl ?_
      refine OW_q (q_pick_f rfl rfl) rfl ?_
      refine OW_q (q_assign rfl) rfl ?_
      refine OW_nil ?_
      refine EW_again (false) ?_ ⟨rfl, rfl, rfl, rfl, rfl, rfl, rfl, rfl, trivial⟩ (fun w hw => hw.sub (by (repeat (first | exact SubL.nil | exact Pick.head | apply Pick.tail | apply SubL.cons))))
      · show _ = _; rw [hg192]; rfl
  intro nd hpre
  change CW _ _ _ _ [(2, .int .i64 (k : Int)), (3, .pointer (some ⟨b3, 0, none⟩)), (4, .pointer (some ⟨b4, 0, none⟩)), (7, .pointer (some ⟨b7, 0, none⟩)), (8, .pointer (some ⟨b8, 0, none⟩)), (14, .slice (some ⟨x184.1, 0, none⟩) g.names.toNat g.names.toNat), (15, .slice (some ⟨x186.1, 0, none⟩) g.names.toNat g.names.toNat), (16, .bool nd)] (Sat (Old w) w [bools x186.1 4 x186.2, bools x184.1 4 x184.2, cel b8 51 [.bool false, .int .i64 g.names], cel b7 49 [.int .i64 q.left, .slice ax q.right.length cx], trow 51 2 encY (.slice ax q.right.length cx) q.right, cel b4 26 [.int .i64 s.op, .int .i64 s.a, .int .i64 s.b, .int .i64 s.c], cel b3 24 [.int .i64 g.terms, .int .i64 g.names, .slice (some p) g.rules.length c]])
  have hnd : nd = (atB x184.2 q.left && atB x186.2 q.left) := hpre
  refine CW_seq ?_
  refine CW_seq ?_
  refine CW_region ?_
  refine OW_q (q_assign rfl) rfl ?_
  refine OW_nil ?_
  refine EW_then ?_
  refine CW_block ?_
  refine CW_loopP (ι := Nat × Bool) (fun i_ => i_.1 ≤ q.right.length ∧ i_.2 = (nd && allB x184.2 (q.right.take i_.1))) (fun i_ => [(2, .int .i64 (k : Int)), (3, .pointer (some ⟨b3, 0, none⟩)), (4, .pointer (some ⟨b4, 0, none⟩)), (7, .pointer (some ⟨b7, 0, none⟩)), (8, .pointer (some ⟨b8, 0, none⟩)), (14, .slice (some ⟨x184.1, 0, none⟩) g.names.toNat g.names.toNat), (15, .slice (some ⟨x186.1, 0, none⟩) g.names.toNat g.names.toNat), (16, .bool i_.2), (17, .int .i64 (i_.1 : Int))]) (fun i_ => Sat (Old w) w [bools x186.1 4 x186.2, bools x184.1 4 x184.2, cel b8 51 [.bool false, .int .i64 g.names], cel b7 49 [.int .i64 q.left, .slice ax q.right.length cx], trow 51 2 encY (.slice ax q.right.length cx) q.right, cel b4 26 [.int .i64 s.op, .int .i64 s.a, .int .i64 s.b, .int .i64 s.c], cel b3 24 [.int .i64 g.terms, .int .i64 g.names, .slice (some p) g.rules.length c]]) (fun i_ => q.right.length - i_.1) (0, nd) ?_ ⟨rfl, rfl, rfl, rfl, rfl, rfl, rfl, rfl, rfl, trivial⟩ (fun w hw => hw.sub (by (repeat (first | exact SubL.nil | exact Pick.head | apply Pick.tail | apply SubL.cons)))) ?_
  · exact ⟨Nat.zero_le _, by simp [allB]⟩
  intro i_ hpre
  obtain ⟨i, nd2⟩ := i_
  replace hpre : i ≤ q.right.length ∧ nd2 = (nd && allB x184.2 (q.right.take i)) := hpre
  change CW _ _ _ _ [(2, .int .i64 (k : Int)), (3, .pointer (some ⟨b3, 0, none⟩)), (4, .pointer (some ⟨b4, 0, none⟩)), (7, .pointer (some ⟨b7, 0, none⟩)), (8, .pointer (some ⟨b8, 0, none⟩)), (14, .slice (some ⟨x184.1, 0, none⟩) g.names.toNat g.names.toNat), (15, .slice (some ⟨x186.1, 0, none⟩) g.names.toNat g.names.toNat), (16, .bool nd2), (17, .int .i64 (i : Int))] (Sat (Old w) w [bools x186.1 4 x186.2, bools x184.1 4 x184.2, cel b8 51 [.bool false, .int .i64 g.names], cel b7 49 [.int .i64 q.left, .slice ax q.right.length cx], trow 51 2 encY (.slice ax q.right.length cx) q.right, cel b4 26 [.int .i64 s.op, .int .i64 s.a, .int .i64 s.b, .int .i64 s.c], cel b3 24 [.int .i64 g.terms, .int .i64 g.names, .slice (some p) g.rules.length c]])
  obtain ⟨hi, hnd2⟩ := hpre
  refine CW_seq ?_
  refine CW_seq ?_
  refine CW_region ?_
  refine OW_q (q_move rfl) rfl ?_
  refine OW_q (q_fieldAddr Try.underlying49 rfl rfl Try.sizeOf46 rfl rfl) rfl ?_
  first | (refine OW_q (q_load1_own Try.isAgg46 rfl rfl (by (repeat (first | exact .head | apply Swap.tail))) (by rfl)) rfl ?_) | (refine OW_q (q_load1_ro Try.isAgg46 rfl (by first | assumption | exact Row.at_ (by assumption) rfl)) rfl ?_)
  refine OW_q (q_len Try.underlying46 rfl) rfl ?_
  refine OW_q (q_lss rfl rfl) rfl ?_
  refine OW_nil ?_
  refine EW_then ?_
  refine CW_cond rfl (fun h203 => ?_) (fun h203 => ?_)
  · skip
    have hli : i < q.right.length := by have := of_decide_eq_true h203; omega
    obtain ⟨bx, rfl⟩ := hbx (by omega)
    obtain ⟨y, hsj⟩ := get_of_lt hli
    have hss := may_sym hm hq hsj
    refine CW_skip ?_
    refine EW_then ?_
    refine CW_seq ?_
    refine CW_block ?_
    refine CW_region ?_
    refine OW_q (q_move rfl) rfl ?_
    refine OW_q (q_move rfl) rfl ?_
    refine OW_part (t := 207) rfl (fun hg207 => ?_) (fun hg207 => ?_)
    · skip
      refine OW_wanted rfl rfl rfl ?_
      refine OW_q (q_fieldAddr Try.underlying49 rfl rfl Try.sizeOf46 rfl rfl) rfl ?_
      refine OW_wanted rfl rfl rfl ?_
      first | (refine OW_q (q_load1_own Try.isAgg46 rfl rfl (by (repeat (first | exact .head | apply Swap.tail))) (by rfl)) rfl ?_) | (refine OW_q (q_load1_ro Try.isAgg46 rfl (by first | assumption | exact Row.at_ (by assumption) rfl)) rfl ?_)
      refine OW_wanted rfl rfl rfl ?_
      refine OW_q (q_move rfl) rfl ?_
      refine OW_wanted rfl rfl rfl ?_
      refine OW_q (q_indexAddr Try.underlying46 Try.sizeOf51 rfl rfl (by first | omega | assumption)) rfl ?_
      refine OW_wanted rfl rfl rfl ?_
      refine OW_q (q_fieldAddr Try.underlying51 rfl rfl Try.sizeOf4 rfl rfl) rfl ?_
      refine OW_wanted rfl rfl rfl ?_
      refine OW_q (q_load1_t (enc := encY) (k := i) (off := 0) (v := .slice (some ⟨bx, 0, none⟩) q.right.length cx) (l := q.right) Try.isAgg4 (fun _ => rfl) rfl (by repeat (first | exact .head | apply Swap.tail)) rfl hsj rfl) rfl ?_
      refine OW_wanted rfl rfl rfl ?_
      refine OW_q (q_move rfl) rfl ?_
      refine OW_part (t := 214) rfl (fun hg214 => ?_) (fun hg214 => ?_)
      · skip
        refine OW_skip rfl rfl rfl rfl ?_
        refine OW_skip rfl rfl rfl rfl ?_
        refine OW_skip rfl rfl rfl rfl ?_
        refine OW_skip rfl rfl rfl rfl ?_
        refine OW_skip rfl rfl rfl rfl ?_
        refine OW_skip rfl rfl rfl rfl ?_
        refine OW_skip rfl rfl rfl rfl ?_
        refine OW_skip rfl rfl rfl rfl ?_
        refine OW_skip rfl rfl rfl rfl ?_
        refine OW_wanted rfl rfl rfl ?_
        refine OW_q (q_pick_t rfl rfl) rfl ?_
        refine OW_q (q_pick_t rfl rfl) rfl ?_
        refine OW_q (q_assign rfl) rfl ?_
        refine OW_nil ?_
        refine EW_block_normal ?_
        refine EW_then ?_
        refine CW_region ?_
        refine OW_q (q_move rfl) rfl ?_
        first | refine OW_q (q_inc rfl rfl (by omega)) rfl ?_ | refine OW_q (q_add rfl rfl (by omega) (by omega)) rfl ?_
        refine OW_q (q_assign rfl) rfl ?_
        refine OW_nil ?_
        refine EW_again ((i + 1, true)) ⟨?_, ?_⟩ ⟨rfl, rfl, rfl, rfl, rfl, rfl, rfl, rfl, rfl, trivial⟩ (fun w hw => hw.sub (by (repeat (first | exact SubL.nil | exact Pick.head | apply Pick.tail | apply SubL.cons))))
        · show q.right.length - (i + 1) < q.right.length - i; omega
        · refine ⟨by show i + 1 ≤ _; omega, ?_⟩
          show (true : Bool) = _
          unfold allB at hnd2 ⊢
          rw [all_take_succ _ hsj]
          rw [hg207] at hnd2; rw [← Bool.and_assoc, ← hnd2, hg214]; rfl
      · skip
        have hs2 := hss.2.2 (by simpa using hg214)
        have hs1 := atB_get (is := x184.2) hss.1 (by have := hx184.1; omega)
        refine OW_wanted rfl rfl rfl ?_
        refine OW_q (q_move rfl) rfl ?_
        refine OW_wanted rfl rfl rfl ?_
        refine OW_q (q_fieldAddr Try.underlying49 rfl rfl Try.sizeOf46 rfl rfl) rfl ?_
        refine OW_wanted rfl rfl rfl ?_
        first | (refine OW_q (q_load1_own Try.isAgg46 rfl rfl (by (repeat (first | exact .head | apply Swap.tail))) (by rfl)) rfl ?_) | (refine OW_q (q_load1_ro Try.isAgg46 rfl (by first | assumption | exact Row.at_ (by assumption) rfl)) rfl ?_)
        refine OW_wanted rfl rfl rfl ?_
        refine OW_q (q_move rfl) rfl ?_
        refine OW_wanted rfl rfl rfl ?_
        refine OW_q (q_indexAddr Try.underlying46 Try.sizeOf51 rfl rfl (by first | omega | assumption)) rfl ?_
        refine OW_wanted rfl rfl rfl ?_
        refine OW_q (q_fieldAddr Try.underlying51 rfl rfl Try.sizeOf3 rfl rfl) rfl ?_
        refine OW_wanted rfl rfl rfl ?_
        refine OW_q (q_load1_t (enc := encY) (k := i) (off := 1) (v := .slice (some ⟨bx, 0, none⟩) q.right.length cx) (l := q.right) Try.isAgg3 (fun _ => rfl) rfl (by repeat (first | exact .head | apply Swap.tail)) rfl hsj rfl) rfl ?_
        refine OW_wanted rfl rfl rfl ?_
        refine OW_q (q_indexAddrI Try.underlying54 Try.sizeOf4 rfl rfl (by first | omega | assumption) (by first | omega | assumption)) rfl ?_
        refine OW_wanted rfl rfl rfl ?_
        refine OW_q (q_load_bools Try.isAgg4 rfl (by (repeat (first | exact .head | apply Swap.tail))) (by exact hs1)) rfl ?_
        refine OW_wanted rfl rfl rfl ?_
        refine OW_q (q_pick_f rfl rfl) rfl ?_
        refine OW_q (q_pick_t rfl rfl) rfl ?_
        refine OW_q (q_assign rfl) rfl ?_
        refine OW_nil ?_
        refine EW_block_normal ?_
        refine EW_then ?_
        refine CW_region ?_
        refine OW_q (q_move rfl) rfl ?_
        first | refine OW_q (q_inc rfl rfl (by omega)) rfl ?_ | refine OW_q (q_add rfl rfl (by omega) (by omega)) rfl ?_
        refine OW_q (q_assign rfl) rfl ?_
        refine OW_nil ?_
        refine EW_again ((i + 1, atB x184.2 y.n)) ⟨?_, ?_⟩ ⟨rfl, rfl, rfl, rfl, rfl, rfl, rfl, rfl, rfl, trivial⟩ (fun w hw => hw.sub (by (repeat (first | exact SubL.nil | exact Pick.head | apply Pick.tail | apply SubL.cons))))
        · show q.right.length - (i + 1) < q.right.length - i; omega
        · refine ⟨by show i + 1 ≤ _; omega, ?_⟩
          show (atB x184.2 y.n : Bool) = _
          unfold allB at hnd2 ⊢
          rw [all_take_succ _ hsj]
          rw [hg207] at hnd2; rw [← Bool.and_assoc, ← hnd2, hg214]; simp
    · skip
      refine OW_skip rfl rfl rfl rfl ?_
      refine OW_skip rfl rfl rfl rfl ?_
      refine OW_skip rfl rfl rfl rfl ?_
      refine OW_skip rfl rfl rfl rfl ?_
      refine OW_skip rfl rfl rfl rfl ?_
      refine OW_skip rfl rfl rfl rfl ?_
      refine OW_skip rfl rfl rfl rfl ?_
      refine OW_skipU rfl rfl rfl ?_
      refine OW_skipU rfl rfl rfl ?_
      refine OW_skipU rfl rfl rfl ?_
      refine OW_skipU rfl rfl rfl ?_
      refine OW_skipU rfl rfl rfl ?_
      refine OW_skipU rfl rfl rfl ?_
      refine OW_skipU rfl rfl rfl ?_
      refine OW_skipU rfl rfl rfl ?_
      refine OW_skipU rfl rfl rfl ?_
      refine OW_skip rfl rfl rfl rfl ?_
      refine OW_q (q_pick_f rfl rfl) rfl ?_
      refine OW_q (q_assign rfl) rfl ?_
      refine OW_nil ?_
      refine EW_block_normal ?_
      refine EW_then ?_
      refine CW_region ?_
      refine OW_q (q_move rfl) rfl ?_
      first | refine OW_q (q_inc rfl rfl (by omega)) rfl ?_ | refine OW_q (q_add rfl rfl (by omega) (by omega)) rfl ?_
      refine OW_q (q_assign rfl) rfl ?_
      refine OW_nil ?_
      refine EW_again ((i + 1, false)) ⟨?_, ?_⟩ ⟨rfl, rfl, rfl, rfl, rfl, rfl, rfl, rfl, rfl, trivial⟩ (fun w hw => hw.sub (by (repeat (first | exact SubL.nil | exact Pick.head | apply Pick.tail | apply SubL.cons))))
      · show q.right.length - (i + 1) < q.right.length - i; omega
      · refine ⟨by show i + 1 ≤ _; omega, ?_⟩
        show (false : Bool) = _
        unfold allB at hnd2 ⊢
        rw [all_take_succ _ hsj]
        rw [hg207] at hnd2; rw [← Bool.and_assoc, ← hnd2]; simp
  · skip
    have hie : i = q.right.length := by have := of_decide_eq_false h203; omega
    have hkb : keptB x184.2 x186.2 q = nd2 := by rw [hnd2, hie, List.take_length, hnd]; rfl
    refine CW_exit ?_
    refine EW_then_exit ?_
    refine EW_out ?_
    refine EW_block_exit ?_
    refine EW_then ?_
    refine CW_seq ?_
    refine CW_region ?_
    refine OW_q (q_move rfl) rfl ?_
    refine OW_q (q_not rfl) rfl ?_
    refine OW_nil ?_
    refine EW_then ?_
    refine CW_cond rfl (fun h227 => ?_) (fun h227 => ?_)
    · skip
      have hk0 : keptB x184.2 x186.2 q = false := by rw [hkb]; simpa using h227
      refine CW_seq ?_
      refine CW_region ?_
      refine OW_q (q_assign rfl) rfl ?_
      refine OW_nil ?_
      refine EW_then ?_
      refine CW_ret ?_
      refine EW_block_ret ?_
      refine EW_then_ret ?_
      refine ret1 Try.results22 rfl (fun w hw => ?_)
      refine ⟨(.slice none 0 0, [], x184.2, x186.2), rfl, ⟨fun _ => ⟨hx184, hx186⟩, ?_⟩, ((hw.tnil 49 2 encRV).addEmp (A := symsA []) rfl).sub (by repeat (first | exact SubL.nil | exact Pick.head | apply Pick.tail | apply SubL.cons))⟩
      unfold oneR
      rw [if_neg (by omega), if_neg (by omega), if_neg (by omega), if_neg (by omega), if_neg (by rw [hk0]; decide)]
      rfl
    · skip
      have hk0 : keptB x184.2 x186.2 q = true := by rw [hkb]; simpa using h227
      refine CW_skip ?_
      refine EW_block_normal ?_
      refine EW_then ?_
      refine CW_seq ?_
      refine CW_region ?_
      first | (refine OW_q (q_loadN_own Try.isAgg49 Try.sizeOf49 rfl rfl (by (repeat (first | exact .head | apply Swap.tail))) (by rfl)) rfl ?_) | (refine OW_q (q_loadN_ro Try.isAgg49 Try.sizeOf49 rfl (by first | assumption | exact Row.at_ (by assumption) rfl) (by rfl)) rfl ?_)
      refine OW_e (e_single Try.underlying22 Try.sizeOf49 Try.zeroValue49 (e := 49) rfl rfl rfl rfl (by decide) (by decide)) rfl (fun b229 => ?_)
      refine OW_q (q_assign rfl) rfl ?_
      refine OW_nil ?_
      refine EW_then ?_
      refine CW_ret ?_
      refine ret1 Try.results22 rfl (fun w hw => ?_)
      refine ⟨(.slice (some ⟨b229, 0, none⟩) 1 1, [⟨⟨q.left, q.right⟩, .slice ax q.right.length cx⟩], x184.2, x186.2), rfl, ⟨(fun _ => ⟨hx184, hx186⟩), ?_⟩, ?_⟩
      · unfold oneR; rw [if_neg (by omega), if_neg (by omega), if_neg (by omega), if_neg (by omega), if_pos hk0]; rfl
      · have h1 : Sat (Old _) _ [cel b229 49 [.int .i64 q.left, .slice ax q.right.length cx], trow 51 2 encY (.slice ax q.right.length cx) q.right] w := hw.sub (by repeat (first | exact SubL.nil | exact Pick.head | apply Pick.tail | apply SubL.cons))
        exact h1.oneRule

set_option maxRecDepth 20000 in
theorem one4_any (gv : Value) (g : Gram) (s : SStep) (k : Nat) (q : Rule) (w : World) (hm : mayB g = true) (hs : mayS g s = true) (hop : s.op = 4) (hq : g.rules[k]? = some q) (hg : GramAt (Cl w) gv g) : Calls Try.prog 22 #[gv, stepV s, .int .i64 (k : Int)] w (fun e w' => ∃ x : Value × List RV × List Bool × List Bool, e = .returned x.1 ∧ ((s.op = 5 → MksOk g x.2.2.1 ∧ CmsOk g x.2.2.2) ∧ plainR x.2.1 = oneR g s x.2.2.1 x.2.2.2 k q) ∧ Sat (Old w) w [rulesA x.1 x.2.1, symsA x.2.1] w') := by
  have hg0 := hg
  obtain ⟨rv, rfl, hr⟩ := hg.mono old_rd
  obtain ⟨a, c, rfl, hc1, hc2, hrs⟩ := id hr
  clear hg
  have hM := mayB_true.1 hm
  have hlk := (List.getElem?_eq_some_iff.1 hq).1
  have hq8 := (may_rule hm hq).2.2
  obtain ⟨p, rfl, rvq, hsy, hrow⟩ := hrs k q hq
  obtain ⟨ya, yc, rfl, hy1, hy2, hys⟩ := id hsy
  refine calls_CW Try.func22 rfl Try.ntmps22 rfl (Sat.start w) ?_
  refine CW_seq ?_
  refine CW_region ?_
  refine OW_e (e_box rfl rfl) rfl (fun b3 => ?_)
  refine OW_e (e_box rfl rfl) rfl (fun b4 => ?_)
  refine OW_q (q_assign rfl) rfl ?_
  refine OW_nil ?_
  refine EW_then ?_
  refine CW_seqJ (ι := Nat × Option Addr × Nat) (fun i_ => q.right.length ≤ i_.2.2 ∧ i_.2.2 ≤ 9223372036854775807 ∧ (0 < q.right.length → ∃ g, i_.2.1 = some ⟨g, 0, none⟩)) (fun i_ => [(2, .int .i64 (k : Int)), (3, .pointer (some ⟨b3, 0, none⟩)), (4, .pointer (some ⟨b4, 0, none⟩)), (7, .pointer (some ⟨i_.1, 0, none⟩))]) (fun i_ => Sat (Old w) w [cel i_.1 49 [.int .i64 q.left, .slice i_.2.1 q.right.length i_.2.2], trow 51 2 encY (.slice i_.2.1 q.right.length i_.2.2) q.right, cel b4 26 [.int .i64 s.op, .int .i64 s.a, .int .i64 s.b, .int .i64 s.c], cel b3 24 [.int .i64 g.terms, .int .i64 g.names, .slice (some p) g.rules.length c]]) ?_ ?_
  · skip
    refine CW_drawT (Sat (Old w) w [cel b4 26 [.int .i64 s.op, .int .i64 s.a, .int .i64 s.b, .int .i64 s.c], cel b3 24 [.int .i64 g.terms, .int .i64 g.names, .slice (some p) g.rules.length c]]) [15] (.q 0 false (.q 1 true (.q 2 false (.q 3 false (.q 4 false (.q 5 true (.q 6 false (.q 7 true (.q 8 false (.q 9 false (.q 10 false (.q 11 true (.alt 12 (.q 13 false (.e 14 (.e 15 .nil))) 14 (.e 12 (.q 13 false (.e 15 .nil)))))))))))))))) (by kernel_rfl) (Blind.again Blind.bodyP) (by kernel_rfl) (fun w hw => hw.drew) ?_
    refine DT_p rfl (.inr (fun w hw => (by first | exact hw.sub (by (repeat (first | exact SubL.nil | exact Pick.head | apply Pick.tail | apply SubL.cons))) | exact hw.2.sub (by (repeat (first | exact SubL.nil | exact Pick.head | apply Pick.tail | apply SubL.cons)))))) (q_fieldAddr Try.underlying24 rfl rfl Try.sizeOf22 rfl rfl) rfl ?_
    first | (refine DT_q rfl (fun w hw => (by first | exact hw.sub (by (repeat (first | exact SubL.nil | exact Pick.head | apply Pick.tail | apply SubL.cons))) | exact hw.2.sub (by (repeat (first | exact SubL.nil | exact Pick.head | apply Pick.tail | apply SubL.cons))))) (q_load1_own Try.isAgg22 rfl rfl (by (repeat (first | exact .head | apply Swap.tail))) (by rfl)) rfl ?_) | (refine DT_q rfl (fun w hw => (by first | exact hw.sub (by (repeat (first | exact SubL.nil | exact Pick.head | apply Pick.tail | apply SubL.cons))) | exact hw.2.sub (by (repeat (first | exact SubL.nil | exact Pick.head | apply Pick.tail | apply SubL.cons))))) (q_load1_ro Try.isAgg22 rfl (by first | assumption | exact Row.at_ (by assumption) rfl)) rfl ?_)
    refine DT_p rfl (.inr (fun w hw => (by first | exact hw.sub (by (repeat (first | exact SubL.nil | exact Pick.head | apply Pick.tail | apply SubL.cons))) | exact hw.2.sub (by (repeat (first | exact SubL.nil | exact Pick.head | apply Pick.tail | apply SubL.cons)))))) (q_move rfl) rfl ?_
    refine DT_p rfl (.inr (fun w hw => (by first | exact hw.sub (by (repeat (first | exact SubL.nil | exact Pick.head | apply Pick.tail | apply SubL.cons))) | exact hw.2.sub (by (repeat (first | exact SubL.nil | exact Pick.head | apply Pick.tail | apply SubL.cons)))))) (q_indexAddr Try.underlying22 Try.sizeOf49 rfl rfl (by first | omega | assumption)) rfl ?_
    refine DT_p rfl (.inr (fun w hw => (by first | exact hw.sub (by (repeat (first | exact SubL.nil | exact Pick.head | apply Pick.tail | apply SubL.cons))) | exact hw.2.sub (by (repeat (first | exact SubL.nil | exact Pick.head | apply Pick.tail | apply SubL.cons)))))) (q_fieldAddr Try.underlying49 rfl rfl Try.sizeOf3 rfl rfl) rfl ?_
    refine DT_q rfl (fun w hw => (by first | exact hw.sub (by (repeat (first | exact SubL.nil | exact Pick.head | apply Pick.tail | apply SubL.cons))) | exact hw.2.sub (by (repeat (first | exact SubL.nil | exact Pick.head | apply Pick.tail | apply SubL.cons))))) (q_load1_ro Try.isAgg3 rfl (by first | exact Row.at0 hrow)) rfl ?_
    refine DT_p rfl (.inr (fun w hw => (by first | exact hw.sub (by (repeat (first | exact SubL.nil | exact Pick.head | apply Pick.tail | apply SubL.cons))) | exact hw.2.sub (by (repeat (first | exact SubL.nil | exact Pick.head | apply Pick.tail | apply SubL.cons)))))) (q_fieldAddr Try.underlying24 rfl rfl Try.sizeOf22 rfl rfl) rfl ?_
    first | (refine DT_q rfl (fun w hw => (by first | exact hw.sub (by (repeat (first | exact SubL.nil | exact Pick.head | apply Pick.tail | apply SubL.cons))) | exact hw.2.sub (by (repeat (first | exact SubL.nil | exact Pick.head | apply Pick.tail | apply SubL.cons))))) (q_load1_own Try.isAgg22 rfl rfl (by (repeat (first | exact .head | apply Swap.tail))) (by rfl)) rfl ?_) | (refine DT_q rfl (fun w hw => (by first | exact hw.sub (by (repeat (first | exact SubL.nil | exact Pick.head | apply Pick.tail | apply SubL.cons))) | exact hw.2.sub (by (repeat (first | exact SubL.nil | exact Pick.head | apply Pick.tail | apply SubL.cons))))) (q_load1_ro Try.isAgg22 rfl (by first | assumption | exact Row.at_ (by assumption) rfl)) rfl ?_)
    refine DT_p rfl (.inr (fun w hw => (by first | exact hw.sub (by (repeat (first | exact SubL.nil | exact Pick.head | apply Pick.tail | apply SubL.cons))) | exact hw.2.sub (by (repeat (first | exact SubL.nil | exact Pick.head | apply Pick.tail | apply SubL.cons)))))) (q_move rfl) rfl ?_
    refine DT_p rfl (.inr (fun w hw => (by first | exact hw.sub (by (repeat (first | exact SubL.nil | exact Pick.head | apply Pick.tail | apply SubL.cons))) | exact hw.2.sub (by (repeat (first | exact SubL.nil | exact Pick.head | apply Pick.tail | apply SubL.cons)))))) (q_indexAddr Try.underlying22 Try.sizeOf49 rfl rfl (by first | omega | assumption)) rfl ?_
    refine DT_p rfl (.inr (fun w hw => (by first | exact hw.sub (by (repeat (first | exact SubL.nil | exact Pick.head | apply Pick.tail | apply SubL.cons))) | exact hw.2.sub (by (repeat (first | exact SubL.nil | exact Pick.head | apply Pick.tail | apply SubL.cons)))))) (q_fieldAddr Try.underlying49 rfl rfl Try.sizeOf46 rfl rfl) rfl ?_
    refine DT_q rfl (fun w hw => (by first | exact hw.sub (by (repeat (first | exact SubL.nil | exact Pick.head | apply Pick.tail | apply SubL.cons))) | exact hw.2.sub (by (repeat (first | exact SubL.nil | exact Pick.head | apply Pick.tail | apply SubL.cons))))) (q_load1_ro Try.isAgg46 rfl (by first | exact hrow.at_ (j := 1) rfl)) rfl ?_
    refine DT_alt ?_ ?_
    · skip
      refine DT_e rfl (e_call Try.call23 rfl (fun w hw => lift_old (copied_any _ q.right w (by omega) (hsy.mono fun _ _ h => hw.rd h)) hw)) rfl (.inr (fun _ w hw => (by first | exact hw.sub (by (repeat (first | exact SubL.nil | exact Pick.head | apply Pick.tail | apply SubL.cons))) | exact hw.2.sub (by (repeat (first | exact SubL.nil | exact Pick.head | apply Pick.tail | apply SubL.cons)))))) (fun x30 => ?_)
      refine DT_fact (fun w hw => hw.tform (v := x30) (l := q.right) (enc := encY) (by repeat (first | exact .head | apply Swap.tail))) (fun hf => ?_)
      obtain ⟨ax, cx, rfl, hcx1, hcx2, hbx⟩ := hf
      refine DT_p rfl (.inr (fun w hw => (by first | exact hw.sub (by (repeat (first | exact SubL.nil | exact Pick.head | apply Pick.tail | apply SubL.cons))) | exact hw.2.sub (by (repeat (first | exact SubL.nil | exact Pick.head | apply Pick.tail | apply SubL.cons)))))) (q_build (ps := #[(0, .int .i64 q.left), (1, .slice ax q.right.length cx)]) (v := .agg #[.int .i64 q.left, .slice ax q.right.length cx]) rfl (fun w => by kernel_rfl)) rfl ?_
      refine DT_e rfl (e_alloc Try.zeroValue49 rfl) rfl (.inr (fun _ w hw => (by first | exact hw.sub (by (repeat (first | exact SubL.nil | exact Pick.head | apply Pick.tail | apply SubL.cons))) | exact hw.2.sub (by (repeat (first | exact SubL.nil | exact Pick.head | apply Pick.tail | apply SubL.cons)))))) (fun b7 => ?_)
      refine DT_e0 rfl (e_storeN Try.sizeOf49 rfl rfl rfl rfl (by simp [Value.oneCell']) (by (repeat (first | exact .head | apply Swap.tail))) (by rfl)) (.inl rfl) (fun _ => ?_)
      refine DT_nil ?_
      refine EW_again ((b7, ax, cx)) ?_ ⟨rfl, rfl, rfl, rfl, trivial⟩ (fun w hw => hw.sub (by (repeat (first | exact SubL.nil | exact Pick.head | apply Pick.tail | apply SubL.cons))))
      · exact ⟨hcx1, hcx2, hbx⟩
    · skip
      refine DT_e rfl (e_alloc Try.zeroValue49 rfl) rfl (.inr (fun _ w hw => (by first | exact hw.sub (by (repeat (first | exact SubL.nil | exact Pick.head | apply Pick.tail | apply SubL.cons))) | exact hw.2.sub (by (repeat (first | exact SubL.nil | exact Pick.head | apply Pick.tail | apply SubL.cons)))))) (fun b7 => ?_)
      refine DT_e rfl (e_call Try.call23 rfl (fun w hw => lift_old (copied_any _ q.right w (by omega) (hsy.mono fun _ _ h => hw.rd h)) hw)) rfl (.inr (fun _ w hw => (by first | exact hw.sub (by (repeat (first | exact SubL.nil | exact Pick.head | apply Pick.tail | apply SubL.cons))) | exact hw.2.sub (by (repeat (first | exact SubL.nil | exact Pick.head | apply Pick.tail | apply SubL.cons)))))) (fun x30 => ?_)
      refine DT_fact (fun w hw => hw.tform (v := x30) (l := q.right) (enc := encY) (by repeat (first | exact .head | apply Swap.tail))) (fun hf => ?_)
      obtain ⟨ax, cx, rfl, hcx1, hcx2, hbx⟩ := hf
      refine DT_p rfl (.inr (fun w hw => (by first | exact hw.sub (by (repeat (first | exact SubL.nil | exact Pick.head | apply Pick.tail | apply SubL.cons))) | exact hw.2.sub (by (repeat (first | exact SubL.nil | exact Pick.head | apply Pick.tail | apply SubL.cons)))))) (q_build (ps := #[(0, .int .i64 q.left), (1, .slice ax q.right.length cx)]) (v := .agg #[.int .i64 q.left, .slice ax q.right.length cx]) rfl (fun w => by kernel_rfl)) rfl ?_
      refine DT_e0 rfl (e_storeN Try.sizeOf49 rfl rfl rfl rfl (by simp [Value.oneCell']) (by (repeat (first | exact .head | apply Swap.tail))) (by rfl)) (.inl rfl) (fun _ => ?_)
      refine DT_nil ?_
      refine EW_again ((b7, ax, cx)) ?_ ⟨rfl, rfl, rfl, rfl, trivial⟩ (fun w hw => hw.sub (by (repeat (first | exact SubL.nil | exact Pick.head | apply Pick.tail | apply SubL.cons))))
      · exact ⟨hcx1, hcx2, hbx⟩
  intro i_ hpre
  obtain ⟨b7, ax, cx⟩ := i_
  replace hpre : q.right.length ≤ cx ∧ cx ≤ 9223372036854775807 ∧ (0 < q.right.length → ∃ g, ax = some ⟨g, 0, none⟩) := hpre
  change CW _ _ _ _ [(2, .int .i64 (k : Int)), (3, .pointer (some ⟨b3, 0, none⟩)), (4, .pointer (some ⟨b4, 0, none⟩)), (7, .pointer (some ⟨b7, 0, none⟩))] (Sat (Old w) w [cel b7 49 [.int .i64 q.left, .slice ax q.right.length cx], trow 51 2 encY (.slice ax q.right.length cx) q.right, cel b4 26 [.int .i64 s.op, .int .i64 s.a, .int .i64 s.b, .int .i64 s.c], cel b3 24 [.int .i64 g.terms, .int .i64 g.names, .slice (some p) g.rules.length c]])
  obtain ⟨hcx1, hcx2, hbx⟩ := hpre
  refine CW_seq ?_
  refine CW_region ?_
  refine OW_q (q_fieldAddr Try.underlying24 rfl rfl Try.sizeOf3 rfl rfl) rfl ?_
  first | (refine OW_q (q_load1_own Try.isAgg3 rfl rfl (by (repeat (first | exact .head | apply Swap.tail))) (by rfl)) rfl ?_) | (refine OW_q (q_load1_ro Try.isAgg3 rfl (by first | assumption | exact Row.at_ (by assumption) rfl)) rfl ?_)
  refine OW_q (q_build (ps := #[(1, .int .i64 g.names)]) (v := .agg #[.bool false, .int .i64 g.names]) rfl (fun w => by kernel_rfl)) rfl ?_
  refine OW_e (e_alloc Try.zeroValue51 rfl) rfl (fun b8 => ?_)
  refine OW_e0 (e_storeN Try.sizeOf51 rfl rfl rfl rfl (by simp [Value.oneCell']) (by (repeat (first | exact .head | apply Swap.tail))) (by rfl)) (fun _ => ?_)
  refine OW_nil ?_
  refine EW_then ?_
  refine CW_seq ?_
  refine CW_seq ?_
  refine CW_region ?_
  refine OW_q (q_fieldAddr Try.underlying26 rfl rfl Try.sizeOf3 rfl rfl) rfl ?_
  first | (refine OW_q (q_load1_own Try.isAgg3 rfl rfl (by (repeat (first | exact .head | apply Swap.tail))) (by rfl)) rfl ?_) | (refine OW_q (q_load1_ro Try.isAgg3 rfl (by first | assumption | exact Row.at_ (by assumption) rfl)) rfl ?_)
  refine OW_nil ?_
  refine EW_then ?_
  refine CW_block ?_
  refine CW_seq ?_
  refine CW_region ?_
  refine OW_q (q_eqi rfl rfl) rfl ?_
  refine OW_q (q_assign rfl) rfl ?_
  refine OW_nil ?_
  refine EW_then ?_
  refine CW_false rfl (by simp [hop]) ?_
  refine CW_seq ?_
  refine CW_region ?_
  refine OW_q (q_eqi rfl rfl) rfl ?_
  refine OW_q (q_assign rfl) rfl ?_
  refine OW_nil ?_
  refine EW_then ?_
  refine CW_false rfl (by simp [hop]) ?_
  refine CW_seq ?_
  refine CW_region ?_
  refine OW_q (q_eqi rfl rfl) rfl ?_
  refine OW_q (q_assign rfl) rfl ?_
  refine OW_nil ?_
  refine EW_then ?_
  refine CW_false rfl (by simp [hop]) ?_
  refine CW_seq ?_
  refine CW_region ?_
  refine OW_q (q_eqi rfl rfl) rfl ?_
  refine OW_q (q_assign rfl) rfl ?_
  refine OW_nil ?_
  refine EW_then ?_
  refine CW_true rfl (by simp [hop]) ?_
  refine CW_seq ?_
  refine CW_region ?_
  refine OW_q (q_fieldAddr Try.underlying49 rfl rfl Try.sizeOf3 rfl rfl) rfl ?_
  first | (refine OW_q (q_load1_own Try.isAgg3 rfl rfl (by (repeat (first | exact .head | apply Swap.tail))) (by rfl)) rfl ?_) | (refine OW_q (q_load1_ro Try.isAgg3 rfl (by first | assumption | exact Row.at_ (by assumption) rfl)) rfl ?_)
  refine OW_q (q_fieldAddr Try.underlying26 rfl rfl Try.sizeOf3 rfl rfl) rfl ?_
  first | (refine OW_q (q_load1_own Try.isAgg3 rfl rfl (by (repeat (first | exact .head | apply Swap.tail))) (by rfl)) rfl ?_) | (refine OW_q (q_load1_ro Try.isAgg3 rfl (by first | assumption | exact Row.at_ (by assumption) rfl)) rfl ?_)
  refine OW_q (q_eqi rfl rfl) rfl ?_
  refine OW_nil ?_
  refine EW_then ?_
  refine CW_cond rfl (fun h164 => ?_) (fun h164 => ?_)
  · skip
    have hql : q.left = s.a := by simpa using h164
    refine CW_seq ?_
    refine CW_seq ?_
    refine CW_region ?_
    first | (refine OW_q (q_loadN_own Try.isAgg49 Try.sizeOf49 rfl rfl (by (repeat (first | exact .head | apply Swap.tail))) (by rfl)) rfl ?_) | (refine OW_q (q_loadN_ro Try.isAgg49 Try.sizeOf49 rfl (by first | assumption | exact Row.at_ (by assumption) rfl) (by rfl)) rfl ?_)
    refine OW_e (e_call Try.call39 rfl (fun w hw => lift_ro (own_any q _ w (hw.symsIn (v := .slice ax q.right.length cx) (l := q.right) (by repeat (first | exact .head | apply Swap.tail)))) hw)) rfl (fun x166 => ?_)
    refine OW_nil ?_
    refine EW_then ?_
    refine CW_cond rfl (fun h166 => ?_) (fun h166 => ?_)
    · skip
      have hlen1 : 1 ≤ q.right.length := by
        have h1 : loopsB q = true := h166
        unfold loopsB at h1
        cases hr : q.right with
        | nil => rw [hr] at h1; cases h1
        | cons z l => simp
      refine CW_seq ?_
      refine CW_region ?_
      refine OW_q (q_fieldAddr Try.underlying24 rfl rfl Try.sizeOf3 rfl rfl) rfl ?_
      first | (refine OW_q (q_load1_own Try.isAgg3 rfl rfl (by (repeat (first | exact .head | apply Swap.tail))) (by rfl)) rfl ?_) | (refine OW_q (q_load1_ro Try.isAgg3 rfl (by first | assumption | exact Row.at_ (by assumption) rfl)) rfl ?_)
      refine OW_q (q_fieldAddr Try.underlying49 rfl rfl Try.sizeOf3 rfl rfl) rfl ?_
      refine OW_e0 (e_store Try.sizeOf3 rfl rfl rfl rfl (by (repeat (first | exact .head | apply Swap.tail))) (by rfl)) (fun _ => ?_)
      refine OW_nil ?_
      refine EW_then ?_
      refine CW_region ?_
      refine OW_q (q_fieldAddr Try.underlying49 rfl rfl Try.sizeOf46 rfl rfl) rfl ?_
      first | (refine OW_q (q_load1_own Try.isAgg46 rfl rfl (by (repeat (first | exact .head | apply Swap.tail))) (by rfl)) rfl ?_) | (refine OW_q (q_load1_ro Try.isAgg46 rfl (by first | assumption | exact Row.at_ (by assumption) rfl)) rfl ?_)
      refine OW_q (q_slice (l := 1) Try.underlying46 Try.sizeOf51 rfl (.inr ⟨_, rfl, rfl⟩) (.inl ⟨rfl, rfl⟩) (by omega) (by omega) (by omega)) rfl ?_
      refine OW_q (q_fieldAddr Try.underlying49 rfl rfl Try.sizeOf46 rfl rfl) rfl ?_
      refine OW_e0 (e_store Try.sizeOf46 rfl rfl rfl rfl (by (repeat (first | exact .head | apply Swap.tail))) (by rfl)) (fun _ => ?_)
      refine OW_nil ?_
      refine EW_then ?_
      first
        | (replace h166 : loopsB q = true := h166
           obtain ⟨nl, ys, vv, hY, hysl, hsv, e1, e2⟩ : ∃ (nl : Int) (ys : List Sym) (vv : Value), (⟨nl, ys ++ [nameS g.names]⟩ : Rule) = leftR g s.a q ∧ ys.length ≤ 8 ∧ (∀ w', SymsAt (Cl w') (.slice ax q.right.length cx) q.right → SymsAt (Cl w') vv ys) ∧ nl = g.names ∧ vv = (.slice (if cx = 1 then ax else ax.map (·.add (1 * 2))) (q.right.length - 1) (cx - 1)) := by
             refine ⟨g.names, q.right.tail, _, by unfold leftR; rw [if_pos hql, if_pos h166], by rw [List.length_tail]; omega, fun w' h => ?_, rfl, rfl⟩
             have h2 := SlAt.sub h (lo := 1) (hi := q.right.length) hlen1 (Nat.le_refl _)
             rw [List.take_length, List.drop_one] at h2
             exact h2
           refine CW_weak (S' := Sat (Old w) w [cel b8 51 [.bool false, .int .i64 g.names], cel b7 49 [.int .i64 nl, vv], trow 51 2 encY (.slice ax q.right.length cx) q.right, cel b4 26 [.int .i64 s.op, .int .i64 s.a, .int .i64 s.b, .int .i64 s.c], cel b3 24 [.int .i64 g.terms, .int .i64 g.names, .slice (some p) g.rules.length c]]) (fun w hw => by rw [e1, e2]; exact hw.sub (by repeat (first | exact SubL.nil | exact Pick.head | apply Pick.tail | apply SubL.cons))) ?_)
        | (replace h166 : loopsB q = false := h166
           obtain ⟨nl, ys, vv, hY, hysl, hsv, e1, e2⟩ : ∃ (nl : Int) (ys : List Sym) (vv : Value), (⟨nl, ys ++ [nameS g.names]⟩ : Rule) = leftR g s.a q ∧ ys.length ≤ 8 ∧ (∀ w', SymsAt (Cl w') (.slice ax q.right.length cx) q.right → SymsAt (Cl w') vv ys) ∧ nl = q.left ∧ vv = .slice ax q.right.length cx :=
             ⟨q.left, q.right, _, by unfold leftR; rw [if_pos hql, if_neg (by rw [h166]; decide)], hq8, fun w' h => h, rfl, rfl⟩
           refine CW_weak (S' := Sat (Old w) w [cel b8 51 [.bool false, .int .i64 g.names], cel b7 49 [.int .i64 nl, vv], trow 51 2 encY (.slice ax q.right.length cx) q.right, cel b4 26 [.int .i64 s.op, .int .i64 s.a, .int .i64 s.b, .int .i64 s.c], cel b3 24 [.int .i64 g.terms, .int .i64 g.names, .slice (some p) g.rules.length c]]) (fun w hw => by rw [e1, e2]; exact hw.sub (by repeat (first | exact SubL.nil | exact Pick.head | apply Pick.tail | apply SubL.cons))) ?_)
      refine CW_drawT (Sat (Old w) w [cel b8 51 [.bool false, .int .i64 g.names], cel b7 49 [.int .i64 nl, vv], trow 51 2 encY (.slice ax q.right.length cx) q.right]) [7] (.q 0 false (.q 1 true (.q 3 true (.alt 2 (.e 4 (.e 5 (.q 6 false (.e 7 .nil)))) 4 (.e 2 (.e 5 (.q 6 false (.e 7 .nil)))))))) (by kernel_rfl) (Blind.block (Blind.then Blind.bodyP)) (by kernel_rfl) (fun w hw => hw.drew) ?_
      refine DT_p rfl (.inr (fun w hw => (by first | exact hw.sub (by (repeat (first | exact SubL.nil | exact Pick.head | apply Pick.tail | apply SubL.cons))) | exact hw.2.sub (by (repeat (first | exact SubL.nil | exact Pick.head | apply Pick.tail | apply SubL.cons)))))) (q_fieldAddr Try.underlying49 rfl rfl Try.sizeOf46 rfl rfl) rfl ?_
      first | (refine DT_q rfl (fun w hw => (by first | exact hw.sub (by (repeat (first | exact SubL.nil | exact Pick.head | apply Pick.tail | apply SubL.cons))) | exact hw.2.sub (by (repeat (first | exact SubL.nil | exact Pick.head | apply Pick.tail | apply SubL.cons))))) (q_load1_own Try.isAgg46 rfl rfl (by (repeat (first | exact .head | apply Swap.tail))) (by rfl)) rfl ?_) | (refine DT_q rfl (fun w hw => (by first | exact hw.sub (by (repeat (first | exact SubL.nil | exact Pick.head | apply Pick.tail | apply SubL.cons))) | exact hw.2.sub (by (repeat (first | exact SubL.nil | exact Pick.head | apply Pick.tail | apply SubL.cons))))) (q_load1_ro Try.isAgg46 rfl (by first | assumption | exact Row.at_ (by assumption) rfl)) rfl ?_)
      first | (refine DT_q rfl (fun w hw => (by first | exact hw.sub (by (repeat (first | exact SubL.nil | exact Pick.head | apply Pick.tail | apply SubL.cons))) | exact hw.2.sub (by (repeat (first | exact SubL.nil | exact Pick.head | apply Pick.tail | apply SubL.cons))))) (q_loadN_own Try.isAgg51 Try.sizeOf51 rfl rfl (by (repeat (first | exact .head | apply Swap.tail))) (by rfl)) rfl ?_) | (refine DT_q rfl (fun w hw => (by first | exact hw.sub (by (repeat (first | exact SubL.nil | exact Pick.head | apply Pick.tail | apply SubL.cons))) | exact hw.2.sub (by (repeat (first | exact SubL.nil | exact Pick.head | apply Pick.tail | apply SubL.cons))))) (q_loadN_ro Try.isAgg51 Try.sizeOf51 rfl (by first | assumption | exact Row.at_ (by assumption) rfl) (by rfl)) rfl ?_)
      refine DT_alt ?_ ?_
      · skip
        refine DT_e rfl (e_call Try.call23 rfl (fun w hw => lift_old (copied_any vv ys w (by omega) (hsv w (hw.symsIn (v := .slice ax q.right.length cx) (l := q.right) (by repeat (first | exact .head | apply Swap.tail))))) hw)) rfl (.inr (fun _ w hw => (by first | exact hw.sub (by (repeat (first | exact SubL.nil | exact Pick.head | apply Pick.tail | apply SubL.cons))) | exact hw.2.sub (by (repeat (first | exact SubL.nil | exact Pick.head | apply Pick.tail | apply SubL.cons)))))) (fun x176 => ?_)
        refine DT_e rfl (e_single Try.underlying46 Try.sizeOf51 Try.zeroValue51 (e := 51) (v := .agg #[.bool false, .int .i64 g.names]) (cs := [.bool false, .int .i64 g.names]) rfl rfl rfl rfl (by decide) (by decide)) rfl (.inr (fun _ w hw => (by first | exact hw.sub (by repeat (first | exact SubL.nil | exact Pick.head | apply Pick.tail | apply SubL.cons)) | exact hw.2.sub (by repeat (first | exact SubL.nil | exact Pick.head | apply Pick.tail | apply SubL.cons))))) (fun b178 => ?_)
        refine DT_e rfl (e_append_t (x0 := nameS g.names) (enc := encY) (l := ys) Try.underlying46 Try.typeInfo51 rfl rfl rfl rfl rfl rfl rfl (by repeat (first | exact .head | apply Pick.tail)) rfl (by exact fun w hw => hw.news (by repeat (first | exact .head | apply Swap.tail))) (by simp [Value.oneCell']) (by omega) (by decide)) rfl (.inr (fun _ w hw => (by first | exact hw.sub (by repeat (first | exact SubL.nil | exact Pick.head | apply Pick.tail | apply SubL.cons)) | exact hw.2.sub (by repeat (first | exact SubL.nil | exact Pick.head | apply Pick.tail | apply SubL.cons))))) (fun v179 => ?_)
        refine DT_fact (fun w hw => hw.tform (v := v179) (l := (ys ++ [nameS g.names])) (enc := encY) (by repeat (first | exact .head | apply Swap.tail))) (fun hf => ?_)
        obtain ⟨a179, c179, rfl, _, _, hb179⟩ := hf
        refine DT_p rfl (.inr (fun w hw => (by first | exact hw.sub (by (repeat (first | exact SubL.nil | exact Pick.head | apply Pick.tail | apply SubL.cons))) | exact hw.2.sub (by (repeat (first | exact SubL.nil | exact Pick.head | apply Pick.tail | apply SubL.cons)))))) (q_fieldAddr Try.underlying49 rfl rfl Try.sizeOf46 rfl rfl) rfl ?_
        refine DT_e0 rfl (e_store Try.sizeOf46 rfl rfl rfl rfl (by repeat (first | exact .head | apply Swap.tail)) (by rfl)) (.inl rfl) (fun _ => ?_)
        refine DT_nil ?_
        refine EW_block_normal ?_
        refine EW_then ?_
        refine CW_seq ?_
        refine CW_region ?_
        first | (refine OW_q (q_loadN_own Try.isAgg49 Try.sizeOf49 rfl rfl (by (repeat (first | exact .head | apply Swap.tail))) (by rfl)) rfl ?_) | (refine OW_q (q_loadN_ro Try.isAgg49 Try.sizeOf49 rfl (by first | assumption | exact Row.at_ (by assumption) rfl) (by rfl)) rfl ?_)
        refine OW_e (e_single Try.underlying22 Try.sizeOf49 Try.zeroValue49 (e := 49) rfl rfl rfl rfl (by decide) (by decide)) rfl (fun b229 => ?_)
        refine OW_q (q_assign rfl) rfl ?_
        refine OW_nil ?_
        refine EW_then ?_
        refine CW_ret ?_
        refine ret1 Try.results22 rfl (fun w hw => ?_)
        refine ⟨(.slice (some ⟨b229, 0, none⟩) 1 1, [⟨⟨nl, (ys ++ [nameS g.names])⟩, (.slice a179 (ys ++ [nameS g.names]).length c179)⟩], [], []), rfl, ⟨(fun h => by omega), ?_⟩, ?_⟩
        · unfold oneR; rw [if_neg (by omega), if_neg (by omega), if_neg (by omega), if_pos hop, ← hY]; rfl
        · have h1 : Sat (Old _) _ [cel b229 49 [.int .i64 nl, (.slice a179 (ys ++ [nameS g.names]).length c179)], trow 51 2 encY ((.slice a179 (ys ++ [nameS g.names]).length c179)) (ys ++ [nameS g.names])] w := hw.sub (by repeat (first | exact SubL.nil | exact Pick.head | apply Pick.tail | apply SubL.cons))
          exact h1.oneRule
      · skip
        refine DT_e rfl (e_single Try.underlying46 Try.sizeOf51 Try.zeroValue51 (e := 51) (v := .agg #[.bool false, .int .i64 g.names]) (cs := [.bool false, .int .i64 g.names]) rfl rfl rfl rfl (by decide) (by decide)) rfl (.inr (fun _ w hw => (by first | exact hw.sub (by repeat (first | exact SubL.nil | exact Pick.head | apply Pick.tail | apply SubL.cons)) | exact hw.2.sub (by repeat (first | exact SubL.nil | exact Pick.head | apply Pick.tail | apply SubL.cons))))) (fun b178 => ?_)
        refine DT_e rfl (e_call Try.call23 rfl (fun w hw => lift_old (copied_any vv ys w (by omega) (hsv w (hw.symsIn (v := .slice ax q.right.length cx) (l := q.right) (by repeat (first | exact .head | apply Swap.tail))))) hw)) rfl (.inr (fun _ w hw => (by first | exact hw.sub (by (repeat (first | exact SubL.nil | exact Pick.head | apply Pick.tail | apply SubL.cons))) | exact hw.2.sub (by (repeat (first | exact SubL.nil | exact Pick.head | apply Pick.tail | apply SubL.cons)))))) (fun x176 => ?_)
        refine DT_e rfl (e_append_t (x0 := nameS g.names) (enc := encY) (l := ys) Try.underlying46 Try.typeInfo51 rfl rfl rfl rfl rfl rfl rfl (by repeat (first | exact .head | apply Pick.tail)) rfl (by exact fun w hw => hw.news (by repeat (first | exact .head | apply Swap.tail))) (by simp [Value.oneCell']) (by omega) (by decide)) rfl (.inr (fun _ w hw => (by first | exact hw.sub (by repeat (first | exact SubL.nil | exact Pick.head | apply Pick.tail | apply SubL.cons)) | exact hw.2.sub (by repeat (first | exact SubL.nil | exact Pick.head | apply Pick.tail | apply SubL.cons))))) (fun v179 => ?_)
        refine DT_fact (fun w hw => hw.tform (v := v179) (l := (ys ++ [nameS g.names])) (enc := encY) (by repeat (first | exact .head | apply Swap.tail))) (fun hf => ?_)
        obtain ⟨a179, c179, rfl, _, _, hb179⟩ := hf
        refine DT_p rfl (.inr (fun w hw => (by first | exact hw.sub (by (repeat (first | exact SubL.nil | exact Pick.head | apply Pick.tail | apply SubL.cons))) | exact hw.2.sub (by (repeat (first | exact SubL.nil | exact Pick.head | apply Pick.tail | apply SubL.cons)))))) (q_fieldAddr Try.underlying49 rfl rfl Try.sizeOf46 rfl rfl) rfl ?_
        refine DT_e0 rfl (e_store Try.sizeOf46 rfl rfl rfl rfl (by repeat (first | exact .head | apply Swap.tail)) (by rfl)) (.inl rfl) (fun _ => ?_)
        refine DT_nil ?_
        refine EW_block_normal ?_
        refine EW_then ?_
        refine CW_seq ?_
        refine CW_region ?_
        first | (refine OW_q (q_loadN_own Try.isAgg49 Try.sizeOf49 rfl rfl (by (repeat (first | exact .head | apply Swap.tail))) (by rfl)) rfl ?_) | (refine OW_q (q_loadN_ro Try.isAgg49 Try.sizeOf49 rfl (by first | assumption | exact Row.at_ (by assumption) rfl) (by rfl)) rfl ?_)
        refine OW_e (e_single Try.underlying22 Try.sizeOf49 Try.zeroValue49 (e := 49) rfl rfl rfl rfl (by decide) (by decide)) rfl (fun b229 => ?_)
        refine OW_q (q_assign rfl) rfl ?_
        refine OW_nil ?_
        refine EW_then ?_
        refine CW_ret ?_
        refine ret1 Try.results22 rfl (fun w hw => ?_)
        refine ⟨(.slice (some ⟨b229, 0, none⟩) 1 1, [⟨⟨nl, (ys ++ [nameS g.names])⟩, (.slice a179 (ys ++ [nameS g.names]).length c179)⟩], [], []), rfl, ⟨(fun h => by omega), ?_⟩, ?_⟩
        · unfold oneR; rw [if_neg (by omega), if_neg (by omega), if_neg (by omega), if_pos hop, ← hY]; rfl
        · have h1 : Sat (Old _) _ [cel b229 49 [.int .i64 nl, (.slice a179 (ys ++ [nameS g.names]).length c179)], trow 51 2 encY ((.slice a179 (ys ++ [nameS g.names]).length c179)) (ys ++ [nameS g.names])] w := hw.sub (by repeat (first | exact SubL.nil | exact Pick.head | apply Pick.tail | apply SubL.cons))
          exact h1.oneRule
    · skip
      refine CW_skip ?_
      refine EW_then ?_
      first
        | (replace h166 : loopsB q = true := h166
           obtain ⟨nl, ys, vv, hY, hysl, hsv, e1, e2⟩ : ∃ (nl : Int) (ys : List Sym) (vv : Value), (⟨nl, ys ++ [nameS g.names]⟩ : Rule) = leftR g s.a q ∧ ys.length ≤ 8 ∧ (∀ w', SymsAt (Cl w') (.slice ax q.right.length cx) q.right → SymsAt (Cl w') vv ys) ∧ nl = g.names ∧ vv = (.slice (if cx = 1 then ax else ax.map (·.add (1 * 2))) (q.right.length - 1) (cx - 1)) := by
             refine ⟨g.names, q.right.tail, _, by unfold leftR; rw [if_pos hql, if_pos h166], by rw [List.length_tail]; omega, fun w' h => ?_, rfl, rfl⟩
             have h2 := SlAt.sub h (lo := 1) (hi := q.right.length) hlen1 (Nat.le_refl _)
             rw [List.take_length, List.drop_one] at h2
             exact h2
           refine CW_weak (S' := Sat (Old w) w [cel b8 51 [.bool false, .int .i64 g.names], cel b7 49 [.int .i64 nl, vv], trow 51 2 encY (.slice ax q.right.length cx) q.right, cel b4 26 [.int .i64 s.op, .int .i64 s.a, .int .i64 s.b, .int .i64 s.c], cel b3 24 [.int .i64 g.terms, .int .i64 g.names, .slice (some p) g.rules.length c]]) (fun w hw => by rw [e1, e2]; exact hw.sub (by repeat (first | exact SubL.nil | exact Pick.head | apply Pick.tail | apply SubL.cons))) ?_)
        | (replace h166 : loopsB q = false := h166
           obtain ⟨nl, ys, vv, hY, hysl, hsv, e1, e2⟩ : ∃ (nl : Int) (ys : List Sym) (vv : Value), (⟨nl, ys ++ [nameS g.names]⟩ : Rule) = leftR g s.a q ∧ ys.length ≤ 8 ∧ (∀ w', SymsAt (Cl w') (.slice ax q.right.length cx) q.right → SymsAt (Cl w') vv ys) ∧ nl = q.left ∧ vv = .slice ax q.right.length cx :=
             ⟨q.left, q.right, _, by unfold leftR; rw [if_pos hql, if_neg (by rw [h166]; decide)], hq8, fun w' h => h, rfl, rfl⟩
           refine CW_weak (S' := Sat (Old w) w [cel b8 51 [.bool false, .int .i64 g.names], cel b7 49 [.int .i64 nl, vv], trow 51 2 encY (.slice ax q.right.length cx) q.right, cel b4 26 [.int .i64 s.op, .int .i64 s.a, .int .i64 s.b, .int .i64 s.c], cel b3 24 [.int .i64 g.terms, .int .i64 g.names, .slice (some p) g.rules.length c]]) (fun w hw => by rw [e1, e2]; exact hw.sub (by repeat (first | exact SubL.nil | exact Pick.head | apply Pick.tail | apply SubL.cons))) ?_)
      refine CW_drawT (Sat (Old w) w [cel b8 51 [.bool false, .int .i64 g.names], cel b7 49 [.int .i64 nl, vv], trow 51 2 encY (.slice ax q.right.length cx) q.right]) [7] (.q 0 false (.q 1 true (.q 3 true (.alt 2 (.e 4 (.e 5 (.q 6 false (.e 7 .nil)))) 4 (.e 2 (.e 5 (.q 6 false (.e 7 .nil)))))))) (by kernel_rfl) (Blind.block (Blind.then Blind.bodyP)) (by kernel_rfl) (fun w hw => hw.drew) ?_
      refine DT_p rfl (.inr (fun w hw => (by first | exact hw.sub (by (repeat (first | exact SubL.nil | exact Pick.head | apply Pick.tail | apply SubL.cons))) | exact hw.2.sub (by (repeat (first | exact SubL.nil | exact Pick.head | apply Pick.tail | apply SubL.cons)))))) (q_fieldAddr Try.underlying49 rfl rfl Try.sizeOf46 rfl rfl) rfl ?_
      first | (refine DT_q rfl (fun w hw => (by first | exact hw.sub (by (repeat (first | exact SubL.nil | exact Pick.head | apply Pick.tail | apply SubL.cons))) | exact hw.2.sub (by (repeat (first | exact SubL.nil | exact Pick.head | apply Pick.tail | apply SubL.cons))))) (q_load1_own Try.isAgg46 rfl rfl (by (repeat (first | exact .head | apply Swap.tail))) (by rfl)) rfl ?_) | (refine DT_q rfl (fun w hw => (by first | exact hw.sub (by (repeat (first | exact SubL.nil | exact Pick.head | apply Pick.tail | apply SubL.cons))) | exact hw.2.sub (by (repeat (first | exact SubL.nil | exact Pick.head | apply Pick.tail | apply SubL.cons))))) (q_load1_ro Try.isAgg46 rfl (by first | assumption | exact Row.at_ (by assumption) rfl)) rfl ?_)
      first | (refine DT_q rfl (fun w hw => (by first | exact hw.sub (by (repeat (first | exact SubL.nil | exact Pick.head | apply Pick.tail | apply SubL.cons))) | exact hw.2.sub (by (repeat (first | exact SubL.nil | exact Pick.head | apply Pick.tail | apply SubL.cons))))) (q_loadN_own Try.isAgg51 Try.sizeOf51 rfl rfl (by (repeat (first | exact .head | apply Swap.tail))) (by rfl)) rfl ?_) | (refine DT_q rfl (fun w hw => (by first | exact hw.sub (by (repeat (first | exact SubL.nil | exact Pick.head | apply Pick.tail | apply SubL.cons))) | exact hw.2.sub (by (repeat (first | exact SubL.nil | exact Pick.head | apply Pick.tail | apply SubL.cons))))) (q_loadN_ro Try.isAgg51 Try.sizeOf51 rfl (by first | assumption | exact Row.at_ (by assumption) rfl) (by rfl)) rfl ?_)
      refine DT_alt ?_ ?_
      · skip
        refine DT_e rfl (e_call Try.call23 rfl (fun w hw => lift_old (copied_any vv ys w (by omega) (hsv w (hw.symsIn (v := .slice ax q.right.length cx) (l := q.right) (by repeat (first | exact .head | apply Swap.tail))))) hw)) rfl (.inr (fun _ w hw => (by first | exact hw.sub (by (repeat (first | exact SubL.nil | exact Pick.head | apply Pick.tail | apply SubL.cons))) | exact hw.2.sub (by (repeat (first | exact SubL.nil | exact Pick.head | apply Pick.tail | apply SubL.cons)))))) (fun x176 => ?_)
        refine DT_e rfl (e_single Try.underlying46 Try.sizeOf51 Try.zeroValue51 (e := 51) (v := .agg #[.bool false, .int .i64 g.names]) (cs := [.bool false, .int .i64 g.names]) rfl rfl rfl rfl (by decide) (by decide)) rfl (.inr (fun _ w hw => (by first | exact hw.sub (by repeat (first | exact SubL.nil | exact Pick.head | apply Pick.tail | apply SubL.cons)) | exact hw.2.sub (by repeat (first | exact SubL.nil | exact Pick.head | apply Pick.tail | apply SubL.cons))))) (fun b178 => ?_)
        refine DT_e rfl (e_append_t (x0 := nameS g.names) (enc := encY) (l := ys) Try.underlying46 Try.typeInfo51 rfl rfl rfl rfl rfl rfl rfl (by repeat (first | exact .head | apply Pick.tail)) rfl (by exact fun w hw => hw.news (by repeat (first | exact .head | apply Swap.tail))) (by simp [Value.oneCell']) (by omega) (by decide)) rfl (.inr (fun _ w hw => (by first | exact hw.sub (by repeat (first | exact SubL.nil | exact Pick.head | apply Pick.tail | apply SubL.cons)) | exact hw.2.sub (by repeat (first | exact SubL.nil | exact Pick.head | apply Pick.tail | apply SubL.cons))))) (fun v179 => ?_)
        refine DT_fact (fun w hw => hw.tform (v := v179) (l := (ys ++ [nameS g.names])) (enc := encY) (by repeat (first | exact .head | apply Swap.tail))) (fun hf => ?_)
        obtain ⟨a179, c179, rfl, _, _, hb179⟩ := hf
        refine DT_p rfl (.inr (fun w hw => (by first | exact hw.sub (by (repeat (first | exact SubL.nil | exact Pick.head | apply Pick.tail | apply SubL.cons))) | exact hw.2.sub (by (repeat (first | exact SubL.nil | exact Pick.head | apply Pick.tail | apply SubL.cons)))))) (q_fieldAddr Try.underlying49 rfl rfl Try.sizeOf46 rfl rfl) rfl ?_
        refine DT_e0 rfl (e_store Try.sizeOf46 rfl rfl rfl rfl (by repeat (first | exact .head | apply Swap.tail)) (by rfl)) (.inl rfl) (fun _ => ?_)
        refine DT_nil ?_
        refine EW_block_normal ?_
        refine EW_then ?_
        refine CW_seq ?_
        refine CW_region ?_
        first | (refine OW_q (q_loadN_own Try.isAgg49 Try.sizeOf49 rfl rfl (by (repeat (first | exact .head | apply Swap.tail))) (by rfl)) rfl ?_) | (refine OW_q (q_loadN_ro Try.isAgg49 Try.sizeOf49 rfl (by first | assumption | exact Row.at_ (by assumption) rfl) (by rfl)) rfl ?_)
        refine OW_e (e_single Try.underlying22 Try.sizeOf49 Try.zeroValue49 (e := 49) rfl rfl rfl rfl (by decide) (by decide)) rfl (fun b229 => ?_)
        refine OW_q (q_assign rfl) rfl ?_
        refine OW_nil ?_
        refine EW_then ?_
        refine CW_ret ?_
        refine ret1 Try.results22 rfl (fun w hw => ?_)
        refine ⟨(.slice (some ⟨b229, 0, none⟩) 1 1, [⟨⟨nl, (ys ++ [nameS g.names])⟩, (.slice a179 (ys ++ [nameS g.names]).length c179)⟩], [], []), rfl, ⟨(fun h => by omega), ?_⟩, ?_⟩
        · unfold oneR; rw [if_neg (by omega), if_neg (by omega), if_neg (by omega), if_pos hop, ← hY]; rfl
        · have h1 : Sat (Old _) _ [cel b229 49 [.int .i64 nl, (.slice a179 (ys ++ [nameS g.names]).length c179)], trow 51 2 encY ((.slice a179 (ys ++ [nameS g.names]).length c179)) (ys ++ [nameS g.names])] w := hw.sub (by repeat (first | exact SubL.nil | exact Pick.head | apply Pick.tail | apply SubL.cons))
          exact h1.oneRule
      · skip
        refine DT_e rfl (e_single Try.underlying46 Try.sizeOf51 Try.zeroValue51 (e := 51) (v := .agg #[.bool false, .int .i64 g.names]) (cs := [.bool false, .int .i64 g.names]) rfl rfl rfl rfl (by decide) (by decide)) rfl (.inr (fun _ w hw => (by first | exact hw.sub (by repeat (first | exact SubL.nil | exact Pick.head | apply Pick.tail | apply SubL.cons)) | exact hw.2.sub (by repeat (first | exact SubL.nil | exact Pick.head | apply Pick.tail | apply SubL.cons))))) (fun b178 => ?_)
        refine DT_e rfl (e_call Try.call23 rfl (fun w hw => lift_old (copied_any vv ys w (by omega) (hsv w (hw.symsIn (v := .slice ax q.right.length cx) (l := q.right) (by repeat (first | exact .head | apply Swap.tail))))) hw)) rfl (.inr (fun _ w hw => (by first | exact hw.sub (by (repeat (first | exact SubL.nil | exact Pick.head | apply Pick.tail | apply SubL.cons))) | exact hw.2.sub (by (repeat (first | exact SubL.nil | exact Pick.head | apply Pick.tail | apply SubL.cons)))))) (fun x176 => ?_)
        refine DT_e rfl (e_append_t (x0 := nameS g.names) (enc := encY) (l := ys) Try.underlying46 Try.typeInfo51 rfl rfl rfl rfl rfl rfl rfl (by repeat (first | exact .head | apply Pick.tail)) rfl (by exact fun w hw => hw.news (by repeat (first | exact .head | apply Swap.tail))) (by simp [Value.oneCell']) (by omega) (by decide)) rfl (.inr (fun _ w hw => (by first | exact hw.sub (by repeat (first | exact SubL.nil | exact Pick.head | apply Pick.tail | apply SubL.cons)) | exact hw.2.sub (by repeat (first | exact SubL.nil | exact Pick.head | apply Pick.tail | apply SubL.cons))))) (fun v179 => ?_)
        refine DT_fact (fun w hw => hw.tform (v := v179) (l := (ys ++ [nameS g.names])) (enc := encY) (by repeat (first | exact .head | apply Swap.tail))) (fun hf => ?_)
        obtain ⟨a179, c179, rfl, _, _, hb179⟩ := hf
        refine DT_p rfl (.inr (fun w hw => (by first | exact hw.sub (by (repeat (first | exact SubL.nil | exact Pick.head | apply Pick.tail | apply SubL.cons))) | exact hw.2.sub (by (repeat (first | exact SubL.nil | exact Pick.head | apply Pick.tail | apply SubL.cons)))))) (q_fieldAddr Try.underlying49 rfl rfl Try.sizeOf46 rfl rfl) rfl ?_
        refine DT_e0 rfl (e_store Try.sizeOf46 rfl rfl rfl rfl (by repeat (first | exact .head | apply Swap.tail)) (by rfl)) (.inl rfl) (fun _ => ?_)
        refine DT_nil ?_
        refine EW_block_normal ?_
        refine EW_then ?_
        refine CW_seq ?_
        refine CW_region ?_
        first | (refine OW_q (q_loadN_own Try.isAgg49 Try.sizeOf49 rfl rfl (by (repeat (first | exact .head | apply Swap.tail))) (by rfl)) rfl ?_) | (refine OW_q (q_loadN_ro Try.isAgg49 Try.sizeOf49 rfl (by first | assumption | exact Row.at_ (by assumption) rfl) (by rfl)) rfl ?_)
        refine OW_e (e_single Try.underlying22 Try.sizeOf49 Try.zeroValue49 (e := 49) rfl rfl rfl rfl (by decide) (by decide)) rfl (fun b229 => ?_)
        refine OW_q (q_assign rfl) rfl ?_
        refine OW_nil ?_
        refine EW_then ?_
        refine CW_ret ?_
        refine ret1 Try.results22 rfl (fun w hw => ?_)
        refine ⟨(.slice (some ⟨b229, 0, none⟩) 1 1, [⟨⟨nl, (ys ++ [nameS g.names])⟩, (.slice a179 (ys ++ [nameS g.names]).length c179)⟩], [], []), rfl, ⟨(fun h => by omega), ?_⟩, ?_⟩
        · unfold oneR; rw [if_neg (by omega), if_neg (by omega), if_neg (by omega), if_pos hop, ← hY]; rfl
        · have h1 : Sat (Old _) _ [cel b229 49 [.int .i64 nl, (.slice a179 (ys ++ [nameS g.names]).length c179)], trow 51 2 encY ((.slice a179 (ys ++ [nameS g.names]).length c179)) (ys ++ [nameS g.names])] w := hw.sub (by repeat (first | exact SubL.nil | exact Pick.head | apply Pick.tail | apply SubL.cons))
          exact h1.oneRule
  · skip
    have hql : q.left ≠ s.a := by simpa using h164
    refine CW_skip ?_
    refine EW_block_normal ?_
    refine EW_then ?_
    refine CW_seq ?_
    refine CW_region ?_
    first | (refine OW_q (q_loadN_own Try.isAgg49 Try.sizeOf49 rfl rfl (by (repeat (first | exact .head | apply Swap.tail))) (by rfl)) rfl ?_) | (refine OW_q (q_loadN_ro Try.isAgg49 Try.sizeOf49 rfl (by first | assumption | exact Row.at_ (by assumption) rfl) (by rfl)) rfl ?_)
    refine OW_e (e_single Try.underlying22 Try.sizeOf49 Try.zeroValue49 (e := 49) rfl rfl rfl rfl (by decide) (by decide)) rfl (fun b229 => ?_)
    refine OW_q (q_assign rfl) rfl ?_
    refine OW_nil ?_
    refine EW_then ?_
    refine CW_ret ?_
    refine ret1 Try.results22 rfl (fun w hw => ?_)
    refine ⟨(.slice (some ⟨b229, 0, none⟩) 1 1, [⟨⟨q.left, q.right⟩, .slice ax q.right.length cx⟩], [], []), rfl, ⟨(fun h => by omega), ?_⟩, ?_⟩
    · unfold oneR; rw [if_neg (by omega), if_neg (by omega), if_neg (by omega), if_pos hop, leftR_other hql]; rfl
    · have h1 : Sat (Old _) _ [cel b229 49 [.int .i64 q.left, .slice ax q.right.length cx], trow 51 2 encY (.slice ax q.right.length cx) q.right] w := hw.sub (by repeat (first | exact SubL.nil | exact Pick.head | apply Pick.tail | apply SubL.cons))
      exact h1.oneRule

end Go.Sy
