/- Walks and plain laws, part 11. No condition. -/
import Derived.Test.YteceklkjbcebkabM9
import Derived.Test.YteceklkjbcebkabM10
/- pollardingref8.one: a part taken out, a name put in. No condition. -/
namespace Go.Sy
open Go Go.RowKit Go.Proofs

set_option maxRecDepth 20000 in
theorem one2_any (gv : Value) (g : Gram) (s : SStep) (k : Nat) (q : Rule) (w : World) (hm : mayB g = true) (hs : mayS g s = true) (hop : s.op = 2) (hq : g.rules[k]? = some q) (hg : GramAt (Cl w) gv g) : Calls Try.prog 22 #[gv, stepV s, .int .i64 (k : Int)] w (fun e w' => ∃ x : Value × List RV × List Bool × List Bool, e = .returned x.1 ∧ ((s.op = 5 → MksOk g x.2.2.1 ∧ CmsOk g x.2.2.2) ∧ plainR x.2.1 = oneR g s x.2.2.1 x.2.2.2 k q) ∧ Sat (Old w) w [rulesA x.1 x.2.1, symsA x.2.1] w') := by
 have hg0 := hg
 obtain ⟨rv, rfl, hr⟩ := hg.mono old_rd
 obtain ⟨a, c, rfl, hc1, hc2, hrs⟩ := id hr
 clear hg
 have hM := mayB_true.1 hm
 have hlk := (List.getElem?_eq_some_iff.1 hq).1
 have hq8 := (may_rule hm hq).2.2
 obtain ⟨p, rfl, rvq, hsy, hrow⟩ := hrs k q hq
 obtain ⟨ya, yc, rfl, hy1, hy2, hys⟩ := id hsy
 have hs2 := hs
 unfold mayS at hs2
 rw [if_neg (by omega), if_pos hop] at hs2
 simp only [Bool.and_eq_true, inR_true, decide_eq_true_eq] at hs2
 obtain ⟨⟨⟨ha0, ha1⟩, hb0, hbc⟩, hcr⟩ := hs2
 refine calls_CW Try.func22 rfl Try.ntmps22 rfl (Sat.start w) ?_
 refine nx3 ?_
 refine OW_e (e_box rfl rfl) rfl (fun b3 => ?_)
 refine OW_e (e_box rfl rfl) rfl (fun b4 => ?_)
 refine aO ?_
 refine nx2 ?_
 refine CW_seqJ (ι := Nat × Option Addr × Nat) (fun i_ => q.right.length ≤ i_.2.2 ∧ i_.2.2 ≤ 9223372036854775807 ∧ (0 < q.right.length → ∃ g, i_.2.1 = some ⟨g, 0, none⟩)) (fun i_ => [(2, .int .i64 (k : Int)), (3, .pointer (some ⟨b3, 0, none⟩)), (4, .pointer (some ⟨b4, 0, none⟩)), (7, .pointer (some ⟨i_.1, 0, none⟩))]) (fun i_ => Sat (Old w) w [cel i_.1 49 [.int .i64 q.left, .slice i_.2.1 q.right.length i_.2.2], trow 51 2 encY (.slice i_.2.1 q.right.length i_.2.2) q.right, cel b4 26 [.int .i64 s.op, .int .i64 s.a, .int .i64 s.b, .int .i64 s.c], cel b3 24 [.int .i64 g.terms, .int .i64 g.names, .slice (some p) g.rules.length c]]) ?_ ?_
 · skip
   refine CW_drawT (Sat (Old w) w [cel b4 26 [.int .i64 s.op, .int .i64 s.a, .int .i64 s.b, .int .i64 s.c], cel b3 24 [.int .i64 g.terms, .int .i64 g.names, .slice (some p) g.rules.length c]]) [15] (.q 0 false (.q 1 true (.q 2 false (.q 3 false (.q 4 false (.q 5 true (.q 6 false (.q 7 true (.q 8 false (.q 9 false (.q 10 false (.q 11 true (.alt 12 (.q 13 false (.e 14 (.e 15 .nil))) 14 (.e 12 (.q 13 false (.e 15 .nil)))))))))))))))) (by kernel_rfl) (Blind.again Blind.bodyP) (by kernel_rfl) (fun w hw => hw.drew) ?_
   refine DT_p rfl (.inr (fun w hw => (by exact hw.sub sbt))) (q_fieldAddr Try.underlying24 rfl rfl Try.sizeOf22 rfl rfl) rfl ?_
   refine DT_q rfl (fun w hw => (by exact hw.sub sbt)) (q_load1_own Try.isAgg22 rfl rfl swt (by rfl)) rfl ?_
   refine DT_p rfl (.inr (fun w hw => (by exact hw.sub sbt))) (q_move rfl) rfl ?_
   refine DT_p rfl (.inr (fun w hw => (by exact hw.sub sbt))) (q_indexAddr Try.underlying22 Try.sizeOf49 rfl rfl (by omega)) rfl ?_
   refine DT_p rfl (.inr (fun w hw => (by exact hw.sub sbt))) (q_fieldAddr Try.underlying49 rfl rfl Try.sizeOf3 rfl rfl) rfl ?_
   refine DT_q rfl (fun w hw => (by exact hw.sub sbt)) (q_load1_ro Try.isAgg3 rfl (by exact Row.at0 hrow)) rfl ?_
   refine DT_p rfl (.inr (fun w hw => (by exact hw.sub sbt))) (q_fieldAddr Try.underlying24 rfl rfl Try.sizeOf22 rfl rfl) rfl ?_
   refine DT_q rfl (fun w hw => (by exact hw.sub sbt)) (q_load1_own Try.isAgg22 rfl rfl swt (by rfl)) rfl ?_
   refine DT_p rfl (.inr (fun w hw => (by exact hw.sub sbt))) (q_move rfl) rfl ?_
   refine DT_p rfl (.inr (fun w hw => (by exact hw.sub sbt))) (q_indexAddr Try.underlying22 Try.sizeOf49 rfl rfl (by omega)) rfl ?_
   refine DT_p rfl (.inr (fun w hw => (by exact hw.sub sbt))) (q_fieldAddr Try.underlying49 rfl rfl Try.sizeOf46 rfl rfl) rfl ?_
   refine DT_q rfl (fun w hw => (by exact hw.sub sbt)) (q_load1_ro Try.isAgg46 rfl (by exact hrow.at_ (j := 1) rfl)) rfl ?_
   refine DT_alt ?_ ?_
   · skip
     refine DT_e rfl (e_call Try.call23 rfl (fun w hw => lift_old (copied_any _ q.right w (by omega) (hsy.mono fun _ _ h => hw.rd h)) hw)) rfl (.inr (fun _ w hw => (by exact hw.sub sbt))) (fun x30 => ?_)
     refine DT_fact (fun w hw => hw.tform (v := x30) (l := q.right) (enc := encY) swt) (fun hf => ?_)
     obtain ⟨ax, cx, rfl, hcx1, hcx2, hbx⟩ := hf
     refine DT_p rfl (.inr (fun w hw => (by exact hw.sub sbt))) (q_build (ps := #[(0, .int .i64 q.left), (1, .slice ax q.right.length cx)]) (v := .agg #[.int .i64 q.left, .slice ax q.right.length cx]) rfl (fun w => by kernel_rfl)) rfl ?_
     refine DT_e rfl (e_alloc Try.zeroValue49 rfl) rfl (.inr (fun _ w hw => (by exact hw.sub sbt))) (fun b7 => ?_)
     refine DT_e0 rfl (e_storeN Try.sizeOf49 rfl rfl rfl rfl (by simp [Value.oneCell']) swt (by rfl)) (.inl rfl) (fun _ => ?_)
     refine DT_nil ?_
     refine EW_again ((b7, ax, cx)) ?_ ⟨rfl, rfl, rfl, rfl, trivial⟩ sft
     · exact ⟨hcx1, hcx2, hbx⟩
   refine DT_e rfl (e_alloc Try.zeroValue49 rfl) rfl (.inr (fun _ w hw => (by exact hw.sub sbt))) (fun b7 => ?_)
   refine DT_e rfl (e_call Try.call23 rfl (fun w hw => lift_old (copied_any _ q.right w (by omega) (hsy.mono fun _ _ h => hw.rd h)) hw)) rfl (.inr (fun _ w hw => (by exact hw.sub sbt))) (fun x30 => ?_)
   refine DT_fact (fun w hw => hw.tform (v := x30) (l := q.right) (enc := encY) swt) (fun hf => ?_)
   obtain ⟨ax, cx, rfl, hcx1, hcx2, hbx⟩ := hf
   refine DT_p rfl (.inr (fun w hw => (by exact hw.sub sbt))) (q_build (ps := #[(0, .int .i64 q.left), (1, .slice ax q.right.length cx)]) (v := .agg #[.int .i64 q.left, .slice ax q.right.length cx]) rfl (fun w => by kernel_rfl)) rfl ?_
   refine DT_e0 rfl (e_storeN Try.sizeOf49 rfl rfl rfl rfl (by simp [Value.oneCell']) swt (by rfl)) (.inl rfl) (fun _ => ?_)
   refine DT_nil ?_
   refine EW_again ((b7, ax, cx)) ?_ ⟨rfl, rfl, rfl, rfl, trivial⟩ sft
   · exact ⟨hcx1, hcx2, hbx⟩
 intro i_ hpre
 obtain ⟨b7, ax, cx⟩ := i_
 replace hpre : q.right.length ≤ cx ∧ cx ≤ 9223372036854775807 ∧ (0 < q.right.length → ∃ g, ax = some ⟨g, 0, none⟩) := hpre
 change CW _ _ _ _ [(2, .int .i64 (k : Int)), (3, .pointer (some ⟨b3, 0, none⟩)), (4, .pointer (some ⟨b4, 0, none⟩)), (7, .pointer (some ⟨b7, 0, none⟩))] (Sat (Old w) w [cel b7 49 [.int .i64 q.left, .slice ax q.right.length cx], trow 51 2 encY (.slice ax q.right.length cx) q.right, cel b4 26 [.int .i64 s.op, .int .i64 s.a, .int .i64 s.b, .int .i64 s.c], cel b3 24 [.int .i64 g.terms, .int .i64 g.names, .slice (some p) g.rules.length c]])
 obtain ⟨hcx1, hcx2, hbx⟩ := hpre
 refine nx3 ?_
 refine OW_q (q_fieldAddr Try.underlying24 rfl rfl Try.sizeOf3 rfl rfl) rfl ?_
 refine OW_q (q_load1_own Try.isAgg3 rfl rfl swt (by rfl)) rfl ?_
 refine OW_q (q_build (ps := #[(1, .int .i64 g.names)]) (v := .agg #[.bool false, .int .i64 g.names]) rfl (fun w => by kernel_rfl)) rfl ?_
 refine OW_e (e_alloc Try.zeroValue51 rfl) rfl (fun b8 => ?_)
 refine OW_e0 (e_storeN Try.sizeOf51 rfl rfl rfl rfl (by simp [Value.oneCell']) swt (by rfl)) (fun _ => ?_)
 refine nx2 ?_
 refine CW_seq ?_
 refine nx3 ?_
 refine OW_q (q_fieldAddr Try.underlying26 rfl rfl Try.sizeOf3 rfl rfl) rfl ?_
 refine OW_q (q_load1_own Try.isAgg3 rfl rfl swt (by rfl)) rfl ?_
 refine nx2 ?_
 refine CW_block ?_
 refine nx3 ?_
 refine OW_q (q_eqi rfl rfl) rfl ?_
 refine aO ?_
 refine nx2 ?_
 refine CW_false rfl (by simp [hop]) ?_
 refine nx3 ?_
 refine OW_q (q_eqi rfl rfl) rfl ?_
 refine aO ?_
 refine nx2 ?_
 refine CW_true rfl (by simp [hop]) ?_
 refine nx3 ?_
 refine mO ?_
 refine OW_q (q_fieldAddr Try.underlying26 rfl rfl Try.sizeOf3 rfl rfl) rfl ?_
 refine OW_q (q_load1_own Try.isAgg3 rfl rfl swt (by rfl)) rfl ?_
 refine OW_q (q_eqi rfl rfl) rfl ?_
 refine nx2 ?_
 refine CW_cond rfl (fun h82 => ?_) (fun h82 => ?_)
 · skip
   have hka : (k : Int) = s.a := by simpa using h82
   have hra : ruleAt g s.a = q := ruleAt_get (by rw [← hka]; exact hq)
   rw [hra] at hcr
   refine nx3 ?_
   refine OW_q (q_fieldAddr Try.underlying49 rfl rfl Try.sizeOf46 rfl rfl) rfl ?_
   refine OW_q (q_load1_own Try.isAgg46 rfl rfl swt (by rfl)) rfl ?_
   refine OW_q (q_fieldAddr Try.underlying26 rfl rfl Try.sizeOf3 rfl rfl) rfl ?_
   refine OW_q (q_load1_own Try.isAgg3 rfl rfl swt (by rfl)) rfl ?_
   refine OW_spell 86 (.int .i64 ((s.b.toNat : Nat) : Int)) rfl (congrArg (Value.int .i64) (by omega)) ?_
   refine OW_q (q_slice Try.underlying46 Try.sizeOf51 rfl (.inl ⟨rfl, rfl⟩) (.inr ⟨_, rfl, rfl⟩) (by omega) (by omega) (by omega)) rfl ?_
   refine OW_e (e_call Try.call23 rfl (fun w hw => lift_old (copied_any _ (q.right.take s.b.toNat) w (by rw [List.length_take]; omega) (by have h9 := SlAt.sub (hw.symsIn (v := .slice ax q.right.length cx) (l := q.right) swt) (lo := 0) (hi := s.b.toNat) (Nat.zero_le _) (by omega); rw [List.drop_zero] at h9; exact h9)) hw)) rfl (fun x88 => ?_)
   refine aO ?_
   refine nx4 ?_
   refine mO ?_
   refine OW_q (q_loadN_own Try.isAgg51 Try.sizeOf51 rfl rfl swt (by rfl)) rfl ?_
   refine OW_e (e_single Try.underlying46 Try.sizeOf51 Try.zeroValue51 (e := 51) (v := .agg #[.bool false, .int .i64 g.names]) (cs := [.bool false, .int .i64 g.names]) rfl rfl rfl rfl (by decide) (by decide)) rfl (fun b91 => ?_)
   refine OW_e (e_append_t (x0 := nameS g.names) (enc := encY) (l := q.right.take s.b.toNat) Try.underlying46 Try.typeInfo51 rfl rfl rfl rfl rfl rfl rfl pkt rfl (by exact fun w hw => hw.news swt) (by simp [Value.oneCell']) (by rw [List.length_take]; omega) (by decide)) rfl (fun v92 => ?_)
   refine aO ?_
   refine nx2 ?_
   refine CW_region ?_
   refine mO ?_
   refine OW_q (q_fieldAddr Try.underlying49 rfl rfl Try.sizeOf46 rfl rfl) rfl ?_
   refine OW_q (q_load1_own Try.isAgg46 rfl rfl swt (by rfl)) rfl ?_
   refine OW_q (q_fieldAddr Try.underlying26 rfl rfl Try.sizeOf3 rfl rfl) rfl ?_
   refine OW_q (q_load1_own Try.isAgg3 rfl rfl swt (by rfl)) rfl ?_
   refine OW_spell 97 (.int .i64 ((s.c.toNat : Nat) : Int)) rfl (congrArg (Value.int .i64) (by omega)) ?_
   refine OW_q (q_slice Try.underlying46 Try.sizeOf51 rfl (.inr ⟨_, rfl, rfl⟩) (.inl ⟨rfl, rfl⟩) (by omega) (by omega) (by omega)) rfl ?_
   refine OW_e (e_appendG (enc := encY) (size := 2) (v := v92) (l := q.right.take s.b.toNat ++ [nameS g.names]) (ys := q.right.drop s.c.toNat) (sa := (if cx = s.c.toNat then ax else ax.map (·.add ((s.c.toNat) * 2)))) (fun _ => rfl) Try.underlying46 Try.typeInfo51 rfl rfl rfl rfl rfl rfl rfl pkt (by simp only [List.length_drop]) (fun w hw => hw.tailIn (v := .slice ax q.right.length cx) (l := q.right) (k := s.c.toNat) swt rfl (by omega)) (encY_one _) (by simp only [List.length_append, List.length_take, List.length_singleton]; omega) (by decide)) rfl (fun v99 => ?_)
   refine OW_fact (fun w hw => hw.tform (v := v99) (l := (q.right.take s.b.toNat ++ [nameS g.names] ++ q.right.drop s.c.toNat)) (enc := encY) swt) (fun hf => ?_)
   obtain ⟨a99, c99, rfl, _, _, hb99⟩ := hf
   refine OW_q (q_fieldAddr Try.underlying49 rfl rfl Try.sizeOf46 rfl rfl) rfl ?_
   refine OW_e0 (e_store Try.sizeOf46 rfl rfl rfl rfl swt (by rfl)) (fun _ => ?_)
   refine OW_nil ?_
   refine EW_block_normal ?_
   refine EW_then ?_
   refine nx3 ?_
   refine OW_q (q_loadN_own Try.isAgg49 Try.sizeOf49 rfl rfl swt (by rfl)) rfl ?_
   refine OW_e (e_single Try.underlying22 Try.sizeOf49 Try.zeroValue49 (e := 49) rfl rfl rfl rfl (by decide) (by decide)) rfl (fun b229 => ?_)
   refine aO ?_
   refine nx2 ?_
   refine CW_ret ?_
   refine ret1 Try.results22 rfl (fun w hw => ?_)
   refine ⟨(.slice (some ⟨b229, 0, none⟩) 1 1, [⟨⟨q.left, (q.right.take s.b.toNat ++ [nameS g.names] ++ q.right.drop s.c.toNat)⟩, (.slice a99 (q.right.take s.b.toNat ++ [nameS g.names] ++ q.right.drop s.c.toNat).length c99)⟩], [], []), rfl, ⟨(fun h => by omega), ?_⟩, ?_⟩
   · unfold oneR; rw [if_neg (by omega), if_pos hop, if_pos hka]; simp [plainR, extR]
   · have h1 : Sat (Old _) _ [cel b229 49 [.int .i64 q.left, (.slice a99 (q.right.take s.b.toNat ++ [nameS g.names] ++ q.right.drop s.c.toNat).length c99)], trow 51 2 encY ((.slice a99 (q.right.take s.b.toNat ++ [nameS g.names] ++ q.right.drop s.c.toNat).length c99)) (q.right.take s.b.toNat ++ [nameS g.names] ++ q.right.drop s.c.toNat)] w := hw.sub sbt
     exact h1.oneRule
 have hka : ¬ (k : Int) = s.a := by simpa using h82
 refine CW_skip ?_
 refine EW_block_normal ?_
 refine EW_then ?_
 refine nx3 ?_
 refine OW_q (q_loadN_own Try.isAgg49 Try.sizeOf49 rfl rfl swt (by rfl)) rfl ?_
 refine OW_e (e_single Try.underlying22 Try.sizeOf49 Try.zeroValue49 (e := 49) rfl rfl rfl rfl (by decide) (by decide)) rfl (fun b229 => ?_)
 refine aO ?_
 refine nx2 ?_
 refine CW_ret ?_
 refine ret1 Try.results22 rfl (fun w hw => ?_)
 refine ⟨(.slice (some ⟨b229, 0, none⟩) 1 1, [⟨⟨q.left, q.right⟩, .slice ax q.right.length cx⟩], [], []), rfl, ⟨(fun h => by omega), ?_⟩, ?_⟩
 · unfold oneR; rw [if_neg (by omega), if_pos hop, if_neg hka]; rfl
 · have h1 : Sat (Old _) _ [cel b229 49 [.int .i64 q.left, .slice ax q.right.length cx], trow 51 2 encY (.slice ax q.right.length cx) q.right] w := hw.sub sbt
   exact h1.oneRule

set_option maxRecDepth 20000 in
theorem one3_any (gv : Value) (g : Gram) (s : SStep) (k : Nat) (q : Rule) (w : World) (hm : mayB g = true) (hs : mayS g s = true) (hop : s.op = 3) (hq : g.rules[k]? = some q) (hg : GramAt (Cl w) gv g) : Calls Try.prog 22 #[gv, stepV s, .int .i64 (k : Int)] w (fun e w' => ∃ x : Value × List RV × List Bool × List Bool, e = .returned x.1 ∧ ((s.op = 5 → MksOk g x.2.2.1 ∧ CmsOk g x.2.2.2) ∧ plainR x.2.1 = oneR g s x.2.2.1 x.2.2.2 k q) ∧ Sat (Old w) w [rulesA x.1 x.2.1, symsA x.2.1] w') := by
 have hg0 := hg
 obtain ⟨rv, rfl, hr⟩ := hg.mono old_rd
 obtain ⟨a, c, rfl, hc1, hc2, hrs⟩ := id hr
 clear hg
 have hM := mayB_true.1 hm
 have hlk := (List.getElem?_eq_some_iff.1 hq).1
 have hq8 := (may_rule hm hq).2.2
 obtain ⟨p, rfl, rvq, hsy, hrow⟩ := hrs k q hq
 obtain ⟨ya, yc, rfl, hy1, hy2, hys⟩ := id hsy
 have hs2 := hs
 unfold mayS at hs2
 rw [if_neg (by omega), if_neg (by omega), if_pos hop] at hs2
 simp only [Bool.and_eq_true, inR_true, decide_eq_true_eq] at hs2
 obtain ⟨⟨⟨⟨ha0, ha1⟩, hc0⟩, hb0, hb1⟩, hil⟩ := hs2
 refine calls_CW Try.func22 rfl Try.ntmps22 rfl (Sat.start w) ?_
 refine nx3 ?_
 refine OW_e (e_box rfl rfl) rfl (fun b3 => ?_)
 refine OW_e (e_box rfl rfl) rfl (fun b4 => ?_)
 refine aO ?_
 refine nx2 ?_
 refine CW_seqJ (ι := Nat × Option Addr × Nat) (fun i_ => q.right.length ≤ i_.2.2 ∧ i_.2.2 ≤ 9223372036854775807 ∧ (0 < q.right.length → ∃ g, i_.2.1 = some ⟨g, 0, none⟩)) (fun i_ => [(2, .int .i64 (k : Int)), (3, .pointer (some ⟨b3, 0, none⟩)), (4, .pointer (some ⟨b4, 0, none⟩)), (7, .pointer (some ⟨i_.1, 0, none⟩))]) (fun i_ => Sat (Old w) w [cel i_.1 49 [.int .i64 q.left, .slice i_.2.1 q.right.length i_.2.2], trow 51 2 encY (.slice i_.2.1 q.right.length i_.2.2) q.right, cel b4 26 [.int .i64 s.op, .int .i64 s.a, .int .i64 s.b, .int .i64 s.c], cel b3 24 [.int .i64 g.terms, .int .i64 g.names, .slice (some p) g.rules.length c]]) ?_ ?_
 · skip
   refine CW_drawT (Sat (Old w) w [cel b4 26 [.int .i64 s.op, .int .i64 s.a, .int .i64 s.b, .int .i64 s.c], cel b3 24 [.int .i64 g.terms, .int .i64 g.names, .slice (some p) g.rules.length c]]) [15] (.q 0 false (.q 1 true (.q 2 false (.q 3 false (.q 4 false (.q 5 true (.q 6 false (.q 7 true (.q 8 false (.q 9 false (.q 10 false (.q 11 true (.alt 12 (.q 13 false (.e 14 (.e 15 .nil))) 14 (.e 12 (.q 13 false (.e 15 .nil)))))))))))))))) (by kernel_rfl) (Blind.again Blind.bodyP) (by kernel_rfl) (fun w hw => hw.drew) ?_
   refine DT_p rfl (.inr (fun w hw => (by exact hw.sub sbt))) (q_fieldAddr Try.underlying24 rfl rfl Try.sizeOf22 rfl rfl) rfl ?_
   refine DT_q rfl (fun w hw => (by exact hw.sub sbt)) (q_load1_own Try.isAgg22 rfl rfl swt (by rfl)) rfl ?_
   refine DT_p rfl (.inr (fun w hw => (by exact hw.sub sbt))) (q_move rfl) rfl ?_
   refine DT_p rfl (.inr (fun w hw => (by exact hw.sub sbt))) (q_indexAddr Try.underlying22 Try.sizeOf49 rfl rfl (by omega)) rfl ?_
   refine DT_p rfl (.inr (fun w hw => (by exact hw.sub sbt))) (q_fieldAddr Try.underlying49 rfl rfl Try.sizeOf3 rfl rfl) rfl ?_
   refine DT_q rfl (fun w hw => (by exact hw.sub sbt)) (q_load1_ro Try.isAgg3 rfl (by exact Row.at0 hrow)) rfl ?_
   refine DT_p rfl (.inr (fun w hw => (by exact hw.sub sbt))) (q_fieldAddr Try.underlying24 rfl rfl Try.sizeOf22 rfl rfl) rfl ?_
   refine DT_q rfl (fun w hw => (by exact hw.sub sbt)) (q_load1_own Try.isAgg22 rfl rfl swt (by rfl)) rfl ?_
   refine DT_p rfl (.inr (fun w hw => (by exact hw.sub sbt))) (q_move rfl) rfl ?_
   refine DT_p rfl (.inr (fun w hw => (by exact hw.sub sbt))) (q_indexAddr Try.underlying22 Try.sizeOf49 rfl rfl (by omega)) rfl ?_
   refine DT_p rfl (.inr (fun w hw => (by exact hw.sub sbt))) (q_fieldAddr Try.underlying49 rfl rfl Try.sizeOf46 rfl rfl) rfl ?_
   refine DT_q rfl (fun w hw => (by exact hw.sub sbt)) (q_load1_ro Try.isAgg46 rfl (by exact hrow.at_ (j := 1) rfl)) rfl ?_
   refine DT_alt ?_ ?_
   · skip
     refine DT_e rfl (e_call Try.call23 rfl (fun w hw => lift_old (copied_any _ q.right w (by omega) (hsy.mono fun _ _ h => hw.rd h)) hw)) rfl (.inr (fun _ w hw => (by exact hw.sub sbt))) (fun x30 => ?_)
     refine DT_fact (fun w hw => hw.tform (v := x30) (l := q.right) (enc := encY) swt) (fun hf => ?_)
     obtain ⟨ax, cx, rfl, hcx1, hcx2, hbx⟩ := hf
     refine DT_p rfl (.inr (fun w hw => (by exact hw.sub sbt))) (q_build (ps := #[(0, .int .i64 q.left), (1, .slice ax q.right.length cx)]) (v := .agg #[.int .i64 q.left, .slice ax q.right.length cx]) rfl (fun w => by kernel_rfl)) rfl ?_
     refine DT_e rfl (e_alloc Try.zeroValue49 rfl) rfl (.inr (fun _ w hw => (by exact hw.sub sbt))) (fun b7 => ?_)
     refine DT_e0 rfl (e_storeN Try.sizeOf49 rfl rfl rfl rfl (by simp [Value.oneCell']) swt (by rfl)) (.inl rfl) (fun _ => ?_)
     refine DT_nil ?_
     refine EW_again ((b7, ax, cx)) ?_ ⟨rfl, rfl, rfl, rfl, trivial⟩ sft
     · exact ⟨hcx1, hcx2, hbx⟩
   refine DT_e rfl (e_alloc Try.zeroValue49 rfl) rfl (.inr (fun _ w hw => (by exact hw.sub sbt))) (fun b7 => ?_)
   refine DT_e rfl (e_call Try.call23 rfl (fun w hw => lift_old (copied_any _ q.right w (by omega) (hsy.mono fun _ _ h => hw.rd h)) hw)) rfl (.inr (fun _ w hw => (by exact hw.sub sbt))) (fun x30 => ?_)
   refine DT_fact (fun w hw => hw.tform (v := x30) (l := q.right) (enc := encY) swt) (fun hf => ?_)
   obtain ⟨ax, cx, rfl, hcx1, hcx2, hbx⟩ := hf
   refine DT_p rfl (.inr (fun w hw => (by exact hw.sub sbt))) (q_build (ps := #[(0, .int .i64 q.left), (1, .slice ax q.right.length cx)]) (v := .agg #[.int .i64 q.left, .slice ax q.right.length cx]) rfl (fun w => by kernel_rfl)) rfl ?_
   refine DT_e0 rfl (e_storeN Try.sizeOf49 rfl rfl rfl rfl (by simp [Value.oneCell']) swt (by rfl)) (.inl rfl) (fun _ => ?_)
   refine DT_nil ?_
   refine EW_again ((b7, ax, cx)) ?_ ⟨rfl, rfl, rfl, rfl, trivial⟩ sft
   · exact ⟨hcx1, hcx2, hbx⟩
 intro i_ hpre
 obtain ⟨b7, ax, cx⟩ := i_
 replace hpre : q.right.length ≤ cx ∧ cx ≤ 9223372036854775807 ∧ (0 < q.right.length → ∃ g, ax = some ⟨g, 0, none⟩) := hpre
 change CW _ _ _ _ [(2, .int .i64 (k : Int)), (3, .pointer (some ⟨b3, 0, none⟩)), (4, .pointer (some ⟨b4, 0, none⟩)), (7, .pointer (some ⟨b7, 0, none⟩))] (Sat (Old w) w [cel b7 49 [.int .i64 q.left, .slice ax q.right.length cx], trow 51 2 encY (.slice ax q.right.length cx) q.right, cel b4 26 [.int .i64 s.op, .int .i64 s.a, .int .i64 s.b, .int .i64 s.c], cel b3 24 [.int .i64 g.terms, .int .i64 g.names, .slice (some p) g.rules.length c]])
 obtain ⟨hcx1, hcx2, hbx⟩ := hpre
 refine nx3 ?_
 refine OW_q (q_fieldAddr Try.underlying24 rfl rfl Try.sizeOf3 rfl rfl) rfl ?_
 refine OW_q (q_load1_own Try.isAgg3 rfl rfl swt (by rfl)) rfl ?_
 refine OW_q (q_build (ps := #[(1, .int .i64 g.names)]) (v := .agg #[.bool false, .int .i64 g.names]) rfl (fun w => by kernel_rfl)) rfl ?_
 refine OW_e (e_alloc Try.zeroValue51 rfl) rfl (fun b8 => ?_)
 refine OW_e0 (e_storeN Try.sizeOf51 rfl rfl rfl rfl (by simp [Value.oneCell']) swt (by rfl)) (fun _ => ?_)
 refine nx2 ?_
 refine CW_seq ?_
 refine nx3 ?_
 refine OW_q (q_fieldAddr Try.underlying26 rfl rfl Try.sizeOf3 rfl rfl) rfl ?_
 refine OW_q (q_load1_own Try.isAgg3 rfl rfl swt (by rfl)) rfl ?_
 refine nx2 ?_
 refine CW_block ?_
 refine nx3 ?_
 refine OW_q (q_eqi rfl rfl) rfl ?_
 refine aO ?_
 refine nx2 ?_
 refine CW_false rfl (by simp [hop]) ?_
 refine nx3 ?_
 refine OW_q (q_eqi rfl rfl) rfl ?_
 refine aO ?_
 refine nx2 ?_
 refine CW_false rfl (by simp [hop]) ?_
 refine nx3 ?_
 refine OW_q (q_eqi rfl rfl) rfl ?_
 refine aO ?_
 refine nx2 ?_
 refine CW_true rfl (by simp [hop]) ?_
 refine nx3 ?_
 refine mO ?_
 refine OW_q (q_fieldAddr Try.underlying26 rfl rfl Try.sizeOf3 rfl rfl) rfl ?_
 refine OW_q (q_load1_own Try.isAgg3 rfl rfl swt (by rfl)) rfl ?_
 refine OW_q (q_eqi rfl rfl) rfl ?_
 refine nx2 ?_
 refine CW_cond rfl (fun h106 => ?_) (fun h106 => ?_)
 · skip
   have hka : (k : Int) = s.a := by simpa using h106
   have hra : ruleAt g s.a = q := ruleAt_get (by rw [← hka]; exact hq)
   unfold inlB at hil
   rw [hra] at hb1 hil
   obtain ⟨y, hy⟩ := get_of_lt (l := q.right) (k := s.b.toNat) (by omega)
   obtain ⟨bx, rfl⟩ := hbx (by omega)
   refine nx3 ?_
   refine aO ?_
   refine nx2 ?_
   refine CW_seq ?_
   refine nx3 ?_
   refine aO ?_
   refine nx2 ?_
   refine CW_block ?_
   refine CW_weak (S' := Sat (Old w) w [rulesA (.slice none 0 0) [], symsA [], cel b8 51 [.bool false, .int .i64 g.names], cel b7 49 [.int .i64 q.left, .slice (some ⟨bx, 0, none⟩) q.right.length cx], trow 51 2 encY (.slice (some ⟨bx, 0, none⟩) q.right.length cx) q.right, cel b4 26 [.int .i64 s.op, .int .i64 s.a, .int .i64 s.b, .int .i64 s.c], cel b3 24 [.int .i64 g.terms, .int .i64 g.names, .slice (some p) g.rules.length c]]) (fun w hw => ((hw.tnil 49 2 encRV).addEmp (A := symsA []) rfl).sub sbt) ?_
   refine CW_loopP (ι := Nat × Value × List RV) (fun i_ => i_.1 ≤ g.rules.length ∧ plainR i_.2.2 = ((g.rules.take i_.1).filter (fun r => decide (r.left = y.n))).map (inlR q s.b.toNat)) (fun i_ => [(2, .int .i64 (k : Int)), (3, .pointer (some ⟨b3, 0, none⟩)), (4, .pointer (some ⟨b4, 0, none⟩)), (7, .pointer (some ⟨b7, 0, none⟩)), (8, .pointer (some ⟨b8, 0, none⟩)), (11, i_.2.1), (12, .int .i64 (i_.1 : Int))]) (fun i_ => Sat (Old w) w [rulesA i_.2.1 i_.2.2, symsA i_.2.2, cel b8 51 [.bool false, .int .i64 g.names], cel b7 49 [.int .i64 q.left, .slice (some ⟨bx, 0, none⟩) q.right.length cx], trow 51 2 encY (.slice (some ⟨bx, 0, none⟩) q.right.length cx) q.right, cel b4 26 [.int .i64 s.op, .int .i64 s.a, .int .i64 s.b, .int .i64 s.c], cel b3 24 [.int .i64 g.terms, .int .i64 g.names, .slice (some p) g.rules.length c]]) (fun i_ => g.rules.length - i_.1) (0, .slice none 0 0, []) ?_ ⟨rfl, rfl, rfl, rfl, rfl, rfl, rfl, trivial⟩ sft ?_
   · exact ⟨Nat.zero_le _, by simp [plainR]⟩
   intro i_ hpre
   obtain ⟨i, lv, lrs⟩ := i_
   replace hpre : i ≤ g.rules.length ∧ plainR lrs = ((g.rules.take i).filter (fun r => decide (r.left = y.n))).map (inlR q s.b.toNat) := hpre
   change CW _ _ _ _ [(2, .int .i64 (k : Int)), (3, .pointer (some ⟨b3, 0, none⟩)), (4, .pointer (some ⟨b4, 0, none⟩)), (7, .pointer (some ⟨b7, 0, none⟩)), (8, .pointer (some ⟨b8, 0, none⟩)), (11, lv), (12, .int .i64 (i : Int))] (Sat (Old w) w [rulesA lv lrs, symsA lrs, cel b8 51 [.bool false, .int .i64 g.names], cel b7 49 [.int .i64 q.left, .slice (some ⟨bx, 0, none⟩) q.right.length cx], trow 51 2 encY (.slice (some ⟨bx, 0, none⟩) q.right.length cx) q.right, cel b4 26 [.int .i64 s.op, .int .i64 s.a, .int .i64 s.b, .int .i64 s.c], cel b3 24 [.int .i64 g.terms, .int .i64 g.names, .slice (some p) g.rules.length c]])
   obtain ⟨hi, hlr⟩ := hpre
   have hll : lrs.length ≤ i := by have h1 := congrArg List.length hlr; have := List.length_filter_le (fun r : Rule => decide (r.left = y.n)) (g.rules.take i); unfold plainR at h1; rw [List.length_map, List.length_map] at h1; rw [List.length_take] at this; omega
   refine CW_seq ?_
   refine nx3 ?_
   refine mO ?_
   refine OW_q (q_fieldAddr Try.underlying24 rfl rfl Try.sizeOf22 rfl rfl) rfl ?_
   refine OW_q (q_load1_own Try.isAgg22 rfl rfl swt (by rfl)) rfl ?_
   refine OW_q (q_len Try.underlying22 rfl) rfl ?_
   refine OW_q (q_lss rfl rfl) rfl ?_
   refine nx2 ?_
   refine CW_cond rfl (fun h111 => ?_) (fun h111 => ?_)
   · skip
     have hli : i < g.rules.length := by have := of_decide_eq_true h111; omega
     obtain ⟨q2, hq2⟩ := get_of_lt hli
     have hq28 := (may_rule hm hq2).2.2
     obtain ⟨p', hp', rv2, hsy2, hrow2⟩ := hrs i q2 hq2
     cases hp'
     obtain ⟨ja, jc, rfl, _, _, _⟩ := id hsy2
     refine CW_skip ?_
     refine EW_then ?_
     refine CW_seq ?_
     refine CW_block ?_
     refine CW_seq ?_
     refine CW_drawS 14 [(0, false), (1, false), (2, false), (3, false), (4, false), (5, false), (6, false), (7, false), (8, false), (9, false), (10, false), (11, false), (12, false), (13, false)] (by kernel_rfl) (Blind.then (Blind.block (Blind.then (Blind.again (Blind.block (Blind.then (Blind.block (Blind.then Blind.bodyP)))))))) (by kernel_rfl) (fun w hw => hw.drew) ?_
     refine DW_q rfl sft (q_fieldAddr Try.underlying24 rfl rfl Try.sizeOf22 rfl rfl) rfl ?_
     refine DW_q rfl sft (q_load1_own Try.isAgg22 rfl rfl swt (by rfl)) rfl ?_
     refine mD ?_
     refine DW_q rfl sft (q_indexAddr Try.underlying22 Try.sizeOf49 rfl rfl (by omega)) rfl ?_
     refine DW_q rfl sft (q_fieldAddr Try.underlying49 rfl rfl Try.sizeOf3 rfl rfl) rfl ?_
     refine DW_q rfl sft (q_load1_ro Try.isAgg3 rfl (by exact Row.at0 hrow2)) rfl ?_
     refine DW_q rfl sft (q_fieldAddr Try.underlying49 rfl rfl Try.sizeOf46 rfl rfl) rfl ?_
     refine DW_q rfl sft (q_load1_own Try.isAgg46 rfl rfl swt (by rfl)) rfl ?_
     refine DW_q rfl sft (q_fieldAddr Try.underlying26 rfl rfl Try.sizeOf3 rfl rfl) rfl ?_
     refine DW_q rfl sft (q_load1_own Try.isAgg3 rfl rfl swt (by rfl)) rfl ?_
     refine DW_q rfl sft (q_indexAddrI Try.underlying46 Try.sizeOf51 rfl rfl (by omega) (by omega)) rfl ?_
     refine DW_q rfl sft (q_fieldAddr Try.underlying51 rfl rfl Try.sizeOf3 rfl rfl) rfl ?_
     refine DW_q rfl sft (q_load1_t (enc := encY) (k := s.b.toNat) (off := 1) (v := .slice (some ⟨bx, 0, none⟩) q.right.length cx) (l := q.right) Try.isAgg3 (fun _ => rfl) rfl swt rfl hy rfl) rfl ?_
     refine DW_q rfl sft (q_eqi rfl rfl) rfl ?_
     refine DW_nil ?_
     refine EW_then ?_
     refine CW_cond rfl (fun h127 => ?_) (fun h127 => ?_)
     · skip
       have hqy : q2.left = y.n := by simpa using h127
       refine nx3 ?_
       refine OW_q (q_fieldAddr Try.underlying49 rfl rfl Try.sizeOf46 rfl rfl) rfl ?_
       refine OW_q (q_load1_own Try.isAgg46 rfl rfl swt (by rfl)) rfl ?_
       refine OW_q (q_fieldAddr Try.underlying26 rfl rfl Try.sizeOf3 rfl rfl) rfl ?_
       refine OW_q (q_load1_own Try.isAgg3 rfl rfl swt (by rfl)) rfl ?_
       refine OW_spell 131 (.int .i64 ((s.b.toNat : Nat) : Int)) rfl (congrArg (Value.int .i64) (by omega)) ?_
       refine OW_q (q_slice Try.underlying46 Try.sizeOf51 rfl (.inl ⟨rfl, rfl⟩) (.inr ⟨_, rfl, rfl⟩) (by omega) (by omega) (by omega)) rfl ?_
       refine OW_e (e_call Try.call23 rfl (fun w hw => lift_old (copied_any _ (q.right.take s.b.toNat) w (by rw [List.length_take]; omega) (by have h9 := SlAt.sub (hw.symsIn (v := .slice (some ⟨bx, 0, none⟩) q.right.length cx) (l := q.right) swt) (lo := 0) (hi := s.b.toNat) (Nat.zero_le _) (by omega); rw [List.drop_zero] at h9; exact h9)) hw)) rfl (fun x133 => ?_)
       refine aO ?_
       refine nx4 ?_
       refine mO ?_
       refine OW_q (q_fieldAddr Try.underlying24 rfl rfl Try.sizeOf22 rfl rfl) rfl ?_
       refine OW_q (q_load1_own Try.isAgg22 rfl rfl swt (by rfl)) rfl ?_
       refine mO ?_
       refine OW_q (q_indexAddr Try.underlying22 Try.sizeOf49 rfl rfl (by omega)) rfl ?_
       refine OW_q (q_fieldAddr Try.underlying49 rfl rfl Try.sizeOf46 rfl rfl) rfl ?_
       refine OW_q (q_load1_ro Try.isAgg46 rfl (by exact hrow2.at_ (j := 1) rfl)) rfl ?_
       refine OW_e (e_appendG (enc := encY) (size := 2) (v := x133) (l := q.right.take s.b.toNat) (ys := q2.right) (sa := ja) (fun _ => rfl) Try.underlying46 Try.typeInfo51 rfl rfl rfl rfl rfl rfl rfl pkt (by rfl) (fun w hw => hw.vin (F := cel b4 26 [.int .i64 s.op, .int .i64 s.a, .int .i64 s.b, .int .i64 s.c]) swt (VIn.syms hsy2)) (encY_one _) (by simp only [List.length_take]; omega) (by decide)) rfl (fun v141 => ?_)
       refine aO ?_
       refine nx4 ?_
       refine mO ?_
       refine OW_q (q_fieldAddr Try.underlying49 rfl rfl Try.sizeOf46 rfl rfl) rfl ?_
       refine OW_q (q_load1_own Try.isAgg46 rfl rfl swt (by rfl)) rfl ?_
       refine OW_q (q_fieldAddr Try.underlying26 rfl rfl Try.sizeOf3 rfl rfl) rfl ?_
       refine OW_q (q_load1_own Try.isAgg3 rfl rfl swt (by rfl)) rfl ?_
       refine OW_q (q_add rfl rfl (by omega) (by omega)) rfl ?_
       refine OW_spell 147 (.int .i64 ((s.b.toNat + 1 : Nat) : Int)) rfl (congrArg (Value.int .i64) (by omega)) ?_
       refine OW_q (q_slice Try.underlying46 Try.sizeOf51 rfl (.inr ⟨_, rfl, rfl⟩) (.inl ⟨rfl, rfl⟩) (by omega) (by omega) (by omega)) rfl ?_
       refine OW_e (e_appendG (enc := encY) (size := 2) (v := v141) (l := q.right.take s.b.toNat ++ q2.right) (ys := q.right.drop (s.b.toNat + 1)) (sa := (if cx = s.b.toNat + 1 then some ⟨bx, 0, none⟩ else (some (⟨bx, 0, none⟩ : Addr)).map (·.add ((s.b.toNat + 1) * 2)))) (fun _ => rfl) Try.underlying46 Try.typeInfo51 rfl rfl rfl rfl rfl rfl rfl pkt (by simp only [List.length_drop]) (fun w hw => hw.tailIn (v := .slice (some ⟨bx, 0, none⟩) q.right.length cx) (l := q.right) (k := s.b.toNat + 1) swt rfl (by omega)) (encY_one _) (by simp only [List.length_append, List.length_take]; omega) (by decide)) rfl (fun v149 => ?_)
       refine OW_fact (fun w hw => hw.tform (v := v149) (l := (q.right.take s.b.toNat ++ q2.right ++ q.right.drop (s.b.toNat + 1))) (enc := encY) swt) (fun hf => ?_)
       obtain ⟨a149, c149, rfl, _, _, hb149⟩ := hf
       refine aO ?_
       refine nx2 ?_
       refine CW_region ?_
       refine mO ?_
       refine OW_q (q_fieldAddr Try.underlying49 rfl rfl Try.sizeOf3 rfl rfl) rfl ?_
       refine OW_q (q_load1_own Try.isAgg3 rfl rfl swt (by rfl)) rfl ?_
       refine mO ?_
       refine OW_q (q_build (ps := #[(0, .int .i64 q.left), (1, .slice a149 (q.right.take s.b.toNat ++ q2.right ++ q.right.drop (s.b.toNat + 1)).length c149)]) (v := .agg #[.int .i64 q.left, .slice a149 (q.right.take s.b.toNat ++ q2.right ++ q.right.drop (s.b.toNat + 1)).length c149]) rfl (fun w => by kernel_rfl)) rfl ?_
       refine OW_e (e_single Try.underlying22 Try.sizeOf49 Try.zeroValue49 (e := 49) rfl rfl rfl rfl (by decide) (by decide)) rfl (fun b155 => ?_)
       refine OW_e (e_append_t (x0 := (⟨⟨q.left, (q.right.take s.b.toNat ++ q2.right ++ q.right.drop (s.b.toNat + 1))⟩, .slice a149 (q.right.take s.b.toNat ++ q2.right ++ q.right.drop (s.b.toNat + 1)).length c149⟩ : RV)) (enc := encRV) (l := lrs) Try.underlying22 Try.typeInfo49 rfl rfl rfl rfl rfl rfl rfl pkt rfl (by exact fun w hw => hw.news swt) (by simp [Value.oneCell']) (by omega) (by decide)) rfl (fun v156 => ?_)
       refine aO ?_
       refine OW_nil ?_
       refine EW_block_normal ?_
       refine EW_then ?_
       refine CW_region ?_
       refine mO ?_
       refine OW_q (q_add rfl rfl (by omega) (by omega)) rfl ?_
       refine aO ?_
       refine OW_nil ?_
       refine EW_weak (S' := Sat (Old _) _ [rulesA v156 (lrs ++ [(⟨⟨q.left, (q.right.take s.b.toNat ++ q2.right ++ q.right.drop (s.b.toNat + 1))⟩, .slice a149 (q.right.take s.b.toNat ++ q2.right ++ q.right.drop (s.b.toNat + 1)).length c149⟩ : RV)]), symsA (lrs ++ [(⟨⟨q.left, (q.right.take s.b.toNat ++ q2.right ++ q.right.drop (s.b.toNat + 1))⟩, .slice a149 (q.right.take s.b.toNat ++ q2.right ++ q.right.drop (s.b.toNat + 1)).length c149⟩ : RV)]), cel b8 51 [.bool false, .int .i64 g.names], cel b7 49 [.int .i64 q.left, .slice (some ⟨bx, 0, none⟩) q.right.length cx], trow 51 2 encY (.slice (some ⟨bx, 0, none⟩) q.right.length cx) q.right, cel b4 26 [.int .i64 s.op, .int .i64 s.a, .int .i64 s.b, .int .i64 s.c], cel b3 24 [.int .i64 g.terms, .int .i64 g.names, .slice (some p) g.rules.length c]]) (fun w hw => by
         have h1 : Sat _ _ (symsA lrs :: symA (⟨⟨q.left, (q.right.take s.b.toNat ++ q2.right ++ q.right.drop (s.b.toNat + 1))⟩, .slice a149 (q.right.take s.b.toNat ++ q2.right ++ q.right.drop (s.b.toNat + 1)).length c149⟩ : RV) :: [rulesA v156 (lrs ++ [(⟨⟨q.left, (q.right.take s.b.toNat ++ q2.right ++ q.right.drop (s.b.toNat + 1))⟩, .slice a149 (q.right.take s.b.toNat ++ q2.right ++ q.right.drop (s.b.toNat + 1)).length c149⟩ : RV)]), cel b8 51 [.bool false, .int .i64 g.names], cel b7 49 [.int .i64 q.left, .slice (some ⟨bx, 0, none⟩) q.right.length cx], trow 51 2 encY (.slice (some ⟨bx, 0, none⟩) q.right.length cx) q.right, cel b4 26 [.int .i64 s.op, .int .i64 s.a, .int .i64 s.b, .int .i64 s.c], cel b3 24 [.int .i64 g.terms, .int .i64 g.names, .slice (some p) g.rules.length c]]) w := hw.sub sbt
         exact h1.symsPush.sub sbt) ?_
       refine EW_again ((i + 1, v156, lrs ++ [(⟨⟨q.left, (q.right.take s.b.toNat ++ q2.right ++ q.right.drop (s.b.toNat + 1))⟩, .slice a149 (q.right.take s.b.toNat ++ q2.right ++ q.right.drop (s.b.toNat + 1)).length c149⟩ : RV)])) ⟨?_, ?_⟩ ⟨rfl, rfl, rfl, rfl, rfl, rfl, rfl, trivial⟩ sft
       · show g.rules.length - (i + 1) < g.rules.length - i; omega
       · refine ⟨by show i + 1 ≤ _; omega, ?_⟩
         show plainR (lrs ++ [_]) = ((g.rules.take (i + 1)).filter _).map _
         rw [take_next hq2, List.filter_append, List.map_append, ← hlr]
         simp [plainR, hqy, inlR]
     have hqy : ¬ q2.left = y.n := by simpa using h127
     refine CW_skip ?_
     refine EW_block_normal ?_
     refine EW_then ?_
     refine CW_region ?_
     refine mO ?_
     refine OW_q (q_add rfl rfl (by omega) (by omega)) rfl ?_
     refine aO ?_
     refine OW_nil ?_
     refine EW_again ((i + 1, lv, lrs)) ⟨?_, ?_⟩ ⟨rfl, rfl, rfl, rfl, rfl, rfl, rfl, trivial⟩ sft
     · show g.rules.length - (i + 1) < g.rules.length - i; omega
     · refine ⟨by show i + 1 ≤ _; omega, ?_⟩
       show plainR lrs = ((g.rules.take (i + 1)).filter _).map _
       rw [take_next hq2, List.filter_append, List.map_append, ← hlr]
       simp [hqy]
   have hie : g.rules.length ≤ i := by have := of_decide_eq_false h111; omega
   refine CW_exit ?_
   refine EW_then_exit ?_
   refine EW_out ?_
   refine EW_block_exit ?_
   refine EW_then ?_
   refine nx3 ?_
   refine mO ?_
   refine aO ?_
   refine nx2 ?_
   refine CW_ret ?_
   refine EW_block_ret ?_
   refine EW_then_ret ?_
   refine ret1 Try.results22 rfl (fun w hw => ?_)
   refine ⟨(lv, lrs, [], []), rfl, ⟨(fun h => by omega), ?_⟩, hw.sub sbt⟩
   unfold oneR
   rw [if_neg (by omega), if_neg (by omega), if_pos hop, if_pos hka, hlr, List.take_of_length_le hie]
   unfold inlL
   rw [hra, hy]
   simp
 have hka : ¬ (k : Int) = s.a := by simpa using h106
 refine CW_skip ?_
 refine EW_block_normal ?_
 refine EW_then ?_
 refine nx3 ?_
 refine OW_q (q_loadN_own Try.isAgg49 Try.sizeOf49 rfl rfl swt (by rfl)) rfl ?_
 refine OW_e (e_single Try.underlying22 Try.sizeOf49 Try.zeroValue49 (e := 49) rfl rfl rfl rfl (by decide) (by decide)) rfl (fun b229 => ?_)
 refine aO ?_
 refine nx2 ?_
 refine CW_ret ?_
 refine ret1 Try.results22 rfl (fun w hw => ?_)
 refine ⟨(.slice (some ⟨b229, 0, none⟩) 1 1, [⟨⟨q.left, q.right⟩, .slice ax q.right.length cx⟩], [], []), rfl, ⟨(fun h => by omega), ?_⟩, ?_⟩
 · unfold oneR; rw [if_neg (by omega), if_neg (by omega), if_pos hop, if_neg hka]; rfl
 · have h1 : Sat (Old _) _ [cel b229 49 [.int .i64 q.left, .slice ax q.right.length cx], trow 51 2 encY (.slice ax q.right.length cx) q.right] w := hw.sub sbt
   exact h1.oneRule

end Go.Sy
/- step.Do. No condition. -/
namespace Go.Sy
open Go Go.RowKit Go.Proofs

theorem mayS_op {g : Gram} {s : SStep} (h : mayS g s = true) : s.op = 1 ∨ s.op = 2 ∨ s.op = 3 ∨ s.op = 4 ∨ s.op = 5 := by
 unfold mayS at h
 split at h
 · omega
 split at h
 · omega
 split at h
 · omega
 split at h
 · omega
 split at h
 · omega
 · cases h
theorem change_any (gv : Value) (g : Gram) (s : SStep) (w : World) (hm : mayB g = true) (hs : mayS g s = true) (hg : GramAt (Cl w) gv g) : Calls Try.prog 20 #[gv, stepV s] w (fun e w' => ∃ x : Value × List RV × List Bool × List Bool, e = .returned (.agg #[.int .i64 g.terms, .int .i64 (stepG g s x.2.2.1 x.2.2.2).names, x.1]) ∧ ((s.op = 5 → MksOk g x.2.2.1 ∧ CmsOk g x.2.2.2) ∧ plainR x.2.1 = (stepG g s x.2.2.1 x.2.2.2).rules) ∧ Sat (Old w) w [rulesA x.1 x.2.1, symsA x.2.1] w') := by
 rcases mayS_op hs with h | h | h | h | h
 · exact change1_any gv g s w hm hs h hg
 · exact change2_any gv g s w hm hs h hg
 · exact change3_any gv g s w hm hs h hg
 · exact change4_any gv g s w hm hs h hg
 · exact change5_any gv g s w hm hs h hg
theorem stepG_terms (g : Gram) (s : SStep) (ms cs : List Bool) : (stepG g s ms cs).terms = g.terms := by
 unfold stepG
 split
 · rfl
 split
 · rfl
 split
 · rfl
 split <;> rfl
def noneG : Gram := ⟨0, 0, []⟩
/-- What comes of a step: the grammar, and what is wrong. -/
def DoOk (g : Gram) (s : SStep) (h : Gram) (e : Int) : Prop :=
 ((mayB g && mayS g s) = false → e = 2 ∧ h = noneG) ∧ (mayB g = true → mayS g s = true → ∃ ms cs, (s.op = 5 → MksOk g ms ∧ CmsOk g cs) ∧ (mayB (stepG g s ms cs) = true → e = 0 ∧ h = stepG g s ms cs) ∧ (mayB (stepG g s ms cs) = false → e = 1 ∧ h = noneG))
set_option maxRecDepth 20000 in
theorem do_any (gv : Value) (g : Gram) (s : SStep) (w : World) (hg : GramAt (Cl w) gv g) : Calls Try.prog 8 #[gv, stepV s] w (fun e w' => ∃ x : Value × Gram × List RV × Int, e = .returned (.tuple #[.agg #[.int .i64 x.2.1.terms, .int .i64 x.2.1.names, x.1], .int .i64 x.2.2.2]) ∧ (DoOk g s x.2.1 x.2.2.2 ∧ plainR x.2.2.1 = x.2.1.rules) ∧ Sat (Old w) w [rulesA x.1 x.2.2.1, symsA x.2.2.1] w') := by
 have hg0 := hg
 obtain ⟨rv, rfl, hr⟩ := hg.mono old_rd
 obtain ⟨a, c, rfl, hc1, hc2, hrs⟩ := id hr
 clear hg
 refine calls_CW Try.func8 rfl Try.ntmps8 rfl (Sat.start w) ?_
 refine nx3 ?_
 refine OW_e (e_box rfl rfl) rfl (fun b2 => ?_)
 refine OW_e (e_box rfl rfl) rfl (fun b3 => ?_)
 refine OW_e (e_alloc Try.zeroValue24 rfl) rfl (fun b4 => ?_)
 refine aO ?_
 refine nx2 ?_
 refine CW_seq ?_
 refine nx3 ?_
 refine OW_q (q_loadN_own Try.isAgg24 Try.sizeOf24 rfl rfl swt (by rfl)) rfl ?_
 refine OW_e (e_call Try.call14 rfl (fun w hw => lift_ro (may_any _ g w (hg0.mono (fun _ _ h => hw.rd (Rd.old h)))) hw)) rfl (fun x8 => ?_)
 refine OW_q (q_not rfl) rfl ?_
 refine mO ?_
 refine OW_part (t := 10) rfl (fun hg10 => ?_) (fun hg10 => ?_)
 · skip
   have hm : mayB g = false := by simpa using hg10
   refine kO ?_
   refine kO ?_
   refine kO ?_
   refine kO ?_
   refine OW_q (q_pick_t rfl rfl) rfl ?_
   refine nx2 ?_
   refine CW_true rfl rfl ?_
   refine nx3 ?_
   refine OW_q (q_build (ps := #[]) (v := .agg #[.int .i64 0, .int .i64 0, .slice none 0 0]) rfl (fun w => by kernel_rfl)) rfl ?_
   refine OW_e0 (e_storeN Try.sizeOf24 rfl rfl rfl rfl (by simp [Value.oneCell']) swt (by rfl)) (fun _ => ?_)
   refine aO ?_
   refine nx2 ?_
   refine CW_ret ?_
   refine EW_then_ret ?_
   refine retc2 (vs := [.int .i64 0, .int .i64 0, .slice none 0 0]) Try.results8 Try.isAgg24 Try.sizeOf24 rfl rfl (fun w hw j u hj => by rw [Addr.add_lit, hw.cell (t := 24) (cs := [.int .i64 0, .int .i64 0, .slice none 0 0]) (A' := cel b4 24 [.int .i64 0, .int .i64 0, .slice none 0 0]) swt, Nat.zero_add]; exact hj) rfl (fun w hw => ?_)
   exact ⟨(.slice none 0 0, noneG, [], 2), rfl, ⟨⟨fun _ => ⟨rfl, rfl⟩, (fun h => by rw [hm] at h; cases h)⟩, rfl⟩, ((hw.tnil 49 2 encRV).addEmp (A := symsA []) rfl).sub sbt⟩
 have hm : mayB g = true := by simpa using hg10
 refine wO ?_
 refine OW_q (q_loadN_own Try.isAgg24 Try.sizeOf24 rfl rfl swt (by rfl)) rfl ?_
 refine wO ?_
 refine OW_q (q_loadN_own Try.isAgg26 Try.sizeOf26 rfl rfl swt (by rfl)) rfl ?_
 refine wO ?_
 refine OW_e (e_call Try.call19 rfl (fun w hw => lift_ro (mayS_any _ g s w hm (hg0.mono (fun _ _ h => hw.rd (Rd.old h)))) hw)) rfl (fun x13 => ?_)
 refine wO ?_
 refine OW_q (q_not rfl) rfl ?_
 refine OW_q (q_pick_f rfl rfl) rfl ?_
 refine nx2 ?_
 refine CW_cond rfl (fun h15 => ?_) (fun h15 => ?_)
 · skip
   have hms : mayS g s = false := by simpa using h15
   refine nx3 ?_
   refine OW_q (q_build (ps := #[]) (v := .agg #[.int .i64 0, .int .i64 0, .slice none 0 0]) rfl (fun w => by kernel_rfl)) rfl ?_
   refine OW_e0 (e_storeN Try.sizeOf24 rfl rfl rfl rfl (by simp [Value.oneCell']) swt (by rfl)) (fun _ => ?_)
   refine aO ?_
   refine nx2 ?_
   refine CW_ret ?_
   refine EW_then_ret ?_
   refine retc2 (vs := [.int .i64 0, .int .i64 0, .slice none 0 0]) Try.results8 Try.isAgg24 Try.sizeOf24 rfl rfl (fun w hw j u hj => by rw [Addr.add_lit, hw.cell (t := 24) (cs := [.int .i64 0, .int .i64 0, .slice none 0 0]) (A' := cel b4 24 [.int .i64 0, .int .i64 0, .slice none 0 0]) swt, Nat.zero_add]; exact hj) rfl (fun w hw => ?_)
   exact ⟨(.slice none 0 0, noneG, [], 2), rfl, ⟨⟨fun _ => ⟨rfl, rfl⟩, (fun _ h => by rw [hms] at h; cases h)⟩, rfl⟩, ((hw.tnil 49 2 encRV).addEmp (A := symsA []) rfl).sub sbt⟩
 have hms : mayS g s = true := by simpa using h15
 refine CW_skip ?_
 refine EW_then ?_
 refine nx3 ?_
 refine OW_q (q_loadN_own Try.isAgg24 Try.sizeOf24 rfl rfl swt (by rfl)) rfl ?_
 refine OW_q (q_loadN_own Try.isAgg26 Try.sizeOf26 rfl rfl swt (by rfl)) rfl ?_
 refine OW_e (e_call Try.call20 rfl (fun w hw => lift_oldP (change_any _ g s w hm hms (hg0.mono (fun _ _ h => hw.rd (Rd.old h)))) hw)) rfl (fun x19 => ?_)
 refine OW_pure fun hx19 => ?_
 obtain ⟨ov, rs, ms, cs⟩ := x19
 obtain ⟨h5, hrl⟩ := hx19
 have hrl : plainR rs = (stepG g s ms cs).rules := hrl
 refine OW_fact (fun w hw => hw.tform (v := ov) (l := rs) (enc := encRV) swt) (fun hf => ?_)
 obtain ⟨ao, co, rfl, _, _, hbo⟩ := hf
 refine OW_spell 19 (.agg #[.int .i64 g.terms, .int .i64 (stepG g s ms cs).names, .slice ao rs.length co]) rfl rfl ?_
 refine OW_e (e_alloc Try.zeroValue24 rfl) rfl (fun b6 => ?_)
 refine OW_e0 (e_storeN Try.sizeOf24 rfl rfl rfl rfl (by simp [Value.oneCell']) swt (by rfl)) (fun _ => ?_)
 refine nx2 ?_
 refine CW_seq ?_
 refine nx3 ?_
 refine OW_q (q_loadN_own Try.isAgg24 Try.sizeOf24 rfl rfl swt (by rfl)) rfl ?_
 refine OW_e (e_call Try.call14 rfl (fun w hw => lift_ro (may_any _ (⟨g.terms, (stepG g s ms cs).names, plainR rs⟩ : Gram) w (hw.gramIn swt swt)) hw)) rfl (fun x21 => ?_)
 refine OW_q (q_not rfl) rfl ?_
 refine nx2 ?_
 refine CW_cond rfl (fun h22 => ?_) (fun h22 => ?_)
 · skip
   have he : (⟨g.terms, (stepG g s ms cs).names, plainR rs⟩ : Gram) = stepG g s ms cs := by rw [hrl, ← stepG_terms g s ms cs]
   have hmo : mayB (stepG g s ms cs) = false := by rw [← he]; simpa using h22
   refine nx3 ?_
   refine OW_q (q_build (ps := #[]) (v := .agg #[.int .i64 0, .int .i64 0, .slice none 0 0]) rfl (fun w => by kernel_rfl)) rfl ?_
   refine OW_e0 (e_storeN Try.sizeOf24 rfl rfl rfl rfl (by simp [Value.oneCell']) swt (by rfl)) (fun _ => ?_)
   refine aO ?_
   refine nx2 ?_
   refine CW_ret ?_
   refine EW_then_ret ?_
   refine retc2 (vs := [.int .i64 0, .int .i64 0, .slice none 0 0]) Try.results8 Try.isAgg24 Try.sizeOf24 rfl rfl (fun w hw j u hj => by rw [Addr.add_lit, hw.cell (t := 24) (cs := [.int .i64 0, .int .i64 0, .slice none 0 0]) (A' := cel b4 24 [.int .i64 0, .int .i64 0, .slice none 0 0]) swt, Nat.zero_add]; exact hj) rfl (fun w hw => ?_)
   exact ⟨(.slice none 0 0, noneG, [], 1), rfl, ⟨⟨(fun h => by rw [hm, hms] at h; cases h), fun _ _ => ⟨ms, cs, h5, (fun h => by rw [hmo] at h; cases h), fun _ => ⟨rfl, rfl⟩⟩⟩, rfl⟩, ((hw.tnil 49 2 encRV).addEmp (A := symsA []) rfl).sub sbt⟩
 have he : (⟨g.terms, (stepG g s ms cs).names, plainR rs⟩ : Gram) = stepG g s ms cs := by rw [hrl, ← stepG_terms g s ms cs]
 have hmo : mayB (stepG g s ms cs) = true := by rw [← he]; simpa using h22
 refine CW_skip ?_
 refine EW_then ?_
 refine nx3 ?_
 refine OW_q (q_loadN_own Try.isAgg24 Try.sizeOf24 rfl rfl swt (by rfl)) rfl ?_
 refine OW_e0 (e_storeN Try.sizeOf24 rfl rfl rfl rfl (by simp [Value.oneCell']) swt (by rfl)) (fun _ => ?_)
 refine aO ?_
 refine nx2 ?_
 refine CW_ret ?_
 refine retc2 (vs := [.int .i64 g.terms, .int .i64 (stepG g s ms cs).names, .slice ao rs.length co]) Try.results8 Try.isAgg24 Try.sizeOf24 rfl rfl (fun w hw j u hj => by rw [Addr.add_lit, hw.cell (t := 24) (cs := [.int .i64 g.terms, .int .i64 (stepG g s ms cs).names, .slice ao rs.length co]) (A' := cel b4 24 [.int .i64 g.terms, .int .i64 (stepG g s ms cs).names, .slice ao rs.length co]) swt, Nat.zero_add]; exact hj) rfl (fun w hw => ?_)
 refine ⟨(.slice ao rs.length co, stepG g s ms cs, rs, 0), by simp only [stepG_terms], ⟨⟨(fun h => by rw [hm, hms] at h; cases h), fun _ _ => ⟨ms, cs, h5, fun _ => ⟨rfl, rfl⟩, (fun h => by rw [hmo] at h; cases h)⟩⟩, hrl⟩, hw.sub sbt⟩

end Go.Sy
