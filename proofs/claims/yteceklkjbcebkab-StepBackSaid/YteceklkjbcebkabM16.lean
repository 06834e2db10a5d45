/- Walks and plain laws, part 16. No condition. -/
import Derived.Test.YteceklkjbcebkabM15
/- A tree, carried back where a name was put in. No condition. -/
namespace Go.Sy
open Go Go.RowKit Go.Proofs
set_option maxRecDepth 20000 in
theorem bck3_any (g : Gram) (s : SStep) (ls : List Nat) (hm : mayB g = true) (hs : mayS g s = true) (h : Gram) (hmh : mayB h = true) (hop : s.op = 3) (hls : ls = ofL g.rules ((ruleAt g s.a).right.getD s.b.toNat ⟨false, 0⟩).n) (hh : ∀ j k r, ls[j]? = some k → g.rules[k]? = some r → h.rules[s.a.toNat + j]? = some (inlR (ruleAt g s.a) s.b.toNat r)) : ∀ (N : Nat) (x : Int) (ks : For) (b cb : Nat) (w : World), (For.cons x ks .nil).size ≤ N → N ≤ 5000 → CarAt (Cl w) cb g s ls → KidsAt (Cl w) (.cons x ks .nil) [b] → Wf h (.cons x ks .nil) → Calls Try.prog 44 #[.pointer (some ⟨cb, 0, none⟩), .pointer (some ⟨b, 0, none⟩)] w (fun e w' => ∃ b' : Nat, e = .returned (.pointer (some ⟨b', 0, none⟩)) ∧ Sat (Old w) w [kidsA ((bk3 s.a (nms ((ruleAt g s.a).right.take s.b.toNat)) ls (kn8 g)) (.cons x ks .nil)) [b']] w') := by
 intro N
 refine Nat.strongRecOn N ?_
 clear N
 intro N ih x ks b cb w hsz hN hc0 hk0 hwf
 obtain ⟨rv, lv, hcar, hrr, hll⟩ := (hc0.mono old_rd).ex
 obtain ⟨ar, cr, rfl, hr1, hr2, hrs⟩ := hrr
 obtain ⟨al, cl, rfl, hl1, hl2, hls1⟩ := hll
 rw [show (natV ls).length = ls.length by rw [List.length_map]] at hcar hl1
 obtain ⟨ak, kb, ck, hrow, hk1, hk2, hkb, hks⟩ := kids_top (hk0.mono old_rd)
 obtain ⟨⟨q, yq, hx0, hq, hdq⟩, _⟩ := id hwf
 have hwks9 := der_wf hdq
 have hxl := (List.getElem?_eq_some_iff.1 hq).1
 have hq8 := (may_rule hmh hq).2.2
 have hks8 : kb.length ≤ 8 := by rw [KidsAt.len hks, der_len hdq]; exact Nat.le_trans (nms_le _) hq8
 have hM := mayB_true.1 hm
 obtain ⟨ha0, hb0, qa, y0, hqa, hya, hyt, hyn, hra, hry0⟩ := may_inl hm hs hop
 rw [hry0] at hls
 rw [hra] at hh
 have hlsl : ls.length ≤ g.rules.length := by rw [hls]; exact ofLk_len _ _ _
 have hbl5 := (List.getElem?_eq_some_iff.1 hya).1
 have hMh := mayB_true.1 hmh
 obtain ⟨pqa, hpqa, rvq, hsy, hrowq⟩ := hrs s.a.toNat qa hqa
 subst hpqa
 obtain ⟨ya, yc, rfl, hy1, hy2, hys⟩ := id hsy
 have hqal := (List.getElem?_eq_some_iff.1 hqa).1
 have hqa8 := (may_rule hm hqa).2.2
 
 refine calls_CW Try.func44 rfl Try.ntmps44 rfl (Sat.start w) ?_
 refine nx3 ?_
 refine aO ?_
 refine nx2 ?_
 refine CW_seq ?_
 refine CW_seq ?_
 refine CW_draw (Sat (Old w) w []) 26 [(0, false), (1, false), (2, false), (3, false), (4, false), (5, false), (6, false), (7, false), (8, false), (9, false), (10, false), (11, false), (12, false), (13, false), (14, false), (15, false), (16, false), (17, false), (18, false), (19, false), (20, false), (21, false), (22, false), (23, false), (24, false), (25, false)] (by kernel_rfl) (Blind.then (Blind.then (Blind.body (by intro c w h; simp at h)))) (by kernel_rfl) (fun w hw => hw.drew) ?_
 refine mD ?_
 refine DW_q rfl sft (q_nilCheck rfl) rfl ?_
 refine DW_q rfl sft (q_fieldAddr Try.underlying96 rfl rfl Try.sizeOf26 rfl rfl) rfl ?_
 refine DW_q rfl sft (q_fieldAddr Try.underlying26 rfl rfl Try.sizeOf3 rfl rfl) rfl ?_
 refine DW_q rfl sft (q_load1_ro Try.isAgg3 rfl (by exact hcar.at_ (j := 3) rfl)) rfl ?_
 refine DW_q rfl sft (q_eqi rfl rfl) rfl ?_
 refine mD ?_
 refine DW_part (t := 20) rfl (fun hg20 => ?_) (fun hg20 => ?_)
 · skip
   exact absurd hg20 (by simp [hop]) --stop
 refine kD ?_
 refine kD ?_
 refine kD ?_
 refine kD ?_
 refine kD ?_
 refine kD ?_
 refine kD ?_
 refine kD ?_
 refine kD ?_
 refine kD ?_
 refine kD ?_
 refine kD ?_
 refine kD ?_
 refine kD ?_
 refine kD ?_
 refine kD ?_
 refine kD ?_
 refine kD ?_
 refine DW_q rfl sft (q_pick_f rfl rfl) rfl ?_
 refine DW_nil ?_
 refine EW_then ?_
 refine CW_false rfl rfl ?_
 refine CW_skip ?_
 refine EW_then ?_
 refine nx3 ?_
 refine mO ?_
 refine OW_q (q_nilCheck rfl) rfl ?_
 refine OW_q (q_fieldAddr Try.underlying99 rfl rfl Try.sizeOf3 rfl rfl) rfl ?_
 refine OW_q (q_load1_ro Try.isAgg3 rfl (by exact hrow.at_ (j := 0) rfl)) rfl ?_
 refine aO ?_
 refine aO ?_
 refine nx2 ?_
 refine CW_seq ?_
 refine nx3 ?_
 refine mO ?_
 refine OW_q (q_nilCheck rfl) rfl ?_
 refine OW_q (q_fieldAddr Try.underlying96 rfl rfl Try.sizeOf26 rfl rfl) rfl ?_
 refine OW_q (q_fieldAddr Try.underlying26 rfl rfl Try.sizeOf3 rfl rfl) rfl ?_
 refine OW_q (q_load1_ro Try.isAgg3 rfl (by exact hcar.at_ (j := 3) rfl)) rfl ?_
 refine nx2 ?_
 refine CW_block ?_
 refine nx3 ?_
 refine OW_q (q_eqi rfl rfl) rfl ?_
 refine aO ?_
 refine nx2 ?_
 refine CW_true rfl (by simp [hop]) ?_
 refine CW_block ?_
 refine CW_seq ?_
 refine CW_draw (Sat (Old w) w []) 17 [(0, false), (1, false), (2, false), (3, false), (4, false), (5, false), (6, false), (7, false), (8, false), (9, false), (10, false), (11, false), (12, false), (13, false), (14, false), (15, false), (16, false)] (by kernel_rfl) (Blind.then (Blind.block (Blind.block (Blind.then (Blind.body (by intro c w h; simp at h)))))) (by kernel_rfl) (fun w hw => hw.drew) ?_
 refine mD ?_
 refine DW_q rfl sft (q_nilCheck rfl) rfl ?_
 refine DW_q rfl sft (q_fieldAddr Try.underlying99 rfl rfl Try.sizeOf3 rfl rfl) rfl ?_
 refine DW_q rfl sft (q_load1_ro Try.isAgg3 rfl (by exact hrow.at_ (j := 0) rfl)) rfl ?_
 refine mD ?_
 refine DW_q rfl sft (q_nilCheck rfl) rfl ?_
 refine DW_q rfl sft (q_fieldAddr Try.underlying96 rfl rfl Try.sizeOf26 rfl rfl) rfl ?_
 refine DW_q rfl sft (q_fieldAddr Try.underlying26 rfl rfl Try.sizeOf3 rfl rfl) rfl ?_
 refine DW_q rfl sft (q_load1_ro Try.isAgg3 rfl (by exact hcar.at_ (j := 4) rfl)) rfl ?_
 refine mD ?_
 refine DW_q rfl sft (q_nilCheck rfl) rfl ?_
 refine DW_q rfl sft (q_fieldAddr Try.underlying96 rfl rfl Try.sizeOf32 rfl rfl) rfl ?_
 refine DW_q rfl sft (q_load1_ro Try.isAgg32 rfl (by exact hcar.at_ (j := 8) rfl)) rfl ?_
 refine DW_q rfl sft (q_len Try.underlying32 rfl) rfl ?_
 refine DW_q rfl sft (q_add rfl rfl (by omega) (by omega)) rfl ?_
 refine DW_q rfl sft (q_geq rfl rfl) rfl ?_
 refine DW_q rfl sft (q_assign rfl) rfl ?_
 refine DW_nil ?_
 refine EW_then ?_
 refine CW_cond rfl (fun h54 => ?_) (fun h54 => ?_)
 · skip
   have hxhi : s.a + (ls.length : Int) ≤ x := of_decide_eq_true h54
   refine CW_draw (Sat (Old w) w []) 12 [(0, false), (1, false), (2, false), (3, false), (4, false), (5, false), (6, false), (7, false), (8, false), (9, false), (10, false), (11, false)] (by kernel_rfl) (Blind.block (Blind.block (Blind.then (Blind.body (by intro c w h; simp at h))))) (by kernel_rfl) (fun w hw => hw.drew) ?_
   refine mD ?_
   refine DW_q rfl sft (q_nilCheck rfl) rfl ?_
   refine DW_q rfl sft (q_fieldAddr Try.underlying99 rfl rfl Try.sizeOf3 rfl rfl) rfl ?_
   refine DW_q rfl sft (q_load1_ro Try.isAgg3 rfl (by exact hrow.at_ (j := 0) rfl)) rfl ?_
   refine mD ?_
   refine DW_q rfl sft (q_nilCheck rfl) rfl ?_
   refine DW_q rfl sft (q_fieldAddr Try.underlying96 rfl rfl Try.sizeOf32 rfl rfl) rfl ?_
   refine DW_q rfl sft (q_load1_ro Try.isAgg32 rfl (by exact hcar.at_ (j := 8) rfl)) rfl ?_
   refine DW_q rfl sft (q_len Try.underlying32 rfl) rfl ?_
   refine DW_q rfl sft (q_sub rfl rfl (by omega) (by omega)) rfl ?_
   refine DW_q rfl sft (q_add rfl rfl (by omega) (by omega)) rfl ?_
   refine DW_q rfl sft (q_assign rfl) rfl ?_
   refine DW_nil ?_
   refine EW_block_normal ?_
   refine EW_block_normal ?_
   refine EW_then ?_
   refine CW_seq ?_
   obtain ⟨X, hX⟩ : ∃ X : Int, X = x - (ls.length : Int) + 1 := ⟨_, rfl⟩
   obtain ⟨J, hJ⟩ : ∃ J : Int, J = -1 := ⟨_, rfl⟩
   refine CW_spell 5 (.int .i64 X) rfl (by rw [hX]) ?_
   refine CW_spell 6 (.int .i64 J) rfl (by rw [hJ]) ?_
   refine CW_region ?_
   refine mO ?_
   refine OW_q (q_build (ps := #[(0, .int .i64 X)]) (v := .agg #[.int .i64 X, .slice none 0 0]) rfl (fun w => by kernel_rfl)) rfl ?_
   refine OW_e (e_box rfl rfl) rfl (fun b128 => ?_)
   refine aO ?_
   refine nx2 ?_
   refine CW_seq ?_
   refine nx3 ?_
   refine mO ?_
   refine OW_q (q_nilCheck rfl) rfl ?_
   refine OW_q (q_fieldAddr Try.underlying99 rfl rfl Try.sizeOf97 rfl rfl) rfl ?_
   refine OW_q (q_load1_ro Try.isAgg97 rfl (by exact hrow.at_ (j := 1) rfl)) rfl ?_
   refine OW_q (q_len Try.underlying97 rfl) rfl ?_
   refine mO ?_
   refine nx2 ?_
   refine CW_block ?_
   refine CW_weak (S' := Sat (Old w) w [cel b128 99 [vi X, .slice none 0 0], trow 80 1 encP (.slice none 0 0) [], kidsA ((bk3 s.a (nms ((ruleAt g s.a).right.take s.b.toNat)) ls (kn8 g)) .nil) []]) (fun w hw => by
     have h1 := (hw.tnil 80 1 encP).addEmp (A := kidsA ((bk3 s.a (nms ((ruleAt g s.a).right.take s.b.toNat)) ls (kn8 g)) .nil) []) ⟨rfl, rfl⟩
     exact h1.sub sbt) ?_
   refine CW_loopP (ι := Nat × For × For × List Nat × List Nat × Value × List Nat) (fun i_ => i_.1 ≤ kb.length ∧ ks = i_.2.1.app i_.2.2.1 ∧ kb = i_.2.2.2.1 ++ i_.2.2.2.2.1 ∧ i_.2.2.2.1.length = i_.1 ∧ KidsAt (Rd (Old w) w) i_.2.2.1 i_.2.2.2.2.1 ∧ Wf h i_.2.2.1 ∧ i_.2.2.2.2.2.2.length = i_.1) (fun i_ => [(0, .pointer (some ⟨cb, 0, none⟩)), (1, .pointer (some ⟨b, 0, none⟩)), (6, .int .i64 J), (7, .pointer (some ⟨b128, 0, none⟩)), (132, .slice ak kb.length ck), (133, .int .i64 (kb.length : Int)), (134, .int .i64 (i_.1 : Int))]) (fun i_ => Sat (Old w) w [cel b128 99 [vi X, i_.2.2.2.2.2.1], trow 80 1 encP i_.2.2.2.2.2.1 i_.2.2.2.2.2.2, kidsA ((bk3 s.a (nms ((ruleAt g s.a).right.take s.b.toNat)) ls (kn8 g)) i_.2.1) i_.2.2.2.2.2.2]) (fun i_ => kb.length - i_.1) (0, .nil, ks, [], kb, .slice none 0 0, []) ?_ ⟨rfl, rfl, rfl, rfl, rfl, rfl, rfl, trivial⟩ sft ?_
   · exact ⟨Nat.zero_le _, rfl, rfl, rfl, hks, hwks9, rfl⟩
   intro i_ hpre
   obtain ⟨k, fd, fr, bd, br, v, nb⟩ := i_
   replace hpre : k ≤ kb.length ∧ ks = fd.app fr ∧ kb = bd ++ br ∧ bd.length = k ∧ KidsAt (Rd (Old w) w) fr br ∧ Wf h fr ∧ nb.length = k := hpre
   change CW _ _ _ _ [(0, .pointer (some ⟨cb, 0, none⟩)), (1, .pointer (some ⟨b, 0, none⟩)), (6, .int .i64 J), (7, .pointer (some ⟨b128, 0, none⟩)), (132, .slice ak kb.length ck), (133, .int .i64 (kb.length : Int)), (134, .int .i64 (k : Int))] (Sat (Old w) w [cel b128 99 [vi X, v], trow 80 1 encP v nb, kidsA ((bk3 s.a (nms ((ruleAt g s.a).right.take s.b.toNat)) ls (kn8 g)) fd) nb])
   obtain ⟨hk, hfd, hbd, hbl, hkr, hwfr, hnb⟩ := hpre
   refine nx3 ?_
   refine OW_q (q_lss rfl rfl) rfl ?_
   refine nx2 ?_
   refine CW_seq ?_
   refine CW_cond rfl (fun h135 => ?_) (fun h135 => ?_)
   · skip
     have hlt : k < kb.length := by have := of_decide_eq_true h135; omega
     obtain ⟨b1, br2, rfl⟩ : ∃ b1 br2, br = b1 :: br2 := by
       cases br with
       | nil => rw [List.append_nil] at hbd; rw [hbd] at hlt; omega
       | cons b1 br2 => exact ⟨b1, br2, rfl⟩
     have hbk : kb[k]? = some b1 := by rw [hbd, List.getElem?_append_right (by omega), hbl, Nat.sub_self]; rfl
     obtain ⟨p1, hp1, hb1⟩ := hkb k b1 hbk
     subst hp1
     obtain ⟨xk, kk, fr2, rfl, hkk, hk2'⟩ := kids_cons hkr
     have hkl := KidsAt.len hks
     have hks5 := kid_size (x := x) hfd
     have hls5 := len_size (ks)
     refine CW_skip ?_
     refine EW_then ?_
     refine CW_seq ?_
     refine CW_block ?_
     refine nx3 ?_
     refine OW_q (q_indexAddr Try.underlying97 Try.sizeOf80 rfl rfl (by omega)) rfl ?_
     refine OW_q (q_load1_ro Try.isAgg80 rfl (by exact hb1)) rfl ?_
     refine aO ?_
     refine nx2 ?_
     refine CW_draw (Sat (Old w) w [cel b128 99 [vi X, v]]) 12 [(0, false), (1, false), (2, false), (3, false), (4, false), (5, false), (6, false), (7, true), (8, true), (9, true), (10, false), (11, false), (12, true)] (by kernel_rfl) (Blind.block (Blind.then (Blind.again (Blind.block (Blind.then (Blind.body (by intro c w h; simp at h))))))) (by kernel_rfl) (fun w hw => hw.drew) ?_
     refine mD ?_
     refine mD ?_
     refine DW_q rfl sft (q_nilCheck rfl) rfl ?_
     refine DW_q rfl sft (q_fieldAddr Try.underlying99 rfl rfl Try.sizeOf97 rfl rfl) rfl ?_
     refine DW_q rfl sft (q_load1_own Try.isAgg97 rfl rfl swt (by rfl)) rfl ?_
     refine mD ?_
     refine mD ?_
     refine DW_e rfl (e_call Try.call44 rfl (fun w hw => lift_old (ih (For.cons xk kk .nil).size (by omega) xk kk b1 cb w (Nat.le_refl _) (by omega) (hc0.mono fun _ _ h => hw.rd (Rd.old h)) (hkk.mono hw.rd_cl) ⟨hwfr.1, trivial⟩) hw)) rfl (fun _ w hw => by first | exact hw.sub sbt | exact hw.2.sub sbt) (fun x145 => ?_)
     refine DW_e rfl (e_single Try.underlying97 Try.sizeOf80 Try.zeroValue80 (e := 80) (v := .pointer (some ⟨x145, 0, none⟩)) (cs := encP x145) rfl rfl rfl rfl (by decide) (by decide)) rfl (fun _ => sft) (fun b146 => ?_)
     refine DW_e rfl (e_append_t (x0 := x145) (enc := encP) (v := v) (l := nb) Try.underlying97 Try.typeInfo80 rfl rfl rfl rfl rfl rfl rfl pkt rfl (by exact fun w hw => hw.news swt) (by simp [Value.oneCell']) (by omega) (by decide)) rfl (fun _ => sft) (fun v147 => ?_)
     refine DW_fact (fun w hw => hw.tform (v := v147) (l := (nb ++ [x145])) (enc := encP) swt) (fun hf => ?_)
     obtain ⟨a147, c147, rfl, _, _, hb147⟩ := hf
     refine DW_q rfl sft (q_nilCheck rfl) rfl ?_
     refine DW_q rfl sft (q_fieldAddr Try.underlying99 rfl rfl Try.sizeOf97 rfl rfl) rfl ?_
     refine DW_z0 rfl (e_store Try.sizeOf97 rfl rfl rfl rfl swt (by rfl)) (fun _ => ?_)
     refine EW_block_normal ?_
     refine EW_then ?_
     refine CW_region ?_
     refine OW_q (q_add rfl rfl (by omega) (by omega)) rfl ?_
     refine mO ?_
     refine OW_nil ?_
     refine EW_weak (S' := Sat (Old _) _ [cel b128 99 [vi X, .slice a147 (nb ++ [x145]).length c147], trow 80 1 encP (.slice a147 (nb ++ [x145]).length c147) (nb ++ [x145]), kidsA ((bk3 s.a (nms ((ruleAt g s.a).right.take s.b.toNat)) ls (kn8 g)) (fd.app (.cons xk kk .nil))) (nb ++ [x145])]) (fun w hw => by
       have h1 : Sat _ _ (kidsA ((bk3 s.a (nms ((ruleAt g s.a).right.take s.b.toNat)) ls (kn8 g)) fd) nb :: kidsA ((bk3 s.a (nms ((ruleAt g s.a).right.take s.b.toNat)) ls (kn8 g)) (.cons xk kk .nil)) [x145] :: [cel b128 99 [vi X, .slice a147 (nb ++ [x145]).length c147], trow 80 1 encP (.slice a147 (nb ++ [x145]).length c147) (nb ++ [x145])]) w := hw.sub sbt
       exact (sat_kids (T := (bk3 s.a (nms ((ruleAt g s.a).right.take s.b.toNat)) ls (kn8 g))) (bk3_app) h1).sub sbt) ?_
     refine EW_again ((k + 1, fd.app (.cons xk kk .nil), fr2, bd ++ [b1], br2, .slice a147 (nb ++ [x145]).length c147, nb ++ [x145])) ⟨?_, ?_⟩ ⟨rfl, rfl, rfl, rfl, rfl, rfl, rfl, trivial⟩ sft
     · show kb.length - (k + 1) < kb.length - k; omega
     · refine ⟨by show k + 1 ≤ _; omega, ?_, ?_, ?_, hk2', hwfr.2, ?_⟩
       · show ks = _
         rw [hfd, For.app_one]
       · show kb = _
         rw [hbd]; simp
       · show (bd ++ [b1]).length = _
         rw [List.length_append, hbl]; rfl
       · show (nb ++ [x145]).length = _
         rw [List.length_append, hnb]; rfl
   have hke : k = kb.length := by have := of_decide_eq_false h135; omega
   have hbr : br = [] := by
     have := congrArg List.length hbd
     rw [List.length_append] at this
     exact List.eq_nil_of_length_eq_zero (by omega)
   subst hbr
   have hfr := kids_none hkr
   subst hfr
   rw [For.app_nil] at hfd
   subst hfd
   refine CW_fact (fun w hw => hw.tform (v := v) (l := nb) (enc := encP) swt) (fun hf => ?_)
   obtain ⟨an, cn, rfl, _, _, hbn⟩ := hf
   refine CW_exit ?_
   refine EW_then_exit ?_
   refine EW_out ?_
   refine EW_block_exit ?_
   refine EW_then ?_
   refine CW_seq ?_
   refine nx3 ?_
   refine mO ?_
   refine OW_q (q_geq rfl rfl) rfl ?_
   refine nx2 ?_
   refine CW_cond rfl (fun h152 => ?_) (fun h152 => ?_)
   · skip
     exfalso
     have hJ0 : (0 : Int) ≤ J := of_decide_eq_true h152
     omega --stop
   refine CW_skip ?_
   refine EW_then ?_
   refine CW_seq ?_
   refine CW_seq ?_
   refine CW_draw (Sat (Old w) w []) 18 [(0, false), (1, false), (2, false), (3, false), (4, false), (5, false), (6, false), (7, false), (8, false), (9, false), (10, false), (11, false), (12, false), (13, false), (14, false), (15, false), (16, false), (17, false)] (by kernel_rfl) (Blind.then (Blind.then (Blind.body (by intro c w h; simp at h)))) (by kernel_rfl) (fun w hw => hw.drew) ?_
   refine mD ?_
   refine DW_q rfl sft (q_nilCheck rfl) rfl ?_
   refine DW_q rfl sft (q_fieldAddr Try.underlying96 rfl rfl Try.sizeOf26 rfl rfl) rfl ?_
   refine DW_q rfl sft (q_fieldAddr Try.underlying26 rfl rfl Try.sizeOf3 rfl rfl) rfl ?_
   refine DW_q rfl sft (q_load1_ro Try.isAgg3 rfl (by exact hcar.at_ (j := 3) rfl)) rfl ?_
   refine DW_q rfl sft (q_eqi rfl rfl) rfl ?_
   refine mD ?_
   refine DW_part (t := 213) rfl (fun hg213 => ?_) (fun hg213 => ?_)
   · skip
     exact absurd hg213 (by simp [hop]) --stop
   refine kD ?_
   refine kD ?_
   refine kD ?_
   refine kD ?_
   refine kD ?_
   refine kD ?_
   refine kD ?_
   refine kD ?_
   refine kD ?_
   refine kD ?_
   refine DW_q rfl sft (q_pick_f rfl rfl) rfl ?_
   refine DW_nil ?_
   refine EW_then ?_
   refine CW_false rfl rfl ?_
   refine CW_skip ?_
   refine EW_then ?_
   refine nx3 ?_
   refine mO ?_
   refine aO ?_
   refine nx2 ?_
   refine CW_ret ?_
   refine ret1 Try.results44 rfl (fun w hw => ?_)
   have hT : (bk3 s.a (nms ((ruleAt g s.a).right.take s.b.toNat)) ls (kn8 g)) (.cons x ks .nil) = .cons X ((bk3 s.a (nms ((ruleAt g s.a).right.take s.b.toNat)) ls (kn8 g)) ks) .nil := by
     show (if s.a ≤ x ∧ x < s.a + (ls.length : Int) then _ else For.cons (if s.a ≤ x then x - (ls.length : Int) + 1 else x) _ _) = _
     rw [if_neg (by omega), if_pos (by omega), hX]; rfl
   rw [hT]
   refine ⟨b128, rfl, ?_⟩
   have h1 : Sat _ _ (cel b128 99 [vi X, .slice an nb.length cn] :: trow 80 1 encP (.slice an nb.length cn) nb :: kidsA ((bk3 s.a (nms ((ruleAt g s.a).right.take s.b.toNat)) ls (kn8 g)) ks) nb :: []) w := hw.sub sbt
   exact h1.kidNew
 refine CW_seq ?_
 refine CW_draw (Sat (Old w) w []) 11 [(0, false), (1, false), (2, false), (3, false), (4, false), (5, false), (6, false), (7, false), (8, false), (9, false), (10, false)] (by kernel_rfl) (Blind.then (Blind.block (Blind.block (Blind.then (Blind.body (by intro c w h; simp at h)))))) (by kernel_rfl) (fun w hw => hw.drew) ?_
 refine mD ?_
 refine DW_q rfl sft (q_nilCheck rfl) rfl ?_
 refine DW_q rfl sft (q_fieldAddr Try.underlying99 rfl rfl Try.sizeOf3 rfl rfl) rfl ?_
 refine DW_q rfl sft (q_load1_ro Try.isAgg3 rfl (by exact hrow.at_ (j := 0) rfl)) rfl ?_
 refine mD ?_
 refine DW_q rfl sft (q_nilCheck rfl) rfl ?_
 refine DW_q rfl sft (q_fieldAddr Try.underlying96 rfl rfl Try.sizeOf26 rfl rfl) rfl ?_
 refine DW_q rfl sft (q_fieldAddr Try.underlying26 rfl rfl Try.sizeOf3 rfl rfl) rfl ?_
 refine DW_q rfl sft (q_load1_ro Try.isAgg3 rfl (by exact hcar.at_ (j := 4) rfl)) rfl ?_
 refine DW_q rfl sft (q_geq rfl rfl) rfl ?_
 refine DW_q rfl sft (q_assign rfl) rfl ?_
 refine DW_nil ?_
 refine EW_then ?_
 refine CW_cond rfl (fun h82 => ?_) (fun h82 => ?_)
 · skip
   have hxlo9 : s.a ≤ x := of_decide_eq_true h82
   have hxhi9 : x < s.a + (ls.length : Int) := by have := of_decide_eq_false h54; omega
   obtain ⟨z9, hz9⟩ := get_of_lt (l := ls) (k := (x - s.a).toNat) (by omega)
   have hz9d : ls.getD (x - s.a).toNat 0 = z9 := by rw [List.getD_eq_getElem?_getD, hz9]; rfl
   obtain ⟨pl9, hpl9, hz9c⟩ := hls1 (x - s.a).toNat z9 (by rw [List.getElem?_map, hz9]; rfl)
   subst hpl9
   refine CW_draw (Sat (Old w) w []) 23 [(0, false), (1, false), (2, false), (3, false), (4, false), (5, false), (6, false), (7, false), (8, false), (9, false), (10, false), (11, false), (12, false), (13, false), (14, false), (15, false), (16, false), (17, false), (18, false), (19, false), (20, false), (21, false), (22, false)] (by kernel_rfl) (Blind.block (Blind.block (Blind.then (Blind.body (by intro c w h; simp at h))))) (by kernel_rfl) (fun w hw => hw.drew) ?_
   refine mD ?_
   refine DW_q rfl sft (q_nilCheck rfl) rfl ?_
   refine DW_q rfl sft (q_fieldAddr Try.underlying96 rfl rfl Try.sizeOf26 rfl rfl) rfl ?_
   refine DW_q rfl sft (q_fieldAddr Try.underlying26 rfl rfl Try.sizeOf3 rfl rfl) rfl ?_
   refine DW_q rfl sft (q_load1_ro Try.isAgg3 rfl (by exact hcar.at_ (j := 4) rfl)) rfl ?_
   refine mD ?_
   refine DW_q rfl sft (q_nilCheck rfl) rfl ?_
   refine DW_q rfl sft (q_fieldAddr Try.underlying96 rfl rfl Try.sizeOf32 rfl rfl) rfl ?_
   refine DW_q rfl sft (q_load1_ro Try.isAgg32 rfl (by exact hcar.at_ (j := 8) rfl)) rfl ?_
   refine mD ?_
   refine DW_q rfl sft (q_nilCheck rfl) rfl ?_
   refine DW_q rfl sft (q_fieldAddr Try.underlying99 rfl rfl Try.sizeOf3 rfl rfl) rfl ?_
   refine DW_q rfl sft (q_load1_ro Try.isAgg3 rfl (by exact hrow.at_ (j := 0) rfl)) rfl ?_
   refine mD ?_
   refine DW_q rfl sft (q_nilCheck rfl) rfl ?_
   refine DW_q rfl sft (q_fieldAddr Try.underlying96 rfl rfl Try.sizeOf26 rfl rfl) rfl ?_
   refine DW_q rfl sft (q_fieldAddr Try.underlying26 rfl rfl Try.sizeOf3 rfl rfl) rfl ?_
   refine DW_q rfl sft (q_load1_ro Try.isAgg3 rfl (by exact hcar.at_ (j := 4) rfl)) rfl ?_
   refine DW_q rfl sft (q_sub rfl rfl (by omega) (by omega)) rfl ?_
   refine DW_spell 111 (.int .i64 (((x - s.a).toNat : Nat) : Int)) rfl (congrArg (Value.int .i64) (by omega)) ?_
   refine DW_q rfl sft (q_indexAddr Try.underlying32 Try.sizeOf3 rfl rfl (by omega)) rfl ?_
   refine DW_q rfl sft (q_load1_ro Try.isAgg3 rfl (by exact hz9c)) rfl ?_
   refine DW_q rfl sft (q_assign rfl) rfl ?_
   refine DW_q rfl sft (q_assign rfl) rfl ?_
   refine DW_nil ?_
   refine EW_block_normal ?_
   refine EW_block_normal ?_
   refine EW_then ?_
   refine CW_seq ?_
   obtain ⟨X, hX⟩ : ∃ X : Int, X = s.a := ⟨_, rfl⟩
   obtain ⟨J, hJ⟩ : ∃ J : Int, J = ((ls.getD (x - s.a).toNat 0 : Nat) : Int) := ⟨_, rfl⟩
   refine CW_spell 5 (.int .i64 X) rfl (by rw [hX]) ?_
   refine CW_spell 6 (.int .i64 J) rfl (by rw [hJ, hz9d]) ?_
   refine CW_region ?_
   refine mO ?_
   refine OW_q (q_build (ps := #[(0, .int .i64 X)]) (v := .agg #[.int .i64 X, .slice none 0 0]) rfl (fun w => by kernel_rfl)) rfl ?_
   refine OW_e (e_box rfl rfl) rfl (fun b128 => ?_)
   refine aO ?_
   refine nx2 ?_
   refine CW_seq ?_
   refine nx3 ?_
   refine mO ?_
   refine OW_q (q_nilCheck rfl) rfl ?_
   refine OW_q (q_fieldAddr Try.underlying99 rfl rfl Try.sizeOf97 rfl rfl) rfl ?_
   refine OW_q (q_load1_ro Try.isAgg97 rfl (by exact hrow.at_ (j := 1) rfl)) rfl ?_
   refine OW_q (q_len Try.underlying97 rfl) rfl ?_
   refine mO ?_
   refine nx2 ?_
   refine CW_block ?_
   refine CW_weak (S' := Sat (Old w) w [cel b128 99 [vi X, .slice none 0 0], trow 80 1 encP (.slice none 0 0) [], kidsA ((bk3 s.a (nms ((ruleAt g s.a).right.take s.b.toNat)) ls (kn8 g)) .nil) []]) (fun w hw => by
     have h1 := (hw.tnil 80 1 encP).addEmp (A := kidsA ((bk3 s.a (nms ((ruleAt g s.a).right.take s.b.toNat)) ls (kn8 g)) .nil) []) ⟨rfl, rfl⟩
     exact h1.sub sbt) ?_
   refine CW_loopP (ι := Nat × For × For × List Nat × List Nat × Value × List Nat) (fun i_ => i_.1 ≤ kb.length ∧ ks = i_.2.1.app i_.2.2.1 ∧ kb = i_.2.2.2.1 ++ i_.2.2.2.2.1 ∧ i_.2.2.2.1.length = i_.1 ∧ KidsAt (Rd (Old w) w) i_.2.2.1 i_.2.2.2.2.1 ∧ Wf h i_.2.2.1 ∧ i_.2.2.2.2.2.2.length = i_.1) (fun i_ => [(0, .pointer (some ⟨cb, 0, none⟩)), (1, .pointer (some ⟨b, 0, none⟩)), (6, .int .i64 J), (7, .pointer (some ⟨b128, 0, none⟩)), (132, .slice ak kb.length ck), (133, .int .i64 (kb.length : Int)), (134, .int .i64 (i_.1 : Int))]) (fun i_ => Sat (Old w) w [cel b128 99 [vi X, i_.2.2.2.2.2.1], trow 80 1 encP i_.2.2.2.2.2.1 i_.2.2.2.2.2.2, kidsA ((bk3 s.a (nms ((ruleAt g s.a).right.take s.b.toNat)) ls (kn8 g)) i_.2.1) i_.2.2.2.2.2.2]) (fun i_ => kb.length - i_.1) (0, .nil, ks, [], kb, .slice none 0 0, []) ?_ ⟨rfl, rfl, rfl, rfl, rfl, rfl, rfl, trivial⟩ sft ?_
   · exact ⟨Nat.zero_le _, rfl, rfl, rfl, hks, hwks9, rfl⟩
   intro i_ hpre
   obtain ⟨k, fd, fr, bd, br, v, nb⟩ := i_
   replace hpre : k ≤ kb.length ∧ ks = fd.app fr ∧ kb = bd ++ br ∧ bd.length = k ∧ KidsAt (Rd (Old w) w) fr br ∧ Wf h fr ∧ nb.length = k := hpre
   change CW _ _ _ _ [(0, .pointer (some ⟨cb, 0, none⟩)), (1, .pointer (some ⟨b, 0, none⟩)), (6, .int .i64 J), (7, .pointer (some ⟨b128, 0, none⟩)), (132, .slice ak kb.length ck), (133, .int .i64 (kb.length : Int)), (134, .int .i64 (k : Int))] (Sat (Old w) w [cel b128 99 [vi X, v], trow 80 1 encP v nb, kidsA ((bk3 s.a (nms ((ruleAt g s.a).right.take s.b.toNat)) ls (kn8 g)) fd) nb])
   obtain ⟨hk, hfd, hbd, hbl, hkr, hwfr, hnb⟩ := hpre
   refine nx3 ?_
   refine OW_q (q_lss rfl rfl) rfl ?_
   refine nx2 ?_
   refine CW_seq ?_
   refine CW_cond rfl (fun h135 => ?_) (fun h135 => ?_)
   · skip
     have hlt : k < kb.length := by have := of_decide_eq_true h135; omega
     obtain ⟨b1, br2, rfl⟩ : ∃ b1 br2, br = b1 :: br2 := by
       cases br with
       | nil => rw [List.append_nil] at hbd; rw [hbd] at hlt; omega
       | cons b1 br2 => exact ⟨b1, br2, rfl⟩
     have hbk : kb[k]? = some b1 := by rw [hbd, List.getElem?_append_right (by omega), hbl, Nat.sub_self]; rfl
     obtain ⟨p1, hp1, hb1⟩ := hkb k b1 hbk
     subst hp1
     obtain ⟨xk, kk, fr2, rfl, hkk, hk2'⟩ := kids_cons hkr
     have hkl := KidsAt.len hks
     have hks5 := kid_size (x := x) hfd
     have hls5 := len_size (ks)
     refine CW_skip ?_
     refine EW_then ?_
     refine CW_seq ?_
     refine CW_block ?_
     refine nx3 ?_
     refine OW_q (q_indexAddr Try.underlying97 Try.sizeOf80 rfl rfl (by omega)) rfl ?_
     refine OW_q (q_load1_ro Try.isAgg80 rfl (by exact hb1)) rfl ?_
     refine aO ?_
     refine nx2 ?_
     refine CW_draw (Sat (Old w) w [cel b128 99 [vi X, v]]) 12 [(0, false), (1, false), (2, false), (3, false), (4, false), (5, false), (6, false), (7, true), (8, true), (9, true), (10, false), (11, false), (12, true)] (by kernel_rfl) (Blind.block (Blind.then (Blind.again (Blind.block (Blind.then (Blind.body (by intro c w h; simp at h))))))) (by kernel_rfl) (fun w hw => hw.drew) ?_
     refine mD ?_
     refine mD ?_
     refine DW_q rfl sft (q_nilCheck rfl) rfl ?_
     refine DW_q rfl sft (q_fieldAddr Try.underlying99 rfl rfl Try.sizeOf97 rfl rfl) rfl ?_
     refine DW_q rfl sft (q_load1_own Try.isAgg97 rfl rfl swt (by rfl)) rfl ?_
     refine mD ?_
     refine mD ?_
     refine DW_e rfl (e_call Try.call44 rfl (fun w hw => lift_old (ih (For.cons xk kk .nil).size (by omega) xk kk b1 cb w (Nat.le_refl _) (by omega) (hc0.mono fun _ _ h => hw.rd (Rd.old h)) (hkk.mono hw.rd_cl) ⟨hwfr.1, trivial⟩) hw)) rfl (fun _ w hw => by first | exact hw.sub sbt | exact hw.2.sub sbt) (fun x145 => ?_)
     refine DW_e rfl (e_single Try.underlying97 Try.sizeOf80 Try.zeroValue80 (e := 80) (v := .pointer (some ⟨x145, 0, none⟩)) (cs := encP x145) rfl rfl rfl rfl (by decide) (by decide)) rfl (fun _ => sft) (fun b146 => ?_)
     refine DW_e rfl (e_append_t (x0 := x145) (enc := encP) (v := v) (l := nb) Try.underlying97 Try.typeInfo80 rfl rfl rfl rfl rfl rfl rfl pkt rfl (by exact fun w hw => hw.news swt) (by simp [Value.oneCell']) (by omega) (by decide)) rfl (fun _ => sft) (fun v147 => ?_)
     refine DW_fact (fun w hw => hw.tform (v := v147) (l := (nb ++ [x145])) (enc := encP) swt) (fun hf => ?_)
     obtain ⟨a147, c147, rfl, _, _, hb147⟩ := hf
     refine DW_q rfl sft (q_nilCheck rfl) rfl ?_
     refine DW_q rfl sft (q_fieldAddr Try.underlying99 rfl rfl Try.sizeOf97 rfl rfl) rfl ?_
     refine DW_z0 rfl (e_store Try.sizeOf97 rfl rfl rfl rfl swt (by rfl)) (fun _ => ?_)
     refine EW_block_normal ?_
     refine EW_then ?_
     refine CW_region ?_
     refine OW_q (q_add rfl rfl (by omega) (by omega)) rfl ?_
     refine mO ?_
     refine OW_nil ?_
     refine EW_weak (S' := Sat (Old _) _ [cel b128 99 [vi X, .slice a147 (nb ++ [x145]).length c147], trow 80 1 encP (.slice a147 (nb ++ [x145]).length c147) (nb ++ [x145]), kidsA ((bk3 s.a (nms ((ruleAt g s.a).right.take s.b.toNat)) ls (kn8 g)) (fd.app (.cons xk kk .nil))) (nb ++ [x145])]) (fun w hw => by
       have h1 : Sat _ _ (kidsA ((bk3 s.a (nms ((ruleAt g s.a).right.take s.b.toNat)) ls (kn8 g)) fd) nb :: kidsA ((bk3 s.a (nms ((ruleAt g s.a).right.take s.b.toNat)) ls (kn8 g)) (.cons xk kk .nil)) [x145] :: [cel b128 99 [vi X, .slice a147 (nb ++ [x145]).length c147], trow 80 1 encP (.slice a147 (nb ++ [x145]).length c147) (nb ++ [x145])]) w := hw.sub sbt
       exact (sat_kids (T := (bk3 s.a (nms ((ruleAt g s.a).right.take s.b.toNat)) ls (kn8 g))) (bk3_app) h1).sub sbt) ?_
     refine EW_again ((k + 1, fd.app (.cons xk kk .nil), fr2, bd ++ [b1], br2, .slice a147 (nb ++ [x145]).length c147, nb ++ [x145])) ⟨?_, ?_⟩ ⟨rfl, rfl, rfl, rfl, rfl, rfl, rfl, trivial⟩ sft
     · show kb.length - (k + 1) < kb.length - k; omega
     · refine ⟨by show k + 1 ≤ _; omega, ?_, ?_, ?_, hk2', hwfr.2, ?_⟩
       · show ks = _
         rw [hfd, For.app_one]
       · show kb = _
         rw [hbd]; simp
       · show (bd ++ [b1]).length = _
         rw [List.length_append, hbl]; rfl
       · show (nb ++ [x145]).length = _
         rw [List.length_append, hnb]; rfl
   have hke : k = kb.length := by have := of_decide_eq_false h135; omega
   have hbr : br = [] := by
     have := congrArg List.length hbd
     rw [List.length_append] at this
     exact List.eq_nil_of_length_eq_zero (by omega)
   subst hbr
   have hfr := kids_none hkr
   subst hfr
   rw [For.app_nil] at hfd
   subst hfd
   refine CW_fact (fun w hw => hw.tform (v := v) (l := nb) (enc := encP) swt) (fun hf => ?_)
   obtain ⟨an, cn, rfl, _, _, hbn⟩ := hf
   refine CW_exit ?_
   refine EW_then_exit ?_
   refine EW_out ?_
   refine EW_block_exit ?_
   refine EW_then ?_
   refine CW_seq ?_
   refine nx3 ?_
   refine mO ?_
   refine OW_q (q_geq rfl rfl) rfl ?_
   refine nx2 ?_
   refine CW_cond rfl (fun h152 => ?_) (fun h152 => ?_)
   · skip
     have hJ0 : (0 : Int) ≤ J := of_decide_eq_true h152
     have hxlo : s.a ≤ x := of_decide_eq_true h82
     have hxhi : x < s.a + (ls.length : Int) := by have := of_decide_eq_false h54; omega
     obtain ⟨z, hz⟩ := get_of_lt (l := ls) (k := (x - s.a).toNat) (by omega)
     have hzd : ls.getD (x - s.a).toNat 0 = z := by rw [List.getD_eq_getElem?_getD, hz]; rfl
     obtain ⟨r2, hr2, hr2l⟩ := ofL_mem (rs := g.rules) (n := y0.n) (by rw [← hls]; exact List.mem_of_getElem? hz)
     have hr28 := (may_rule hm hr2).2.2
     have hzl := (List.getElem?_eq_some_iff.1 hr2).1
     obtain ⟨pr2, hpr2, rv2, hsy2, hrow2⟩ := hrs z r2 hr2
     injection hpr2 with hpr2
     subst hpr2
     obtain ⟨y2a, y2c, rfl, hy21, hy22, _⟩ := id hsy2
     have hqq : q = inlR qa s.b.toNat r2 := by
       have h9 := hh (x - s.a).toNat z r2 hz hr2
       rw [show s.a.toNat + (x - s.a).toNat = x.toNat by omega, hq] at h9
       exact Option.some.inj h9
     subst hqq
     have hdq' : Der h (qa.right.take s.b.toNat ++ (r2.right ++ qa.right.drop (s.b.toNat + 1))) ks yq := by rw [← List.append_assoc]; exact hdq
     obtain ⟨f1, f2, y1, y2, hks1, hyq, d1, d2⟩ := der_cut hdq'
     obtain ⟨f3, f4, y3, y4, hks2, hyq2, d3, d4⟩ := der_cut d2
     subst hks2
     have hfl1 : f1.len = (nms ((ruleAt g s.a).right.take s.b.toNat)) := by rw [hra]; exact der_len d1
     have hfl3 : f3.len = (nms r2.right) := der_len d3
     have hTk : (bk3 s.a (nms ((ruleAt g s.a).right.take s.b.toNat)) ls (kn8 g)) ks = ((bk3 s.a (nms ((ruleAt g s.a).right.take s.b.toNat)) ls (kn8 g)) f1).app (((bk3 s.a (nms ((ruleAt g s.a).right.take s.b.toNat)) ls (kn8 g)) f3).app ((bk3 s.a (nms ((ruleAt g s.a).right.take s.b.toNat)) ls (kn8 g)) f4)) := by rw [hks1, bk3_app, bk3_app]
     have hTl : ((bk3 s.a (nms ((ruleAt g s.a).right.take s.b.toNat)) ls (kn8 g)) f1).len = (nms ((ruleAt g s.a).right.take s.b.toNat)) := by rw [bk3_len]; exact hfl1
     have hTl3 : ((bk3 s.a (nms ((ruleAt g s.a).right.take s.b.toNat)) ls (kn8 g)) f3).len = (nms r2.right) := by rw [bk3_len]; exact hfl3
     obtain ⟨m1, m2, hm1, hm2, hka1, hka2⟩ := kidsAt_split (a := f1) (by rw [← hks1]; exact hks)
     obtain ⟨m3, m4, hm3, hm4, hka3, hka4⟩ := kidsAt_split (a := f3) hka2
     subst hm3
     subst hm1
     rw [hfl1] at hm2
     rw [hfl3] at hm4
     obtain ⟨hmid0, _, _⟩ := mid_list (n4 := m4) hm2 hm4
     have hkbl : (m1 ++ (m3 ++ m4)).length = m1.length + (m3.length + m4.length) := by rw [List.length_append, List.length_append]
     have hf3s : f3.size < (For.cons x ks .nil).size := by
       have e1 : (For.cons x ks .nil).size = ks.size + 0 + 1 := rfl
       rw [e1, hks1, app_size, app_size]; omega
     refine CW_ex (S' := fun (z : List Nat × List Nat) w' => (nb = z.1 ++ z.2 ∧ z.1.length = ((bk3 s.a (nms ((ruleAt g s.a).right.take s.b.toNat)) ls (kn8 g)) f1).len) ∧ Sat (Old w) w (kidsA ((bk3 s.a (nms ((ruleAt g s.a).right.take s.b.toNat)) ls (kn8 g)) f1) z.1 :: kidsA (((bk3 s.a (nms ((ruleAt g s.a).right.take s.b.toNat)) ls (kn8 g)) f3).app ((bk3 s.a (nms ((ruleAt g s.a).right.take s.b.toNat)) ls (kn8 g)) f4)) z.2 :: [cel b128 99 [vi X, .slice an nb.length cn], trow 80 1 encP (.slice an nb.length cn) nb]) w') (fun w' hw => by
       have h1 : Sat _ _ (kidsA ((bk3 s.a (nms ((ruleAt g s.a).right.take s.b.toNat)) ls (kn8 g)) ks) nb :: [cel b128 99 [vi X, .slice an nb.length cn], trow 80 1 encP (.slice an nb.length cn) nb]) w' := hw.sub sbt
       rw [hTk] at h1
       exact h1.kidsCut) (fun z => ?_)
     obtain ⟨n1, n2⟩ := z
     refine CW_pure fun hz => ?_
     obtain ⟨hn1, hn2⟩ := hz
     have hn1 : nb = n1 ++ n2 := hn1
     have hn2 : n1.length = ((bk3 s.a (nms ((ruleAt g s.a).right.take s.b.toNat)) ls (kn8 g)) f1).len := hn2
     refine CW_ex (S' := fun (z : List Nat × List Nat) w' => (n2 = z.1 ++ z.2 ∧ z.1.length = ((bk3 s.a (nms ((ruleAt g s.a).right.take s.b.toNat)) ls (kn8 g)) f3).len) ∧ Sat (Old w) w (kidsA ((bk3 s.a (nms ((ruleAt g s.a).right.take s.b.toNat)) ls (kn8 g)) f3) z.1 :: kidsA ((bk3 s.a (nms ((ruleAt g s.a).right.take s.b.toNat)) ls (kn8 g)) f4) z.2 :: [kidsA ((bk3 s.a (nms ((ruleAt g s.a).right.take s.b.toNat)) ls (kn8 g)) f1) n1, cel b128 99 [vi X, .slice an nb.length cn], trow 80 1 encP (.slice an nb.length cn) nb]) w') (fun w' hw => Sat.kidsCut (hw.sub sbt)) (fun z => ?_)
     obtain ⟨n3, n4⟩ := z
     refine CW_pure fun hz => ?_
     obtain ⟨hn3, hn4⟩ := hz
     have hn3 : n2 = n3 ++ n4 := hn3
     have hn4 : n3.length = ((bk3 s.a (nms ((ruleAt g s.a).right.take s.b.toNat)) ls (kn8 g)) f3).len := hn4
     subst hn3
     rw [hTl] at hn2
     rw [hTl3] at hn4
     have hnl : nb.length = n1.length + (n3.length + n4.length) := by rw [hn1, List.length_append, List.length_append]
     have hlist : ∀ b9 : Nat, nb.take (nms ((ruleAt g s.a).right.take s.b.toNat)) ++ [b9] ++ nb.drop ((nms ((ruleAt g s.a).right.take s.b.toNat)) + (nms r2.right)) = n1 ++ (b9 :: n4) := fun b9 => by
       obtain ⟨_, e1, e2⟩ := mid_list (n4 := n4) hn2 hn4
       rw [hn1, e1, e2]; simp
     refine CW_spell 6 (.int .i64 ((z : Nat) : Int)) rfl (by rw [hJ, hzd]) ?_
     refine CW_seq ?_
     refine CW_draw (Sat (Old w) w []) 21 [(0, false), (1, false), (2, false), (3, false), (4, false), (5, false), (6, false), (7, false), (8, false), (9, false), (10, false), (11, false), (12, false), (13, false), (14, false), (15, false), (16, false), (17, false), (18, false), (19, true), (20, false)] (by kernel_rfl) (Blind.then (Blind.then (Blind.body (by intro c w h; simp at h)))) (by kernel_rfl) (fun w hw => hw.drew) ?_
     refine mD ?_
     refine DW_q rfl sft (q_nilCheck rfl) rfl ?_
     refine DW_q rfl sft (q_fieldAddr Try.underlying96 rfl rfl Try.sizeOf24 rfl rfl) rfl ?_
     refine DW_q rfl sft (q_fieldAddr Try.underlying24 rfl rfl Try.sizeOf22 rfl rfl) rfl ?_
     refine DW_q rfl sft (q_load1_ro Try.isAgg22 rfl (by exact hcar.at_ (j := 2) rfl)) rfl ?_
     refine mD ?_
     refine DW_q rfl sft (q_nilCheck rfl) rfl ?_
     refine DW_q rfl sft (q_fieldAddr Try.underlying96 rfl rfl Try.sizeOf26 rfl rfl) rfl ?_
     refine DW_q rfl sft (q_fieldAddr Try.underlying26 rfl rfl Try.sizeOf3 rfl rfl) rfl ?_
     refine DW_q rfl sft (q_load1_ro Try.isAgg3 rfl (by exact hcar.at_ (j := 4) rfl)) rfl ?_
     refine DW_spell 162 (.int .i64 ((s.a.toNat : Nat) : Int)) rfl (congrArg (Value.int .i64) (by omega)) ?_
     refine DW_q rfl sft (q_indexAddr Try.underlying22 Try.sizeOf49 rfl rfl hqal) rfl ?_
     refine DW_q rfl sft (q_fieldAddr Try.underlying49 rfl rfl Try.sizeOf46 rfl rfl) rfl ?_
     refine DW_q rfl sft (q_load1_ro Try.isAgg46 rfl (by exact hrowq.at_ (j := 1) rfl)) rfl ?_
     refine mD ?_
     refine DW_q rfl sft (q_nilCheck rfl) rfl ?_
     refine DW_q rfl sft (q_fieldAddr Try.underlying96 rfl rfl Try.sizeOf26 rfl rfl) rfl ?_
     refine DW_q rfl sft (q_fieldAddr Try.underlying26 rfl rfl Try.sizeOf3 rfl rfl) rfl ?_
     refine DW_q rfl sft (q_load1_ro Try.isAgg3 rfl (by exact hcar.at_ (j := 5) rfl)) rfl ?_
     refine DW_spell 170 (.int .i64 ((s.b.toNat : Nat) : Int)) rfl (congrArg (Value.int .i64) (by omega)) ?_
     refine DW_q rfl sft (q_slice (l := 0) (h := s.b.toNat) Try.underlying46 Try.sizeOf51 rfl (.inl ⟨rfl, rfl⟩) (.inr ⟨_, rfl, rfl⟩) (by omega) (by omega) (by omega)) rfl ?_
     refine DW_e rfl (e_call Try.call60 rfl (fun w hw => lift_ro (names_any _ ((qa.right.take s.b.toNat).drop 0) w (by rw [List.length_drop, List.length_take]; omega) (SlAt.sub (hsy.mono fun _ _ h => hw.rd h) (by omega) (by omega))) hw)) rfl (fun _ w hw => by first | exact hw.sub sbt | exact hw.2.sub sbt) (fun x172 => ?_)
     refine DW_spell 172 (.int .i64 (((nms ((ruleAt g s.a).right.take s.b.toNat)) : Nat) : Int)) rfl (by rw [List.drop_zero, hra]) ?_
     refine DW_q rfl sft (q_assign rfl) rfl ?_
     refine DW_nil ?_
     refine EW_then ?_
     refine nx3 ?_
     refine mO ?_
     refine mO ?_
     refine OW_q (q_nilCheck rfl) rfl ?_
     refine OW_q (q_fieldAddr Try.underlying96 rfl rfl Try.sizeOf24 rfl rfl) rfl ?_
     refine OW_q (q_fieldAddr Try.underlying24 rfl rfl Try.sizeOf22 rfl rfl) rfl ?_
     refine OW_q (q_load1_ro Try.isAgg22 rfl (by exact hcar.at_ (j := 2) rfl)) rfl ?_
     refine mO ?_
     refine OW_q (q_indexAddr Try.underlying22 Try.sizeOf49 rfl rfl hzl) rfl ?_
     refine OW_q (q_fieldAddr Try.underlying49 rfl rfl Try.sizeOf46 rfl rfl) rfl ?_
     refine OW_q (q_load1_ro Try.isAgg46 rfl (by exact hrow2.at_ (j := 1) rfl)) rfl ?_
     refine OW_e (e_call Try.call60 rfl (fun w hw => lift_ro (names_any _ r2.right w (by omega) (hsy2.mono fun _ _ h => hw.rd h)) hw)) rfl (fun x183 => ?_)
     refine OW_q (q_add rfl rfl (by omega) (by omega)) rfl ?_
     refine OW_spell 184 (.int .i64 (((nms ((ruleAt g s.a).right.take s.b.toNat)) + (nms r2.right) : Nat) : Int)) rfl (congrArg (Value.int .i64) (by omega)) ?_
     refine aO ?_
     refine nx4 ?_
     refine mO ?_
     refine mO ?_
     refine mO ?_
     refine OW_q (q_nilCheck rfl) rfl ?_
     refine OW_q (q_fieldAddr Try.underlying99 rfl rfl Try.sizeOf97 rfl rfl) rfl ?_
     refine OW_q (q_load1_ro Try.isAgg97 rfl (by exact hrow.at_ (j := 1) rfl)) rfl ?_
     refine mO ?_
     refine mO ?_
     refine OW_q (q_slice (l := (nms ((ruleAt g s.a).right.take s.b.toNat))) (h := (nms ((ruleAt g s.a).right.take s.b.toNat)) + (nms r2.right)) Try.underlying97 Try.sizeOf80 rfl (.inr ⟨_, rfl, rfl⟩) (.inr ⟨_, rfl, rfl⟩) (by omega) (by omega) (by omega)) rfl ?_
     refine OW_e (e_call Try.call65 rfl (fun w hw => lift_old (again_any g s ls h (bk3 s.a (nms ((ruleAt g s.a).right.take s.b.toNat)) ls (kn8 g)) bk3_app rfl N hN ih z f3 (((m1 ++ (m3 ++ m4)).take ((nms ((ruleAt g s.a).right.take s.b.toNat)) + (nms r2.right))).drop (nms ((ruleAt g s.a).right.take s.b.toNat))) _ cb w (by omega) (hc0.mono fun _ _ h => hw.rd (Rd.old h)) (SlAt.sub (show PtrsAt (Cl w) (.slice ak (m1 ++ (m3 ++ m4)).length ck) (m1 ++ (m3 ++ m4)) from ⟨ak, ck, rfl, hk1, hk2, fun k y hy => by obtain ⟨p9, g1, g2⟩ := hkb k y hy; exact ⟨p9, g1, hw.rd g2⟩⟩) (by omega) (by omega)) (by rw [hmid0]; exact hka3.mono hw.rd_cl) (der_wf d3)) hw)) rfl (fun x194 => ?_)
     refine aO ?_
     refine nx2 ?_
     refine CW_region ?_
     refine mO ?_
     refine mO ?_
     refine OW_q (q_nilCheck rfl) rfl ?_
     refine OW_q (q_fieldAddr Try.underlying99 rfl rfl Try.sizeOf97 rfl rfl) rfl ?_
     refine OW_q (q_load1_own Try.isAgg97 rfl rfl swt (by rfl)) rfl ?_
     refine mO ?_
     refine mO ?_
     refine mO ?_
     refine OW_e (e_single Try.underlying97 Try.sizeOf80 Try.zeroValue80 (e := 80) (v := .pointer (some ⟨x194, 0, none⟩)) (cs := encP x194) rfl rfl rfl rfl (by decide) (by decide)) rfl (fun b203 => ?_)
     refine OW_e (e_call Try.call62 rfl (fun w hw => lift_mutN (M0 := [trow 80 1 encP (.slice an nb.length cn) nb, cel b203 80 (encP x194)]) (L1 := [kidsA (.cons z ((bk3 s.a (nms ((ruleAt g s.a).right.take s.b.toNat)) ls (kn8 g)) f3) .nil) [x194], kidsA ((bk3 s.a (nms ((ruleAt g s.a).right.take s.b.toNat)) ls (kn8 g)) f4) n4, kidsA ((bk3 s.a (nms ((ruleAt g s.a).right.take s.b.toNat)) ls (kn8 g)) f1) n1, cel b128 99 [vi X, .slice an nb.length cn]]) (hw.sub sbt) (fun F hF => rep1_any (.slice an nb.length cn) nb x194 (nms ((ruleAt g s.a).right.take s.b.toNat)) ((nms ((ruleAt g s.a).right.take s.b.toNat)) + (nms r2.right)) 1 b203 _ _ w F (by omega) (by omega) (by omega) hF))) rfl (fun x204 => ?_)
     refine OW_fact (fun w hw => hw.tform (v := x204) (l := (nb.take (nms ((ruleAt g s.a).right.take s.b.toNat)) ++ [x194] ++ nb.drop ((nms ((ruleAt g s.a).right.take s.b.toNat)) + (nms r2.right)))) (enc := encP) swt) (fun hf => ?_)
     obtain ⟨a204, c204, rfl, _, _, hb204⟩ := hf
     refine OW_q (q_nilCheck rfl) rfl ?_
     refine OW_q (q_fieldAddr Try.underlying99 rfl rfl Try.sizeOf97 rfl rfl) rfl ?_
     refine OW_e0 (e_store Try.sizeOf97 rfl rfl rfl rfl swt (by rfl)) (fun _ => ?_)
     refine nx2 ?_
     refine CW_seq ?_
     refine CW_seq ?_
     refine CW_draw (Sat (Old w) w []) 18 [(0, false), (1, false), (2, false), (3, false), (4, false), (5, false), (6, false), (7, false), (8, false), (9, false), (10, false), (11, false), (12, false), (13, false), (14, false), (15, false), (16, false), (17, false)] (by kernel_rfl) (Blind.then (Blind.then (Blind.body (by intro c w h; simp at h)))) (by kernel_rfl) (fun w hw => hw.drew) ?_
     refine mD ?_
     refine DW_q rfl sft (q_nilCheck rfl) rfl ?_
     refine DW_q rfl sft (q_fieldAddr Try.underlying96 rfl rfl Try.sizeOf26 rfl rfl) rfl ?_
     refine DW_q rfl sft (q_fieldAddr Try.underlying26 rfl rfl Try.sizeOf3 rfl rfl) rfl ?_
     refine DW_q rfl sft (q_load1_ro Try.isAgg3 rfl (by exact hcar.at_ (j := 3) rfl)) rfl ?_
     refine DW_q rfl sft (q_eqi rfl rfl) rfl ?_
     refine mD ?_
     refine DW_part (t := 213) rfl (fun hg213 => ?_) (fun hg213 => ?_)
     · skip
       exact absurd hg213 (by simp [hop]) --stop
     refine kD ?_
     refine kD ?_
     refine kD ?_
     refine kD ?_
     refine kD ?_
     refine kD ?_
     refine kD ?_
     refine kD ?_
     refine kD ?_
     refine kD ?_
     refine DW_q rfl sft (q_pick_f rfl rfl) rfl ?_
     refine DW_nil ?_
     refine EW_then ?_
     refine CW_false rfl rfl ?_
     refine CW_skip ?_
     refine EW_then ?_
     refine nx3 ?_
     refine mO ?_
     refine aO ?_
     refine nx2 ?_
     refine CW_ret ?_
     refine ret1 Try.results44 rfl (fun w hw => ?_)
     rw [hlist] at hw
     have h1 : Sat _ _ (kidsA (.cons z ((bk3 s.a (nms ((ruleAt g s.a).right.take s.b.toNat)) ls (kn8 g)) f3) .nil) [x194] :: kidsA ((bk3 s.a (nms ((ruleAt g s.a).right.take s.b.toNat)) ls (kn8 g)) f4) n4 :: [cel b128 99 [vi X, .slice a204 (n1 ++ (x194 :: n4)).length c204], trow 80 1 encP (.slice a204 (n1 ++ (x194 :: n4)).length c204) (n1 ++ (x194 :: n4)), kidsA ((bk3 s.a (nms ((ruleAt g s.a).right.take s.b.toNat)) ls (kn8 g)) f1) n1]) w := hw.sub sbt
     have h3 : Sat _ _ (kidsA ((bk3 s.a (nms ((ruleAt g s.a).right.take s.b.toNat)) ls (kn8 g)) f1) n1 :: kidsA (.cons z ((bk3 s.a (nms ((ruleAt g s.a).right.take s.b.toNat)) ls (kn8 g)) f3) ((bk3 s.a (nms ((ruleAt g s.a).right.take s.b.toNat)) ls (kn8 g)) f4)) (x194 :: n4) :: [cel b128 99 [vi X, .slice a204 (n1 ++ (x194 :: n4)).length c204], trow 80 1 encP (.slice a204 (n1 ++ (x194 :: n4)).length c204) (n1 ++ (x194 :: n4))]) w := h1.kidsApp.sub sbt
     have h5 : Sat _ _ (cel b128 99 [vi X, .slice a204 (n1 ++ (x194 :: n4)).length c204] :: trow 80 1 encP (.slice a204 (n1 ++ (x194 :: n4)).length c204) (n1 ++ (x194 :: n4)) :: kidsA (((bk3 s.a (nms ((ruleAt g s.a).right.take s.b.toNat)) ls (kn8 g)) f1).app (.cons z ((bk3 s.a (nms ((ruleAt g s.a).right.take s.b.toNat)) ls (kn8 g)) f3) ((bk3 s.a (nms ((ruleAt g s.a).right.take s.b.toNat)) ls (kn8 g)) f4))) (n1 ++ (x194 :: n4)) :: []) w := h3.kidsApp.sub sbt
     have hkn : kn8 g z = (nms r2.right) := by unfold kn8; rw [List.getD_eq_getElem?_getD, hr2]; rfl
     have hT : (bk3 s.a (nms ((ruleAt g s.a).right.take s.b.toNat)) ls (kn8 g)) (.cons x ks .nil) = .cons X (((bk3 s.a (nms ((ruleAt g s.a).right.take s.b.toNat)) ls (kn8 g)) f1).app (.cons z ((bk3 s.a (nms ((ruleAt g s.a).right.take s.b.toNat)) ls (kn8 g)) f3) ((bk3 s.a (nms ((ruleAt g s.a).right.take s.b.toNat)) ls (kn8 g)) f4))) .nil := by
       show (if s.a ≤ x ∧ x < s.a + (ls.length : Int) then For.cons s.a (For.app (((bk3 s.a (nms ((ruleAt g s.a).right.take s.b.toNat)) ls (kn8 g)) ks).take (nms ((ruleAt g s.a).right.take s.b.toNat))) (.cons ((ls.getD (x - s.a).toNat 0 : Nat) : Int) ((((bk3 s.a (nms ((ruleAt g s.a).right.take s.b.toNat)) ls (kn8 g)) ks).drop (nms ((ruleAt g s.a).right.take s.b.toNat))).take (kn8 g (ls.getD (x - s.a).toNat 0))) (((bk3 s.a (nms ((ruleAt g s.a).right.take s.b.toNat)) ls (kn8 g)) ks).drop ((nms ((ruleAt g s.a).right.take s.b.toNat)) + kn8 g (ls.getD (x - s.a).toNat 0))))) .nil else _) = _
       rw [if_pos ⟨hxlo, hxhi⟩, hzd, hkn, hTk, take_app _ _ _ hTl, ← drop_drop, drop_app _ _ _ hTl, take_app _ _ _ hTl3, drop_app _ _ _ hTl3, hX]
     rw [hT]
     exact ⟨b128, rfl, h5.kidNew⟩
   exfalso
   have hJ0 : ¬ (0 : Int) ≤ J := of_decide_eq_false h152
   omega --stop
 have hxlo : ¬ s.a ≤ x := of_decide_eq_false h82
 refine CW_skip ?_
 refine EW_block_normal ?_
 refine EW_block_normal ?_
 refine EW_then ?_
 refine CW_seq ?_
 obtain ⟨X, hX⟩ : ∃ X : Int, X = x := ⟨_, rfl⟩
 obtain ⟨J, hJ⟩ : ∃ J : Int, J = -1 := ⟨_, rfl⟩
 refine CW_spell 5 (.int .i64 X) rfl (by rw [hX]) ?_
 refine CW_spell 6 (.int .i64 J) rfl (by rw [hJ]) ?_
 refine CW_region ?_
 refine mO ?_
 refine OW_q (q_build (ps := #[(0, .int .i64 X)]) (v := .agg #[.int .i64 X, .slice none 0 0]) rfl (fun w => by kernel_rfl)) rfl ?_
 refine OW_e (e_box rfl rfl) rfl (fun b128 => ?_)
 refine aO ?_
 refine nx2 ?_
 refine CW_seq ?_
 refine nx3 ?_
 refine mO ?_
 refine OW_q (q_nilCheck rfl) rfl ?_
 refine OW_q (q_fieldAddr Try.underlying99 rfl rfl Try.sizeOf97 rfl rfl) rfl ?_
 refine OW_q (q_load1_ro Try.isAgg97 rfl (by exact hrow.at_ (j := 1) rfl)) rfl ?_
 refine OW_q (q_len Try.underlying97 rfl) rfl ?_
 refine mO ?_
 refine nx2 ?_
 refine CW_block ?_
 refine CW_weak (S' := Sat (Old w) w [cel b128 99 [vi X, .slice none 0 0], trow 80 1 encP (.slice none 0 0) [], kidsA ((bk3 s.a (nms ((ruleAt g s.a).right.take s.b.toNat)) ls (kn8 g)) .nil) []]) (fun w hw => by
   have h1 := (hw.tnil 80 1 encP).addEmp (A := kidsA ((bk3 s.a (nms ((ruleAt g s.a).right.take s.b.toNat)) ls (kn8 g)) .nil) []) ⟨rfl, rfl⟩
   exact h1.sub sbt) ?_
 refine CW_loopP (ι := Nat × For × For × List Nat × List Nat × Value × List Nat) (fun i_ => i_.1 ≤ kb.length ∧ ks = i_.2.1.app i_.2.2.1 ∧ kb = i_.2.2.2.1 ++ i_.2.2.2.2.1 ∧ i_.2.2.2.1.length = i_.1 ∧ KidsAt (Rd (Old w) w) i_.2.2.1 i_.2.2.2.2.1 ∧ Wf h i_.2.2.1 ∧ i_.2.2.2.2.2.2.length = i_.1) (fun i_ => [(0, .pointer (some ⟨cb, 0, none⟩)), (1, .pointer (some ⟨b, 0, none⟩)), (6, .int .i64 J), (7, .pointer (some ⟨b128, 0, none⟩)), (132, .slice ak kb.length ck), (133, .int .i64 (kb.length : Int)), (134, .int .i64 (i_.1 : Int))]) (fun i_ => Sat (Old w) w [cel b128 99 [vi X, i_.2.2.2.2.2.1], trow 80 1 encP i_.2.2.2.2.2.1 i_.2.2.2.2.2.2, kidsA ((bk3 s.a (nms ((ruleAt g s.a).right.take s.b.toNat)) ls (kn8 g)) i_.2.1) i_.2.2.2.2.2.2]) (fun i_ => kb.length - i_.1) (0, .nil, ks, [], kb, .slice none 0 0, []) ?_ ⟨rfl, rfl, rfl, rfl, rfl, rfl, rfl, trivial⟩ sft ?_
 · exact ⟨Nat.zero_le _, rfl, rfl, rfl, hks, hwks9, rfl⟩
 intro i_ hpre
 obtain ⟨k, fd, fr, bd, br, v, nb⟩ := i_
 replace hpre : k ≤ kb.length ∧ ks = fd.app fr ∧ kb = bd ++ br ∧ bd.length = k ∧ KidsAt (Rd (Old w) w) fr br ∧ Wf h fr ∧ nb.length = k := hpre
 change CW _ _ _ _ [(0, .pointer (some ⟨cb, 0, none⟩)), (1, .pointer (some ⟨b, 0, none⟩)), (6, .int .i64 J), (7, .pointer (some ⟨b128, 0, none⟩)), (132, .slice ak kb.length ck), (133, .int .i64 (kb.length : Int)), (134, .int .i64 (k : Int))] (Sat (Old w) w [cel b128 99 [vi X, v], trow 80 1 encP v nb, kidsA ((bk3 s.a (nms ((ruleAt g s.a).right.take s.b.toNat)) ls (kn8 g)) fd) nb])
 obtain ⟨hk, hfd, hbd, hbl, hkr, hwfr, hnb⟩ := hpre
 refine nx3 ?_
 refine OW_q (q_lss rfl rfl) rfl ?_
 refine nx2 ?_
 refine CW_seq ?_
 refine CW_cond rfl (fun h135 => ?_) (fun h135 => ?_)
 · skip
   have hlt : k < kb.length := by have := of_decide_eq_true h135; omega
   obtain ⟨b1, br2, rfl⟩ : ∃ b1 br2, br = b1 :: br2 := by
     cases br with
     | nil => rw [List.append_nil] at hbd; rw [hbd] at hlt; omega
     | cons b1 br2 => exact ⟨b1, br2, rfl⟩
   have hbk : kb[k]? = some b1 := by rw [hbd, List.getElem?_append_right (by omega), hbl, Nat.sub_self]; rfl
   obtain ⟨p1, hp1, hb1⟩ := hkb k b1 hbk
   subst hp1
   obtain ⟨xk, kk, fr2, rfl, hkk, hk2'⟩ := kids_cons hkr
   have hkl := KidsAt.len hks
   have hks5 := kid_size (x := x) hfd
   have hls5 := len_size (ks)
   refine CW_skip ?_
   refine EW_then ?_
   refine CW_seq ?_
   refine CW_block ?_
   refine nx3 ?_
   refine OW_q (q_indexAddr Try.underlying97 Try.sizeOf80 rfl rfl (by omega)) rfl ?_
   refine OW_q (q_load1_ro Try.isAgg80 rfl (by exact hb1)) rfl ?_
   refine aO ?_
   refine nx2 ?_
   refine CW_draw (Sat (Old w) w [cel b128 99 [vi X, v]]) 12 [(0, false), (1, false), (2, false), (3, false), (4, false), (5, false), (6, false), (7, true), (8, true), (9, true), (10, false), (11, false), (12, true)] (by kernel_rfl) (Blind.block (Blind.then (Blind.again (Blind.block (Blind.then (Blind.body (by intro c w h; simp at h))))))) (by kernel_rfl) (fun w hw => hw.drew) ?_
   refine mD ?_
   refine mD ?_
   refine DW_q rfl sft (q_nilCheck rfl) rfl ?_
   refine DW_q rfl sft (q_fieldAddr Try.underlying99 rfl rfl Try.sizeOf97 rfl rfl) rfl ?_
   refine DW_q rfl sft (q_load1_own Try.isAgg97 rfl rfl swt (by rfl)) rfl ?_
   refine mD ?_
   refine mD ?_
   refine DW_e rfl (e_call Try.call44 rfl (fun w hw => lift_old (ih (For.cons xk kk .nil).size (by omega) xk kk b1 cb w (Nat.le_refl _) (by omega) (hc0.mono fun _ _ h => hw.rd (Rd.old h)) (hkk.mono hw.rd_cl) ⟨hwfr.1, trivial⟩) hw)) rfl (fun _ w hw => by first | exact hw.sub sbt | exact hw.2.sub sbt) (fun x145 => ?_)
   refine DW_e rfl (e_single Try.underlying97 Try.sizeOf80 Try.zeroValue80 (e := 80) (v := .pointer (some ⟨x145, 0, none⟩)) (cs := encP x145) rfl rfl rfl rfl (by decide) (by decide)) rfl (fun _ => sft) (fun b146 => ?_)
   refine DW_e rfl (e_append_t (x0 := x145) (enc := encP) (v := v) (l := nb) Try.underlying97 Try.typeInfo80 rfl rfl rfl rfl rfl rfl rfl pkt rfl (by exact fun w hw => hw.news swt) (by simp [Value.oneCell']) (by omega) (by decide)) rfl (fun _ => sft) (fun v147 => ?_)
   refine DW_fact (fun w hw => hw.tform (v := v147) (l := (nb ++ [x145])) (enc := encP) swt) (fun hf => ?_)
   obtain ⟨a147, c147, rfl, _, _, hb147⟩ := hf
   refine DW_q rfl sft (q_nilCheck rfl) rfl ?_
   refine DW_q rfl sft (q_fieldAddr Try.underlying99 rfl rfl Try.sizeOf97 rfl rfl) rfl ?_
   refine DW_z0 rfl (e_store Try.sizeOf97 rfl rfl rfl rfl swt (by rfl)) (fun _ => ?_)
   refine EW_block_normal ?_
   refine EW_then ?_
   refine CW_region ?_
   refine OW_q (q_add rfl rfl (by omega) (by omega)) rfl ?_
   refine mO ?_
   refine OW_nil ?_
   refine EW_weak (S' := Sat (Old _) _ [cel b128 99 [vi X, .slice a147 (nb ++ [x145]).length c147], trow 80 1 encP (.slice a147 (nb ++ [x145]).length c147) (nb ++ [x145]), kidsA ((bk3 s.a (nms ((ruleAt g s.a).right.take s.b.toNat)) ls (kn8 g)) (fd.app (.cons xk kk .nil))) (nb ++ [x145])]) (fun w hw => by
     have h1 : Sat _ _ (kidsA ((bk3 s.a (nms ((ruleAt g s.a).right.take s.b.toNat)) ls (kn8 g)) fd) nb :: kidsA ((bk3 s.a (nms ((ruleAt g s.a).right.take s.b.toNat)) ls (kn8 g)) (.cons xk kk .nil)) [x145] :: [cel b128 99 [vi X, .slice a147 (nb ++ [x145]).length c147], trow 80 1 encP (.slice a147 (nb ++ [x145]).length c147) (nb ++ [x145])]) w := hw.sub sbt
     exact (sat_kids (T := (bk3 s.a (nms ((ruleAt g s.a).right.take s.b.toNat)) ls (kn8 g))) (bk3_app) h1).sub sbt) ?_
   refine EW_again ((k + 1, fd.app (.cons xk kk .nil), fr2, bd ++ [b1], br2, .slice a147 (nb ++ [x145]).length c147, nb ++ [x145])) ⟨?_, ?_⟩ ⟨rfl, rfl, rfl, rfl, rfl, rfl, rfl, trivial⟩ sft
   · show kb.length - (k + 1) < kb.length - k; omega
   · refine ⟨by show k + 1 ≤ _; omega, ?_, ?_, ?_, hk2', hwfr.2, ?_⟩
     · show ks = _
       rw [hfd, For.app_one]
     · show kb = _
       rw [hbd]; simp
     · show (bd ++ [b1]).length = _
       rw [List.length_append, hbl]; rfl
     · show (nb ++ [x145]).length = _
       rw [List.length_append, hnb]; rfl
 have hke : k = kb.length := by have := of_decide_eq_false h135; omega
 have hbr : br = [] := by
   have := congrArg List.length hbd
   rw [List.length_append] at this
   exact List.eq_nil_of_length_eq_zero (by omega)
 subst hbr
 have hfr := kids_none hkr
 subst hfr
 rw [For.app_nil] at hfd
 subst hfd
 refine CW_fact (fun w hw => hw.tform (v := v) (l := nb) (enc := encP) swt) (fun hf => ?_)
 obtain ⟨an, cn, rfl, _, _, hbn⟩ := hf
 refine CW_exit ?_
 refine EW_then_exit ?_
 refine EW_out ?_
 refine EW_block_exit ?_
 refine EW_then ?_
 refine CW_seq ?_
 refine nx3 ?_
 refine mO ?_
 refine OW_q (q_geq rfl rfl) rfl ?_
 refine nx2 ?_
 refine CW_cond rfl (fun h152 => ?_) (fun h152 => ?_)
 · skip
   exfalso
   have hJ0 : (0 : Int) ≤ J := of_decide_eq_true h152
   omega --stop
 refine CW_skip ?_
 refine EW_then ?_
 refine CW_seq ?_
 refine CW_seq ?_
 refine CW_draw (Sat (Old w) w []) 18 [(0, false), (1, false), (2, false), (3, false), (4, false), (5, false), (6, false), (7, false), (8, false), (9, false), (10, false), (11, false), (12, false), (13, false), (14, false), (15, false), (16, false), (17, false)] (by kernel_rfl) (Blind.then (Blind.then (Blind.body (by intro c w h; simp at h)))) (by kernel_rfl) (fun w hw => hw.drew) ?_
 refine mD ?_
 refine DW_q rfl sft (q_nilCheck rfl) rfl ?_
 refine DW_q rfl sft (q_fieldAddr Try.underlying96 rfl rfl Try.sizeOf26 rfl rfl) rfl ?_
 refine DW_q rfl sft (q_fieldAddr Try.underlying26 rfl rfl Try.sizeOf3 rfl rfl) rfl ?_
 refine DW_q rfl sft (q_load1_ro Try.isAgg3 rfl (by exact hcar.at_ (j := 3) rfl)) rfl ?_
 refine DW_q rfl sft (q_eqi rfl rfl) rfl ?_
 refine mD ?_
 refine DW_part (t := 213) rfl (fun hg213 => ?_) (fun hg213 => ?_)
 · skip
   exact absurd hg213 (by simp [hop]) --stop
 refine kD ?_
 refine kD ?_
 refine kD ?_
 refine kD ?_
 refine kD ?_
 refine kD ?_
 refine kD ?_
 refine kD ?_
 refine kD ?_
 refine kD ?_
 refine DW_q rfl sft (q_pick_f rfl rfl) rfl ?_
 refine DW_nil ?_
 refine EW_then ?_
 refine CW_false rfl rfl ?_
 refine CW_skip ?_
 refine EW_then ?_
 refine nx3 ?_
 refine mO ?_
 refine aO ?_
 refine nx2 ?_
 refine CW_ret ?_
 refine ret1 Try.results44 rfl (fun w hw => ?_)
 have hT : (bk3 s.a (nms ((ruleAt g s.a).right.take s.b.toNat)) ls (kn8 g)) (.cons x ks .nil) = .cons X ((bk3 s.a (nms ((ruleAt g s.a).right.take s.b.toNat)) ls (kn8 g)) ks) .nil := by
   show (if s.a ≤ x ∧ x < s.a + (ls.length : Int) then _ else For.cons (if s.a ≤ x then x - (ls.length : Int) + 1 else x) _ _) = _
   rw [if_neg (by omega), if_neg (by omega), hX]; rfl
 rw [hT]
 refine ⟨b128, rfl, ?_⟩
 have h1 : Sat _ _ (cel b128 99 [vi X, .slice an nb.length cn] :: trow 80 1 encP (.slice an nb.length cn) nb :: kidsA ((bk3 s.a (nms ((ruleAt g s.a).right.take s.b.toNat)) ls (kn8 g)) ks) nb :: []) w := hw.sub sbt
 exact h1.kidNew

end Go.Sy
/- A tree, carried back where a name began with itself. No condition. -/
namespace Go.Sy
open Go Go.RowKit Go.Proofs

/-- Each tree is of a rule of an elder name. -/
def Wn (h : Gram) (n : Int) : For → Prop
 | .nil => True
 | .cons x ks r => (∃ q y, 0 ≤ x ∧ h.rules[x.toNat]? = some q ∧ Der h q.right ks y ∧ q.left < n) ∧ Wn h n r
theorem der_wn {h : Gram} {n : Int} {l : List Sym} {f : For} {y : List Int} (d : Der h l f y) : noF n l → Wn h n f := by
 induction d with
 | nil => exact fun _ => trivial
 | term _ _ ih => exact fun hl => ih fun s hs => hl s (.tail _ hs)
 | name ht h0 hq hl hk _ _ ih2 => exact fun hf => ⟨⟨_, _, h0, hq, hk, by rw [hl]; exact hf _ (.head _) ht⟩, ih2 fun s hs => hf s (.tail _ hs)⟩
/-- What stands at the end of a rule of the name, or of its tail. -/
theorem left_tail {g h : Gram} {a : Int} (hm : mayB g = true) (hh : h.rules = leftS g.rules g.names a) {z : Int} {tk : For} {y : List Int} (hd : Der h [nameS g.names] (.cons z tk .nil) y) (hz : z < (g.rules.length : Int)) : ∃ r c0 z2 tk2 y1 y2, g.rules[z.toNat]? = some r ∧ 0 ≤ z ∧ tk = c0.app (.cons z2 tk2 .nil) ∧ Der h r.right.tail c0 y1 ∧ noF g.names r.right.tail ∧ Der h [nameS g.names] (.cons z2 tk2 .nil) y2 := by
 obtain ⟨z1, qz, tk1, e0, z0, zq, zl, zd⟩ := der_one hd rfl
 injection e0 with e1 e2 _
 subst e1
 subst e2
 rw [hh] at zq
 have hrng := may_rng hm
 rcases left_of zq with ⟨r0, hr0, rfl⟩ | ⟨hz9, rfl⟩
 · have hla : r0.left = a := by
     by_cases ha : r0.left = a
     · exact ha
     · rw [leftR_else ha] at zl
       have := (hrng r0 (List.mem_of_getElem? hr0)).1
       have zl : r0.left = g.names := zl
       omega
   have hlo : loopsB r0 = true := by
     cases ho : loopsB r0 with
     | true => rfl
     | false =>
       rw [leftR_end hla ho] at zl
       have := (hrng r0 (List.mem_of_getElem? hr0)).1
       have zl : r0.left = g.names := zl
       omega
   rw [leftR_loop hla hlo] at zd
   obtain ⟨k0, kt, u1, u2, rfl, rfl, d1, d2⟩ := der_cut (show Der _ (r0.right.tail ++ [nameS g.names]) _ _ from zd)
   obtain ⟨z2, qz2, tk2, rfl, _, _, _, _⟩ := der_one d2 rfl
   exact ⟨r0, k0, z2, tk2, u1, u2, hr0, z0, rfl, d1, fun s hs' => (hrng r0 (List.mem_of_getElem? hr0)).2 s (List.mem_of_mem_tail hs'), d2⟩
 · omega
theorem left_top {g h : Gram} {a : Int} (hm : mayB g = true) (hh : h.rules = leftS g.rules g.names a) {x : Int} {q : Rule} {ks : For} {y : List Int} (h0 : 0 ≤ x) (hq : h.rules[x.toNat]? = some q) (hd : Der h q.right ks y) (hn : q.left < g.names) : ∃ r, g.rules[x.toNat]? = some r ∧ (r.left = a → ∃ k0 z tk y1 y2, ks = k0.app (.cons z tk .nil) ∧ Der h r.right k0 y1 ∧ noF g.names r.right ∧ Der h [nameS g.names] (.cons z tk .nil) y2) ∧ (r.left ≠ a → Der h r.right ks y ∧ noF g.names r.right) := by
 have hrng := may_rng hm
 rw [hh] at hq
 rcases left_of hq with ⟨r0, hr0, rfl⟩ | ⟨_, rfl⟩
 · have hnf := (hrng r0 (List.mem_of_getElem? hr0)).2
   refine ⟨r0, hr0, fun ha => ?_, fun ha => ?_⟩
   · cases ho : loopsB r0 with
     | true =>
       rw [leftR_loop ha ho] at hn
       have hn : g.names < g.names := hn
       omega
     | false =>
       rw [leftR_end ha ho] at hd
       obtain ⟨k0, kt, u1, u2, rfl, rfl, d1, d2⟩ := der_cut (show Der _ (r0.right ++ [nameS g.names]) _ _ from hd)
       obtain ⟨z2, qz2, tk2, rfl, _, _, _, _⟩ := der_one d2 rfl
       exact ⟨k0, z2, tk2, u1, u2, rfl, d1, hnf, d2⟩
   · rw [leftR_else ha] at hd
     exact ⟨hd, hnf⟩
 · have hn : g.names < g.names := hn
   omega
theorem one_kid {ρ : Addr → Value → Prop} {x : Int} {k : For} {bs : List Nat} (h : KidsAt ρ (.cons x k .nil) bs) : ∃ b, bs = [b] := by
 obtain ⟨b, bs', _, _, e, _, _, _, h5⟩ := h
 have e2 : bs' = [] := h5
 subst e2
 exact ⟨b, e⟩
theorem snoc_take {m : List Nat} {b : Nat} : ((m ++ [b]).take ((m ++ [b]).length - 1)).drop 0 = m := by simp
theorem snoc_get {m : List Nat} {b : Nat} : (m ++ [b])[(m ++ [b]).length - 1]? = some b := by simp
set_option maxRecDepth 20000 in
theorem again4_any (g : Gram) (s : SStep) (ls : List Nat) (hm : mayB g = true) (h : Gram) (hmh : mayB h = true) (hh : h.rules = leftS g.rules g.names s.a) (N : Nat) (hN : N ≤ 5000) (ih : ∀ m, m < N → ∀ (x : Int) (ks : For) (b cb : Nat) (w : World), (For.cons x ks .nil).size ≤ m → m ≤ 5000 → CarAt (Cl w) cb g s ls → KidsAt (Cl w) (.cons x ks .nil) [b] → Wn h g.names (.cons x ks .nil) → Calls Try.prog 44 #[.pointer (some ⟨cb, 0, none⟩), .pointer (some ⟨b, 0, none⟩)] w (fun e w' => ∃ b' : Nat, e = .returned (.pointer (some ⟨b', 0, none⟩)) ∧ Sat (Old w) w [kidsA ((B4 g.rules s.a) (.cons x ks .nil)) [b']] w')) (r : Int) (f : For) (kb : List Nat) (v : Value) (cb : Nat) (w : World) (hsz : f.size < N) (hc0 : CarAt (Cl w) cb g s ls) (hp0 : PtrsAt (Cl w) v kb) (hk0 : KidsAt (Cl w) f kb) (hwf : Wn h g.names f) : Calls Try.prog 65 #[.pointer (some ⟨cb, 0, none⟩), .int .i64 r, v] w (fun e w' => ∃ b' : Nat, e = .returned (.pointer (some ⟨b', 0, none⟩)) ∧ Sat (Old w) w [kidsA (.cons r ((B4 g.rules s.a) f) .nil) [b']] w') := by
 obtain ⟨ak, ck, rfl, hk1, hk2, hkb⟩ := hp0.mono old_rd
 have hks := hk0.mono old_rd
 have hlsf := len_size f
 have hklf := KidsAt.len hks
 refine calls_CW Try.func65 rfl Try.ntmps65 rfl (Sat.start w) ?_
 refine nx3 ?_
 refine aO ?_
 refine nx4 ?_
 refine mO ?_
 refine OW_q (q_build (ps := #[(0, .int .i64 r)]) (v := .agg #[.int .i64 r, .slice none 0 0]) rfl (fun w => by kernel_rfl)) rfl ?_
 refine OW_e (e_box rfl rfl) rfl (fun b12 => ?_)
 refine aO ?_
 refine nx2 ?_
 refine CW_seq ?_
 refine nx3 ?_
 refine mO ?_
 refine OW_q (q_len Try.underlying97 rfl) rfl ?_
 refine mO ?_
 refine nx2 ?_
 refine CW_block ?_
 refine CW_weak (S' := Sat (Old w) w [cel b12 99 [vi r, .slice none 0 0], trow 80 1 encP (.slice none 0 0) [], kidsA ((B4 g.rules s.a) .nil) []]) (fun w hw => by
   have h1 := (hw.tnil 80 1 encP).addEmp (A := kidsA .nil []) ⟨rfl, rfl⟩
   rw [show kidsA ((B4 g.rules s.a) .nil) [] = kidsA .nil [] by rw [B4, bk4_nil]]
   exact h1.sub sbt) ?_
 refine CW_loopP (ι := Nat × For × For × List Nat × List Nat × Value × List Nat) (fun i_ => i_.1 ≤ kb.length ∧ f = i_.2.1.app i_.2.2.1 ∧ kb = i_.2.2.2.1 ++ i_.2.2.2.2.1 ∧ i_.2.2.2.1.length = i_.1 ∧ KidsAt (Rd (Old w) w) i_.2.2.1 i_.2.2.2.2.1 ∧ Wn h g.names i_.2.2.1 ∧ i_.2.2.2.2.2.2.length = i_.1) (fun i_ => [(0, .pointer (some ⟨cb, 0, none⟩)), (7, .pointer (some ⟨b12, 0, none⟩)), (13, .slice ak kb.length ck), (14, .int .i64 (kb.length : Int)), (15, .int .i64 (i_.1 : Int))]) (fun i_ => Sat (Old w) w [cel b12 99 [vi r, i_.2.2.2.2.2.1], trow 80 1 encP i_.2.2.2.2.2.1 i_.2.2.2.2.2.2, kidsA ((B4 g.rules s.a) i_.2.1) i_.2.2.2.2.2.2]) (fun i_ => kb.length - i_.1) (0, .nil, f, [], kb, .slice none 0 0, []) ?_ ⟨rfl, rfl, rfl, rfl, rfl, trivial⟩ sft ?_
 · exact ⟨Nat.zero_le _, rfl, rfl, rfl, hks, hwf, rfl⟩
 intro i_ hpre
 obtain ⟨k, fd, fr, bd, br, v, nb⟩ := i_
 replace hpre : k ≤ kb.length ∧ f = fd.app fr ∧ kb = bd ++ br ∧ bd.length = k ∧ KidsAt (Rd (Old w) w) fr br ∧ Wn h g.names fr ∧ nb.length = k := hpre
 change CW _ _ _ _ [(0, .pointer (some ⟨cb, 0, none⟩)), (7, .pointer (some ⟨b12, 0, none⟩)), (13, .slice ak kb.length ck), (14, .int .i64 (kb.length : Int)), (15, .int .i64 (k : Int))] (Sat (Old w) w [cel b12 99 [vi r, v], trow 80 1 encP v nb, kidsA ((B4 g.rules s.a) fd) nb])
 obtain ⟨hk, hfd, hbd, hbl, hkr, hwfr, hnb⟩ := hpre
 refine nx3 ?_
 refine OW_q (q_lss rfl rfl) rfl ?_
 refine nx2 ?_
 refine CW_seq ?_
 refine CW_cond rfl (fun h16 => ?_) (fun h16 => ?_)
 · skip
   have hlt : k < kb.length := by have := of_decide_eq_true h16; omega
   obtain ⟨b1, br2, rfl⟩ : ∃ b1 br2, br = b1 :: br2 := by
     cases br with
     | nil => rw [List.append_nil] at hbd; rw [hbd] at hlt; omega
     | cons b1 br2 => exact ⟨b1, br2, rfl⟩
   have hbk : kb[k]? = some b1 := by rw [hbd, List.getElem?_append_right (by omega), hbl, Nat.sub_self]; rfl
   obtain ⟨p1, hp1, hb1⟩ := hkb k b1 hbk
   subst hp1
   obtain ⟨xk, kk, fr2, rfl, hkk, hk2'⟩ := kids_cons hkr
   have hkl := KidsAt.len hks
   have hks5 := kid_size (x := r) hfd
   have hls5 := len_size (f)
   refine CW_skip ?_
   refine EW_then ?_
   refine CW_seq ?_
   refine CW_block ?_
   refine nx3 ?_
   refine OW_q (q_indexAddr Try.underlying97 Try.sizeOf80 rfl rfl (by omega)) rfl ?_
   refine OW_q (q_load1_ro Try.isAgg80 rfl (by exact hb1)) rfl ?_
   refine aO ?_
   refine nx2 ?_
   refine CW_draw (Sat (Old w) w [cel b12 99 [vi r, v]]) 12 [(0, false), (1, false), (2, false), (3, false), (4, false), (5, false), (6, false), (7, true), (8, true), (9, true), (10, false), (11, false), (12, true)] (by kernel_rfl) (Blind.block (Blind.then (Blind.again (Blind.block (Blind.then (Blind.body (by intro c w h; simp at h))))))) (by kernel_rfl) (fun w hw => hw.drew) ?_
   refine mD ?_
   refine mD ?_
   refine DW_q rfl sft (q_nilCheck rfl) rfl ?_
   refine DW_q rfl sft (q_fieldAddr Try.underlying99 rfl rfl Try.sizeOf97 rfl rfl) rfl ?_
   refine DW_q rfl sft (q_load1_own Try.isAgg97 rfl rfl swt (by rfl)) rfl ?_
   refine mD ?_
   refine mD ?_
   refine DW_e rfl (e_call Try.call44 rfl (fun w hw => lift_old (ih (For.cons xk kk .nil).size (by omega) xk kk b1 cb w (Nat.le_refl _) (by omega) (hc0.mono fun _ _ h => hw.rd (Rd.old h)) (hkk.mono hw.rd_cl) ⟨hwfr.1, trivial⟩) hw)) rfl (fun _ w hw => by first | exact hw.sub sbt | exact hw.2.sub sbt) (fun x26 => ?_)
   refine DW_e rfl (e_single Try.underlying97 Try.sizeOf80 Try.zeroValue80 (e := 80) (v := .pointer (some ⟨x26, 0, none⟩)) (cs := encP x26) rfl rfl rfl rfl (by decide) (by decide)) rfl (fun _ => sft) (fun b27 => ?_)
   refine DW_e rfl (e_append_t (x0 := x26) (enc := encP) (v := v) (l := nb) Try.underlying97 Try.typeInfo80 rfl rfl rfl rfl rfl rfl rfl pkt rfl (by exact fun w hw => hw.news swt) (by simp [Value.oneCell']) (by omega) (by decide)) rfl (fun _ => sft) (fun v28 => ?_)
   refine DW_fact (fun w hw => hw.tform (v := v28) (l := (nb ++ [x26])) (enc := encP) swt) (fun hf => ?_)
   obtain ⟨a28, c28, rfl, _, _, hb28⟩ := hf
   refine DW_q rfl sft (q_nilCheck rfl) rfl ?_
   refine DW_q rfl sft (q_fieldAddr Try.underlying99 rfl rfl Try.sizeOf97 rfl rfl) rfl ?_
   refine DW_z0 rfl (e_store Try.sizeOf97 rfl rfl rfl rfl swt (by rfl)) (fun _ => ?_)
   refine EW_block_normal ?_
   refine EW_then ?_
   refine CW_region ?_
   refine OW_q (q_add rfl rfl (by omega) (by omega)) rfl ?_
   refine mO ?_
   refine OW_nil ?_
   refine EW_weak (S' := Sat (Old _) _ [cel b12 99 [vi r, .slice a28 (nb ++ [x26]).length c28], trow 80 1 encP (.slice a28 (nb ++ [x26]).length c28) (nb ++ [x26]), kidsA ((B4 g.rules s.a) (fd.app (.cons xk kk .nil))) (nb ++ [x26])]) (fun w hw => by
     have h1 : Sat _ _ (kidsA ((B4 g.rules s.a) fd) nb :: kidsA ((B4 g.rules s.a) (.cons xk kk .nil)) [x26] :: [cel b12 99 [vi r, .slice a28 (nb ++ [x26]).length c28], trow 80 1 encP (.slice a28 (nb ++ [x26]).length c28) (nb ++ [x26])]) w := hw.sub sbt
     exact (sat_kids (T := (B4 g.rules s.a)) (bk4_app) h1).sub sbt) ?_
   refine EW_again ((k + 1, fd.app (.cons xk kk .nil), fr2, bd ++ [b1], br2, .slice a28 (nb ++ [x26]).length c28, nb ++ [x26])) ⟨?_, ?_⟩ ⟨rfl, rfl, rfl, rfl, rfl, trivial⟩ sft
   · show kb.length - (k + 1) < kb.length - k; omega
   · refine ⟨by show k + 1 ≤ _; omega, ?_, ?_, ?_, hk2', hwfr.2, ?_⟩
     · show f = _
       rw [hfd, For.app_one]
     · show kb = _
       rw [hbd]; simp
     · show (bd ++ [b1]).length = _
       rw [List.length_append, hbl]; rfl
     · show (nb ++ [x26]).length = _
       rw [List.length_append, hnb]; rfl
 have hke : k = kb.length := by have := of_decide_eq_false h16; omega
 have hbr : br = [] := by
   have := congrArg List.length hbd
   rw [List.length_append] at this
   exact List.eq_nil_of_length_eq_zero (by omega)
 subst hbr
 have hfr := kids_none hkr
 subst hfr
 rw [For.app_nil] at hfd
 subst hfd
 refine CW_fact (fun w hw => hw.tform (v := v) (l := nb) (enc := encP) swt) (fun hf => ?_)
 obtain ⟨an, cn, rfl, _, _, hbn⟩ := hf
 refine CW_exit ?_
 refine EW_then_exit ?_
 refine EW_out ?_
 refine EW_block_exit ?_
 refine EW_then ?_
 refine nx3 ?_
 refine mO ?_
 refine aO ?_
 refine nx2 ?_
 refine CW_ret ?_
 refine ret1 Try.results65 rfl (fun w hw => ?_)
 refine ⟨b12, rfl, ?_⟩
 have h1 : Sat _ _ (cel b12 99 [vi r, .slice an nb.length cn] :: trow 80 1 encP (.slice an nb.length cn) nb :: kidsA ((B4 g.rules s.a) f) nb :: []) w := hw.sub sbt
 exact h1.kidNew

set_option maxRecDepth 20000 in
theorem wind_any (g : Gram) (s : SStep) (ls : List Nat) (hm : mayB g = true) (h : Gram) (hmh : mayB h = true) (hh : h.rules = leftS g.rules g.names s.a) (N : Nat) (hN : N ≤ 5000) (ih : ∀ m, m < N → ∀ (x : Int) (ks : For) (b cb : Nat) (w : World), (For.cons x ks .nil).size ≤ m → m ≤ 5000 → CarAt (Cl w) cb g s ls → KidsAt (Cl w) (.cons x ks .nil) [b] → Wn h g.names (.cons x ks .nil) → Calls Try.prog 44 #[.pointer (some ⟨cb, 0, none⟩), .pointer (some ⟨b, 0, none⟩)] w (fun e w' => ∃ b' : Nat, e = .returned (.pointer (some ⟨b', 0, none⟩)) ∧ Sat (Old w) w [kidsA ((B4 g.rules s.a) (.cons x ks .nil)) [b']] w')) (x : Int) (ks : For) (b cb : Nat) (w : World) (hsz : (For.cons x ks .nil).size ≤ N) (hc0 : CarAt (Cl w) cb g s ls) (hk0 : KidsAt (Cl w) (.cons x ks .nil) [b]) (hwf : Wn h g.names (.cons x ks .nil)) (hA : isAr g.rules s.a x = true) : Calls Try.prog 64 #[.pointer (some ⟨cb, 0, none⟩), .pointer (some ⟨b, 0, none⟩)] w (fun e w' => ∃ b' : Nat, e = .returned (.pointer (some ⟨b', 0, none⟩)) ∧ Sat (Old w) w [kidsA (wk (isAr g.rules s.a) (g.rules.length : Int) ks x .nil) [b']] w') := by
 obtain ⟨rv, lv, hcar, hrr, hll⟩ := (hc0.mono old_rd).ex
 obtain ⟨ar, cr, rfl, hr1, hr2, hrs⟩ := hrr
 obtain ⟨ak, kb, ck, hrow, hk1, hk2, hkb, hks⟩ := kids_top (hk0.mono old_rd)
 obtain ⟨⟨q, yq, hx0, hq, hdq, hqn⟩, _⟩ := id hwf
 obtain ⟨r0, hr0, hra, _⟩ := left_top hm hh hx0 hq hdq hqn
 obtain ⟨k0, z0, tk0, y1, y2, hksE, hdk0, hnk0, hdz0⟩ := hra (by rw [isAr_get hr0] at hA; simpa using hA)
 subst hksE
 obtain ⟨m1, m2, hm1, hm1l, hkk0, hkz0⟩ := kidsAt_split hks
 obtain ⟨bz0, hbz0⟩ := one_kid hkz0
 subst hbz0
 subst hm1
 obtain ⟨pz0, hpz0, hbz0c⟩ := hkb _ bz0 (snoc_get (m := m1) (b := bz0))
 subst hpz0
 have hm1ll : (m1 ++ [bz0]).length = m1.length + 1 := by simp
 have hM := mayB_true.1 hm
 have hsx : (For.cons x (k0.app (.cons z0 tk0 .nil)) .nil).size = k0.size + (tk0.size + 0 + 1) + 0 + 1 := by
   show (k0.app (.cons z0 tk0 .nil)).size + 0 + 1 = _
   rw [app_size]; rfl
 have hka : (k0.app (.cons z0 tk0 .nil)).size = k0.size + (tk0.size + 0 + 1) := by rw [app_size]; rfl
 refine calls_CW Try.func64 rfl Try.ntmps64 rfl (Sat.start w) ?_
 refine nx3 ?_
 refine aO ?_
 refine nx4 ?_
 refine mO ?_
 refine OW_q (q_nilCheck rfl) rfl ?_
 refine OW_q (q_fieldAddr Try.underlying99 rfl rfl Try.sizeOf97 rfl rfl) rfl ?_
 refine OW_q (q_load1_ro Try.isAgg97 rfl (by exact hrow.at_ (j := 1) rfl)) rfl ?_
 refine OW_q (q_len Try.underlying97 rfl) rfl ?_
 refine OW_q (q_sub rfl rfl (by omega) (by omega)) rfl ?_
 refine OW_spell 15 (.int .i64 (((m1 ++ [bz0]).length - 1 : Nat) : Int)) rfl (congrArg (Value.int .i64) (by omega)) ?_
 refine aO ?_
 refine nx2 ?_
 refine CW_seq ?_
 refine CW_draw (Sat (Old w) w []) 13 [(0, false), (1, false), (2, false), (3, false), (4, false), (5, false), (6, false), (7, false), (8, false), (9, false), (10, false), (11, true), (12, false)] (by kernel_rfl) (Blind.then (Blind.body (by intro c w h; simp at h))) (by kernel_rfl) (fun w hw => hw.drew) ?_
 refine mD ?_
 refine mD ?_
 refine DW_q rfl sft (q_nilCheck rfl) rfl ?_
 refine DW_q rfl sft (q_fieldAddr Try.underlying99 rfl rfl Try.sizeOf3 rfl rfl) rfl ?_
 refine DW_q rfl sft (q_load1_ro Try.isAgg3 rfl (by exact hrow.at_ (j := 0) rfl)) rfl ?_
 refine mD ?_
 refine DW_q rfl sft (q_nilCheck rfl) rfl ?_
 refine DW_q rfl sft (q_fieldAddr Try.underlying99 rfl rfl Try.sizeOf97 rfl rfl) rfl ?_
 refine DW_q rfl sft (q_load1_ro Try.isAgg97 rfl (by exact hrow.at_ (j := 1) rfl)) rfl ?_
 refine mD ?_
 refine DW_q rfl sft (q_slice (l := 0) (h := (m1 ++ [bz0]).length - 1) Try.underlying97 Try.sizeOf80 rfl (.inl ⟨rfl, rfl⟩) (.inr ⟨_, rfl, rfl⟩) (Nat.zero_le _) (by omega) (by omega)) rfl ?_
 refine DW_e rfl (e_call Try.call65 rfl (fun w hw => lift_old (again4_any g s ls hm h hmh hh N hN ih x k0 (((m1 ++ [bz0]).take ((m1 ++ [bz0]).length - 1)).drop 0) _ cb w (by omega) (hc0.mono fun _ _ h => hw.rd (Rd.old h)) (SlAt.sub (show PtrsAt (Cl w) (.slice (some pz0) (m1 ++ [bz0]).length ck) (m1 ++ [bz0]) from ⟨(some pz0), ck, rfl, hk1, hk2, fun k y hy => by obtain ⟨p9, g1, g2⟩ := hkb k y hy; exact ⟨p9, g1, hw.rd g2⟩⟩) (Nat.zero_le _) (by omega)) (by rw [snoc_take]; exact hkk0.mono hw.rd_cl) (der_wn hdk0 hnk0)) hw)) rfl (fun _ w hw => by first | exact hw.sub sbt | exact hw.2.sub sbt) (fun x27 => ?_)
 refine DW_q rfl sft (q_assign rfl) rfl ?_
 refine DW_nil ?_
 refine EW_then ?_
 refine CW_seq ?_
 refine nx3 ?_
 refine mO ?_
 refine OW_q (q_nilCheck rfl) rfl ?_
 refine OW_q (q_fieldAddr Try.underlying99 rfl rfl Try.sizeOf97 rfl rfl) rfl ?_
 refine OW_q (q_load1_ro Try.isAgg97 rfl (by exact hrow.at_ (j := 1) rfl)) rfl ?_
 refine mO ?_
 refine OW_q (q_indexAddr Try.underlying97 Try.sizeOf80 rfl rfl (by omega)) rfl ?_
 refine OW_q (q_load1_ro Try.isAgg80 rfl (by exact hbz0c)) rfl ?_
 refine aO ?_
 refine nx2 ?_
 refine CW_block ?_
 refine CW_loopP (ι := Int × For × Nat × Int × For × Nat) (fun i_ => KidsAt (Rd (Old w) w) (.cons i_.1 i_.2.1 .nil) [i_.2.2.1] ∧ (∃ yz, Der h [nameS g.names] (.cons i_.1 i_.2.1 .nil) yz) ∧ i_.2.1.size ≤ (k0.app (.cons z0 tk0 .nil)).size ∧ W4 g.rules s.a (.cons i_.2.2.2.1 i_.2.2.2.2.1 .nil) (.cons i_.1 i_.2.1 .nil) = wk (isAr g.rules s.a) (g.rules.length : Int) (k0.app (.cons z0 tk0 .nil)) x .nil) (fun i_ => [(0, .pointer (some ⟨cb, 0, none⟩)), (6, .pointer (some ⟨i_.2.2.2.2.2, 0, none⟩)), (7, .pointer (some ⟨i_.2.2.1, 0, none⟩))]) (fun i_ => Sat (Old w) w [kidsA (.cons i_.2.2.2.1 i_.2.2.2.2.1 .nil) [i_.2.2.2.2.2]]) (fun i_ => i_.2.1.size) (z0, tk0, bz0, x, (B4 g.rules s.a) k0, x27) ?_ ⟨rfl, rfl, rfl, trivial⟩ sft ?_
 · exact ⟨hkz0, ⟨_, hdz0⟩, (by rw [app_size]; show tk0.size ≤ _ + (tk0.size + 0 + 1); omega), (by rw [wk_snoc]; rfl)⟩
 intro i_ hpre
 obtain ⟨z, tk, tb, xo, ko, ob⟩ := i_
 replace hpre : KidsAt (Rd (Old w) w) (.cons z tk .nil) [tb] ∧ (∃ yz, Der h [nameS g.names] (.cons z tk .nil) yz) ∧ tk.size ≤ (k0.app (.cons z0 tk0 .nil)).size ∧ W4 g.rules s.a (.cons xo ko .nil) (.cons z tk .nil) = wk (isAr g.rules s.a) (g.rules.length : Int) (k0.app (.cons z0 tk0 .nil)) x .nil := hpre
 change CW _ _ _ _ [(0, .pointer (some ⟨cb, 0, none⟩)), (6, .pointer (some ⟨ob, 0, none⟩)), (7, .pointer (some ⟨tb, 0, none⟩))] (Sat (Old w) w [kidsA (.cons xo ko .nil) [ob]])
 obtain ⟨hkz, ⟨yz, hdz⟩, hsz9, hW9⟩ := hpre
 obtain ⟨akz, kbz, ckz, hrowz, hkz1, hkz2, hkbz, hksz⟩ := kids_top hkz
 have hz0 : 0 ≤ z := by
   obtain ⟨z9, _, _, e9, h9, _⟩ := der_one hdz rfl
   injection e9 with e9 _ _
   rw [e9]; exact h9
 refine CW_seq ?_
 refine CW_seq ?_
 refine CW_draw (Sat (Old w) w []) 11 [(0, false), (1, false), (2, false), (3, false), (4, false), (5, false), (6, false), (7, false), (8, false), (9, false), (10, false)] (by kernel_rfl) (Blind.then (Blind.then (Blind.again (Blind.block (Blind.then (Blind.body (by intro c w h; simp at h))))))) (by kernel_rfl) (fun w hw => hw.drew) ?_
 refine mD ?_
 refine DW_q rfl sft (q_nilCheck rfl) rfl ?_
 refine DW_q rfl sft (q_fieldAddr Try.underlying99 rfl rfl Try.sizeOf3 rfl rfl) rfl ?_
 refine DW_q rfl sft (q_load1_ro Try.isAgg3 rfl (by exact hrowz.at_ (j := 0) rfl)) rfl ?_
 refine mD ?_
 refine DW_q rfl sft (q_nilCheck rfl) rfl ?_
 refine DW_q rfl sft (q_fieldAddr Try.underlying96 rfl rfl Try.sizeOf24 rfl rfl) rfl ?_
 refine DW_q rfl sft (q_fieldAddr Try.underlying24 rfl rfl Try.sizeOf22 rfl rfl) rfl ?_
 refine DW_q rfl sft (q_load1_ro Try.isAgg22 rfl (by exact hcar.at_ (j := 2) rfl)) rfl ?_
 refine DW_q rfl sft (q_len Try.underlying22 rfl) rfl ?_
 refine DW_q rfl sft (q_lss rfl rfl) rfl ?_
 refine DW_nil ?_
 refine EW_then ?_
 refine CW_cond rfl (fun h45 => ?_) (fun h45 => ?_)
 · skip
   have hzl : z < (g.rules.length : Int) := of_decide_eq_true h45
   obtain ⟨r1, c0, z2, tk2, y8, y9, hr1, _, htk, hdc0, hnc0, hdz2⟩ := left_tail hm hh hdz hzl
   subst htk
   obtain ⟨mz, m9, hmz, hmz1, hkc0, hk9⟩ := kidsAt_split hksz
   obtain ⟨bz2, hbz2⟩ := one_kid hk9
   subst hbz2
   subst hmz
   obtain ⟨pz, hpz, hbzc⟩ := hkbz _ bz2 (snoc_get (m := mz) (b := bz2))
   subst hpz
   have hmzl : (mz ++ [bz2]).length = mz.length + 1 := by simp
   have hc0s : c0.size < N ∧ tk2.size < (c0.app (.cons z2 tk2 .nil)).size := by
     have e1 : (c0.app (.cons z2 tk2 .nil)).size = c0.size + (tk2.size + 0 + 1) := by rw [app_size]; rfl
     omega
   refine CW_skip ?_
   refine EW_then ?_
   refine CW_block ?_
   refine nx3 ?_
   refine mO ?_
   refine OW_q (q_nilCheck rfl) rfl ?_
   refine OW_q (q_fieldAddr Try.underlying99 rfl rfl Try.sizeOf97 rfl rfl) rfl ?_
   refine OW_q (q_load1_ro Try.isAgg97 rfl (by exact hrowz.at_ (j := 1) rfl)) rfl ?_
   refine OW_q (q_len Try.underlying97 rfl) rfl ?_
   refine OW_q (q_sub rfl rfl (by omega) (by omega)) rfl ?_
   refine OW_spell 51 (.int .i64 (((mz ++ [bz2]).length - 1 : Nat) : Int)) rfl (congrArg (Value.int .i64) (by omega)) ?_
   refine aO ?_
   refine nx2 ?_
   refine CW_seq ?_
   refine CW_draw (Sat (Old w) w []) 13 [(0, false), (1, false), (2, false), (3, false), (4, false), (5, false), (6, false), (7, false), (8, false), (9, false), (10, false), (11, true), (12, false)] (by kernel_rfl) (Blind.then (Blind.block (Blind.again (Blind.block (Blind.then (Blind.body (by intro c w h; simp at h))))))) (by kernel_rfl) (fun w hw => hw.drew) ?_
   refine mD ?_
   refine mD ?_
   refine DW_q rfl sft (q_nilCheck rfl) rfl ?_
   refine DW_q rfl sft (q_fieldAddr Try.underlying99 rfl rfl Try.sizeOf3 rfl rfl) rfl ?_
   refine DW_q rfl sft (q_load1_ro Try.isAgg3 rfl (by exact hrowz.at_ (j := 0) rfl)) rfl ?_
   refine mD ?_
   refine DW_q rfl sft (q_nilCheck rfl) rfl ?_
   refine DW_q rfl sft (q_fieldAddr Try.underlying99 rfl rfl Try.sizeOf97 rfl rfl) rfl ?_
   refine DW_q rfl sft (q_load1_ro Try.isAgg97 rfl (by exact hrowz.at_ (j := 1) rfl)) rfl ?_
   refine mD ?_
   refine DW_q rfl sft (q_slice (l := 0) (h := (mz ++ [bz2]).length - 1) Try.underlying97 Try.sizeOf80 rfl (.inl ⟨rfl, rfl⟩) (.inr ⟨_, rfl, rfl⟩) (Nat.zero_le _) (by omega) (by omega)) rfl ?_
   refine DW_e rfl (e_call Try.call65 rfl (fun w hw => lift_old (again4_any g s ls hm h hmh hh N hN ih z c0 (((mz ++ [bz2]).take ((mz ++ [bz2]).length - 1)).drop 0) _ cb w (hc0s.1) (hc0.mono fun _ _ h => hw.rd (Rd.old h)) (SlAt.sub (show PtrsAt (Cl w) (.slice (some pz) (mz ++ [bz2]).length ckz) (mz ++ [bz2]) from ⟨(some pz), ckz, rfl, hkz1, hkz2, fun k y hy => by obtain ⟨p9, g1, g2⟩ := hkbz k y hy; exact ⟨p9, g1, hw.rd g2⟩⟩) (Nat.zero_le _) (by omega)) (by rw [snoc_take]; exact hkc0.mono hw.rd_cl) (der_wn hdc0 hnc0)) hw)) rfl (fun _ w hw => by first | exact hw.sub sbt | exact hw.2.sub sbt) (fun x63 => ?_)
   refine DW_q rfl sft (q_assign rfl) rfl ?_
   refine DW_nil ?_
   refine EW_then ?_
   refine CW_seq ?_
   refine CW_ex (S' := fun (z9 : Nat × List Nat × Value × List Nat) w' => [x63] = z9.1 :: z9.2.1 ∧ Sat (Old w) w (cel z9.1 99 [vi z, z9.2.2.1] :: trow 80 1 encP z9.2.2.1 z9.2.2.2 :: kidsA ((B4 g.rules s.a) c0) z9.2.2.2 :: kidsA .nil z9.2.1 :: [kidsA (.cons xo ko .nil) [ob]]) w') (fun w' hw => Sat.kidOpen (hw.sub sbt)) (fun z9 => ?_)
   obtain ⟨b9, n9, v9, kb9⟩ := z9
   refine CW_pure fun hz9 => ?_
   injection hz9 with e91 e92
   have e91 : x63 = b9 := e91
   subst e91
   refine CW_fact (fun w hw => hw.tform (v := v9) (l := kb9) (enc := encP) swt) (fun hf => ?_)
   obtain ⟨a9, c9, rfl, _, _, _⟩ := hf
   refine CW_fact (S := _) (fun w hw => Sat.kidsLen (f := (B4 g.rules s.a) c0) (bs := kb9) hw swt) (fun hk9l => ?_)
   have hc0l := len_size c0
   rw [B4, bk4_len] at hk9l
   refine CW_region ?_
   refine mO ?_
   refine mO ?_
   refine OW_e (e_single Try.underlying97 Try.sizeOf80 Try.zeroValue80 (e := 80) (v := .pointer (some ⟨ob, 0, none⟩)) (cs := encP ob) rfl rfl rfl rfl (by decide) (by decide)) rfl (fun b66 => ?_)
   refine OW_weak (S' := Sat (Old w) w [trow 80 1 encP (.slice (some ⟨b66, 0, none⟩) 1 1) [ob], cel x63 99 [vi z, .slice a9 kb9.length c9], trow 80 1 encP (.slice a9 kb9.length c9) kb9, kidsA ((B4 g.rules s.a) c0) kb9, kidsA (.cons xo ko .nil) [ob]]) (fun w hw => by
     have h9 : Sat _ _ (cel b66 80 (encP ob) :: [cel x63 99 [vi z, .slice a9 kb9.length c9], trow 80 1 encP (.slice a9 kb9.length c9) kb9, kidsA ((B4 g.rules s.a) c0) kb9, kidsA (.cons xo ko .nil) [ob]]) w := hw.sub sbt
     exact Sat.ofCel (enc := encP) (size := 1) [ob] (fun _ => rfl) (by simp) h9) ?_
   refine mO ?_
   refine OW_q (q_nilCheck rfl) rfl ?_
   refine OW_q (q_fieldAddr Try.underlying99 rfl rfl Try.sizeOf97 rfl rfl) rfl ?_
   refine OW_q (q_load1_own Try.isAgg97 rfl rfl swt (by rfl)) rfl ?_
   refine OW_e (e_appendG (enc := encP) (size := 1) (v := .slice (some ⟨b66, 0, none⟩) 1 1) (l := [ob]) (ys := kb9) (sa := a9) (fun _ => rfl) Try.underlying97 Try.typeInfo80 rfl rfl rfl rfl rfl rfl rfl pkt rfl (fun w hw => hw.vin (F := trow 80 1 encP (.slice a9 kb9.length c9) kb9) swt VIn.trow) (encP_one _) (by simp only [List.length_singleton]; omega) (by decide)) rfl (fun v71 => ?_)
   refine OW_fact (fun w hw => hw.tform (v := v71) (l := ([ob] ++ kb9)) (enc := encP) swt) (fun hf => ?_)
   obtain ⟨a71, c71, rfl, _, _, hb71⟩ := hf
   refine OW_q (q_nilCheck rfl) rfl ?_
   refine OW_q (q_fieldAddr Try.underlying99 rfl rfl Try.sizeOf97 rfl rfl) rfl ?_
   refine OW_e0 (e_store Try.sizeOf97 rfl rfl rfl rfl swt (by rfl)) (fun _ => ?_)
   refine nx2 ?_
   refine CW_draw (Sat (Old w) w []) 10 [(0, false), (1, false), (2, false), (3, false), (4, false), (5, false), (6, false), (7, false), (8, false), (9, false)] (by kernel_rfl) (Blind.block (Blind.again (Blind.block (Blind.then (Blind.body (by intro c w h; simp at h)))))) (by kernel_rfl) (fun w hw => hw.drew) ?_
   refine mD ?_
   refine mD ?_
   refine DW_q rfl sft (q_nilCheck rfl) rfl ?_
   refine DW_q rfl sft (q_fieldAddr Try.underlying99 rfl rfl Try.sizeOf97 rfl rfl) rfl ?_
   refine DW_q rfl sft (q_load1_ro Try.isAgg97 rfl (by exact hrowz.at_ (j := 1) rfl)) rfl ?_
   refine mD ?_
   refine DW_q rfl sft (q_indexAddr Try.underlying97 Try.sizeOf80 rfl rfl (by omega)) rfl ?_
   refine DW_q rfl sft (q_load1_ro Try.isAgg80 rfl (by exact hbzc)) rfl ?_
   refine DW_q rfl sft (q_assign rfl) rfl ?_
   refine DW_q rfl sft (q_assign rfl) rfl ?_
   refine DW_nil ?_
   refine EW_block_normal ?_
   refine EW_weak (S' := Sat (Old _) _ [kidsA (.cons z ((For.cons xo ko .nil).app ((B4 g.rules s.a) c0)) .nil) [x63]]) (fun w hw => by
     have h1 : Sat _ _ (kidsA (.cons xo ko .nil) [ob] :: kidsA ((B4 g.rules s.a) c0) kb9 :: [cel x63 99 [vi z, .slice a71 ([ob] ++ kb9).length c71], trow 80 1 encP (.slice a71 ([ob] ++ kb9).length c71) ([ob] ++ kb9)]) w := hw.sub sbt
     have h2 : Sat _ _ (cel x63 99 [vi z, .slice a71 ([ob] ++ kb9).length c71] :: trow 80 1 encP (.slice a71 ([ob] ++ kb9).length c71) ([ob] ++ kb9) :: kidsA ((For.cons xo ko .nil).app ((B4 g.rules s.a) c0)) ([ob] ++ kb9) :: []) w := h1.kidsApp.sub sbt
     exact h2.kidNew) ?_
   refine EW_again ((z2, tk2, bz2, z, (For.cons xo ko .nil).app ((B4 g.rules s.a) c0), x63)) ⟨?_, ?_⟩ ⟨rfl, rfl, rfl, trivial⟩ sft
   · show tk2.size < (c0.app (.cons z2 tk2 .nil)).size; exact hc0s.2
   · refine ⟨hk9, ⟨_, hdz2⟩, by show tk2.size ≤ _; have := hc0s.2; omega, ?_⟩
     show wn (isAr g.rules s.a) (g.rules.length : Int) (.cons z ((For.cons xo ko .nil).app ((B4 g.rules s.a) c0)) .nil) (.cons z2 tk2 .nil) = _
     rw [← hW9]
     show _ = (if z < (g.rules.length : Int) then wk (isAr g.rules s.a) (g.rules.length : Int) (c0.app (.cons z2 tk2 .nil)) z (.cons xo ko .nil) else _)
     rw [if_pos hzl, wk_snoc]
 have hzl : ¬ z < (g.rules.length : Int) := of_decide_eq_false h45
 refine CW_exit ?_
 refine EW_then_exit ?_
 refine EW_out ?_
 refine EW_block_exit ?_
 refine EW_then ?_
 refine nx3 ?_
 refine mO ?_
 refine aO ?_
 refine nx2 ?_
 refine CW_ret ?_
 refine ret1 Try.results64 rfl (fun w hw => ?_)
 refine ⟨ob, rfl, ?_⟩
 rw [← hW9]
 rw [show W4 g.rules s.a (.cons xo ko .nil) (.cons z tk .nil) = .cons xo ko .nil from if_neg hzl]
 exact hw.sub sbt

set_option maxRecDepth 20000 in
theorem bck4_any (g : Gram) (s : SStep) (ls : List Nat) (hm : mayB g = true) (hs : mayS g s = true) (h : Gram) (hmh : mayB h = true) (hop : s.op = 4) (hh : h.rules = leftS g.rules g.names s.a) : ∀ (N : Nat) (x : Int) (ks : For) (b cb : Nat) (w : World), (For.cons x ks .nil).size ≤ N → N ≤ 5000 → CarAt (Cl w) cb g s ls → KidsAt (Cl w) (.cons x ks .nil) [b] → Wn h g.names (.cons x ks .nil) → Calls Try.prog 44 #[.pointer (some ⟨cb, 0, none⟩), .pointer (some ⟨b, 0, none⟩)] w (fun e w' => ∃ b' : Nat, e = .returned (.pointer (some ⟨b', 0, none⟩)) ∧ Sat (Old w) w [kidsA ((B4 g.rules s.a) (.cons x ks .nil)) [b']] w') := by
 intro N
 refine Nat.strongRecOn N ?_
 clear N
 intro N ih x ks b cb w hsz hN hc0 hk0 hwf
 obtain ⟨rv, lv, hcar, hrr, hll⟩ := (hc0.mono old_rd).ex
 obtain ⟨ar, cr, rfl, hr1, hr2, hrs⟩ := hrr
 obtain ⟨al, cl, rfl, hl1, hl2, hls1⟩ := hll
 rw [show (natV ls).length = ls.length by rw [List.length_map]] at hcar hl1
 obtain ⟨ak, kb, ck, hrow, hk1, hk2, hkb, hks⟩ := kids_top (hk0.mono old_rd)
 obtain ⟨⟨q, yq, hx0, hq, hdq, hqn⟩, _⟩ := id hwf
 obtain ⟨r0, hr0, hra, hrb⟩ := left_top hm hh hx0 hq hdq hqn
 have hr0l := (List.getElem?_eq_some_iff.1 hr0).1
 obtain ⟨pr, hpr, rvr, hsyr, hrowr⟩ := hrs x.toNat r0 hr0
 subst hpr
 have hxl := (List.getElem?_eq_some_iff.1 hq).1
 have hq8 := (may_rule hmh hq).2.2
 have hks8 : kb.length ≤ 8 := by rw [KidsAt.len hks, der_len hdq]; exact Nat.le_trans (nms_le _) hq8
 have hM := mayB_true.1 hm
 
 refine calls_CW Try.func44 rfl Try.ntmps44 rfl (Sat.start w) ?_
 refine nx3 ?_
 refine aO ?_
 refine nx2 ?_
 refine CW_seq ?_
 refine CW_seq ?_
 refine CW_draw (Sat (Old w) w []) 26 [(0, false), (1, false), (2, false), (3, false), (4, false), (5, false), (6, false), (7, false), (8, false), (9, false), (10, false), (11, false), (12, false), (13, false), (14, false), (15, false), (16, false), (17, false), (18, false), (19, false), (20, false), (21, false), (22, false), (23, false), (24, false), (25, false)] (by kernel_rfl) (Blind.then (Blind.then (Blind.body (by intro c w h; simp at h)))) (by kernel_rfl) (fun w hw => hw.drew) ?_
 refine mD ?_
 refine DW_q rfl sft (q_nilCheck rfl) rfl ?_
 refine DW_q rfl sft (q_fieldAddr Try.underlying96 rfl rfl Try.sizeOf26 rfl rfl) rfl ?_
 refine DW_q rfl sft (q_fieldAddr Try.underlying26 rfl rfl Try.sizeOf3 rfl rfl) rfl ?_
 refine DW_q rfl sft (q_load1_ro Try.isAgg3 rfl (by exact hcar.at_ (j := 3) rfl)) rfl ?_
 refine DW_q rfl sft (q_eqi rfl rfl) rfl ?_
 refine mD ?_
 refine DW_part (t := 20) rfl (fun hg20 => ?_) (fun hg20 => ?_)
 · skip
   refine DW_qg rfl sft rfl rfl rfl (q_move rfl) rfl ?_
   refine DW_qg rfl sft rfl rfl rfl (q_nilCheck rfl) rfl ?_
   refine DW_qg rfl sft rfl rfl rfl (q_fieldAddr Try.underlying96 rfl rfl Try.sizeOf24 rfl rfl) rfl ?_
   refine DW_qg rfl sft rfl rfl rfl (q_fieldAddr Try.underlying24 rfl rfl Try.sizeOf22 rfl rfl) rfl ?_
   refine DW_qg rfl sft rfl rfl rfl (q_load1_ro Try.isAgg22 rfl (by exact hcar.at_ (j := 2) rfl)) rfl ?_
   refine DW_qg rfl sft rfl rfl rfl (q_move rfl) rfl ?_
   refine DW_qg rfl sft rfl rfl rfl (q_nilCheck rfl) rfl ?_
   refine DW_qg rfl sft rfl rfl rfl (q_fieldAddr Try.underlying99 rfl rfl Try.sizeOf3 rfl rfl) rfl ?_
   refine DW_qg rfl sft rfl rfl rfl (q_load1_ro Try.isAgg3 rfl (by exact hrow.at_ (j := 0) rfl)) rfl ?_
   refine DW_spell 29 (.int .i64 ((x.toNat : Nat) : Int)) rfl (congrArg (Value.int .i64) (by omega)) ?_
   refine DW_qg rfl sft rfl rfl rfl (q_indexAddr Try.underlying22 Try.sizeOf49 rfl rfl hr0l) rfl ?_
   refine DW_qg rfl sft rfl rfl rfl (q_fieldAddr Try.underlying49 rfl rfl Try.sizeOf3 rfl rfl) rfl ?_
   refine DW_qg rfl sft rfl rfl rfl (q_load1_ro Try.isAgg3 rfl (by exact hrowr.at_ (j := 0) rfl)) rfl ?_
   refine DW_qg rfl sft rfl rfl rfl (q_move rfl) rfl ?_
   refine DW_qg rfl sft rfl rfl rfl (q_nilCheck rfl) rfl ?_
   refine DW_qg rfl sft rfl rfl rfl (q_fieldAddr Try.underlying96 rfl rfl Try.sizeOf26 rfl rfl) rfl ?_
   refine DW_qg rfl sft rfl rfl rfl (q_fieldAddr Try.underlying26 rfl rfl Try.sizeOf3 rfl rfl) rfl ?_
   refine DW_qg rfl sft rfl rfl rfl (q_load1_ro Try.isAgg3 rfl (by exact hcar.at_ (j := 4) rfl)) rfl ?_
   refine DW_qg rfl sft rfl rfl rfl (q_eqi rfl rfl) rfl ?_
   refine DW_q rfl sft (q_pick_t rfl rfl) rfl ?_
   refine DW_nil ?_
   refine EW_then ?_
   refine CW_cond rfl (fun h39 => ?_) (fun h39 => ?_)
   · skip
     have hA : isAr g.rules s.a x = true := by rw [isAr_get hr0]; simpa using h39
     refine nx3 ?_
     refine mO ?_
     refine mO ?_
     refine OW_e (e_call Try.call64 rfl (fun w hw => lift_old (wind_any g s ls hm h hmh hh N hN ih x ks b cb w hsz (hc0.mono fun _ _ h => hw.rd (Rd.old h)) (hk0.mono fun _ _ h => hw.rd (Rd.old h)) hwf hA) hw)) rfl (fun x42 => ?_)
     refine aO ?_
     refine nx2 ?_
     refine CW_ret ?_
     refine EW_then_ret ?_
     refine ret1 Try.results44 rfl (fun w hw => ?_)
     refine ⟨x42, rfl, ?_⟩
     rw [B4, bk4_cons, if_pos hA, bk4_nil, For.app_nil]
     exact hw.sub sbt
   have hA : ¬ isAr g.rules s.a x = true := by rw [isAr_get hr0]; simpa using h39
   obtain ⟨hdr, hnr⟩ := hrb (by rw [isAr_get hr0] at hA; simpa using hA)
   have hwks9 : Wn h g.names ks := der_wn hdr hnr
   refine CW_skip ?_
   refine EW_then ?_
   refine nx3 ?_
   refine mO ?_
   refine OW_q (q_nilCheck rfl) rfl ?_
   refine OW_q (q_fieldAddr Try.underlying99 rfl rfl Try.sizeOf3 rfl rfl) rfl ?_
   refine OW_q (q_load1_ro Try.isAgg3 rfl (by exact hrow.at_ (j := 0) rfl)) rfl ?_
   refine aO ?_
   refine aO ?_
   refine nx2 ?_
   refine CW_seq ?_
   refine nx3 ?_
   refine mO ?_
   refine OW_q (q_nilCheck rfl) rfl ?_
   refine OW_q (q_fieldAddr Try.underlying96 rfl rfl Try.sizeOf26 rfl rfl) rfl ?_
   refine OW_q (q_fieldAddr Try.underlying26 rfl rfl Try.sizeOf3 rfl rfl) rfl ?_
   refine OW_q (q_load1_ro Try.isAgg3 rfl (by exact hcar.at_ (j := 3) rfl)) rfl ?_
   refine nx2 ?_
   refine CW_block ?_
   refine nx3 ?_
   refine OW_q (q_eqi rfl rfl) rfl ?_
   refine aO ?_
   refine nx2 ?_
   refine CW_false rfl (by simp [hop]) ?_
   refine nx3 ?_
   refine OW_q (q_eqi rfl rfl) rfl ?_
   refine aO ?_
   refine nx2 ?_
   refine CW_false rfl (by simp [hop]) ?_
   refine CW_skip ?_
   refine EW_block_normal ?_
   refine EW_then ?_
   refine CW_seq ?_
   obtain ⟨X, hX⟩ : ∃ X : Int, X = x := ⟨_, rfl⟩
   obtain ⟨J, hJ⟩ : ∃ J : Int, J = -1 := ⟨_, rfl⟩
   refine CW_spell 5 (.int .i64 X) rfl (by rw [hX]) ?_
   refine CW_spell 6 (.int .i64 J) rfl (by rw [hJ]) ?_
   refine CW_region ?_
   refine mO ?_
   refine OW_q (q_build (ps := #[(0, .int .i64 X)]) (v := .agg #[.int .i64 X, .slice none 0 0]) rfl (fun w => by kernel_rfl)) rfl ?_
   refine OW_e (e_box rfl rfl) rfl (fun b128 => ?_)
   refine aO ?_
   refine nx2 ?_
   refine CW_seq ?_
   refine nx3 ?_
   refine mO ?_
   refine OW_q (q_nilCheck rfl) rfl ?_
   refine OW_q (q_fieldAddr Try.underlying99 rfl rfl Try.sizeOf97 rfl rfl) rfl ?_
   refine OW_q (q_load1_ro Try.isAgg97 rfl (by exact hrow.at_ (j := 1) rfl)) rfl ?_
   refine OW_q (q_len Try.underlying97 rfl) rfl ?_
   refine mO ?_
   refine nx2 ?_
   refine CW_block ?_
   refine CW_weak (S' := Sat (Old w) w [cel b128 99 [vi X, .slice none 0 0], trow 80 1 encP (.slice none 0 0) [], kidsA ((B4 g.rules s.a) .nil) []]) (fun w hw => by
     have h1 := (hw.tnil 80 1 encP).addEmp (A := kidsA .nil []) ⟨rfl, rfl⟩
     rw [show kidsA ((B4 g.rules s.a) .nil) [] = kidsA .nil [] by rw [B4, bk4_nil]]
     exact h1.sub sbt) ?_
   refine CW_loopP (ι := Nat × For × For × List Nat × List Nat × Value × List Nat) (fun i_ => i_.1 ≤ kb.length ∧ ks = i_.2.1.app i_.2.2.1 ∧ kb = i_.2.2.2.1 ++ i_.2.2.2.2.1 ∧ i_.2.2.2.1.length = i_.1 ∧ KidsAt (Rd (Old w) w) i_.2.2.1 i_.2.2.2.2.1 ∧ Wn h g.names i_.2.2.1 ∧ i_.2.2.2.2.2.2.length = i_.1) (fun i_ => [(0, .pointer (some ⟨cb, 0, none⟩)), (1, .pointer (some ⟨b, 0, none⟩)), (6, .int .i64 J), (7, .pointer (some ⟨b128, 0, none⟩)), (132, .slice ak kb.length ck), (133, .int .i64 (kb.length : Int)), (134, .int .i64 (i_.1 : Int))]) (fun i_ => Sat (Old w) w [cel b128 99 [vi X, i_.2.2.2.2.2.1], trow 80 1 encP i_.2.2.2.2.2.1 i_.2.2.2.2.2.2, kidsA ((B4 g.rules s.a) i_.2.1) i_.2.2.2.2.2.2]) (fun i_ => kb.length - i_.1) (0, .nil, ks, [], kb, .slice none 0 0, []) ?_ ⟨rfl, rfl, rfl, rfl, rfl, rfl, rfl, trivial⟩ sft ?_
   · exact ⟨Nat.zero_le _, rfl, rfl, rfl, hks, hwks9, rfl⟩
   intro i_ hpre
   obtain ⟨k, fd, fr, bd, br, v, nb⟩ := i_
   replace hpre : k ≤ kb.length ∧ ks = fd.app fr ∧ kb = bd ++ br ∧ bd.length = k ∧ KidsAt (Rd (Old w) w) fr br ∧ Wn h g.names fr ∧ nb.length = k := hpre
   change CW _ _ _ _ [(0, .pointer (some ⟨cb, 0, none⟩)), (1, .pointer (some ⟨b, 0, none⟩)), (6, .int .i64 J), (7, .pointer (some ⟨b128, 0, none⟩)), (132, .slice ak kb.length ck), (133, .int .i64 (kb.length : Int)), (134, .int .i64 (k : Int))] (Sat (Old w) w [cel b128 99 [vi X, v], trow 80 1 encP v nb, kidsA ((B4 g.rules s.a) fd) nb])
   obtain ⟨hk, hfd, hbd, hbl, hkr, hwfr, hnb⟩ := hpre
   refine nx3 ?_
   refine OW_q (q_lss rfl rfl) rfl ?_
   refine nx2 ?_
   refine CW_seq ?_
   refine CW_cond rfl (fun h135 => ?_) (fun h135 => ?_)
   · skip
     have hlt : k < kb.length := by have := of_decide_eq_true h135; omega
     obtain ⟨b1, br2, rfl⟩ : ∃ b1 br2, br = b1 :: br2 := by
       cases br with
       | nil => rw [List.append_nil] at hbd; rw [hbd] at hlt; omega
       | cons b1 br2 => exact ⟨b1, br2, rfl⟩
     have hbk : kb[k]? = some b1 := by rw [hbd, List.getElem?_append_right (by omega), hbl, Nat.sub_self]; rfl
     obtain ⟨p1, hp1, hb1⟩ := hkb k b1 hbk
     subst hp1
     obtain ⟨xk, kk, fr2, rfl, hkk, hk2'⟩ := kids_cons hkr
     have hkl := KidsAt.len hks
     have hks5 := kid_size (x := x) hfd
     have hls5 := len_size (ks)
     refine CW_skip ?_
     refine EW_then ?_
     refine CW_seq ?_
     refine CW_block ?_
     refine nx3 ?_
     refine OW_q (q_indexAddr Try.underlying97 Try.sizeOf80 rfl rfl (by omega)) rfl ?_
     refine OW_q (q_load1_ro Try.isAgg80 rfl (by exact hb1)) rfl ?_
     refine aO ?_
     refine nx2 ?_
     refine CW_draw (Sat (Old w) w [cel b128 99 [vi X, v]]) 12 [(0, false), (1, false), (2, false), (3, false), (4, false), (5, false), (6, false), (7, true), (8, true), (9, true), (10, false), (11, false), (12, true)] (by kernel_rfl) (Blind.block (Blind.then (Blind.again (Blind.block (Blind.then (Blind.body (by intro c w h; simp at h))))))) (by kernel_rfl) (fun w hw => hw.drew) ?_
     refine mD ?_
     refine mD ?_
     refine DW_q rfl sft (q_nilCheck rfl) rfl ?_
     refine DW_q rfl sft (q_fieldAddr Try.underlying99 rfl rfl Try.sizeOf97 rfl rfl) rfl ?_
     refine DW_q rfl sft (q_load1_own Try.isAgg97 rfl rfl swt (by rfl)) rfl ?_
     refine mD ?_
     refine mD ?_
     refine DW_e rfl (e_call Try.call44 rfl (fun w hw => lift_old (ih (For.cons xk kk .nil).size (by omega) xk kk b1 cb w (Nat.le_refl _) (by omega) (hc0.mono fun _ _ h => hw.rd (Rd.old h)) (hkk.mono hw.rd_cl) ⟨hwfr.1, trivial⟩) hw)) rfl (fun _ w hw => by first | exact hw.sub sbt | exact hw.2.sub sbt) (fun x145 => ?_)
     refine DW_e rfl (e_single Try.underlying97 Try.sizeOf80 Try.zeroValue80 (e := 80) (v := .pointer (some ⟨x145, 0, none⟩)) (cs := encP x145) rfl rfl rfl rfl (by decide) (by decide)) rfl (fun _ => sft) (fun b146 => ?_)
     refine DW_e rfl (e_append_t (x0 := x145) (enc := encP) (v := v) (l := nb) Try.underlying97 Try.typeInfo80 rfl rfl rfl rfl rfl rfl rfl pkt rfl (by exact fun w hw => hw.news swt) (by simp [Value.oneCell']) (by omega) (by decide)) rfl (fun _ => sft) (fun v147 => ?_)
     refine DW_fact (fun w hw => hw.tform (v := v147) (l := (nb ++ [x145])) (enc := encP) swt) (fun hf => ?_)
     obtain ⟨a147, c147, rfl, _, _, hb147⟩ := hf
     refine DW_q rfl sft (q_nilCheck rfl) rfl ?_
     refine DW_q rfl sft (q_fieldAddr Try.underlying99 rfl rfl Try.sizeOf97 rfl rfl) rfl ?_
     refine DW_z0 rfl (e_store Try.sizeOf97 rfl rfl rfl rfl swt (by rfl)) (fun _ => ?_)
     refine EW_block_normal ?_
     refine EW_then ?_
     refine CW_region ?_
     refine OW_q (q_add rfl rfl (by omega) (by omega)) rfl ?_
     refine mO ?_
     refine OW_nil ?_
     refine EW_weak (S' := Sat (Old _) _ [cel b128 99 [vi X, .slice a147 (nb ++ [x145]).length c147], trow 80 1 encP (.slice a147 (nb ++ [x145]).length c147) (nb ++ [x145]), kidsA ((B4 g.rules s.a) (fd.app (.cons xk kk .nil))) (nb ++ [x145])]) (fun w hw => by
       have h1 : Sat _ _ (kidsA ((B4 g.rules s.a) fd) nb :: kidsA ((B4 g.rules s.a) (.cons xk kk .nil)) [x145] :: [cel b128 99 [vi X, .slice a147 (nb ++ [x145]).length c147], trow 80 1 encP (.slice a147 (nb ++ [x145]).length c147) (nb ++ [x145])]) w := hw.sub sbt
       exact (sat_kids (T := (B4 g.rules s.a)) (bk4_app) h1).sub sbt) ?_
     refine EW_again ((k + 1, fd.app (.cons xk kk .nil), fr2, bd ++ [b1], br2, .slice a147 (nb ++ [x145]).length c147, nb ++ [x145])) ⟨?_, ?_⟩ ⟨rfl, rfl, rfl, rfl, rfl, rfl, rfl, trivial⟩ sft
     · show kb.length - (k + 1) < kb.length - k; omega
     · refine ⟨by show k + 1 ≤ _; omega, ?_, ?_, ?_, hk2', hwfr.2, ?_⟩
       · show ks = _
         rw [hfd, For.app_one]
       · show kb = _
         rw [hbd]; simp
       · show (bd ++ [b1]).length = _
         rw [List.length_append, hbl]; rfl
       · show (nb ++ [x145]).length = _
         rw [List.length_append, hnb]; rfl
   have hke : k = kb.length := by have := of_decide_eq_false h135; omega
   have hbr : br = [] := by
     have := congrArg List.length hbd
     rw [List.length_append] at this
     exact List.eq_nil_of_length_eq_zero (by omega)
   subst hbr
   have hfr := kids_none hkr
   subst hfr
   rw [For.app_nil] at hfd
   subst hfd
   refine CW_fact (fun w hw => hw.tform (v := v) (l := nb) (enc := encP) swt) (fun hf => ?_)
   obtain ⟨an, cn, rfl, _, _, hbn⟩ := hf
   refine CW_exit ?_
   refine EW_then_exit ?_
   refine EW_out ?_
   refine EW_block_exit ?_
   refine EW_then ?_
   refine CW_seq ?_
   refine nx3 ?_
   refine mO ?_
   refine OW_q (q_geq rfl rfl) rfl ?_
   refine nx2 ?_
   refine CW_false rfl (by rw [hJ]; decide) ?_
   refine CW_skip ?_
   refine EW_then ?_
   refine CW_seq ?_
   refine CW_seq ?_
   refine CW_draw (Sat (Old w) w []) 18 [(0, false), (1, false), (2, false), (3, false), (4, false), (5, false), (6, false), (7, false), (8, false), (9, false), (10, false), (11, false), (12, false), (13, false), (14, false), (15, false), (16, false), (17, false)] (by kernel_rfl) (Blind.then (Blind.then (Blind.body (by intro c w h; simp at h)))) (by kernel_rfl) (fun w hw => hw.drew) ?_
   refine mD ?_
   refine DW_q rfl sft (q_nilCheck rfl) rfl ?_
   refine DW_q rfl sft (q_fieldAddr Try.underlying96 rfl rfl Try.sizeOf26 rfl rfl) rfl ?_
   refine DW_q rfl sft (q_fieldAddr Try.underlying26 rfl rfl Try.sizeOf3 rfl rfl) rfl ?_
   refine DW_q rfl sft (q_load1_ro Try.isAgg3 rfl (by exact hcar.at_ (j := 3) rfl)) rfl ?_
   refine DW_q rfl sft (q_eqi rfl rfl) rfl ?_
   refine mD ?_
   refine DW_part (t := 213) rfl (fun hg213 => ?_) (fun hg213 => ?_)
   · skip
     exact absurd hg213 (by simp [hop]) --stop
   refine kD ?_
   refine kD ?_
   refine kD ?_
   refine kD ?_
   refine kD ?_
   refine kD ?_
   refine kD ?_
   refine kD ?_
   refine kD ?_
   refine kD ?_
   refine DW_q rfl sft (q_pick_f rfl rfl) rfl ?_
   refine DW_nil ?_
   refine EW_then ?_
   refine CW_false rfl rfl ?_
   refine CW_skip ?_
   refine EW_then ?_
   refine nx3 ?_
   refine mO ?_
   refine aO ?_
   refine nx2 ?_
   refine CW_ret ?_
   refine ret1 Try.results44 rfl (fun w hw => ?_)
   have hT : (B4 g.rules s.a) (.cons x ks .nil) = .cons X ((B4 g.rules s.a) ks) .nil := by
     rw [B4, bk4_cons, if_neg hA, bk4_nil, hX]; rfl
   rw [hT]
   refine ⟨b128, rfl, ?_⟩
   have h1 : Sat _ _ (cel b128 99 [vi X, .slice an nb.length cn] :: trow 80 1 encP (.slice an nb.length cn) nb :: kidsA ((B4 g.rules s.a) ks) nb :: []) w := hw.sub sbt
   exact h1.kidNew
 exact absurd hg20 (by simp [hop]) --stop

end Go.Sy
/- Any tree carried over, and back, by any step. No condition. -/
namespace Go.Sy
open Go Go.RowKit Go.Proofs

theorem car5 {g : Gram} {ms cs : List Bool} (h : MksOk g ms ∧ CmsOk g cs) : ClosedM g ms ∧ ClosedC g ms cs ∧ (atB ms 0 = true → atB cs 0 = true) := by
 obtain ⟨⟨l1, lm, cm⟩, l2, m, l3, lm2, cm2, lc, cc, c0⟩ := h
 have e2 : m = ms := makes_unique l3 l1 lm2 cm2 lm cm
 subst e2
 exact ⟨cm, cc, c0⟩
theorem der_in5 {g : Gram} {ms cs : List Bool} (hm : ClosedM g ms) (hc : ClosedC g ms cs) {l : List Sym} {f : For} {y : List Int} (h : Der g l f y) : (∀ s ∈ l, s.term = false → atB cs s.n = true) → In5 (krng (keptB ms cs) g.rules) f := by
 induction h with
 | nil => exact fun _ => trivial
 | term _ _ ih => exact fun hl => ih fun s hs => hl s (.tail _ hs)
 | @name s l x q ks fs y1 y2 ht h0 hq hl hk _ ih1 ih2 =>
   intro hall
   have hmem := List.mem_of_getElem? hq
   have ha := der_makes hm hk
   have hs := hall s (.head _) ht
   rw [← hl] at hs
   have hP : keptB ms cs q = true := by unfold keptB; rw [hm q hmem ha, hs, ha]; rfl
   exact ⟨h0, krng_mem hq hP, ih1 (hc q hmem hs ha), ih2 fun s' hs' => hall s' (.tail _ hs')⟩
theorem forward_any (g : Gram) (s : SStep) (ls : List Nat) (ms cs : List Bool) (hm : mayB g = true) (hs : mayS g s = true) (hcar : CarOk g s ls ms cs) (x : Int) (ks : For) (b cb : Nat) (y : List Int) (w : World) (hsz : (For.cons x ks .nil).size ≤ 5000) (hc : CarAt (Cl w) cb g s ls) (hk : KidsAt (Cl w) (.cons x ks .nil) [b]) (hd : Der g [⟨false, 0⟩] (.cons x ks .nil) y) : Calls Try.prog 43 #[.pointer (some ⟨cb, 0, none⟩), .pointer (some ⟨b, 0, none⟩)] w (fun e w' => ∃ b' : Nat, e = .returned (.pointer (some ⟨b', 0, none⟩)) ∧ Sat (Old w) w [kidsA (fwdT g s ms cs (.cons x ks .nil)) [b']] w') := by
 have hwf := der_wf hd
 rcases mayS_op hs with h | h | h | h | h
 · have ef : fwdT g s ms cs = id := by unfold fwdT; rw [if_neg (by omega), if_neg (by omega), if_neg (by omega), if_neg (by omega)]
   rw [ef]
   exact fwd1_any g s ls hm hs h 5000 x ks b cb w hsz (Nat.le_refl _) hc hk hwf
 · have ef : fwdT g s ms cs = ext2 s.a (g.rules.length : Int) (nms ((ruleAt g s.a).right.take s.b.toNat)) (nms (partR (ruleAt g s.a) s.b.toNat s.c.toNat)) := by unfold fwdT; rw [if_pos h]
   rw [ef]
   exact fwd2_any g s ls hm hs h 5000 x ks b cb w hsz (Nat.le_refl _) hc hk hwf
 · have e3 := hcar.1 h
   have ef : fwdT g s ms cs = fwd3 s.a (nms ((ruleAt g s.a).right.take s.b.toNat)) ls := by unfold fwdT; rw [if_neg (by omega), if_pos h, e3]
   rw [ef]
   exact fwd3_any g s ls hm hs h e3 5000 x ks b cb w hsz (Nat.le_refl _) hc hk hwf
 · have ef : fwdT g s ms cs = F4 g.rules s.a := by unfold fwdT; rw [if_neg (by omega), if_neg (by omega), if_pos h]
   rw [ef]
   exact fwd4_any g s ls hm hs h 5000 x ks b cb w hsz (Nat.le_refl _) hc hk hwf
 · obtain ⟨hM, hC, e5⟩ := hcar.2 h
   obtain ⟨cm, cc, c0⟩ := car5 ⟨hM, hC⟩
   have ef : fwdT g s ms cs = fwd5 ls := by unfold fwdT; rw [if_neg (by omega), if_neg (by omega), if_neg (by omega), if_pos h, e5]
   have hin : In5 ls (.cons x ks .nil) := by
     rw [e5]
     have h0 : atB ms 0 = true := allB_iff.1 (der_makes cm hd) ⟨false, 0⟩ (List.mem_singleton.2 rfl) rfl
     exact der_in5 cm cc hd fun z hz _ => by rw [List.mem_singleton.1 hz]; exact c0 h0
   rw [ef]
   exact fwd5_any g s ls hm hs h 5000 x ks b cb w hsz (Nat.le_refl _) hc hk ⟨hin, hwf⟩
theorem back_any (g : Gram) (s : SStep) (ls : List Nat) (ms cs : List Bool) (hm : mayB g = true) (hs : mayS g s = true) (hcar : CarOk g s ls ms cs) (hmh : mayB (stepG g s ms cs) = true) (x : Int) (ks : For) (b cb : Nat) (y : List Int) (w : World) (hsz : (For.cons x ks .nil).size ≤ 5000) (hc : CarAt (Cl w) cb g s ls) (hk : KidsAt (Cl w) (.cons x ks .nil) [b]) (hd : Der (stepG g s ms cs) [⟨false, 0⟩] (.cons x ks .nil) y) : Calls Try.prog 44 #[.pointer (some ⟨cb, 0, none⟩), .pointer (some ⟨b, 0, none⟩)] w (fun e w' => ∃ b' : Nat, e = .returned (.pointer (some ⟨b', 0, none⟩)) ∧ Sat (Old w) w [kidsA (bkT g s ms cs (.cons x ks .nil)) [b']] w') := by
 have hwf := der_wf hd
 rcases mayS_op hs with h | h | h | h | h
 · have ef : bkT g s ms cs = id := by unfold bkT; rw [if_neg (by omega), if_neg (by omega), if_neg (by omega), if_neg (by omega)]
   rw [ef]
   exact bck1_any g s ls hm hs _ hmh h 5000 x ks b cb w hsz (Nat.le_refl _) hc hk hwf
 · have ef : bkT g s ms cs = bk2 s.a (nms ((ruleAt g s.a).right.take s.b.toNat)) := by unfold bkT; rw [if_pos h]
   have hh : (stepG g s ms cs).rules[s.a.toNat]? = some (extR (ruleAt g s.a) s.b.toNat s.c.toNat (nameS g.names)) := by
     unfold mayS at hs
     rw [if_neg (by omega), if_pos h] at hs
     simp only [Bool.and_eq_true, inR_true, decide_eq_true_eq] at hs
     obtain ⟨⟨⟨ha0, ha1⟩, _, _⟩, _⟩ := hs
     unfold stepG
     rw [if_neg (by omega), if_pos h]
     have hl : s.a.toNat < g.rules.length := by omega
     show (_ ++ _ : List Rule)[_]? = _
     rw [List.getElem?_append_left (by rw [List.length_set]; exact hl), List.getElem?_set_self hl]
   rw [ef]
   exact bck2_any g s ls hm hs _ hmh h hh 5000 x ks b cb w hsz (Nat.le_refl _) hc hk hwf
 · have e3 := hcar.1 h
   have ef : bkT g s ms cs = bk3 s.a (nms ((ruleAt g s.a).right.take s.b.toNat)) ls (kn8 g) := by unfold bkT; rw [if_neg (by omega), if_pos h, e3]
   have hh : ∀ j k r, ls[j]? = some k → g.rules[k]? = some r → (stepG g s ms cs).rules[s.a.toNat + j]? = some (inlR (ruleAt g s.a) s.b.toNat r) := by
     intro j k r hj hr
     have hs' := hs
     unfold mayS at hs'
     rw [if_neg (by omega), if_neg (by omega), if_pos h] at hs'
     simp only [Bool.and_eq_true, inR_true, decide_eq_true_eq] at hs'
     obtain ⟨⟨⟨⟨ha0, ha1⟩, hc0⟩, hb0, hb1⟩, hil⟩ := hs'
     obtain ⟨y, hy⟩ := get_of_lt (l := (ruleAt g s.a).right) (k := s.b.toNat) (by omega)
     have ey : (ruleAt g s.a).right.getD s.b.toNat ⟨false, 0⟩ = y := by rw [List.getD_eq_getElem?_getD, hy]; rfl
     rw [e3, ey] at hj
     have e : (stepG g s ms cs).rules = g.rules.take s.a.toNat ++ inlS g.rules (ruleAt g s.a) s.b.toNat y ++ g.rules.drop (s.a.toNat + 1) := by
       unfold stepG
       rw [if_neg (by omega), if_neg (by omega), if_pos h]
       unfold inlL inlS
       rw [hy]
       simp
     rw [e]
     exact inl_mid (by omega) hj hr
   rw [ef]
   exact bck3_any g s ls hm hs _ hmh h e3 hh 5000 x ks b cb w hsz (Nat.le_refl _) hc hk hwf
 · have ef : bkT g s ms cs = B4 g.rules s.a := by unfold bkT; rw [if_neg (by omega), if_neg (by omega), if_pos h]
   have hh : (stepG g s ms cs).rules = leftS g.rules g.names s.a := by
     obtain ⟨t, n, rs⟩ := g
     unfold stepG
     rw [if_neg (by omega), if_neg (by omega), if_neg (by omega), if_pos h]
     rfl
   have hwn : Wn (stepG g s ms cs) g.names (.cons x ks .nil) := der_wn hd fun z hz _ => by
     rw [List.mem_singleton.1 hz]
     have h9 : (1 : Int) ≤ g.names := (mayB_true.1 hm).2.2.1
     show (0 : Int) < g.names
     omega
   rw [ef]
   exact bck4_any g s ls hm hs _ hmh h hh 5000 x ks b cb w hsz (Nat.le_refl _) hc hk hwn
 · obtain ⟨hM, hC, e5⟩ := hcar.2 h
   have ef : bkT g s ms cs = bk5 ls := by unfold bkT; rw [if_neg (by omega), if_neg (by omega), if_neg (by omega), if_pos h, e5]
   have hlh : (stepG g s ms cs).rules.length = ls.length := by
     unfold stepG
     rw [if_neg (by omega), if_neg (by omega), if_neg (by omega), if_neg (by omega)]
     show (g.rules.filter (keptB ms cs)).length = _
     rw [e5, ← krng_pick, (fm_get krng_lt).1]
   rw [ef]
   exact bck5_any g s ls hm hs _ hmh h hlh 5000 x ks b cb w hsz (Nat.le_refl _) hc hk hwf
end Go.Sy
