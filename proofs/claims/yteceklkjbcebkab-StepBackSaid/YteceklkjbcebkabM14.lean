/- Walks and plain laws, part 14. No condition. -/
import Derived.Test.YteceklkjbcebkabM13
/- A tree, carried over where a name begins with itself. No condition. -/
namespace Go.Sy
open Go Go.RowKit Go.Proofs
set_option maxRecDepth 20000 in
theorem unw4_any (g : Gram) (s : SStep) (ls : List Nat) (hm : mayB g = true) (N : Nat) (ih : ∀ m, m < N → ∀ (x : Int) (ks : For) (b cb : Nat) (w : World), (For.cons x ks .nil).size ≤ m → m ≤ 5000 → CarAt (Cl w) cb g s ls → KidsAt (Cl w) (.cons x ks .nil) [b] → Wf g (.cons x ks .nil) → Calls Try.prog 43 #[.pointer (some ⟨cb, 0, none⟩), .pointer (some ⟨b, 0, none⟩)] w (fun e w' => ∃ b' : Nat, e = .returned (.pointer (some ⟨b', 0, none⟩)) ∧ Sat (Old w) w [kidsA ((F4 g.rules s.a) (.cons x ks .nil)) [b']] w')) (x : Int) (ks : For) (b cb : Nat) (w : World) (hsz : (For.cons x ks .nil).size ≤ N) (hN : N ≤ 5000) (hc0 : CarAt (Cl w) cb g s ls) (hk0 : KidsAt (Cl w) (.cons x ks .nil) [b]) (hwf : Wf g (.cons x ks .nil)) (hA : isAr g.rules s.a x = true) : Calls Try.prog 59 #[.pointer (some ⟨cb, 0, none⟩), .pointer (some ⟨b, 0, none⟩)] w (fun e w' => ∃ b' : Nat, e = .returned (.pointer (some ⟨b', 0, none⟩)) ∧ Sat (Old w) w [kidsA (U4 g.rules s.a ks x (.cons (g.rules.length : Int) .nil .nil)) [b']] w') := by
 obtain ⟨rv, lv, hcar, hrr, hll⟩ := (hc0.mono old_rd).ex
 obtain ⟨ar, cr, rfl, hr1, hr2, hrs⟩ := hrr
 have hsx : (For.cons x ks .nil).size = ks.size + 0 + 1 := rfl
 refine calls_CW Try.func59 rfl Try.ntmps59 rfl (Sat.start w) ?_
 refine nx3 ?_
 refine aO ?_
 refine nx4 ?_
 refine mO ?_
 refine OW_q (q_nilCheck rfl) rfl ?_
 refine OW_q (q_fieldAddr Try.underlying96 rfl rfl Try.sizeOf24 rfl rfl) rfl ?_
 refine OW_q (q_fieldAddr Try.underlying24 rfl rfl Try.sizeOf22 rfl rfl) rfl ?_
 refine OW_q (q_load1_ro Try.isAgg22 rfl (by exact hcar.at_ (j := 2) rfl)) rfl ?_
 refine OW_q (q_len Try.underlying22 rfl) rfl ?_
 refine OW_q (q_build (ps := #[(0, .int .i64 (g.rules.length : Int))]) (v := .agg #[.int .i64 (g.rules.length : Int), .slice none 0 0]) rfl (fun w => by kernel_rfl)) rfl ?_
 refine OW_e (e_box rfl rfl) rfl (fun b19 => ?_)
 refine aO ?_
 refine nx2 ?_
 refine CW_seq ?_
 refine CW_block ?_
 refine CW_weak (S' := Sat (Old w) w [kidsA (.cons (g.rules.length : Int) .nil .nil) [b19]]) (fun w hw => by
   have h1 := (hw.tnil 80 1 encP).addEmp (A := kidsA .nil []) ⟨rfl, rfl⟩
   have h2 : Sat _ _ (cel b19 99 [vi (g.rules.length : Int), .slice none 0 0] :: trow 80 1 encP (.slice none 0 0) [] :: kidsA .nil [] :: []) w := h1.sub sbt
   exact h2.kidNew) ?_
 refine CW_loopP (ι := Int × For × Nat × Nat × Int × For) (fun i_ => KidsAt (Rd (Old w) w) (.cons i_.1 i_.2.1 .nil) [i_.2.2.1] ∧ Wf g (.cons i_.1 i_.2.1 .nil) ∧ isAr g.rules s.a i_.1 = true ∧ i_.2.1.size ≤ ks.size ∧ U4 g.rules s.a i_.2.1 i_.1 (.cons i_.2.2.2.2.1 i_.2.2.2.2.2 .nil) = U4 g.rules s.a ks x (.cons (g.rules.length : Int) .nil .nil)) (fun i_ => [(0, .pointer (some ⟨cb, 0, none⟩)), (1, .pointer (some ⟨i_.2.2.1, 0, none⟩)), (5, .pointer (some ⟨i_.2.2.2.1, 0, none⟩))]) (fun i_ => Sat (Old w) w [kidsA (.cons i_.2.2.2.2.1 i_.2.2.2.2.2 .nil) [i_.2.2.2.1]]) (fun i_ => i_.2.1.size) (x, ks, b, b19, (g.rules.length : Int), .nil) ?_ ⟨rfl, rfl, rfl, trivial⟩ sft ?_
 · exact ⟨hk0.mono old_rd, hwf, hA, Nat.le_refl _, rfl⟩
 intro i_ hpre
 obtain ⟨xb, xks, tb, tl, z, tk⟩ := i_
 replace hpre : KidsAt (Rd (Old w) w) (.cons xb xks .nil) [tb] ∧ Wf g (.cons xb xks .nil) ∧ isAr g.rules s.a xb = true ∧ xks.size ≤ ks.size ∧ U4 g.rules s.a xks xb (.cons z tk .nil) = U4 g.rules s.a ks x (.cons (g.rules.length : Int) .nil .nil) := hpre
 change CW _ _ _ _ [(0, .pointer (some ⟨cb, 0, none⟩)), (1, .pointer (some ⟨tb, 0, none⟩)), (5, .pointer (some ⟨tl, 0, none⟩))] (Sat (Old w) w [kidsA (.cons z tk .nil) [tl]])
 obtain ⟨hk9, hwf9, hA9, hsz9, hU9⟩ := hpre
 obtain ⟨ak, kb, ck, hrow, hk1, hk2, hkb, hks⟩ := kids_top hk9
 obtain ⟨⟨q, yq, hx0, hq, hdq⟩, _⟩ := id hwf9
 have hwks9 := der_wf hdq
 obtain ⟨pq, hpq, rvq, hsy, hrowq⟩ := hrs xb.toNat q hq
 subst hpq
 have hxl := (List.getElem?_eq_some_iff.1 hq).1
 have hq8 := (may_rule hm hq).2.2
 have hqa : q.left = s.a := by rw [isAr_get hq] at hA9; simpa using hA9
 have hls99 := len_size xks
 have hkl99 := KidsAt.len hks
 refine CW_seq ?_
 refine CW_seq ?_
 refine CW_draw (Sat (Old w) w []) 11 [(0, false), (1, false), (2, false), (3, false), (4, false), (5, false), (6, false), (7, false), (8, false), (9, false), (10, false), (11, true)] (by kernel_rfl) (Blind.then (Blind.then (Blind.again (Blind.block (Blind.then (Blind.body (by intro c w h; simp at h))))))) (by kernel_rfl) (fun w hw => hw.drew) ?_
 refine mD ?_
 refine DW_q rfl sft (q_nilCheck rfl) rfl ?_
 refine DW_q rfl sft (q_fieldAddr Try.underlying96 rfl rfl Try.sizeOf24 rfl rfl) rfl ?_
 refine DW_q rfl sft (q_fieldAddr Try.underlying24 rfl rfl Try.sizeOf22 rfl rfl) rfl ?_
 refine DW_q rfl sft (q_load1_ro Try.isAgg22 rfl (by exact hcar.at_ (j := 2) rfl)) rfl ?_
 refine mD ?_
 refine DW_q rfl sft (q_nilCheck rfl) rfl ?_
 refine DW_q rfl sft (q_fieldAddr Try.underlying99 rfl rfl Try.sizeOf3 rfl rfl) rfl ?_
 refine DW_q rfl sft (q_load1_ro Try.isAgg3 rfl (by exact hrow.at_ (j := 0) rfl)) rfl ?_
 refine DW_spell 28 (.int .i64 ((xb.toNat : Nat) : Int)) rfl (congrArg (Value.int .i64) (by omega)) ?_
 refine DW_q rfl sft (q_indexAddr Try.underlying22 Try.sizeOf49 rfl rfl hxl) rfl ?_
 refine DW_q rfl sft (q_loadN_ro Try.isAgg49 Try.sizeOf49 rfl (by exact hrowq) (by rfl)) rfl ?_
 refine DW_z rfl (e_call Try.call29 rfl (fun w hw => lift_ro (loops_any q _ w (hsy.mono fun _ _ h => hw.rd h)) hw)) rfl (fun x31 => ?_)
 refine EW_then ?_
 refine CW_cond rfl (fun h31 => ?_) (fun h31 => ?_)
 · skip
   have hlo : loopsB q = true := h31
   have hlp : lpr g.rules xb = true := by rw [lpr_get hq]; exact hlo
   have hdq2 : Der g (nameS q.left :: q.right.tail) xks yq := by rw [← loops_cons hlo]; exact hdq
   obtain ⟨y0, kk0, r0, q0, hxk, hy00, hq0, hq0l, ⟨yr0, hr0d⟩, yk0, hkk0d⟩ : ∃ y0 kk0 r0 q0, xks = .cons y0 kk0 r0 ∧ 0 ≤ y0 ∧ g.rules[y0.toNat]? = some q0 ∧ q0.left = q.left ∧ (∃ y, Der g q.right.tail r0 y) ∧ ∃ y, Der g q0.right kk0 y := by
     cases hdq2 with
     | term h1 _ => cases h1
     | name _ h0 hq hl hk hr => exact ⟨_, _, _, _, rfl, h0, hq, hl, ⟨_, hr⟩, _, hk⟩
   subst hxk
   have hwr0 := der_wf hr0d
   have hsr0 : (For.cons y0 kk0 r0).size = kk0.size + r0.size + 1 := rfl
   obtain ⟨b0, kbr, hkbe⟩ : ∃ b0 kbr, kb = b0 :: kbr := by
     obtain ⟨b0, kbr, _, _, e, _⟩ := hks
     exact ⟨b0, kbr, e⟩
   subst hkbe
   obtain ⟨y0', kk0', r0', he9, hk0a, hk0b⟩ := kids_cons hks
   injection he9 with e91 e92 e93
   subst e91
   subst e92
   subst e93
   obtain ⟨p0, hp0, hb00⟩ := hkb 0 b0 rfl
   subst hp0
   have hck1 : ck = 1 → kbr.length = 0 := fun e => by have h9 : (b0 :: kbr).length ≤ ck := hk1; simp only [List.length_cons] at h9; omega
   obtain ⟨pa, hpa⟩ : ∃ pa, pa = (if ck = 1 then some p0 else (some p0).map (·.add (1 * 1))) := ⟨_, rfl⟩
   have hkbr : ∀ k y, kbr[k]? = some y → ∃ p, pa = some p ∧ Rd (Old w) w (p.add (k * 1)) (.pointer (some ⟨y, 0, none⟩)) := fun k y hy => by
     obtain ⟨p, e, h9⟩ := hkb (k + 1) y hy
     injection e with e
     subst e
     have hl9 := (List.getElem?_eq_some_iff.1 hy).1
     refine ⟨p0.add (1 * 1), by rw [hpa, if_neg (fun e => by have := hck1 e; omega)]; rfl, ?_⟩
     rw [add_twice, show 1 * 1 + k * 1 = (k + 1) * 1 by omega]
     exact h9
   have hls9 := len_size r0
   have hkl9 := KidsAt.len hk0b
   refine CW_skip ?_
   refine EW_then ?_
   refine CW_block ?_
   refine nx3 ?_
   refine mO ?_
   refine OW_q (q_nilCheck rfl) rfl ?_
   refine OW_q (q_fieldAddr Try.underlying99 rfl rfl Try.sizeOf3 rfl rfl) rfl ?_
   refine OW_q (q_load1_ro Try.isAgg3 rfl (by exact hrow.at_ (j := 0) rfl)) rfl ?_
   refine OW_q (q_build (ps := #[(0, .int .i64 xb)]) (v := .agg #[.int .i64 xb, .slice none 0 0]) rfl (fun w => by kernel_rfl)) rfl ?_
   refine OW_e (e_box rfl rfl) rfl (fun b37 => ?_)
   refine aO ?_
   refine nx2 ?_
   refine CW_seq ?_
   refine nx3 ?_
   refine mO ?_
   refine OW_q (q_nilCheck rfl) rfl ?_
   refine OW_q (q_fieldAddr Try.underlying99 rfl rfl Try.sizeOf97 rfl rfl) rfl ?_
   refine OW_q (q_load1_ro Try.isAgg97 rfl (by exact hrow.at_ (j := 1) rfl)) rfl ?_
   refine OW_q (q_slice (l := 1) (h := (b0 :: kbr).length) Try.underlying97 Try.sizeOf80 rfl (.inr ⟨_, rfl, rfl⟩) (.inl ⟨rfl, rfl⟩) (Nat.succ_pos _) (by omega) (by omega)) rfl ?_
   refine OW_spell 42 (.slice pa kbr.length (ck - 1)) rfl (by rw [hpa]; rfl) ?_
   refine OW_q (q_len Try.underlying97 rfl) rfl ?_
   refine mO ?_
   refine nx2 ?_
   refine CW_block ?_
   refine CW_weak (S' := Sat (Old w) w [cel b37 99 [vi xb, .slice none 0 0], trow 80 1 encP (.slice none 0 0) [], kidsA ((F4 g.rules s.a) .nil) [], kidsA (.cons z tk .nil) [tl]]) (fun w hw => by
     have h1 := (hw.tnil 80 1 encP).addEmp (A := kidsA .nil []) ⟨rfl, rfl⟩
     rw [show kidsA ((F4 g.rules s.a) .nil) [] = kidsA .nil [] by rw [F4, fwd4_nil]]
     exact h1.sub sbt) ?_
   refine CW_loopP (ι := Nat × For × For × List Nat × List Nat × Value × List Nat) (fun i_ => i_.1 ≤ kbr.length ∧ r0 = i_.2.1.app i_.2.2.1 ∧ kbr = i_.2.2.2.1 ++ i_.2.2.2.2.1 ∧ i_.2.2.2.1.length = i_.1 ∧ KidsAt (Rd (Old w) w) i_.2.2.1 i_.2.2.2.2.1 ∧ Wf g i_.2.2.1 ∧ i_.2.2.2.2.2.2.length = i_.1) (fun i_ => [(0, .pointer (some ⟨cb, 0, none⟩)), (1, .pointer (some ⟨tb, 0, none⟩)), (5, .pointer (some ⟨tl, 0, none⟩)), (6, .pointer (some ⟨b37, 0, none⟩)), (42, .slice pa kbr.length (ck - 1)), (43, .int .i64 (kbr.length : Int)), (44, .int .i64 (i_.1 : Int))]) (fun i_ => Sat (Old w) w [cel b37 99 [vi xb, i_.2.2.2.2.2.1], trow 80 1 encP i_.2.2.2.2.2.1 i_.2.2.2.2.2.2, kidsA ((F4 g.rules s.a) i_.2.1) i_.2.2.2.2.2.2, kidsA (.cons z tk .nil) [tl]]) (fun i_ => kbr.length - i_.1) (0, .nil, r0, [], kbr, .slice none 0 0, []) ?_ ⟨rfl, rfl, rfl, rfl, rfl, rfl, rfl, trivial⟩ sft ?_
   · exact ⟨Nat.zero_le _, rfl, rfl, rfl, hk0b, hwr0, rfl⟩
   intro i_ hpre
   obtain ⟨k, fd, fr, bd, br, v, nb⟩ := i_
   replace hpre : k ≤ kbr.length ∧ r0 = fd.app fr ∧ kbr = bd ++ br ∧ bd.length = k ∧ KidsAt (Rd (Old w) w) fr br ∧ Wf g fr ∧ nb.length = k := hpre
   change CW _ _ _ _ [(0, .pointer (some ⟨cb, 0, none⟩)), (1, .pointer (some ⟨tb, 0, none⟩)), (5, .pointer (some ⟨tl, 0, none⟩)), (6, .pointer (some ⟨b37, 0, none⟩)), (42, .slice pa kbr.length (ck - 1)), (43, .int .i64 (kbr.length : Int)), (44, .int .i64 (k : Int))] (Sat (Old w) w [cel b37 99 [vi xb, v], trow 80 1 encP v nb, kidsA ((F4 g.rules s.a) fd) nb, kidsA (.cons z tk .nil) [tl]])
   obtain ⟨hk, hfd, hbd, hbl, hkr, hwfr, hnb⟩ := hpre
   refine nx3 ?_
   refine OW_q (q_lss rfl rfl) rfl ?_
   refine nx2 ?_
   refine CW_seq ?_
   refine CW_cond rfl (fun h45 => ?_) (fun h45 => ?_)
   · skip
     have hlt : k < kbr.length := by have := of_decide_eq_true h45; omega
     obtain ⟨b1, br2, rfl⟩ : ∃ b1 br2, br = b1 :: br2 := by
       cases br with
       | nil => rw [List.append_nil] at hbd; rw [hbd] at hlt; omega
       | cons b1 br2 => exact ⟨b1, br2, rfl⟩
     have hbk : kbr[k]? = some b1 := by rw [hbd, List.getElem?_append_right (by omega), hbl, Nat.sub_self]; rfl
     obtain ⟨p1, hp1, hb1⟩ := hkbr k b1 hbk
     subst hp1
     obtain ⟨xk, kk, fr2, rfl, hkk, hk2'⟩ := kids_cons hkr
     have hkl := KidsAt.len hk0b
     have hks5 := kid_size (x := xb) hfd
     have hls5 := len_size (r0)
     refine CW_skip ?_
     refine EW_then ?_
     refine CW_seq ?_
     refine CW_block ?_
     refine nx3 ?_
     refine OW_q (q_indexAddr Try.underlying97 Try.sizeOf80 rfl rfl (by omega)) rfl ?_
     refine OW_q (q_load1_ro Try.isAgg80 rfl (by exact hb1)) rfl ?_
     refine aO ?_
     refine nx2 ?_
     refine CW_draw (Sat (Old w) w [cel b37 99 [vi xb, v]]) 12 [(0, false), (1, false), (2, false), (3, false), (4, false), (5, false), (6, false), (7, true), (8, true), (9, true), (10, false), (11, false), (12, true)] (by kernel_rfl) (Blind.block (Blind.then (Blind.again (Blind.block (Blind.then (Blind.block (Blind.again (Blind.block (Blind.then (Blind.body (by intro c w h; simp at h))))))))))) (by kernel_rfl) (fun w hw => hw.drew) ?_
     refine mD ?_
     refine mD ?_
     refine DW_q rfl sft (q_nilCheck rfl) rfl ?_
     refine DW_q rfl sft (q_fieldAddr Try.underlying99 rfl rfl Try.sizeOf97 rfl rfl) rfl ?_
     refine DW_q rfl sft (q_load1_own Try.isAgg97 rfl rfl swt (by rfl)) rfl ?_
     refine mD ?_
     refine mD ?_
     refine DW_e rfl (e_call Try.call43 rfl (fun w hw => lift_old (ih (For.cons xk kk .nil).size (by omega) xk kk b1 cb w (Nat.le_refl _) (by omega) (hc0.mono fun _ _ h => hw.rd (Rd.old h)) (hkk.mono hw.rd_cl) ⟨hwfr.1, trivial⟩) hw)) rfl (fun _ w hw => by first | exact hw.sub sbt | exact hw.2.sub sbt) (fun x55 => ?_)
     refine DW_e rfl (e_single Try.underlying97 Try.sizeOf80 Try.zeroValue80 (e := 80) (v := .pointer (some ⟨x55, 0, none⟩)) (cs := encP x55) rfl rfl rfl rfl (by decide) (by decide)) rfl (fun _ => sft) (fun b56 => ?_)
     refine DW_e rfl (e_append_t (x0 := x55) (enc := encP) (v := v) (l := nb) Try.underlying97 Try.typeInfo80 rfl rfl rfl rfl rfl rfl rfl pkt rfl (by exact fun w hw => hw.news swt) (by simp [Value.oneCell']) (by omega) (by decide)) rfl (fun _ => sft) (fun v57 => ?_)
     refine DW_fact (fun w hw => hw.tform (v := v57) (l := (nb ++ [x55])) (enc := encP) swt) (fun hf => ?_)
     obtain ⟨a57, c57, rfl, _, _, hb57⟩ := hf
     refine DW_q rfl sft (q_nilCheck rfl) rfl ?_
     refine DW_q rfl sft (q_fieldAddr Try.underlying99 rfl rfl Try.sizeOf97 rfl rfl) rfl ?_
     refine DW_z0 rfl (e_store Try.sizeOf97 rfl rfl rfl rfl swt (by rfl)) (fun _ => ?_)
     refine EW_block_normal ?_
     refine EW_then ?_
     refine CW_region ?_
     refine OW_q (q_add rfl rfl (by omega) (by omega)) rfl ?_
     refine mO ?_
     refine OW_nil ?_
     refine EW_weak (S' := Sat (Old _) _ [cel b37 99 [vi xb, .slice a57 (nb ++ [x55]).length c57], trow 80 1 encP (.slice a57 (nb ++ [x55]).length c57) (nb ++ [x55]), kidsA ((F4 g.rules s.a) (fd.app (.cons xk kk .nil))) (nb ++ [x55]), kidsA (.cons z tk .nil) [tl]]) (fun w hw => by
       have h1 : Sat _ _ (kidsA ((F4 g.rules s.a) fd) nb :: kidsA ((F4 g.rules s.a) (.cons xk kk .nil)) [x55] :: [cel b37 99 [vi xb, .slice a57 (nb ++ [x55]).length c57], trow 80 1 encP (.slice a57 (nb ++ [x55]).length c57) (nb ++ [x55]), kidsA (.cons z tk .nil) [tl]]) w := hw.sub sbt
       exact (sat_kids (T := (F4 g.rules s.a)) (fwd4_app) h1).sub sbt) ?_
     refine EW_again ((k + 1, fd.app (.cons xk kk .nil), fr2, bd ++ [b1], br2, .slice a57 (nb ++ [x55]).length c57, nb ++ [x55])) ⟨?_, ?_⟩ ⟨rfl, rfl, rfl, rfl, rfl, rfl, rfl, trivial⟩ sft
     · show kbr.length - (k + 1) < kbr.length - k; omega
     · refine ⟨by show k + 1 ≤ _; omega, ?_, ?_, ?_, hk2', hwfr.2, ?_⟩
       · show r0 = _
         rw [hfd, For.app_one]
       · show kbr = _
         rw [hbd]; simp
       · show (bd ++ [b1]).length = _
         rw [List.length_append, hbl]; rfl
       · show (nb ++ [x55]).length = _
         rw [List.length_append, hnb]; rfl
   have hke : k = kbr.length := by have := of_decide_eq_false h45; omega
   have hbr : br = [] := by
     have := congrArg List.length hbd
     rw [List.length_append] at this
     exact List.eq_nil_of_length_eq_zero (by omega)
   subst hbr
   have hfr := kids_none hkr
   subst hfr
   rw [For.app_nil] at hfd
   subst hfd
   
   refine CW_exit ?_
   refine EW_then_exit ?_
   refine EW_out ?_
   refine EW_block_exit ?_
   refine EW_then ?_
   refine nx3 ?_
   refine mO ?_
   refine mO ?_
   refine OW_q (q_nilCheck rfl) rfl ?_
   refine OW_q (q_fieldAddr Try.underlying99 rfl rfl Try.sizeOf97 rfl rfl) rfl ?_
   refine OW_q (q_load1_own Try.isAgg97 rfl rfl swt (by rfl)) rfl ?_
   refine mO ?_
   refine OW_e (e_single Try.underlying97 Try.sizeOf80 Try.zeroValue80 (e := 80) (v := .pointer (some ⟨tl, 0, none⟩)) (cs := encP tl) rfl rfl rfl rfl (by decide) (by decide)) rfl (fun b67 => ?_)
   refine OW_e (e_append_t (x0 := tl) (enc := encP) (v := v) (l := nb) Try.underlying97 Try.typeInfo80 rfl rfl rfl rfl rfl rfl rfl pkt rfl (by exact fun w hw => hw.news swt) (by simp [Value.oneCell']) (by omega) (by decide)) rfl (fun v68 => ?_)
   refine OW_fact (fun w hw => hw.tform (v := v68) (l := (nb ++ [tl])) (enc := encP) swt) (fun hf => ?_)
   obtain ⟨a68, c68, rfl, _, _, hb68⟩ := hf
   refine OW_q (q_nilCheck rfl) rfl ?_
   refine OW_q (q_fieldAddr Try.underlying99 rfl rfl Try.sizeOf97 rfl rfl) rfl ?_
   refine OW_e0 (e_store Try.sizeOf97 rfl rfl rfl rfl swt (by rfl)) (fun _ => ?_)
   refine nx2 ?_
   refine CW_region ?_
   refine mO ?_
   refine OW_q (q_nilCheck rfl) rfl ?_
   refine OW_q (q_fieldAddr Try.underlying99 rfl rfl Try.sizeOf97 rfl rfl) rfl ?_
   refine OW_q (q_load1_ro Try.isAgg97 rfl (by exact hrow.at_ (j := 1) rfl)) rfl ?_
   refine OW_q (q_indexAddr Try.underlying97 Try.sizeOf80 rfl rfl (Nat.succ_pos _)) rfl ?_
   refine OW_q (q_load1_ro Try.isAgg80 rfl (by exact hb00)) rfl ?_
   refine mO ?_
   refine aO ?_
   refine aO ?_
   refine OW_nil ?_
   refine EW_block_normal ?_
   refine EW_weak (S' := Sat (Old _) _ [kidsA (.cons xb (((F4 g.rules s.a) r0).app (.cons z tk .nil)) .nil) [b37]]) (fun w hw => by
     have h1 : Sat _ _ (kidsA ((F4 g.rules s.a) r0) nb :: kidsA (.cons z tk .nil) [tl] :: [cel b37 99 [vi xb, .slice a68 (nb ++ [tl]).length c68], trow 80 1 encP (.slice a68 (nb ++ [tl]).length c68) (nb ++ [tl])]) w := hw.sub sbt
     have h2 : Sat _ _ (cel b37 99 [vi xb, .slice a68 (nb ++ [tl]).length c68] :: trow 80 1 encP (.slice a68 (nb ++ [tl]).length c68) (nb ++ [tl]) :: kidsA (((F4 g.rules s.a) r0).app (.cons z tk .nil)) (nb ++ [tl]) :: []) w := h1.kidsApp.sub sbt
     exact h2.kidNew) ?_
   refine EW_again ((y0, kk0, b0, b37, xb, ((F4 g.rules s.a) r0).app (.cons z tk .nil))) ⟨?_, ?_⟩ ⟨rfl, rfl, rfl, trivial⟩ sft
   · show kk0.size < (For.cons y0 kk0 r0).size; omega
   · refine ⟨hk0a, ⟨⟨q0, yk0, hy00, hq0, hkk0d⟩, trivial⟩, ?_, by show kk0.size ≤ _; omega, ?_⟩
     · show isAr g.rules s.a y0 = true
       rw [isAr_get hq0, hq0l, hqa]; simp
     · show U4 g.rules s.a kk0 y0 (.cons xb (((F4 g.rules s.a) r0).app (.cons z tk .nil)) .nil) = _
       rw [← hU9]
       exact (unw_loop hlp).symm
 have hlo : loopsB q = false := h31
 have hlp : lpr g.rules xb = false := by rw [lpr_get hq]; exact hlo
 refine CW_exit ?_
 refine EW_then_exit ?_
 refine EW_out ?_
 refine EW_block_exit ?_
 refine EW_then ?_
 refine nx3 ?_
 refine mO ?_
 refine OW_q (q_nilCheck rfl) rfl ?_
 refine OW_q (q_fieldAddr Try.underlying99 rfl rfl Try.sizeOf3 rfl rfl) rfl ?_
 refine OW_q (q_load1_ro Try.isAgg3 rfl (by exact hrow.at_ (j := 0) rfl)) rfl ?_
 refine OW_q (q_build (ps := #[(0, .int .i64 xb)]) (v := .agg #[.int .i64 xb, .slice none 0 0]) rfl (fun w => by kernel_rfl)) rfl ?_
 refine OW_e (e_box rfl rfl) rfl (fun b83 => ?_)
 refine aO ?_
 refine nx2 ?_
 refine CW_seq ?_
 refine nx3 ?_
 refine mO ?_
 refine OW_q (q_nilCheck rfl) rfl ?_
 refine OW_q (q_fieldAddr Try.underlying99 rfl rfl Try.sizeOf97 rfl rfl) rfl ?_
 refine OW_q (q_load1_ro Try.isAgg97 rfl (by exact hrow.at_ (j := 1) rfl)) rfl ?_
 refine OW_q (q_len Try.underlying97 rfl) rfl ?_
 refine mO ?_
 refine nx2 ?_
 refine CW_block ?_
 refine CW_weak (S' := Sat (Old w) w [cel b83 99 [vi xb, .slice none 0 0], trow 80 1 encP (.slice none 0 0) [], kidsA ((F4 g.rules s.a) .nil) [], kidsA (.cons z tk .nil) [tl]]) (fun w hw => by
   have h1 := (hw.tnil 80 1 encP).addEmp (A := kidsA .nil []) ⟨rfl, rfl⟩
   rw [show kidsA ((F4 g.rules s.a) .nil) [] = kidsA .nil [] by rw [F4, fwd4_nil]]
   exact h1.sub sbt) ?_
 refine CW_loopP (ι := Nat × For × For × List Nat × List Nat × Value × List Nat) (fun i_ => i_.1 ≤ kb.length ∧ xks = i_.2.1.app i_.2.2.1 ∧ kb = i_.2.2.2.1 ++ i_.2.2.2.2.1 ∧ i_.2.2.2.1.length = i_.1 ∧ KidsAt (Rd (Old w) w) i_.2.2.1 i_.2.2.2.2.1 ∧ Wf g i_.2.2.1 ∧ i_.2.2.2.2.2.2.length = i_.1) (fun i_ => [(0, .pointer (some ⟨cb, 0, none⟩)), (1, .pointer (some ⟨tb, 0, none⟩)), (5, .pointer (some ⟨tl, 0, none⟩)), (9, .pointer (some ⟨b83, 0, none⟩)), (87, .slice ak kb.length ck), (88, .int .i64 (kb.length : Int)), (89, .int .i64 (i_.1 : Int))]) (fun i_ => Sat (Old w) w [cel b83 99 [vi xb, i_.2.2.2.2.2.1], trow 80 1 encP i_.2.2.2.2.2.1 i_.2.2.2.2.2.2, kidsA ((F4 g.rules s.a) i_.2.1) i_.2.2.2.2.2.2, kidsA (.cons z tk .nil) [tl]]) (fun i_ => kb.length - i_.1) (0, .nil, xks, [], kb, .slice none 0 0, []) ?_ ⟨rfl, rfl, rfl, rfl, rfl, rfl, rfl, trivial⟩ sft ?_
 · exact ⟨Nat.zero_le _, rfl, rfl, rfl, hks, hwks9, rfl⟩
 intro i_ hpre
 obtain ⟨k, fd, fr, bd, br, v, nb⟩ := i_
 replace hpre : k ≤ kb.length ∧ xks = fd.app fr ∧ kb = bd ++ br ∧ bd.length = k ∧ KidsAt (Rd (Old w) w) fr br ∧ Wf g fr ∧ nb.length = k := hpre
 change CW _ _ _ _ [(0, .pointer (some ⟨cb, 0, none⟩)), (1, .pointer (some ⟨tb, 0, none⟩)), (5, .pointer (some ⟨tl, 0, none⟩)), (9, .pointer (some ⟨b83, 0, none⟩)), (87, .slice ak kb.length ck), (88, .int .i64 (kb.length : Int)), (89, .int .i64 (k : Int))] (Sat (Old w) w [cel b83 99 [vi xb, v], trow 80 1 encP v nb, kidsA ((F4 g.rules s.a) fd) nb, kidsA (.cons z tk .nil) [tl]])
 obtain ⟨hk, hfd, hbd, hbl, hkr, hwfr, hnb⟩ := hpre
 refine nx3 ?_
 refine OW_q (q_lss rfl rfl) rfl ?_
 refine nx2 ?_
 refine CW_seq ?_
 refine CW_cond rfl (fun h90 => ?_) (fun h90 => ?_)
 · skip
   have hlt : k < kb.length := by have := of_decide_eq_true h90; omega
   obtain ⟨b1, br2, rfl⟩ : ∃ b1 br2, br = b1 :: br2 := by
     cases br with
     | nil => rw [List.append_nil] at hbd; rw [hbd] at hlt; omega
     | cons b1 br2 => exact ⟨b1, br2, rfl⟩
   have hbk : kb[k]? = some b1 := by rw [hbd, List.getElem?_append_right (by omega), hbl, Nat.sub_self]; rfl
   obtain ⟨p1, hp1, hb1⟩ := hkb k b1 hbk
   subst hp1
   obtain ⟨xk, kk, fr2, rfl, hkk, hk2'⟩ := kids_cons hkr
   have hkl := KidsAt.len hks
   have hks5 := kid_size (x := xb) hfd
   have hls5 := len_size (xks)
   refine CW_skip ?_
   refine EW_then ?_
   refine CW_seq ?_
   refine CW_block ?_
   refine nx3 ?_
   refine OW_q (q_indexAddr Try.underlying97 Try.sizeOf80 rfl rfl (by omega)) rfl ?_
   refine OW_q (q_load1_ro Try.isAgg80 rfl (by exact hb1)) rfl ?_
   refine aO ?_
   refine nx2 ?_
   refine CW_draw (Sat (Old w) w [cel b83 99 [vi xb, v]]) 12 [(0, false), (1, false), (2, false), (3, false), (4, false), (5, false), (6, false), (7, true), (8, true), (9, true), (10, false), (11, false), (12, true)] (by kernel_rfl) (Blind.block (Blind.then (Blind.again (Blind.block (Blind.then (Blind.body (by intro c w h; simp at h))))))) (by kernel_rfl) (fun w hw => hw.drew) ?_
   refine mD ?_
   refine mD ?_
   refine DW_q rfl sft (q_nilCheck rfl) rfl ?_
   refine DW_q rfl sft (q_fieldAddr Try.underlying99 rfl rfl Try.sizeOf97 rfl rfl) rfl ?_
   refine DW_q rfl sft (q_load1_own Try.isAgg97 rfl rfl swt (by rfl)) rfl ?_
   refine mD ?_
   refine mD ?_
   refine DW_e rfl (e_call Try.call43 rfl (fun w hw => lift_old (ih (For.cons xk kk .nil).size (by omega) xk kk b1 cb w (Nat.le_refl _) (by omega) (hc0.mono fun _ _ h => hw.rd (Rd.old h)) (hkk.mono hw.rd_cl) ⟨hwfr.1, trivial⟩) hw)) rfl (fun _ w hw => by first | exact hw.sub sbt | exact hw.2.sub sbt) (fun x100 => ?_)
   refine DW_e rfl (e_single Try.underlying97 Try.sizeOf80 Try.zeroValue80 (e := 80) (v := .pointer (some ⟨x100, 0, none⟩)) (cs := encP x100) rfl rfl rfl rfl (by decide) (by decide)) rfl (fun _ => sft) (fun b101 => ?_)
   refine DW_e rfl (e_append_t (x0 := x100) (enc := encP) (v := v) (l := nb) Try.underlying97 Try.typeInfo80 rfl rfl rfl rfl rfl rfl rfl pkt rfl (by exact fun w hw => hw.news swt) (by simp [Value.oneCell']) (by omega) (by decide)) rfl (fun _ => sft) (fun v102 => ?_)
   refine DW_fact (fun w hw => hw.tform (v := v102) (l := (nb ++ [x100])) (enc := encP) swt) (fun hf => ?_)
   obtain ⟨a102, c102, rfl, _, _, hb102⟩ := hf
   refine DW_q rfl sft (q_nilCheck rfl) rfl ?_
   refine DW_q rfl sft (q_fieldAddr Try.underlying99 rfl rfl Try.sizeOf97 rfl rfl) rfl ?_
   refine DW_z0 rfl (e_store Try.sizeOf97 rfl rfl rfl rfl swt (by rfl)) (fun _ => ?_)
   refine EW_block_normal ?_
   refine EW_then ?_
   refine CW_region ?_
   refine OW_q (q_add rfl rfl (by omega) (by omega)) rfl ?_
   refine mO ?_
   refine OW_nil ?_
   refine EW_weak (S' := Sat (Old _) _ [cel b83 99 [vi xb, .slice a102 (nb ++ [x100]).length c102], trow 80 1 encP (.slice a102 (nb ++ [x100]).length c102) (nb ++ [x100]), kidsA ((F4 g.rules s.a) (fd.app (.cons xk kk .nil))) (nb ++ [x100]), kidsA (.cons z tk .nil) [tl]]) (fun w hw => by
     have h1 : Sat _ _ (kidsA ((F4 g.rules s.a) fd) nb :: kidsA ((F4 g.rules s.a) (.cons xk kk .nil)) [x100] :: [cel b83 99 [vi xb, .slice a102 (nb ++ [x100]).length c102], trow 80 1 encP (.slice a102 (nb ++ [x100]).length c102) (nb ++ [x100]), kidsA (.cons z tk .nil) [tl]]) w := hw.sub sbt
     exact (sat_kids (T := (F4 g.rules s.a)) (fwd4_app) h1).sub sbt) ?_
   refine EW_again ((k + 1, fd.app (.cons xk kk .nil), fr2, bd ++ [b1], br2, .slice a102 (nb ++ [x100]).length c102, nb ++ [x100])) ⟨?_, ?_⟩ ⟨rfl, rfl, rfl, rfl, rfl, rfl, rfl, trivial⟩ sft
   · show kb.length - (k + 1) < kb.length - k; omega
   · refine ⟨by show k + 1 ≤ _; omega, ?_, ?_, ?_, hk2', hwfr.2, ?_⟩
     · show xks = _
       rw [hfd, For.app_one]
     · show kb = _
       rw [hbd]; simp
     · show (bd ++ [b1]).length = _
       rw [List.length_append, hbl]; rfl
     · show (nb ++ [x100]).length = _
       rw [List.length_append, hnb]; rfl
 have hke : k = kb.length := by have := of_decide_eq_false h90; omega
 have hbr : br = [] := by
   have := congrArg List.length hbd
   rw [List.length_append] at this
   exact List.eq_nil_of_length_eq_zero (by omega)
 subst hbr
 have hfr := kids_none hkr
 subst hfr
 rw [For.app_nil] at hfd
 subst hfd
 
 refine CW_exit ?_
 refine EW_then_exit ?_
 refine EW_out ?_
 refine EW_block_exit ?_
 refine EW_then ?_
 refine nx3 ?_
 refine mO ?_
 refine mO ?_
 refine OW_q (q_nilCheck rfl) rfl ?_
 refine OW_q (q_fieldAddr Try.underlying99 rfl rfl Try.sizeOf97 rfl rfl) rfl ?_
 refine OW_q (q_load1_own Try.isAgg97 rfl rfl swt (by rfl)) rfl ?_
 refine mO ?_
 refine OW_e (e_single Try.underlying97 Try.sizeOf80 Try.zeroValue80 (e := 80) (v := .pointer (some ⟨tl, 0, none⟩)) (cs := encP tl) rfl rfl rfl rfl (by decide) (by decide)) rfl (fun b112 => ?_)
 refine OW_e (e_append_t (x0 := tl) (enc := encP) (v := v) (l := nb) Try.underlying97 Try.typeInfo80 rfl rfl rfl rfl rfl rfl rfl pkt rfl (by exact fun w hw => hw.news swt) (by simp [Value.oneCell']) (by omega) (by decide)) rfl (fun v113 => ?_)
 refine OW_fact (fun w hw => hw.tform (v := v113) (l := (nb ++ [tl])) (enc := encP) swt) (fun hf => ?_)
 obtain ⟨a113, c113, rfl, _, _, hb113⟩ := hf
 refine OW_q (q_nilCheck rfl) rfl ?_
 refine OW_q (q_fieldAddr Try.underlying99 rfl rfl Try.sizeOf97 rfl rfl) rfl ?_
 refine OW_e0 (e_store Try.sizeOf97 rfl rfl rfl rfl swt (by rfl)) (fun _ => ?_)
 refine nx4 ?_
 refine mO ?_
 refine aO ?_
 refine nx2 ?_
 refine CW_ret ?_
 refine ret1 Try.results59 rfl (fun w hw => ?_)
 refine ⟨b83, rfl, ?_⟩
 rw [← hU9, U4, unw_end hlp]
 show Sat _ _ [kidsA (.cons xb (((F4 g.rules s.a) xks).app (.cons z tk .nil)) .nil) [b83]] _
 (
   have h1 : Sat _ _ (kidsA ((F4 g.rules s.a) xks) nb :: kidsA (.cons z tk .nil) [tl] :: [cel b83 99 [vi xb, .slice a113 (nb ++ [tl]).length c113], trow 80 1 encP (.slice a113 (nb ++ [tl]).length c113) (nb ++ [tl])]) w := hw.sub sbt
   have h2 : Sat _ _ (cel b83 99 [vi xb, .slice a113 (nb ++ [tl]).length c113] :: trow 80 1 encP (.slice a113 (nb ++ [tl]).length c113) (nb ++ [tl]) :: kidsA (((F4 g.rules s.a) xks).app (.cons z tk .nil)) (nb ++ [tl]) :: []) w := h1.kidsApp.sub sbt
   exact h2.kidNew)

set_option maxRecDepth 20000 in
theorem fwd4_any (g : Gram) (s : SStep) (ls : List Nat) (hm : mayB g = true) (hs : mayS g s = true) (hop : s.op = 4) : ∀ (N : Nat) (x : Int) (ks : For) (b cb : Nat) (w : World), (For.cons x ks .nil).size ≤ N → N ≤ 5000 → CarAt (Cl w) cb g s ls → KidsAt (Cl w) (.cons x ks .nil) [b] → Wf g (.cons x ks .nil) → Calls Try.prog 43 #[.pointer (some ⟨cb, 0, none⟩), .pointer (some ⟨b, 0, none⟩)] w (fun e w' => ∃ b' : Nat, e = .returned (.pointer (some ⟨b', 0, none⟩)) ∧ Sat (Old w) w [kidsA ((F4 g.rules s.a) (.cons x ks .nil)) [b']] w') := by
 intro N
 refine Nat.strongRecOn N ?_
 clear N
 intro N ih x ks b cb w hsz hN hc0 hk0 hwf
 obtain ⟨rv, lv, hcar, hrr, hll⟩ := (hc0.mono old_rd).ex
 obtain ⟨ar, cr, rfl, hr1, hr2, hrs⟩ := hrr
 obtain ⟨al, cl, rfl, hl1, hl2, hls1⟩ := hll
 rw [show (natV ls).length = ls.length by rw [List.length_map]] at hcar hl1
 obtain ⟨ak, kb, ck, hrow, hk1, hk2, hkb, hks⟩ := kids_top (hk0.mono old_rd)
 obtain ⟨⟨q, yq, hx0, hq, hdq⟩, _⟩ := id hwf
 have hwks := der_wf hdq
 obtain ⟨pq, hpq, rvq, hsy, hrowq⟩ := hrs x.toNat q hq
 subst hpq
 obtain ⟨ya, yc, rfl, hy1, hy2, hys⟩ := id hsy
 have hxl := (List.getElem?_eq_some_iff.1 hq).1
 have hq8 := (may_rule hm hq).2.2
 
 refine calls_CW Try.func43 rfl Try.ntmps43 rfl (Sat.start w) ?_
 refine nx3 ?_
 refine aO ?_
 refine nx2 ?_
 refine CW_seq ?_
 refine CW_draw (Sat (Old w) w []) 12 [(0, false), (1, false), (2, false), (3, false), (4, false), (5, false), (6, false), (7, false), (8, false), (9, false), (10, false), (11, true), (12, true)] (by kernel_rfl) (Blind.then (Blind.body (by intro c w h; simp at h))) (by kernel_rfl) (fun w hw => hw.drew) ?_
 refine mD ?_
 refine DW_q rfl sft (q_nilCheck rfl) rfl ?_
 refine DW_q rfl sft (q_fieldAddr Try.underlying96 rfl rfl Try.sizeOf24 rfl rfl) rfl ?_
 refine DW_q rfl sft (q_fieldAddr Try.underlying24 rfl rfl Try.sizeOf22 rfl rfl) rfl ?_
 refine DW_q rfl sft (q_load1_ro Try.isAgg22 rfl (by exact hcar.at_ (j := 2) rfl)) rfl ?_
 refine mD ?_
 refine DW_q rfl sft (q_nilCheck rfl) rfl ?_
 refine DW_q rfl sft (q_fieldAddr Try.underlying99 rfl rfl Try.sizeOf3 rfl rfl) rfl ?_
 refine DW_q rfl sft (q_load1_ro Try.isAgg3 rfl (by exact hrow.at_ (j := 0) rfl)) rfl ?_
 refine DW_spell 21 (.int .i64 ((x.toNat : Nat) : Int)) rfl (congrArg (Value.int .i64) (by omega)) ?_
 refine DW_q rfl sft (q_indexAddr Try.underlying22 Try.sizeOf49 rfl rfl hxl) rfl ?_
 refine DW_q rfl sft (q_loadN_ro Try.isAgg49 Try.sizeOf49 rfl (by exact hrowq) (by rfl)) rfl ?_
 refine DW_e rfl (e_alloc Try.zeroValue49 rfl) rfl (fun _ w hw => by first | exact hw.sub sbt | exact hw.2.sub sbt) (fun b5 => ?_)
 refine DW_z0 rfl (e_storeN Try.sizeOf49 rfl rfl rfl rfl (by simp [Value.oneCell']) swt (by rfl)) (fun _ => ?_)
 refine EW_then ?_
 refine CW_seq ?_
 refine CW_seq ?_
 refine CW_draw (Sat (Old w) w [cel b5 49 [.int .i64 q.left, .slice ya q.right.length yc]]) 16 [(0, false), (1, false), (2, false), (3, false), (4, false), (5, false), (6, false), (7, false), (8, false), (9, false), (10, false), (11, false), (12, false), (13, false), (14, false), (15, false)] (by kernel_rfl) (Blind.then (Blind.then (Blind.body (by intro c w h; simp at h)))) (by kernel_rfl) (fun w hw => hw.drew) ?_
 refine mD ?_
 refine DW_q rfl sft (q_nilCheck rfl) rfl ?_
 refine DW_q rfl sft (q_fieldAddr Try.underlying96 rfl rfl Try.sizeOf26 rfl rfl) rfl ?_
 refine DW_q rfl sft (q_fieldAddr Try.underlying26 rfl rfl Try.sizeOf3 rfl rfl) rfl ?_
 refine DW_q rfl sft (q_load1_ro Try.isAgg3 rfl (by exact hcar.at_ (j := 3) rfl)) rfl ?_
 refine DW_q rfl sft (q_eqi rfl rfl) rfl ?_
 refine mD ?_
 refine DW_part (t := 30) rfl (fun hg30 => ?_) (fun hg30 => ?_)
 · skip
   refine DW_qg rfl sft rfl rfl rfl (q_fieldAddr Try.underlying49 rfl rfl Try.sizeOf3 rfl rfl) rfl ?_
   refine DW_qg rfl sft rfl rfl rfl (q_load1_own Try.isAgg3 rfl rfl swt (by rfl)) rfl ?_
   refine DW_qg rfl sft rfl rfl rfl (q_move rfl) rfl ?_
   refine DW_qg rfl sft rfl rfl rfl (q_nilCheck rfl) rfl ?_
   refine DW_qg rfl sft rfl rfl rfl (q_fieldAddr Try.underlying96 rfl rfl Try.sizeOf26 rfl rfl) rfl ?_
   refine DW_qg rfl sft rfl rfl rfl (q_fieldAddr Try.underlying26 rfl rfl Try.sizeOf3 rfl rfl) rfl ?_
   refine DW_qg rfl sft rfl rfl rfl (q_load1_ro Try.isAgg3 rfl (by exact hcar.at_ (j := 4) rfl)) rfl ?_
   refine DW_qg rfl sft rfl rfl rfl (q_eqi rfl rfl) rfl ?_
   refine DW_q rfl sft (q_pick_t rfl rfl) rfl ?_
   refine DW_nil ?_
   refine EW_then ?_
   refine CW_cond rfl (fun h39 => ?_) (fun h39 => ?_)
   · skip
     have hA : isAr g.rules s.a x = true := by rw [isAr_get hq]; simpa using h39
     refine nx3 ?_
     refine mO ?_
     refine mO ?_
     refine OW_e (e_call Try.call59 rfl (fun w hw => lift_old (unw4_any g s ls hm N ih x ks b cb w hsz hN (hc0.mono fun _ _ h => hw.rd (Rd.old h)) (hk0.mono fun _ _ h => hw.rd (Rd.old h)) hwf hA) hw)) rfl (fun x42 => ?_)
     refine aO ?_
     refine nx2 ?_
     refine CW_ret ?_
     refine EW_then_ret ?_
     refine ret1 Try.results43 rfl (fun w hw => ?_)
     refine ⟨x42, rfl, ?_⟩
     rw [F4, fwd4_cons, if_pos hA, fwd4_nil, For.app_nil]
     exact hw.sub sbt
   have hA : ¬ isAr g.rules s.a x = true := by rw [isAr_get hq]; simpa using h39
   refine CW_skip ?_
   refine EW_then ?_
   refine nx3 ?_
   refine mO ?_
   refine OW_q (q_nilCheck rfl) rfl ?_
   refine OW_q (q_fieldAddr Try.underlying99 rfl rfl Try.sizeOf3 rfl rfl) rfl ?_
   refine OW_q (q_load1_ro Try.isAgg3 rfl (by exact hrow.at_ (j := 0) rfl)) rfl ?_
   refine OW_q (q_build (ps := #[(0, .int .i64 x)]) (v := .agg #[.int .i64 x, .slice none 0 0]) rfl (fun w => by kernel_rfl)) rfl ?_
   refine OW_e (e_box rfl rfl) rfl (fun b48 => ?_)
   refine aO ?_
   refine nx2 ?_
   refine CW_seq ?_
   refine nx3 ?_
   refine mO ?_
   refine OW_q (q_nilCheck rfl) rfl ?_
   refine OW_q (q_fieldAddr Try.underlying99 rfl rfl Try.sizeOf97 rfl rfl) rfl ?_
   refine OW_q (q_load1_ro Try.isAgg97 rfl (by exact hrow.at_ (j := 1) rfl)) rfl ?_
   refine OW_q (q_len Try.underlying97 rfl) rfl ?_
   refine mO ?_
   refine nx2 ?_
   refine CW_block ?_
   refine CW_weak (S' := Sat (Old w) w [cel b48 99 [vi x, .slice none 0 0], trow 80 1 encP (.slice none 0 0) [], kidsA ((F4 g.rules s.a) .nil) [], cel b5 49 [.int .i64 q.left, .slice ya q.right.length yc]]) (fun w hw => by
     have h1 := (hw.tnil 80 1 encP).addEmp (A := kidsA .nil []) ⟨rfl, rfl⟩
     rw [show kidsA ((F4 g.rules s.a) .nil) [] = kidsA .nil [] by rw [F4, fwd4_nil]]
     exact h1.sub sbt) ?_
   refine CW_loopP (ι := Nat × For × For × List Nat × List Nat × Value × List Nat) (fun i_ => i_.1 ≤ kb.length ∧ ks = i_.2.1.app i_.2.2.1 ∧ kb = i_.2.2.2.1 ++ i_.2.2.2.2.1 ∧ i_.2.2.2.1.length = i_.1 ∧ KidsAt (Rd (Old w) w) i_.2.2.1 i_.2.2.2.2.1 ∧ Wf g i_.2.2.1 ∧ i_.2.2.2.2.2.2.length = i_.1) (fun i_ => [(0, .pointer (some ⟨cb, 0, none⟩)), (1, .pointer (some ⟨b, 0, none⟩)), (5, .pointer (some ⟨b5, 0, none⟩)), (6, .pointer (some ⟨b48, 0, none⟩)), (52, .slice ak kb.length ck), (53, .int .i64 (kb.length : Int)), (54, .int .i64 (i_.1 : Int))]) (fun i_ => Sat (Old w) w [cel b48 99 [vi x, i_.2.2.2.2.2.1], trow 80 1 encP i_.2.2.2.2.2.1 i_.2.2.2.2.2.2, kidsA ((F4 g.rules s.a) i_.2.1) i_.2.2.2.2.2.2, cel b5 49 [.int .i64 q.left, .slice ya q.right.length yc]]) (fun i_ => kb.length - i_.1) (0, .nil, ks, [], kb, .slice none 0 0, []) ?_ ⟨rfl, rfl, rfl, rfl, rfl, rfl, rfl, trivial⟩ sft ?_
   · exact ⟨Nat.zero_le _, rfl, rfl, rfl, hks, hwks, rfl⟩
   intro i_ hpre
   obtain ⟨k, fd, fr, bd, br, v, nb⟩ := i_
   replace hpre : k ≤ kb.length ∧ ks = fd.app fr ∧ kb = bd ++ br ∧ bd.length = k ∧ KidsAt (Rd (Old w) w) fr br ∧ Wf g fr ∧ nb.length = k := hpre
   change CW _ _ _ _ [(0, .pointer (some ⟨cb, 0, none⟩)), (1, .pointer (some ⟨b, 0, none⟩)), (5, .pointer (some ⟨b5, 0, none⟩)), (6, .pointer (some ⟨b48, 0, none⟩)), (52, .slice ak kb.length ck), (53, .int .i64 (kb.length : Int)), (54, .int .i64 (k : Int))] (Sat (Old w) w [cel b48 99 [vi x, v], trow 80 1 encP v nb, kidsA ((F4 g.rules s.a) fd) nb, cel b5 49 [.int .i64 q.left, .slice ya q.right.length yc]])
   obtain ⟨hk, hfd, hbd, hbl, hkr, hwfr, hnb⟩ := hpre
   refine nx3 ?_
   refine OW_q (q_lss rfl rfl) rfl ?_
   refine nx2 ?_
   refine CW_seq ?_
   refine CW_cond rfl (fun h55 => ?_) (fun h55 => ?_)
   · skip
     have hlt : k < kb.length := by have := of_decide_eq_true h55; omega
     obtain ⟨b1, br2, rfl⟩ : ∃ b1 br2, br = b1 :: br2 := by
       cases br with
       | nil => rw [List.append_nil] at hbd; rw [hbd] at hlt; omega
       | cons b1 br2 => exact ⟨b1, br2, rfl⟩
     have hbk : kb[k]? = some b1 := by rw [hbd, List.getElem?_append_right (by omega), hbl, Nat.sub_self]; rfl
     obtain ⟨p1, hp1, hb1⟩ := hkb k b1 hbk
     subst hp1
     obtain ⟨xk, kk, fr2, rfl, hkk, hk2'⟩ := kids_cons hkr
     have hkl := KidsAt.len hks
     have hks5 := kid_size (x := x) hfd
     have hls5 := len_size ks
     refine CW_skip ?_
     refine EW_then ?_
     refine CW_seq ?_
     refine CW_block ?_
     refine nx3 ?_
     refine OW_q (q_indexAddr Try.underlying97 Try.sizeOf80 rfl rfl (by omega)) rfl ?_
     refine OW_q (q_load1_ro Try.isAgg80 rfl (by exact hb1)) rfl ?_
     refine aO ?_
     refine nx2 ?_
     refine CW_draw (Sat (Old w) w [cel b48 99 [vi x, v]]) 12 [(0, false), (1, false), (2, false), (3, false), (4, false), (5, false), (6, false), (7, true), (8, true), (9, true), (10, false), (11, false), (12, true)] (by kernel_rfl) (Blind.block (Blind.then (Blind.again (Blind.block (Blind.then (Blind.body (by intro c w h; simp at h))))))) (by kernel_rfl) (fun w hw => hw.drew) ?_
     refine mD ?_
     refine mD ?_
     refine DW_q rfl sft (q_nilCheck rfl) rfl ?_
     refine DW_q rfl sft (q_fieldAddr Try.underlying99 rfl rfl Try.sizeOf97 rfl rfl) rfl ?_
     refine DW_q rfl sft (q_load1_own Try.isAgg97 rfl rfl swt (by rfl)) rfl ?_
     refine mD ?_
     refine mD ?_
     refine DW_e rfl (e_call Try.call43 rfl (fun w hw => lift_old (ih (For.cons xk kk .nil).size (by have := kid_size (x := x) hfd; omega) xk kk b1 cb w (Nat.le_refl _) (by have := kid_size (x := x) hfd; omega) (hc0.mono fun _ _ h => hw.rd (Rd.old h)) (hkk.mono hw.rd_cl) ⟨hwfr.1, trivial⟩) hw)) rfl (fun _ w hw => by first | exact hw.sub sbt | exact hw.2.sub sbt) (fun x65 => ?_)
     refine DW_e rfl (e_single Try.underlying97 Try.sizeOf80 Try.zeroValue80 (e := 80) (v := .pointer (some ⟨x65, 0, none⟩)) (cs := encP x65) rfl rfl rfl rfl (by decide) (by decide)) rfl (fun _ => sft) (fun b66 => ?_)
     refine DW_e rfl (e_append_t (x0 := x65) (enc := encP) (v := v) (l := nb) Try.underlying97 Try.typeInfo80 rfl rfl rfl rfl rfl rfl rfl pkt rfl (by exact fun w hw => hw.news swt) (by simp [Value.oneCell']) (by omega) (by decide)) rfl (fun _ => sft) (fun v67 => ?_)
     refine DW_fact (fun w hw => hw.tform (v := v67) (l := (nb ++ [x65])) (enc := encP) swt) (fun hf => ?_)
     obtain ⟨a67, c67, rfl, _, _, hb67⟩ := hf
     refine DW_q rfl sft (q_nilCheck rfl) rfl ?_
     refine DW_q rfl sft (q_fieldAddr Try.underlying99 rfl rfl Try.sizeOf97 rfl rfl) rfl ?_
     refine DW_z0 rfl (e_store Try.sizeOf97 rfl rfl rfl rfl swt (by rfl)) (fun _ => ?_)
     refine EW_block_normal ?_
     refine EW_then ?_
     refine CW_region ?_
     refine OW_q (q_add rfl rfl (by omega) (by omega)) rfl ?_
     refine mO ?_
     refine OW_nil ?_
     refine EW_weak (S' := Sat (Old _) _ [cel b48 99 [vi x, .slice a67 (nb ++ [x65]).length c67], trow 80 1 encP (.slice a67 (nb ++ [x65]).length c67) (nb ++ [x65]), kidsA ((F4 g.rules s.a) (fd.app (.cons xk kk .nil))) (nb ++ [x65]), cel b5 49 [.int .i64 q.left, .slice ya q.right.length yc]]) (fun w hw => by
       have h1 : Sat _ _ (kidsA ((F4 g.rules s.a) fd) nb :: kidsA ((F4 g.rules s.a) (.cons xk kk .nil)) [x65] :: [cel b48 99 [vi x, .slice a67 (nb ++ [x65]).length c67], trow 80 1 encP (.slice a67 (nb ++ [x65]).length c67) (nb ++ [x65]), cel b5 49 [.int .i64 q.left, .slice ya q.right.length yc]]) w := hw.sub sbt
       exact (sat_kids (T := (F4 g.rules s.a)) (fwd4_app) h1).sub sbt) ?_
     refine EW_again ((k + 1, fd.app (.cons xk kk .nil), fr2, bd ++ [b1], br2, .slice a67 (nb ++ [x65]).length c67, nb ++ [x65])) ⟨?_, ?_⟩ ⟨rfl, rfl, rfl, rfl, rfl, rfl, rfl, trivial⟩ sft
     · show kb.length - (k + 1) < kb.length - k; omega
     · refine ⟨by show k + 1 ≤ _; omega, ?_, ?_, ?_, hk2', hwfr.2, ?_⟩
       · show ks = _
         rw [hfd, For.app_one]
       · show kb = _
         rw [hbd]; simp
       · show (bd ++ [b1]).length = _
         rw [List.length_append, hbl]; rfl
       · show (nb ++ [x65]).length = _
         rw [List.length_append, hnb]; rfl
   have hke : k = kb.length := by have := of_decide_eq_false h55; omega
   have hbr : br = [] := by
     have := congrArg List.length hbd
     rw [List.length_append] at this
     exact List.eq_nil_of_length_eq_zero (by omega)
   subst hbr
   have hfr := kids_none hkr
   subst hfr
   rw [For.app_nil] at hfd
   subst hfd
   refine CW_fact (fun w hw => hw.tform (v := v) (l := nb) (enc := encP) swt) (fun hf => ?_)
   obtain ⟨an, cn, rfl, _, _, hbn⟩ := hf
   refine CW_exit ?_
   refine EW_then_exit ?_
   refine EW_out ?_
   refine EW_block_exit ?_
   refine EW_then ?_
   refine CW_seq ?_
   refine nx3 ?_
   refine mO ?_
   refine OW_q (q_nilCheck rfl) rfl ?_
   refine OW_q (q_fieldAddr Try.underlying96 rfl rfl Try.sizeOf26 rfl rfl) rfl ?_
   refine OW_q (q_fieldAddr Try.underlying26 rfl rfl Try.sizeOf3 rfl rfl) rfl ?_
   refine OW_q (q_load1_ro Try.isAgg3 rfl (by exact hcar.at_ (j := 3) rfl)) rfl ?_
   refine nx2 ?_
   refine CW_block ?_
   refine nx3 ?_
   refine OW_q (q_eqi rfl rfl) rfl ?_
   refine aO ?_
   refine nx2 ?_
   refine CW_false rfl (by simp [hop]) ?_
   refine nx3 ?_
   refine OW_q (q_eqi rfl rfl) rfl ?_
   refine aO ?_
   refine nx2 ?_
   refine CW_false rfl (by simp [hop]) ?_
   refine nx3 ?_
   refine OW_q (q_eqi rfl rfl) rfl ?_
   refine aO ?_
   refine nx2 ?_
   refine CW_false rfl (by simp [hop]) ?_
   refine CW_skip ?_
   refine EW_block_normal ?_
   refine EW_then ?_
   refine nx3 ?_
   refine mO ?_
   refine aO ?_
   refine nx2 ?_
   refine CW_ret ?_
   refine ret1 Try.results43 rfl (fun w hw => ?_)
   have hT : (F4 g.rules s.a) (.cons x ks .nil) = .cons x ((F4 g.rules s.a) ks) .nil := by
     rw [F4, fwd4_cons, if_neg hA, fwd4_nil]; rfl
   rw [hT]
   refine ⟨b48, rfl, ?_⟩
   have h1 : Sat _ _ (cel b48 99 [vi x, .slice an nb.length cn] :: trow 80 1 encP (.slice an nb.length cn) nb :: kidsA ((F4 g.rules s.a) ks) nb :: []) w := hw.sub sbt
   exact h1.kidNew
 exact absurd hg30 (by simp [hop]) --stop

end Go.Sy
/- slices.Insert of a tree. No condition. -/
namespace Go.Sy
open Go Go.RowKit Go.Proofs
set_option maxRecDepth 20000 in
theorem insE_any (v : Value) (l : List Nat) (y i vc bs : Nat) (R : Nat → Prop) (w0 w : World) (F : HP) (hi : i = l.length) (hlm : l.length ≤ 900) (hw : Sat R w0 ([trow 80 1 encP v l, cel bs 80 (encP y)] ++ [F]) w) : Calls Try.prog 74 #[v, .int .i64 (i : Int), .slice (some ⟨bs, 0, none⟩) 1 vc] w (fun e w' => ∃ v' : Value, e = .returned v' ∧ Sat R w0 ([trow 80 1 encP v' (l.take i ++ [y] ++ l.drop i), cel bs 80 (encP y)] ++ [F]) w') := by
 obtain ⟨a, c, rfl, hlc, hcm, _⟩ := hw.tform (v := v) (l := l) (enc := encP) swt
 refine calls_CW (S := Sat R w0 [trow 80 1 encP (.slice a l.length c) l, cel bs 80 (encP y), F]) Try.func74 rfl Try.ntmps74 rfl (hw) ?_
 refine nx3 ?_
 refine aO ?_
 refine nx4 ?_
 refine mO ?_
 refine mO ?_
 refine OW_q (q_slice (l := i) (h := l.length) Try.underlying97 Try.sizeOf80 rfl (.inr ⟨_, rfl, rfl⟩) (.inl ⟨rfl, rfl⟩) (by omega) (by omega) (by omega)) rfl ?_
 refine nx4 ?_
 refine mO ?_
 refine OW_q (q_len Try.underlying97 rfl) rfl ?_
 refine aO ?_
 refine nx2 ?_
 refine CW_seq ?_
 refine nx3 ?_
 refine mO ?_
 refine OW_q (q_eqi rfl rfl) rfl ?_
 refine nx2 ?_
 refine CW_false rfl (by simp) ?_
 refine CW_skip ?_
 refine EW_then ?_
 refine nx3 ?_
 refine mO ?_
 refine OW_q (q_len Try.underlying97 rfl) rfl ?_
 refine aO ?_
 refine nx2 ?_
 refine CW_seq ?_
 refine nx3 ?_
 refine mO ?_
 refine mO ?_
 refine OW_q (q_eqi rfl rfl) rfl ?_
 refine nx2 ?_
 refine CW_true rfl (by simp; omega) ?_
 refine nx3 ?_
 refine mO ?_
 refine mO ?_
 refine OW_e (e_appendG (enc := encP) (size := 1) (v := .slice a l.length c) (l := l) (ys := [y]) (sa := some ⟨bs, 0, none⟩) (fun _ => rfl) Try.underlying97 Try.typeInfo80 rfl rfl rfl rfl rfl rfl rfl pkt rfl (fun w hw j u hj => ⟨_, rfl, by rw [Addr.add_lit, hw.cell (t := 80) (cs := encP y) (A' := cel bs 80 (encP y)) swt, Nat.zero_add]; exact hj⟩) (encP_one [y]) (by omega) (by decide)) rfl (fun v25 => ?_)
 refine aO ?_
 refine nx2 ?_
 refine CW_ret ?_
 refine EW_then_ret ?_
 refine ret1 Try.results74 rfl (fun w hw => ?_)
 refine ⟨v25, rfl, ?_⟩
 rw [hi, List.take_length, List.drop_length, List.append_nil]
 exact hw

set_option maxRecDepth 20000 in
theorem insM_any (v : Value) (l : List Nat) (y i vc bs : Nat) (R : Nat → Prop) (w0 w : World) (F : HP) (hi : i < l.length) (hlm : l.length ≤ 900) (hw : Sat R w0 ([trow 80 1 encP v l, cel bs 80 (encP y)] ++ [F]) w) : Calls Try.prog 74 #[v, .int .i64 (i : Int), .slice (some ⟨bs, 0, none⟩) 1 vc] w (fun e w' => ∃ v' : Value, e = .returned v' ∧ Sat R w0 ([trow 80 1 encP v' (l.take i ++ [y] ++ l.drop i), cel bs 80 (encP y)] ++ [F]) w') := by
 have hw : Sat R w0 [row 80 1 v l.length (l.flatMap encP), cel bs 80 (encP y), F] w := hw
 obtain ⟨_, h0, _⟩ | ⟨b, cap, rfl, _, _, _, _⟩ := hw.rowForm (A' := row 80 1 v l.length (l.flatMap encP)) .head
 · omega
 obtain ⟨rest, ⟨hfull, hlc, hcm, hxl⟩, hw'⟩ := hw.openRow
 obtain ⟨A, hA0⟩ : ∃ A, A = (l.take i).flatMap encP := ⟨_, rfl⟩
 obtain ⟨B, hB0⟩ : ∃ B, B = (l.drop i).flatMap encP := ⟨_, rfl⟩
 have hAB : l.flatMap encP = A ++ B := by rw [hA0, hB0, ← List.flatMap_append, List.take_append_drop]
 have hA : A.length = i * 1 := by rw [hA0, flat_length (enc := encP) (size := 1) (fun _ => rfl), List.length_take]; omega
 have hB : B.length = (l.length - i) * 1 := by rw [hB0, flat_length (enc := encP) (size := 1) (fun _ => rfl), List.length_drop]
 have hV : (encP y).length = 1 := rfl
 have h1v : ∀ u ∈ encP y, u.oneCell' = true := fun u hu => by rw [List.mem_singleton.1 hu]; rfl
 have h1B : ∀ u ∈ B, u.oneCell' = true := by rw [hB0]; exact encP_one _
 rw [hAB, List.append_assoc] at hw'
 rw [hAB, List.length_append, List.length_append] at hfull
 have hnew : (l.take i ++ [y] ++ l.drop i).flatMap encP = A ++ (encP y ++ B) := by rw [List.flatMap_append, List.flatMap_append, ← hA0, ← hB0, List.append_assoc]; rfl
 have hnl : (l.take i ++ [y] ++ l.drop i).length = l.length + 1 := by simp only [List.length_append, List.length_take, List.length_drop, List.length_singleton]; omega
 refine calls_CW (S := Sat R w0 [cel b 80 (A ++ (B ++ rest)), cel bs 80 (encP y), F]) Try.func74 rfl Try.ntmps74 rfl (hw') ?_
 refine nx3 ?_
 refine aO ?_
 refine nx4 ?_
 refine mO ?_
 refine mO ?_
 refine OW_q (q_slice (l := i) (h := l.length) Try.underlying97 Try.sizeOf80 rfl (.inr ⟨_, rfl, rfl⟩) (.inl ⟨rfl, rfl⟩) (by omega) (by omega) (by omega)) rfl ?_
 refine nx4 ?_
 refine mO ?_
 refine OW_q (q_len Try.underlying97 rfl) rfl ?_
 refine aO ?_
 refine nx2 ?_
 refine CW_seq ?_
 refine nx3 ?_
 refine mO ?_
 refine OW_q (q_eqi rfl rfl) rfl ?_
 refine nx2 ?_
 refine CW_false rfl (by simp) ?_
 refine CW_skip ?_
 refine EW_then ?_
 refine nx3 ?_
 refine mO ?_
 refine OW_q (q_len Try.underlying97 rfl) rfl ?_
 refine aO ?_
 refine nx2 ?_
 refine CW_seq ?_
 refine nx3 ?_
 refine mO ?_
 refine mO ?_
 refine OW_q (q_eqi rfl rfl) rfl ?_
 refine nx2 ?_
 refine CW_false rfl (by simp; omega) ?_
 refine CW_skip ?_
 refine EW_then ?_
 refine CW_seq ?_
 refine nx3 ?_
 refine mO ?_
 refine mO ?_
 refine OW_q (q_add rfl rfl (by omega) (by omega)) rfl ?_
 refine OW_spell 28 (.int .i64 ((l.length + 1 : Nat) : Int)) rfl (congrArg (Value.int .i64) (by omega)) ?_
 refine mO ?_
 refine OW_q (q_cap Try.underlying97 rfl) rfl ?_
 refine OW_q (q_gtr rfl rfl) rfl ?_
 refine nx2 ?_
 refine CW_cond rfl (fun h31 => ?_) (fun h31 => ?_)
 · skip
   have htc : cap < l.length + 1 := by have := of_decide_eq_true h31; omega
   refine nx3 ?_
   refine mO ?_
   refine mO ?_
   refine OW_q (q_slice (l := 0) (h := i) Try.underlying97 Try.sizeOf80 rfl (.inl ⟨rfl, rfl⟩) (.inr ⟨_, rfl, rfl⟩) (Nat.zero_le _) (by omega) (by omega)) rfl ?_
   refine OW_spell 34 (.slice (some ⟨b, 0, none⟩) (i) cap) rfl sl_zero ?_
   refine mO ?_
   refine mO ?_
   refine OW_q (q_add rfl rfl (by omega) (by omega)) rfl ?_
   refine OW_spell 37 (.int .i64 ((l.length + 1 : Nat) : Int)) rfl (congrArg (Value.int .i64) (by omega)) ?_
   refine mO ?_
   refine OW_q (q_sub rfl rfl (by omega) (by omega)) rfl ?_
   refine OW_spell 39 (.int .i64 ((l.length + 1 - i : Nat) : Int)) rfl (congrArg (Value.int .i64) (by omega)) ?_
   refine OW_e (e_appendZ (size := 1) (b := b) (len := i) (cap := cap) (m := l.length + 1 - i) (xs := A) (rest := B ++ rest) Try.underlying97 Try.underlying3 Try.typeInfo80 rfl rfl rfl rfl rfl rfl rfl swt hA (by omega) (by omega) (by decide)) rfl (fun y40 => ?_)
   refine OW_pure fun hy => ?_
   obtain ⟨hy1, hy2, hy3⟩ := hy
   rw [List.length_append] at hy1
   refine OW_spell 40 (.slice (some ⟨y40.1, 0, none⟩) (l.length + 1) y40.2.1) rfl (by rw [show i + (l.length + 1 - i) = l.length + 1 by omega]) ?_
   refine aO ?_
   refine nx4 ?_
   refine mO ?_
   refine mO ?_
   refine OW_q (q_slice Try.underlying97 Try.sizeOf80 rfl (.inr ⟨_, rfl, rfl⟩) (.inl ⟨rfl, rfl⟩) (by omega) (by omega) (by omega)) rfl ?_
   refine mO ?_
   refine OW_e (e_copy (size := 1) (b := y40.1) (o := i * 1) (Pre := A) (Q0 := y40.2.2) (vs := (encP y)) Try.underlying97 Try.typeInfo80 rfl rfl rfl rfl (fun _ => sl_at (by omega)) (by rw [hV]; omega) ((fun w hw j u hj => ⟨_, rfl, by rw [Addr.add_lit, hw.cell (t := 80) (cs := encP y) (A' := cel bs 80 (encP y)) swt, Nat.zero_add]; exact hj⟩)) (by omega) (by omega) h1v swt) rfl (fun _ => ?_)
   refine nx2 ?_
   refine CW_seq ?_
   refine CW_weak (S' := Sat R w0 [cel y40.1 80 ((A ++ (encP y)) ++ y40.2.2.drop (encP y).length), cel b 80 (A ++ (B ++ rest)), cel bs 80 (encP y), F]) (fun w hw => by rw [List.append_assoc]; exact hw) ?_
   refine CW_drawS 8 [(0, false), (1, false), (2, false), (3, false), (4, false), (5, false), (6, false), (7, false), (8, true)] (by kernel_rfl) (Blind.then (Blind.then Blind.bodyP)) (by kernel_rfl) (fun w hw => hw.drew) ?_
   refine mD ?_
   refine mD ?_
   refine mD ?_
   refine DW_q rfl sft (q_inc rfl rfl (by omega)) rfl ?_
   refine DW_q rfl sft (q_slice Try.underlying97 Try.sizeOf80 rfl (.inr ⟨_, rfl, rfl⟩) (.inl ⟨rfl, rfl⟩) (by omega) (by omega) (by omega)) rfl ?_
   refine mD ?_
   refine mD ?_
   refine DW_q rfl sft (q_slice Try.underlying97 Try.sizeOf80 rfl (.inr ⟨_, rfl, rfl⟩) (.inl ⟨rfl, rfl⟩) (by omega) (by omega) (by omega)) rfl ?_
   refine DW_z rfl (e_copy (size := 1) (b := y40.1) (o := (i + 1) * 1) (Pre := A ++ (encP y)) (Q0 := y40.2.2.drop (encP y).length) (vs := B) Try.underlying97 Try.typeInfo80 rfl rfl rfl rfl (fun _ => sl_at (by omega)) (by rw [hB]; congr 1; omega) (fun w hw k u hk => ⟨_, sl_at (by omega), by rw [Addr.add_lit, hw.cell (t := 80) (cs := A ++ (B ++ rest)) (A' := cel b 80 (A ++ (B ++ rest))) swt]; exact cells_at (A := A) (M := []) (Q := rest) (by simp only [List.length_nil]; omega) hk⟩) (by simp only [List.length_append, List.length_drop, List.length_take, List.length_nil]; omega) (by simp only [List.length_append, List.length_drop, List.length_take, List.length_nil]; omega) h1B swt) rfl (fun _ => ?_)
   refine EW_then ?_
   refine nx3 ?_
   refine mO ?_
   refine aO ?_
   refine nx2 ?_
   refine CW_ret ?_
   refine EW_then_ret ?_
   refine ret1 Try.results74 rfl (fun w hw => ?_)
   refine ⟨_, rfl, ?_⟩
   unfold trow
   rw [hnl, hnew]
   rw [List.append_assoc] at hw
   exact Sat.sub (Sat.closeRow (size := 1) (cap := y40.2.1) (n := l.length + 1) (xs := A ++ ((encP y) ++ B)) (rest := ((y40.2.2).drop (encP y).length).drop B.length) (by rw [List.append_assoc, List.append_assoc]; exact hw) (by simp only [List.length_append, List.length_drop]; omega) (by omega) (by omega) (by simp only [List.length_append]; omega)) sbt
 have htc : l.length + 1 ≤ cap := by have := of_decide_eq_false h31; omega
 refine CW_skip ?_
 refine EW_then ?_
 refine nx3 ?_
 refine mO ?_
 refine mO ?_
 refine mO ?_
 refine OW_q (q_add rfl rfl (by omega) (by omega)) rfl ?_
 refine OW_spell 59 (.int .i64 ((l.length + 1 : Nat) : Int)) rfl (congrArg (Value.int .i64) (by omega)) ?_
 refine OW_q (q_slice (l := 0) (h := l.length + 1) Try.underlying97 Try.sizeOf80 rfl (.inl ⟨rfl, rfl⟩) (.inr ⟨_, rfl, rfl⟩) (Nat.zero_le _) (by omega) (by omega)) rfl ?_
 refine OW_spell 60 (.slice (some ⟨b, 0, none⟩) (l.length + 1) cap) rfl sl_zero ?_
 refine aO ?_
 refine nx2 ?_
 refine CW_seq ?_
 refine nx3 ?_
 refine mO ?_
 refine mO ?_
 refine mO ?_
 refine mO ?_
 refine OW_q (q_inc rfl rfl (by omega)) rfl ?_
 refine OW_q (q_slice Try.underlying97 Try.sizeOf80 rfl (.inr ⟨_, rfl, rfl⟩) (.inl ⟨rfl, rfl⟩) (by omega) (by omega) (by omega)) rfl ?_
 refine OW_e (e_overlaps (tS := 97) (tR := 4) Try.func75 (by kernel_rfl) (by kernel_rfl) (by kernel_rfl) (by kernel_rfl) rfl rfl (fun w hw => by
   obtain ⟨a2, ha2, hne, T2, k2, hs2, hk2⟩ := hw.vapart (VIn.cel (off := 0)) 0 (.pointer (some ⟨y, 0, none⟩)) rfl
   injection ha2 with ha2
   subst ha2
   have hb := (hw.block (A' := emp0H) .head (fun x hx => by rw [hx]; exact one_same _ _)).1
   rw [sl_at (by omega)]
   exact Lib.run_overlaps_apart w 97 4 80 Try.underlying97 1 Try.sizeOf80 _ _ _ _ _ _ hne.symm T2 80 k2 (A ++ (B ++ rest)).toArray.size hs2 (by simp only [World.shape?, hb]) (by rw [List.size_toArray]; simp only [List.length_append]; omega) (hw.unfrozen (A' := emp0H) (.tail .head) _) (hw.unfrozen (A' := emp0H) (.tail .head) _))) rfl (fun _ => ?_)
 refine OW_q (q_not rfl) rfl ?_
 refine nx2 ?_
 refine CW_true rfl (rfl) ?_
 refine CW_seq ?_
 refine CW_weak (S' := Sat R w0 [cel b 80 ((A ++ (B ++ rest).take 1) ++ (B ++ rest).drop 1), cel bs 80 (encP y), F]) (fun w hw => by rw [List.append_assoc, List.take_append_drop]; exact hw) ?_
 refine CW_drawS 8 [(0, false), (1, false), (2, false), (3, false), (4, false), (5, false), (6, false), (7, false), (8, true)] (by kernel_rfl) (Blind.then (Blind.then Blind.bodyP)) (by kernel_rfl) (fun w hw => hw.drew) ?_
 refine mD ?_
 refine mD ?_
 refine mD ?_
 refine DW_q rfl sft (q_inc rfl rfl (by omega)) rfl ?_
 refine DW_q rfl sft (q_slice Try.underlying97 Try.sizeOf80 rfl (.inr ⟨_, rfl, rfl⟩) (.inl ⟨rfl, rfl⟩) (by omega) (by omega) (by omega)) rfl ?_
 refine mD ?_
 refine mD ?_
 refine DW_q rfl sft (q_slice Try.underlying97 Try.sizeOf80 rfl (.inr ⟨_, rfl, rfl⟩) (.inl ⟨rfl, rfl⟩) (by omega) (by omega) (by omega)) rfl ?_
 refine DW_z rfl (e_copy (size := 1) (b := b) (o := (i + 1) * 1) (Pre := A ++ (B ++ rest).take 1) (Q0 := (B ++ rest).drop 1) (vs := B) Try.underlying97 Try.typeInfo80 rfl rfl rfl rfl (fun _ => sl_at (by omega)) (by rw [hB]; congr 1; omega) (fun w hw k u hk => ⟨_, sl_at (by omega), by rw [Addr.add_lit, hw.cell (t := 80) (cs := (A ++ (B ++ rest).take 1) ++ (B ++ rest).drop 1) (A' := cel b 80 ((A ++ (B ++ rest).take 1) ++ (B ++ rest).drop 1)) swt]; rw [List.append_assoc, List.take_append_drop]; exact cells_at (A := A) (M := []) (Q := rest) (by simp only [List.length_nil]; omega) hk⟩) (by simp only [List.length_append, List.length_drop, List.length_take, List.length_nil]; omega) (by simp only [List.length_append, List.length_drop, List.length_take, List.length_nil]; omega) h1B swt) rfl (fun _ => ?_)
 refine EW_then ?_
 refine CW_seq ?_
 refine CW_weak (S' := Sat R w0 [cel b 80 (A ++ ((B ++ rest).take 1 ++ (B ++ ((B ++ rest).drop 1).drop B.length))), cel bs 80 (encP y), F]) (fun w hw => by rw [← List.append_assoc]; exact hw) ?_
 refine CW_region ?_
 refine mO ?_
 refine mO ?_
 refine OW_q (q_slice Try.underlying97 Try.sizeOf80 rfl (.inr ⟨_, rfl, rfl⟩) (.inl ⟨rfl, rfl⟩) (by omega) (by omega) (by omega)) rfl ?_
 refine mO ?_
 refine OW_e (e_copy (size := 1) (b := b) (o := i * 1) (Pre := A) (Q0 := (B ++ rest).take 1 ++ (B ++ ((B ++ rest).drop 1).drop B.length)) (vs := (encP y)) Try.underlying97 Try.typeInfo80 rfl rfl rfl rfl (fun _ => sl_at (by omega)) (by rw [hV]; omega) ((fun w hw j u hj => ⟨_, rfl, by rw [Addr.add_lit, hw.cell (t := 80) (cs := encP y) (A' := cel bs 80 (encP y)) swt, Nat.zero_add]; exact hj⟩)) (by omega) (by simp only [List.length_append, List.length_drop, List.length_take, List.length_nil]; omega) h1v swt) rfl (fun _ => ?_)
 refine nx4 ?_
 refine mO ?_
 refine aO ?_
 refine nx2 ?_
 refine CW_ret ?_
 refine EW_then_ret ?_
 refine ret1 Try.results74 rfl (fun w hw => ?_)
 have hX : ((B ++ rest).take 1).length = 1 := by rw [List.length_take, List.length_append]; omega
 rw [hV, List.drop_append_of_le_length (Nat.le_of_eq hX.symm), List.drop_eq_nil_of_le (Nat.le_of_eq hX), List.nil_append] at hw
 refine ⟨_, rfl, ?_⟩
 unfold trow
 rw [hnl, hnew]
 exact Sat.sub (Sat.closeRow (size := 1) (cap := cap) (n := l.length + 1) (xs := A ++ ((encP y) ++ B)) (rest := ((B ++ rest).drop 1).drop B.length) (by rw [List.append_assoc, List.append_assoc]; exact hw) (by simp only [List.length_append, List.length_drop]; omega) (by omega) (by omega) (by simp only [List.length_append]; omega)) sbt

theorem insP_any (v : Value) (l : List Nat) (y i vc bs : Nat) (R : Nat → Prop) (w0 w : World) (F : HP) (hi : i ≤ l.length) (hlm : l.length ≤ 900) (hw : Sat R w0 ([trow 80 1 encP v l, cel bs 80 (encP y)] ++ [F]) w) : Calls Try.prog 74 #[v, .int .i64 (i : Int), .slice (some ⟨bs, 0, none⟩) 1 vc] w (fun e w' => ∃ v' : Value, e = .returned v' ∧ Sat R w0 ([trow 80 1 encP v' (l.take i ++ [y] ++ l.drop i), cel bs 80 (encP y)] ++ [F]) w') := by
 by_cases h : i = l.length
 · exact insE_any v l y i vc bs R w0 w F h hlm hw
 · exact insM_any v l y i vc bs R w0 w F (by omega) hlm hw

end Go.Sy
/- slices.Replace by one tree; a tree carried over where a part is taken out. No condition. -/
namespace Go.Sy
open Go Go.RowKit Go.Proofs

theorem flat_ptrs : ∀ l : List Nat, l.flatMap encP = l.map fun b => Value.pointer (some ⟨b, 0, none⟩)
 | [] => rfl
 | x :: l => by rw [List.flatMap_cons, flat_ptrs l]; rfl
abbrev PtrsAt (ρ : Addr → Value → Prop) (v : Value) (l : List Nat) : Prop := SlAt ρ 1 v (fun p b => ρ p (.pointer (some ⟨b, 0, none⟩))) l
theorem PtrsAt.mono {ρ ρ' : Addr → Value → Prop} {v : Value} {l : List Nat} (h : PtrsAt ρ v l) (f : ∀ a v, ρ a v → ρ' a v) : PtrsAt ρ' v l := by
 obtain ⟨a, c, e1, e2, e3, e4⟩ := h
 exact ⟨a, c, e1, e2, e3, fun k y hy => by obtain ⟨p, g1, g2⟩ := e4 k y hy; exact ⟨p, g1, f _ _ g2⟩⟩
theorem VIn.ptrs {R : Nat → Prop} {w0 : World} {F : HP} {a : Option Addr} {c : Nat} {l : List Nat} (h : PtrsAt (Rd R w0) (.slice a l.length c) l) : VIn R w0 F a (l.flatMap encP) := fun _ _ w hR _ j u hj => by
 obtain ⟨a', c', hv, _, _, hk⟩ := h
 injection hv with e1 _ _
 subst e1
 rw [flat_ptrs, List.getElem?_map] at hj
 cases hb : l[j]? with
 | none => rw [hb] at hj; cases hj
 | some b =>
   rw [hb] at hj
   injection hj with hj
   subst hj
   obtain ⟨p, e2, hr⟩ := hk j b hb
   have h2 : (p.add (j * 1)).block = p.block := by unfold Addr.add; split <;> rfl
   refine ⟨p, e2, .inl (by rw [← h2]; exact hr.1), ?_⟩
   have h3 : w.cell? (p.add (j * 1)) = some (.pointer (some ⟨b, 0, none⟩)) := (World.cell?_of_block (hR _ hr.1)).trans hr.2
   rwa [Nat.mul_one] at h3
theorem cloneP_any (v : Value) (l : List Nat) (w : World) (hl : l.length ≤ 1000) (hs : PtrsAt (Cl w) v l) : Calls Try.prog 61 #[v] w (fun e w' => ∃ v' : Value, e = .returned v' ∧ Sat (Old w) w [trow 80 1 encP v' l] w') := by
 have hs' := hs.mono old_rd
 obtain ⟨a, c, rfl, _, _, _⟩ := id hs'
 refine (cloneN_any a (l.flatMap encP) l.length c (Old w) w w emp0H hl (flat_length (enc := encP) (size := 1) (fun _ => rfl) l) (VIn.ptrs hs') (encP_one l) ((Sat.start w).addEmp rfl)).mono ?_
 rintro e w' ⟨v', h1, h2⟩
 exact ⟨v', h1, h2.sub (SubL.cons .head .nil)⟩
theorem Sat.tptrs {R : Nat → Prop} {w0 w : World} {L L' : List HP} {v : Value} {l : List Nat} (h : Sat R w0 L w) (s : Swap L (trow 80 1 encP v l) (trow 80 1 encP v l) L') : PtrsAt (Cl w) v l := by
 obtain ⟨a, c, rfl, h1, h2, h3⟩ := h.tform s
 refine ⟨a, c, rfl, h1, h2, fun k x hx => ?_⟩
 obtain ⟨b, rfl⟩ := h3 (by have := (List.getElem?_eq_some_iff.1 hx).1; omega)
 refine ⟨_, rfl, ?_⟩
 have := h.tget (enc := encP) (fun _ => rfl) s rfl hx 0 _ rfl
 rwa [Addr.add_zero'] at this
set_option maxRecDepth 20000 in
theorem repE_any (v : Value) (l : List Nat) (y i vc bs : Nat) (R : Nat → Prop) (w0 w : World) (F : HP) (hi : i ≤ l.length) (hlm : l.length ≤ 900) (hw : Sat R w0 ([trow 80 1 encP v l, cel bs 80 (encP y)] ++ [F]) w) : Calls Try.prog 62 #[v, .int .i64 (i : Int), .int .i64 (i : Int), .slice (some ⟨bs, 0, none⟩) 1 vc] w (fun e w' => ∃ v' : Value, e = .returned v' ∧ Sat R w0 ([trow 80 1 encP v' (l.take i ++ [y] ++ l.drop i), cel bs 80 (encP y)] ++ [F]) w') := by
 obtain ⟨a, c, rfl, hlc, hcm, _⟩ := hw.tform (v := v) (l := l) (enc := encP) swt
 refine calls_CW (S := Sat R w0 [trow 80 1 encP (.slice a l.length c) l, cel bs 80 (encP y), F]) Try.func62 rfl Try.ntmps62 rfl (hw) ?_
 refine nx3 ?_
 refine aO ?_
 refine nx4 ?_
 refine mO ?_
 refine mO ?_
 refine mO ?_
 refine OW_q (q_slice Try.underlying97 Try.sizeOf80 rfl (.inr ⟨_, rfl, rfl⟩) (.inr ⟨_, rfl, rfl⟩) (by omega) (by omega) (by omega)) rfl ?_
 refine nx2 ?_
 refine CW_seq ?_
 refine nx3 ?_
 refine mO ?_
 refine mO ?_
 refine OW_q (q_eqi rfl rfl) rfl ?_
 refine nx2 ?_
 refine CW_true rfl (by simp) ?_
 refine nx3 ?_
 refine mO ?_
 refine mO ?_
 refine mO ?_
 refine OW_e (e_call Try.call74 rfl (fun w hw => insP_any (.slice a l.length c) l y i vc bs R w0 w F hi hlm hw)) rfl (fun x25 => ?_)
 refine aO ?_
 refine nx2 ?_
 refine CW_ret ?_
 refine EW_then_ret ?_
 refine ret1 Try.results62 rfl (fun w hw => ?_)
 exact ⟨_, rfl, hw⟩

theorem rep1_any (v : Value) (l : List Nat) (y i j vc bs : Nat) (R : Nat → Prop) (w0 w : World) (F : HP) (hij : i ≤ j) (hj : j ≤ l.length) (hlm : l.length ≤ 900) (hw : Sat R w0 ([trow 80 1 encP v l, cel bs 80 (encP y)] ++ [F]) w) : Calls Try.prog 62 #[v, .int .i64 (i : Int), .int .i64 (j : Int), .slice (some ⟨bs, 0, none⟩) 1 vc] w (fun e w' => ∃ v' : Value, e = .returned v' ∧ Sat R w0 ([trow 80 1 encP v' (l.take i ++ [y] ++ l.drop j), cel bs 80 (encP y)] ++ [F]) w') := by
 by_cases h : i = j
 · subst h
   exact repE_any v l y i vc bs R w0 w F hj hlm hw
 · exact (lift_two (VA := cel bs 80 (encP y)) (A := trow 80 1 encP v l) (L1 := [trow 80 1 encP v l, F]) Hole.head (hw.sub sbt) (fun F2 hF => replP_any v l [y] i j vc (some ⟨bs, 0, none⟩) R w0 w _ (by omega) hj (by simp only [List.length_singleton]; omega) (VIn.star VIn.cel) hF)).mono (fun e w' ⟨x, he, h⟩ => ⟨x, he, h.sub sbt⟩)

set_option maxRecDepth 20000 in
theorem fwd2_any (g : Gram) (s : SStep) (ls : List Nat) (hm : mayB g = true) (hs : mayS g s = true) (hop : s.op = 2) : ∀ (N : Nat) (x : Int) (ks : For) (b cb : Nat) (w : World), (For.cons x ks .nil).size ≤ N → N ≤ 5000 → CarAt (Cl w) cb g s ls → KidsAt (Cl w) (.cons x ks .nil) [b] → Wf g (.cons x ks .nil) → Calls Try.prog 43 #[.pointer (some ⟨cb, 0, none⟩), .pointer (some ⟨b, 0, none⟩)] w (fun e w' => ∃ b' : Nat, e = .returned (.pointer (some ⟨b', 0, none⟩)) ∧ Sat (Old w) w [kidsA ((ext2 s.a (g.rules.length : Int) (nms ((ruleAt g s.a).right.take s.b.toNat)) (nms (partR (ruleAt g s.a) s.b.toNat s.c.toNat))) (.cons x ks .nil)) [b']] w') := by
 intro N
 refine Nat.strongRecOn N ?_
 clear N
 intro N ih x ks b cb w hsz hN hc0 hk0 hwf
 obtain ⟨rv, lv, hcar, hrr, hll⟩ := (hc0.mono old_rd).ex
 obtain ⟨ar, cr, rfl, hr1, hr2, hrs⟩ := hrr
 obtain ⟨al, cl, rfl, hl1, hl2, hls1⟩ := hll
 rw [show (natV ls).length = ls.length by rw [List.length_map]] at hcar hl1
 obtain ⟨ak, kb, ck, hrow, hk1, hk2, hkb, hks⟩ := kids_top (hk0.mono old_rd)
 obtain ⟨⟨q, yq, hx0, hq, hdq⟩, _⟩ := id hwf
 have hwks := der_wf hdq
 obtain ⟨pq, hpq, rvq, hsy, hrowq⟩ := hrs x.toNat q hq
 subst hpq
 obtain ⟨ya, yc, rfl, hy1, hy2, hys⟩ := id hsy
 have hxl := (List.getElem?_eq_some_iff.1 hq).1
 have hq8 := (may_rule hm hq).2.2
 obtain ⟨ha0, hb0, hbc, qa, hqa, hra, hcl⟩ := may_ext hs hop
 have hM := mayB_true.1 hm
 have hcn : s.c.toNat ≤ qa.right.length := by omega
 
 refine calls_CW Try.func43 rfl Try.ntmps43 rfl (Sat.start w) ?_
 refine nx3 ?_
 refine aO ?_
 refine nx2 ?_
 refine CW_seq ?_
 refine CW_draw (Sat (Old w) w []) 12 [(0, false), (1, false), (2, false), (3, false), (4, false), (5, false), (6, false), (7, false), (8, false), (9, false), (10, false), (11, true), (12, true)] (by kernel_rfl) (Blind.then (Blind.body (by intro c w h; simp at h))) (by kernel_rfl) (fun w hw => hw.drew) ?_
 refine mD ?_
 refine DW_q rfl sft (q_nilCheck rfl) rfl ?_
 refine DW_q rfl sft (q_fieldAddr Try.underlying96 rfl rfl Try.sizeOf24 rfl rfl) rfl ?_
 refine DW_q rfl sft (q_fieldAddr Try.underlying24 rfl rfl Try.sizeOf22 rfl rfl) rfl ?_
 refine DW_q rfl sft (q_load1_ro Try.isAgg22 rfl (by exact hcar.at_ (j := 2) rfl)) rfl ?_
 refine mD ?_
 refine DW_q rfl sft (q_nilCheck rfl) rfl ?_
 refine DW_q rfl sft (q_fieldAddr Try.underlying99 rfl rfl Try.sizeOf3 rfl rfl) rfl ?_
 refine DW_q rfl sft (q_load1_ro Try.isAgg3 rfl (by exact hrow.at_ (j := 0) rfl)) rfl ?_
 refine DW_spell 21 (.int .i64 ((x.toNat : Nat) : Int)) rfl (congrArg (Value.int .i64) (by omega)) ?_
 refine DW_q rfl sft (q_indexAddr Try.underlying22 Try.sizeOf49 rfl rfl hxl) rfl ?_
 refine DW_q rfl sft (q_loadN_ro Try.isAgg49 Try.sizeOf49 rfl (by exact hrowq) (by rfl)) rfl ?_
 refine DW_e rfl (e_alloc Try.zeroValue49 rfl) rfl (fun _ w hw => by first | exact hw.sub sbt | exact hw.2.sub sbt) (fun b5 => ?_)
 refine DW_z0 rfl (e_storeN Try.sizeOf49 rfl rfl rfl rfl (by simp [Value.oneCell']) swt (by rfl)) (fun _ => ?_)
 refine EW_then ?_
 refine CW_seq ?_
 refine CW_seq ?_
 refine CW_draw (Sat (Old w) w [cel b5 49 [.int .i64 q.left, .slice ya q.right.length yc]]) 16 [(0, false), (1, false), (2, false), (3, false), (4, false), (5, false), (6, false), (7, false), (8, false), (9, false), (10, false), (11, false), (12, false), (13, false), (14, false), (15, false)] (by kernel_rfl) (Blind.then (Blind.then (Blind.body (by intro c w h; simp at h)))) (by kernel_rfl) (fun w hw => hw.drew) ?_
 refine mD ?_
 refine DW_q rfl sft (q_nilCheck rfl) rfl ?_
 refine DW_q rfl sft (q_fieldAddr Try.underlying96 rfl rfl Try.sizeOf26 rfl rfl) rfl ?_
 refine DW_q rfl sft (q_fieldAddr Try.underlying26 rfl rfl Try.sizeOf3 rfl rfl) rfl ?_
 refine DW_q rfl sft (q_load1_ro Try.isAgg3 rfl (by exact hcar.at_ (j := 3) rfl)) rfl ?_
 refine DW_q rfl sft (q_eqi rfl rfl) rfl ?_
 refine mD ?_
 refine DW_part (t := 30) rfl (fun hg30 => ?_) (fun hg30 => ?_)
 · skip
   exact absurd hg30 (by simp [hop]) --stop
 refine kD ?_
 refine kD ?_
 refine kD ?_
 refine kD ?_
 refine kD ?_
 refine kD ?_
 refine kD ?_
 refine kD ?_
 refine DW_q rfl sft (q_pick_f rfl rfl) rfl ?_
 refine DW_nil ?_
 refine EW_then ?_
 refine CW_false rfl rfl ?_
 refine CW_skip ?_
 refine EW_then ?_
 refine nx3 ?_
 refine mO ?_
 refine OW_q (q_nilCheck rfl) rfl ?_
 refine OW_q (q_fieldAddr Try.underlying99 rfl rfl Try.sizeOf3 rfl rfl) rfl ?_
 refine OW_q (q_load1_ro Try.isAgg3 rfl (by exact hrow.at_ (j := 0) rfl)) rfl ?_
 refine OW_q (q_build (ps := #[(0, .int .i64 x)]) (v := .agg #[.int .i64 x, .slice none 0 0]) rfl (fun w => by kernel_rfl)) rfl ?_
 refine OW_e (e_box rfl rfl) rfl (fun b48 => ?_)
 refine aO ?_
 refine nx2 ?_
 refine CW_seq ?_
 refine nx3 ?_
 refine mO ?_
 refine OW_q (q_nilCheck rfl) rfl ?_
 refine OW_q (q_fieldAddr Try.underlying99 rfl rfl Try.sizeOf97 rfl rfl) rfl ?_
 refine OW_q (q_load1_ro Try.isAgg97 rfl (by exact hrow.at_ (j := 1) rfl)) rfl ?_
 refine OW_q (q_len Try.underlying97 rfl) rfl ?_
 refine mO ?_
 refine nx2 ?_
 refine CW_block ?_
 refine CW_weak (S' := Sat (Old w) w [cel b48 99 [vi x, .slice none 0 0], trow 80 1 encP (.slice none 0 0) [], kidsA ((ext2 s.a (g.rules.length : Int) (nms ((ruleAt g s.a).right.take s.b.toNat)) (nms (partR (ruleAt g s.a) s.b.toNat s.c.toNat))) .nil) [], cel b5 49 [.int .i64 q.left, .slice ya q.right.length yc]]) (fun w hw => by
   have h1 := (hw.tnil 80 1 encP).addEmp (A := kidsA ((ext2 s.a (g.rules.length : Int) (nms ((ruleAt g s.a).right.take s.b.toNat)) (nms (partR (ruleAt g s.a) s.b.toNat s.c.toNat))) .nil) []) ⟨rfl, rfl⟩
   exact h1.sub sbt) ?_
 refine CW_loopP (ι := Nat × For × For × List Nat × List Nat × Value × List Nat) (fun i_ => i_.1 ≤ kb.length ∧ ks = i_.2.1.app i_.2.2.1 ∧ kb = i_.2.2.2.1 ++ i_.2.2.2.2.1 ∧ i_.2.2.2.1.length = i_.1 ∧ KidsAt (Rd (Old w) w) i_.2.2.1 i_.2.2.2.2.1 ∧ Wf g i_.2.2.1 ∧ i_.2.2.2.2.2.2.length = i_.1) (fun i_ => [(0, .pointer (some ⟨cb, 0, none⟩)), (1, .pointer (some ⟨b, 0, none⟩)), (5, .pointer (some ⟨b5, 0, none⟩)), (6, .pointer (some ⟨b48, 0, none⟩)), (52, .slice ak kb.length ck), (53, .int .i64 (kb.length : Int)), (54, .int .i64 (i_.1 : Int))]) (fun i_ => Sat (Old w) w [cel b48 99 [vi x, i_.2.2.2.2.2.1], trow 80 1 encP i_.2.2.2.2.2.1 i_.2.2.2.2.2.2, kidsA ((ext2 s.a (g.rules.length : Int) (nms ((ruleAt g s.a).right.take s.b.toNat)) (nms (partR (ruleAt g s.a) s.b.toNat s.c.toNat))) i_.2.1) i_.2.2.2.2.2.2, cel b5 49 [.int .i64 q.left, .slice ya q.right.length yc]]) (fun i_ => kb.length - i_.1) (0, .nil, ks, [], kb, .slice none 0 0, []) ?_ ⟨rfl, rfl, rfl, rfl, rfl, rfl, rfl, trivial⟩ sft ?_
 · exact ⟨Nat.zero_le _, rfl, rfl, rfl, hks, hwks, rfl⟩
 intro i_ hpre
 obtain ⟨k, fd, fr, bd, br, v, nb⟩ := i_
 replace hpre : k ≤ kb.length ∧ ks = fd.app fr ∧ kb = bd ++ br ∧ bd.length = k ∧ KidsAt (Rd (Old w) w) fr br ∧ Wf g fr ∧ nb.length = k := hpre
 change CW _ _ _ _ [(0, .pointer (some ⟨cb, 0, none⟩)), (1, .pointer (some ⟨b, 0, none⟩)), (5, .pointer (some ⟨b5, 0, none⟩)), (6, .pointer (some ⟨b48, 0, none⟩)), (52, .slice ak kb.length ck), (53, .int .i64 (kb.length : Int)), (54, .int .i64 (k : Int))] (Sat (Old w) w [cel b48 99 [vi x, v], trow 80 1 encP v nb, kidsA ((ext2 s.a (g.rules.length : Int) (nms ((ruleAt g s.a).right.take s.b.toNat)) (nms (partR (ruleAt g s.a) s.b.toNat s.c.toNat))) fd) nb, cel b5 49 [.int .i64 q.left, .slice ya q.right.length yc]])
 obtain ⟨hk, hfd, hbd, hbl, hkr, hwfr, hnb⟩ := hpre
 refine nx3 ?_
 refine OW_q (q_lss rfl rfl) rfl ?_
 refine nx2 ?_
 refine CW_seq ?_
 refine CW_cond rfl (fun h55 => ?_) (fun h55 => ?_)
 · skip
   have hlt : k < kb.length := by have := of_decide_eq_true h55; omega
   obtain ⟨b1, br2, rfl⟩ : ∃ b1 br2, br = b1 :: br2 := by
     cases br with
     | nil => rw [List.append_nil] at hbd; rw [hbd] at hlt; omega
     | cons b1 br2 => exact ⟨b1, br2, rfl⟩
   have hbk : kb[k]? = some b1 := by rw [hbd, List.getElem?_append_right (by omega), hbl, Nat.sub_self]; rfl
   obtain ⟨p1, hp1, hb1⟩ := hkb k b1 hbk
   subst hp1
   obtain ⟨xk, kk, fr2, rfl, hkk, hk2'⟩ := kids_cons hkr
   have hkl := KidsAt.len hks
   have hks5 := kid_size (x := x) hfd
   have hls5 := len_size ks
   refine CW_skip ?_
   refine EW_then ?_
   refine CW_seq ?_
   refine CW_block ?_
   refine nx3 ?_
   refine OW_q (q_indexAddr Try.underlying97 Try.sizeOf80 rfl rfl (by omega)) rfl ?_
   refine OW_q (q_load1_ro Try.isAgg80 rfl (by exact hb1)) rfl ?_
   refine aO ?_
   refine nx2 ?_
   refine CW_draw (Sat (Old w) w [cel b48 99 [vi x, v]]) 12 [(0, false), (1, false), (2, false), (3, false), (4, false), (5, false), (6, false), (7, true), (8, true), (9, true), (10, false), (11, false), (12, true)] (by kernel_rfl) (Blind.block (Blind.then (Blind.again (Blind.block (Blind.then (Blind.body (by intro c w h; simp at h))))))) (by kernel_rfl) (fun w hw => hw.drew) ?_
   refine mD ?_
   refine mD ?_
   refine DW_q rfl sft (q_nilCheck rfl) rfl ?_
   refine DW_q rfl sft (q_fieldAddr Try.underlying99 rfl rfl Try.sizeOf97 rfl rfl) rfl ?_
   refine DW_q rfl sft (q_load1_own Try.isAgg97 rfl rfl swt (by rfl)) rfl ?_
   refine mD ?_
   refine mD ?_
   refine DW_e rfl (e_call Try.call43 rfl (fun w hw => lift_old (ih (For.cons xk kk .nil).size (by have := kid_size (x := x) hfd; omega) xk kk b1 cb w (Nat.le_refl _) (by have := kid_size (x := x) hfd; omega) (hc0.mono fun _ _ h => hw.rd (Rd.old h)) (hkk.mono hw.rd_cl) ⟨hwfr.1, trivial⟩) hw)) rfl (fun _ w hw => by first | exact hw.sub sbt | exact hw.2.sub sbt) (fun x65 => ?_)
   refine DW_e rfl (e_single Try.underlying97 Try.sizeOf80 Try.zeroValue80 (e := 80) (v := .pointer (some ⟨x65, 0, none⟩)) (cs := encP x65) rfl rfl rfl rfl (by decide) (by decide)) rfl (fun _ => sft) (fun b66 => ?_)
   refine DW_e rfl (e_append_t (x0 := x65) (enc := encP) (v := v) (l := nb) Try.underlying97 Try.typeInfo80 rfl rfl rfl rfl rfl rfl rfl pkt rfl (by exact fun w hw => hw.news swt) (by simp [Value.oneCell']) (by omega) (by decide)) rfl (fun _ => sft) (fun v67 => ?_)
   refine DW_fact (fun w hw => hw.tform (v := v67) (l := (nb ++ [x65])) (enc := encP) swt) (fun hf => ?_)
   obtain ⟨a67, c67, rfl, _, _, hb67⟩ := hf
   refine DW_q rfl sft (q_nilCheck rfl) rfl ?_
   refine DW_q rfl sft (q_fieldAddr Try.underlying99 rfl rfl Try.sizeOf97 rfl rfl) rfl ?_
   refine DW_z0 rfl (e_store Try.sizeOf97 rfl rfl rfl rfl swt (by rfl)) (fun _ => ?_)
   refine EW_block_normal ?_
   refine EW_then ?_
   refine CW_region ?_
   refine OW_q (q_add rfl rfl (by omega) (by omega)) rfl ?_
   refine mO ?_
   refine OW_nil ?_
   refine EW_weak (S' := Sat (Old _) _ [cel b48 99 [vi x, .slice a67 (nb ++ [x65]).length c67], trow 80 1 encP (.slice a67 (nb ++ [x65]).length c67) (nb ++ [x65]), kidsA ((ext2 s.a (g.rules.length : Int) (nms ((ruleAt g s.a).right.take s.b.toNat)) (nms (partR (ruleAt g s.a) s.b.toNat s.c.toNat))) (fd.app (.cons xk kk .nil))) (nb ++ [x65]), cel b5 49 [.int .i64 q.left, .slice ya q.right.length yc]]) (fun w hw => by
     have h1 : Sat _ _ (kidsA ((ext2 s.a (g.rules.length : Int) (nms ((ruleAt g s.a).right.take s.b.toNat)) (nms (partR (ruleAt g s.a) s.b.toNat s.c.toNat))) fd) nb :: kidsA ((ext2 s.a (g.rules.length : Int) (nms ((ruleAt g s.a).right.take s.b.toNat)) (nms (partR (ruleAt g s.a) s.b.toNat s.c.toNat))) (.cons xk kk .nil)) [x65] :: [cel b48 99 [vi x, .slice a67 (nb ++ [x65]).length c67], trow 80 1 encP (.slice a67 (nb ++ [x65]).length c67) (nb ++ [x65]), cel b5 49 [.int .i64 q.left, .slice ya q.right.length yc]]) w := hw.sub sbt
     exact (sat_kids (T := (ext2 s.a (g.rules.length : Int) (nms ((ruleAt g s.a).right.take s.b.toNat)) (nms (partR (ruleAt g s.a) s.b.toNat s.c.toNat)))) (ext2_app) h1).sub sbt) ?_
   refine EW_again ((k + 1, fd.app (.cons xk kk .nil), fr2, bd ++ [b1], br2, .slice a67 (nb ++ [x65]).length c67, nb ++ [x65])) ⟨?_, ?_⟩ ⟨rfl, rfl, rfl, rfl, rfl, rfl, rfl, trivial⟩ sft
   · show kb.length - (k + 1) < kb.length - k; omega
   · refine ⟨by show k + 1 ≤ _; omega, ?_, ?_, ?_, hk2', hwfr.2, ?_⟩
     · show ks = _
       rw [hfd, For.app_one]
     · show kb = _
       rw [hbd]; simp
     · show (bd ++ [b1]).length = _
       rw [List.length_append, hbl]; rfl
     · show (nb ++ [x65]).length = _
       rw [List.length_append, hnb]; rfl
 have hke : k = kb.length := by have := of_decide_eq_false h55; omega
 have hbr : br = [] := by
   have := congrArg List.length hbd
   rw [List.length_append] at this
   exact List.eq_nil_of_length_eq_zero (by omega)
 subst hbr
 have hfr := kids_none hkr
 subst hfr
 rw [For.app_nil] at hfd
 subst hfd
 refine CW_fact (fun w hw => hw.tform (v := v) (l := nb) (enc := encP) swt) (fun hf => ?_)
 obtain ⟨an, cn, rfl, _, _, hbn⟩ := hf
 refine CW_exit ?_
 refine EW_then_exit ?_
 refine EW_out ?_
 refine EW_block_exit ?_
 refine EW_then ?_
 refine CW_seq ?_
 refine nx3 ?_
 refine mO ?_
 refine OW_q (q_nilCheck rfl) rfl ?_
 refine OW_q (q_fieldAddr Try.underlying96 rfl rfl Try.sizeOf26 rfl rfl) rfl ?_
 refine OW_q (q_fieldAddr Try.underlying26 rfl rfl Try.sizeOf3 rfl rfl) rfl ?_
 refine OW_q (q_load1_ro Try.isAgg3 rfl (by exact hcar.at_ (j := 3) rfl)) rfl ?_
 refine nx2 ?_
 refine CW_block ?_
 refine nx3 ?_
 refine OW_q (q_eqi rfl rfl) rfl ?_
 refine aO ?_
 refine nx2 ?_
 refine CW_true rfl (by simp [hop]) ?_
 refine CW_seq ?_
 refine CW_draw (Sat (Old w) w []) 10 [(0, false), (1, false), (2, false), (3, false), (4, false), (5, false), (6, false), (7, false), (8, false), (9, false)] (by kernel_rfl) (Blind.then (Blind.block (Blind.then (Blind.body (by intro c w h; simp at h))))) (by kernel_rfl) (fun w hw => hw.drew) ?_
 refine mD ?_
 refine DW_q rfl sft (q_nilCheck rfl) rfl ?_
 refine DW_q rfl sft (q_fieldAddr Try.underlying99 rfl rfl Try.sizeOf3 rfl rfl) rfl ?_
 refine DW_q rfl sft (q_load1_ro Try.isAgg3 rfl (by exact hrow.at_ (j := 0) rfl)) rfl ?_
 refine mD ?_
 refine DW_q rfl sft (q_nilCheck rfl) rfl ?_
 refine DW_q rfl sft (q_fieldAddr Try.underlying96 rfl rfl Try.sizeOf26 rfl rfl) rfl ?_
 refine DW_q rfl sft (q_fieldAddr Try.underlying26 rfl rfl Try.sizeOf3 rfl rfl) rfl ?_
 refine DW_q rfl sft (q_load1_ro Try.isAgg3 rfl (by exact hcar.at_ (j := 4) rfl)) rfl ?_
 refine DW_q rfl sft (q_eqi rfl rfl) rfl ?_
 refine DW_nil ?_
 refine EW_then ?_
 refine CW_cond rfl (fun h87 => ?_) (fun h87 => ?_)
 · skip
   have hxa : x = s.a := by simpa using h87
   have hqq : q = qa := by rw [hxa, hqa] at hq; exact (Option.some.inj hq).symm
   subst hqq
   have hdq' : Der g (q.right.take s.b.toNat ++ (partR q s.b.toNat s.c.toNat ++ q.right.drop s.c.toNat)) ks yq := by rw [← part_join (q := q) (by omega : s.b.toNat ≤ s.c.toNat)]; exact hdq
   obtain ⟨f1, f2, y1, y2, hks1, hyq, d1, d2⟩ := der_cut hdq'
   obtain ⟨f3, f4, y3, y4, hks2, hyq2, d3, d4⟩ := der_cut d2
   subst hks2
   have hfl1 : f1.len = (nms ((ruleAt g s.a).right.take s.b.toNat)) := by rw [hra]; exact der_len d1
   have hfl3 : f3.len = (nms (partR (ruleAt g s.a) s.b.toNat s.c.toNat)) := by rw [hra]; exact der_len d3
   have hTk : (ext2 s.a (g.rules.length : Int) (nms ((ruleAt g s.a).right.take s.b.toNat)) (nms (partR (ruleAt g s.a) s.b.toNat s.c.toNat))) ks = ((ext2 s.a (g.rules.length : Int) (nms ((ruleAt g s.a).right.take s.b.toNat)) (nms (partR (ruleAt g s.a) s.b.toNat s.c.toNat))) f1).app (((ext2 s.a (g.rules.length : Int) (nms ((ruleAt g s.a).right.take s.b.toNat)) (nms (partR (ruleAt g s.a) s.b.toNat s.c.toNat))) f3).app ((ext2 s.a (g.rules.length : Int) (nms ((ruleAt g s.a).right.take s.b.toNat)) (nms (partR (ruleAt g s.a) s.b.toNat s.c.toNat))) f4)) := by rw [hks1, ext2_app, ext2_app]
   have hTl : ((ext2 s.a (g.rules.length : Int) (nms ((ruleAt g s.a).right.take s.b.toNat)) (nms (partR (ruleAt g s.a) s.b.toNat s.c.toNat))) f1).len = (nms ((ruleAt g s.a).right.take s.b.toNat)) := by rw [ext2_len]; exact hfl1
   have hTl3 : ((ext2 s.a (g.rules.length : Int) (nms ((ruleAt g s.a).right.take s.b.toNat)) (nms (partR (ruleAt g s.a) s.b.toNat s.c.toNat))) f3).len = (nms (partR (ruleAt g s.a) s.b.toNat s.c.toNat)) := by rw [ext2_len]; exact hfl3
   refine CW_ex (S' := fun (z : List Nat × List Nat) w' => (nb = z.1 ++ z.2 ∧ z.1.length = ((ext2 s.a (g.rules.length : Int) (nms ((ruleAt g s.a).right.take s.b.toNat)) (nms (partR (ruleAt g s.a) s.b.toNat s.c.toNat))) f1).len) ∧ Sat (Old w) w (kidsA ((ext2 s.a (g.rules.length : Int) (nms ((ruleAt g s.a).right.take s.b.toNat)) (nms (partR (ruleAt g s.a) s.b.toNat s.c.toNat))) f1) z.1 :: kidsA (((ext2 s.a (g.rules.length : Int) (nms ((ruleAt g s.a).right.take s.b.toNat)) (nms (partR (ruleAt g s.a) s.b.toNat s.c.toNat))) f3).app ((ext2 s.a (g.rules.length : Int) (nms ((ruleAt g s.a).right.take s.b.toNat)) (nms (partR (ruleAt g s.a) s.b.toNat s.c.toNat))) f4)) z.2 :: [cel b48 99 [vi x, .slice an nb.length cn], trow 80 1 encP (.slice an nb.length cn) nb, cel b5 49 [.int .i64 q.left, .slice ya q.right.length yc]]) w') (fun w' hw => by
     have h1 : Sat _ _ (kidsA ((ext2 s.a (g.rules.length : Int) (nms ((ruleAt g s.a).right.take s.b.toNat)) (nms (partR (ruleAt g s.a) s.b.toNat s.c.toNat))) ks) nb :: [cel b48 99 [vi x, .slice an nb.length cn], trow 80 1 encP (.slice an nb.length cn) nb, cel b5 49 [.int .i64 q.left, .slice ya q.right.length yc]]) w' := hw.sub sbt
     rw [hTk] at h1
     exact h1.kidsCut) (fun z => ?_)
   obtain ⟨n1, n2⟩ := z
   refine CW_pure fun hz => ?_
   obtain ⟨hn1, hn2⟩ := hz
   have hn1 : nb = n1 ++ n2 := hn1
   have hn2 : n1.length = ((ext2 s.a (g.rules.length : Int) (nms ((ruleAt g s.a).right.take s.b.toNat)) (nms (partR (ruleAt g s.a) s.b.toNat s.c.toNat))) f1).len := hn2
   refine CW_ex (S' := fun (z : List Nat × List Nat) w' => (n2 = z.1 ++ z.2 ∧ z.1.length = ((ext2 s.a (g.rules.length : Int) (nms ((ruleAt g s.a).right.take s.b.toNat)) (nms (partR (ruleAt g s.a) s.b.toNat s.c.toNat))) f3).len) ∧ Sat (Old w) w (kidsA ((ext2 s.a (g.rules.length : Int) (nms ((ruleAt g s.a).right.take s.b.toNat)) (nms (partR (ruleAt g s.a) s.b.toNat s.c.toNat))) f3) z.1 :: kidsA ((ext2 s.a (g.rules.length : Int) (nms ((ruleAt g s.a).right.take s.b.toNat)) (nms (partR (ruleAt g s.a) s.b.toNat s.c.toNat))) f4) z.2 :: [kidsA ((ext2 s.a (g.rules.length : Int) (nms ((ruleAt g s.a).right.take s.b.toNat)) (nms (partR (ruleAt g s.a) s.b.toNat s.c.toNat))) f1) n1, cel b48 99 [vi x, .slice an nb.length cn], trow 80 1 encP (.slice an nb.length cn) nb, cel b5 49 [.int .i64 q.left, .slice ya q.right.length yc]]) w') (fun w' hw => Sat.kidsCut (hw.sub sbt)) (fun z => ?_)
   obtain ⟨n3, n4⟩ := z
   refine CW_pure fun hz => ?_
   obtain ⟨hn3, hn4⟩ := hz
   have hn3 : n2 = n3 ++ n4 := hn3
   have hn4 : n3.length = ((ext2 s.a (g.rules.length : Int) (nms ((ruleAt g s.a).right.take s.b.toNat)) (nms (partR (ruleAt g s.a) s.b.toNat s.c.toNat))) f3).len := hn4
   subst hn3
   rw [hTl] at hn2
   rw [hTl3] at hn4
   have hks8 : kb.length ≤ 8 := by rw [KidsAt.len hks, der_len hdq]; exact Nat.le_trans (nms_le _) hq8
   have hnl : nb.length = n1.length + (n3.length + n4.length) := by rw [hn1, List.length_append, List.length_append]
   have hmid : (nb.take ((nms ((ruleAt g s.a).right.take s.b.toNat)) + (nms (partR (ruleAt g s.a) s.b.toNat s.c.toNat)))).drop (nms ((ruleAt g s.a).right.take s.b.toNat)) = n3 := by rw [hn1, ← List.append_assoc, ← hn2, ← hn4, ← List.length_append, List.take_left, List.drop_left]
   have hlist : ∀ b9 : Nat, nb.take (nms ((ruleAt g s.a).right.take s.b.toNat)) ++ [b9] ++ nb.drop ((nms ((ruleAt g s.a).right.take s.b.toNat)) + (nms (partR (ruleAt g s.a) s.b.toNat s.c.toNat))) = n1 ++ (b9 :: n4) := fun b9 => by
     have e1 : nb.take (nms ((ruleAt g s.a).right.take s.b.toNat)) = n1 := by rw [hn1, ← hn2, List.take_left]
     have e2 : nb.drop ((nms ((ruleAt g s.a).right.take s.b.toNat)) + (nms (partR (ruleAt g s.a) s.b.toNat s.c.toNat))) = n4 := by rw [hn1, ← List.append_assoc, ← hn2, ← hn4, ← List.length_append, List.drop_left]
     rw [e1, e2]; simp
   refine CW_seq ?_
   refine CW_draw (Sat (Old w) w [cel b5 49 [.int .i64 q.left, .slice ya q.right.length yc]]) 10 [(0, false), (1, false), (2, false), (3, false), (4, false), (5, false), (6, false), (7, false), (8, true), (9, false)] (by kernel_rfl) (Blind.then (Blind.block (Blind.then (Blind.body (by intro c w h; simp at h))))) (by kernel_rfl) (fun w hw => hw.drew) ?_
   refine DW_q rfl sft (q_fieldAddr Try.underlying49 rfl rfl Try.sizeOf46 rfl rfl) rfl ?_
   refine DW_q rfl sft (q_load1_own Try.isAgg46 rfl rfl swt (by rfl)) rfl ?_
   refine mD ?_
   refine DW_q rfl sft (q_nilCheck rfl) rfl ?_
   refine DW_q rfl sft (q_fieldAddr Try.underlying96 rfl rfl Try.sizeOf26 rfl rfl) rfl ?_
   refine DW_q rfl sft (q_fieldAddr Try.underlying26 rfl rfl Try.sizeOf3 rfl rfl) rfl ?_
   refine DW_q rfl sft (q_load1_ro Try.isAgg3 rfl (by exact hcar.at_ (j := 5) rfl)) rfl ?_
   refine DW_spell 94 (.int .i64 ((s.b.toNat : Nat) : Int)) rfl (congrArg (Value.int .i64) (by omega)) ?_
   refine DW_q rfl sft (q_slice (l := 0) (h := s.b.toNat) Try.underlying46 Try.sizeOf51 rfl (.inl ⟨rfl, rfl⟩) (.inr ⟨_, rfl, rfl⟩) (by omega) (by omega) (by omega)) rfl ?_
   refine DW_e rfl (e_call Try.call60 rfl (fun w hw => lift_ro (names_any _ ((q.right.take s.b.toNat).drop 0) w (by rw [List.length_drop, List.length_take]; omega) (SlAt.sub (hsy.mono fun _ _ h => hw.rd h) (by omega) (by omega))) hw)) rfl (fun _ w hw => by first | exact hw.sub sbt | exact hw.2.sub sbt) (fun x96 => ?_)
   refine DW_spell 96 (.int .i64 (((nms ((ruleAt g s.a).right.take s.b.toNat)) : Nat) : Int)) rfl (by rw [List.drop_zero, hra]) ?_
   refine DW_q rfl sft (q_assign rfl) rfl ?_
   refine DW_nil ?_
   refine EW_then ?_
   refine CW_seq ?_
   refine CW_draw (Sat (Old w) w [cel b5 49 [.int .i64 q.left, .slice ya q.right.length yc]]) 17 [(0, false), (1, false), (2, false), (3, false), (4, false), (5, false), (6, false), (7, false), (8, false), (9, false), (10, false), (11, false), (12, false), (13, false), (14, true), (15, false), (16, false)] (by kernel_rfl) (Blind.then (Blind.block (Blind.then (Blind.body (by intro c w h; simp at h))))) (by kernel_rfl) (fun w hw => hw.drew) ?_
   refine mD ?_
   refine DW_q rfl sft (q_fieldAddr Try.underlying49 rfl rfl Try.sizeOf46 rfl rfl) rfl ?_
   refine DW_q rfl sft (q_load1_own Try.isAgg46 rfl rfl swt (by rfl)) rfl ?_
   refine mD ?_
   refine DW_q rfl sft (q_nilCheck rfl) rfl ?_
   refine DW_q rfl sft (q_fieldAddr Try.underlying96 rfl rfl Try.sizeOf26 rfl rfl) rfl ?_
   refine DW_q rfl sft (q_fieldAddr Try.underlying26 rfl rfl Try.sizeOf3 rfl rfl) rfl ?_
   refine DW_q rfl sft (q_load1_ro Try.isAgg3 rfl (by exact hcar.at_ (j := 5) rfl)) rfl ?_
   refine DW_spell 104 (.int .i64 ((s.b.toNat : Nat) : Int)) rfl (congrArg (Value.int .i64) (by omega)) ?_
   refine mD ?_
   refine DW_q rfl sft (q_nilCheck rfl) rfl ?_
   refine DW_q rfl sft (q_fieldAddr Try.underlying96 rfl rfl Try.sizeOf26 rfl rfl) rfl ?_
   refine DW_q rfl sft (q_fieldAddr Try.underlying26 rfl rfl Try.sizeOf3 rfl rfl) rfl ?_
   refine DW_q rfl sft (q_load1_ro Try.isAgg3 rfl (by exact hcar.at_ (j := 6) rfl)) rfl ?_
   refine DW_spell 109 (.int .i64 ((s.c.toNat : Nat) : Int)) rfl (congrArg (Value.int .i64) (by omega)) ?_
   refine DW_q rfl sft (q_slice (l := s.b.toNat) (h := s.c.toNat) Try.underlying46 Try.sizeOf51 rfl (.inr ⟨_, rfl, rfl⟩) (.inr ⟨_, rfl, rfl⟩) (by omega) (by omega) (by omega)) rfl ?_
   refine DW_e rfl (e_call Try.call60 rfl (fun w hw => lift_ro (names_any _ ((q.right.take s.c.toNat).drop s.b.toNat) w (by rw [List.length_drop, List.length_take]; omega) (SlAt.sub (hsy.mono fun _ _ h => hw.rd h) (by omega) (by omega))) hw)) rfl (fun _ w hw => by first | exact hw.sub sbt | exact hw.2.sub sbt) (fun x111 => ?_)
   refine DW_spell 111 (.int .i64 (((nms (partR (ruleAt g s.a) s.b.toNat s.c.toNat)) : Nat) : Int)) rfl (by rw [hra]; rfl) ?_
   refine DW_q rfl sft (q_add rfl rfl (by omega) (by omega)) rfl ?_
   refine DW_spell 112 (.int .i64 (((nms ((ruleAt g s.a).right.take s.b.toNat)) + (nms (partR (ruleAt g s.a) s.b.toNat s.c.toNat)) : Nat) : Int)) rfl (congrArg (Value.int .i64) (by omega)) ?_
   refine DW_q rfl sft (q_assign rfl) rfl ?_
   refine DW_nil ?_
   refine EW_then ?_
   refine CW_seq ?_
   refine CW_draw (Sat (Old w) w [cel b48 99 [vi x, .slice an nb.length cn]]) 17 [(0, false), (1, false), (2, false), (3, false), (4, false), (5, false), (6, false), (7, false), (8, false), (9, false), (10, false), (11, false), (12, false), (13, true), (14, false), (15, true), (16, false)] (by kernel_rfl) (Blind.then (Blind.block (Blind.then (Blind.body (by intro c w h; simp at h))))) (by kernel_rfl) (fun w hw => hw.drew) ?_
   refine mD ?_
   refine DW_q rfl sft (q_nilCheck rfl) rfl ?_
   refine DW_q rfl sft (q_fieldAddr Try.underlying96 rfl rfl Try.sizeOf24 rfl rfl) rfl ?_
   refine DW_q rfl sft (q_fieldAddr Try.underlying24 rfl rfl Try.sizeOf22 rfl rfl) rfl ?_
   refine DW_q rfl sft (q_load1_ro Try.isAgg22 rfl (by exact hcar.at_ (j := 2) rfl)) rfl ?_
   refine DW_q rfl sft (q_len Try.underlying22 rfl) rfl ?_
   refine mD ?_
   refine DW_q rfl sft (q_nilCheck rfl) rfl ?_
   refine DW_q rfl sft (q_fieldAddr Try.underlying99 rfl rfl Try.sizeOf97 rfl rfl) rfl ?_
   refine DW_q rfl sft (q_load1_own Try.isAgg97 rfl rfl swt (by rfl)) rfl ?_
   refine mD ?_
   refine mD ?_
   refine DW_q rfl sft (q_slice (l := (nms ((ruleAt g s.a).right.take s.b.toNat))) (h := (nms ((ruleAt g s.a).right.take s.b.toNat)) + (nms (partR (ruleAt g s.a) s.b.toNat s.c.toNat))) Try.underlying97 Try.sizeOf80 rfl (.inr ⟨_, rfl, rfl⟩) (.inr ⟨_, rfl, rfl⟩) (by omega) (by omega) (by omega)) rfl ?_
   refine DW_e rfl (e_call Try.call61 rfl (fun w hw => lift_old (cloneP_any _ ((nb.take ((nms ((ruleAt g s.a).right.take s.b.toNat)) + (nms (partR (ruleAt g s.a) s.b.toNat s.c.toNat)))).drop (nms ((ruleAt g s.a).right.take s.b.toNat))) w (by rw [hmid]; omega) (SlAt.sub (hw.tptrs swt) (by omega) (by omega))) hw)) rfl (fun _ w hw => by first | exact hw.sub sbt | exact hw.2.sub sbt) (fun x126 => ?_)
   refine DW_weak (S' := Sat (Old w) w [trow 80 1 encP x126 n3, kidsA ((ext2 s.a (g.rules.length : Int) (nms ((ruleAt g s.a).right.take s.b.toNat)) (nms (partR (ruleAt g s.a) s.b.toNat s.c.toNat))) f3) n3, kidsA ((ext2 s.a (g.rules.length : Int) (nms ((ruleAt g s.a).right.take s.b.toNat)) (nms (partR (ruleAt g s.a) s.b.toNat s.c.toNat))) f4) n4, kidsA ((ext2 s.a (g.rules.length : Int) (nms ((ruleAt g s.a).right.take s.b.toNat)) (nms (partR (ruleAt g s.a) s.b.toNat s.c.toNat))) f1) n1, cel b48 99 [vi x, .slice an nb.length cn], trow 80 1 encP (.slice an nb.length cn) nb, cel b5 49 [.int .i64 q.left, .slice ya q.right.length yc]]) (fun w hw => by rw [hmid] at hw; exact hw.sub sbt) ?_
   refine DW_fact (fun w hw => hw.tform (v := x126) (l := n3) (enc := encP) swt) (fun hf => ?_)
   obtain ⟨a126, c126, rfl, _, _, hb126⟩ := hf
   refine DW_q rfl sft (q_build (ps := #[(0, .int .i64 (g.rules.length : Int)), (1, .slice a126 n3.length c126)]) (v := .agg #[.int .i64 (g.rules.length : Int), .slice a126 n3.length c126]) rfl (fun w => by kernel_rfl)) rfl ?_
   refine DW_e rfl (e_box rfl rfl) rfl (fun _ w hw => by first | exact hw.sub sbt | exact hw.2.sub sbt) (fun b128 => ?_)
   refine DW_q rfl sft (q_assign rfl) rfl ?_
   refine DW_nil ?_
   refine EW_then ?_
   refine CW_region ?_
   refine mO ?_
   refine mO ?_
   refine OW_q (q_nilCheck rfl) rfl ?_
   refine OW_q (q_fieldAddr Try.underlying99 rfl rfl Try.sizeOf97 rfl rfl) rfl ?_
   refine OW_q (q_load1_own Try.isAgg97 rfl rfl swt (by rfl)) rfl ?_
   refine mO ?_
   refine mO ?_
   refine mO ?_
   refine OW_e (e_single Try.underlying97 Try.sizeOf80 Try.zeroValue80 (e := 80) (v := .pointer (some ⟨b128, 0, none⟩)) (cs := encP b128) rfl rfl rfl rfl (by decide) (by decide)) rfl (fun b137 => ?_)
   refine OW_e (e_call Try.call62 rfl (fun w hw => lift_mutN (M0 := [trow 80 1 encP (.slice an nb.length cn) nb, cel b137 80 (encP b128)]) (L1 := [cel b128 99 [vi (g.rules.length : Int), .slice a126 n3.length c126], trow 80 1 encP (.slice a126 n3.length c126) n3, kidsA ((ext2 s.a (g.rules.length : Int) (nms ((ruleAt g s.a).right.take s.b.toNat)) (nms (partR (ruleAt g s.a) s.b.toNat s.c.toNat))) f3) n3, kidsA ((ext2 s.a (g.rules.length : Int) (nms ((ruleAt g s.a).right.take s.b.toNat)) (nms (partR (ruleAt g s.a) s.b.toNat s.c.toNat))) f4) n4, kidsA ((ext2 s.a (g.rules.length : Int) (nms ((ruleAt g s.a).right.take s.b.toNat)) (nms (partR (ruleAt g s.a) s.b.toNat s.c.toNat))) f1) n1, cel b48 99 [vi x, .slice an nb.length cn], cel b5 49 [.int .i64 q.left, .slice ya q.right.length yc]]) (hw.sub sbt) (fun F hF => rep1_any (.slice an nb.length cn) nb b128 (nms ((ruleAt g s.a).right.take s.b.toNat)) ((nms ((ruleAt g s.a).right.take s.b.toNat)) + (nms (partR (ruleAt g s.a) s.b.toNat s.c.toNat))) 1 b137 _ _ w F (by omega) (by omega) (by omega) hF))) rfl (fun x138 => ?_)
   refine OW_fact (fun w hw => hw.tform (v := x138) (l := (nb.take (nms ((ruleAt g s.a).right.take s.b.toNat)) ++ [b128] ++ nb.drop ((nms ((ruleAt g s.a).right.take s.b.toNat)) + (nms (partR (ruleAt g s.a) s.b.toNat s.c.toNat))))) (enc := encP) swt) (fun hf => ?_)
   obtain ⟨a138, c138, rfl, _, _, hb138⟩ := hf
   refine OW_q (q_nilCheck rfl) rfl ?_
   refine OW_q (q_fieldAddr Try.underlying99 rfl rfl Try.sizeOf97 rfl rfl) rfl ?_
   refine OW_e0 (e_store Try.sizeOf97 rfl rfl rfl rfl swt (by rfl)) (fun _ => ?_)
   refine OW_nil ?_
   refine EW_block_normal ?_
   refine EW_then ?_
   refine nx3 ?_
   refine mO ?_
   refine aO ?_
   refine nx2 ?_
   refine CW_ret ?_
   refine ret1 Try.results43 rfl (fun w hw => ?_)
   rw [hlist] at hw
   have h0 : Sat _ _ (cel b128 99 [vi (g.rules.length : Int), .slice a126 n3.length c126] :: trow 80 1 encP (.slice a126 n3.length c126) n3 :: kidsA ((ext2 s.a (g.rules.length : Int) (nms ((ruleAt g s.a).right.take s.b.toNat)) (nms (partR (ruleAt g s.a) s.b.toNat s.c.toNat))) f3) n3 :: [cel b48 99 [vi x, .slice a138 (n1 ++ (b128 :: n4)).length c138], trow 80 1 encP (.slice a138 (n1 ++ (b128 :: n4)).length c138) (n1 ++ (b128 :: n4)), kidsA ((ext2 s.a (g.rules.length : Int) (nms ((ruleAt g s.a).right.take s.b.toNat)) (nms (partR (ruleAt g s.a) s.b.toNat s.c.toNat))) f1) n1, kidsA ((ext2 s.a (g.rules.length : Int) (nms ((ruleAt g s.a).right.take s.b.toNat)) (nms (partR (ruleAt g s.a) s.b.toNat s.c.toNat))) f4) n4]) w := hw.sub sbt
   have h1 : Sat _ _ (kidsA (.cons (g.rules.length : Int) ((ext2 s.a (g.rules.length : Int) (nms ((ruleAt g s.a).right.take s.b.toNat)) (nms (partR (ruleAt g s.a) s.b.toNat s.c.toNat))) f3) .nil) [b128] :: kidsA ((ext2 s.a (g.rules.length : Int) (nms ((ruleAt g s.a).right.take s.b.toNat)) (nms (partR (ruleAt g s.a) s.b.toNat s.c.toNat))) f4) n4 :: [cel b48 99 [vi x, .slice a138 (n1 ++ (b128 :: n4)).length c138], trow 80 1 encP (.slice a138 (n1 ++ (b128 :: n4)).length c138) (n1 ++ (b128 :: n4)), kidsA ((ext2 s.a (g.rules.length : Int) (nms ((ruleAt g s.a).right.take s.b.toNat)) (nms (partR (ruleAt g s.a) s.b.toNat s.c.toNat))) f1) n1]) w := h0.kidNew.sub sbt
   have h3 : Sat _ _ (kidsA ((ext2 s.a (g.rules.length : Int) (nms ((ruleAt g s.a).right.take s.b.toNat)) (nms (partR (ruleAt g s.a) s.b.toNat s.c.toNat))) f1) n1 :: kidsA (.cons (g.rules.length : Int) ((ext2 s.a (g.rules.length : Int) (nms ((ruleAt g s.a).right.take s.b.toNat)) (nms (partR (ruleAt g s.a) s.b.toNat s.c.toNat))) f3) ((ext2 s.a (g.rules.length : Int) (nms ((ruleAt g s.a).right.take s.b.toNat)) (nms (partR (ruleAt g s.a) s.b.toNat s.c.toNat))) f4)) (b128 :: n4) :: [cel b48 99 [vi x, .slice a138 (n1 ++ (b128 :: n4)).length c138], trow 80 1 encP (.slice a138 (n1 ++ (b128 :: n4)).length c138) (n1 ++ (b128 :: n4))]) w := h1.kidsApp.sub sbt
   have h5 : Sat _ _ (cel b48 99 [vi x, .slice a138 (n1 ++ (b128 :: n4)).length c138] :: trow 80 1 encP (.slice a138 (n1 ++ (b128 :: n4)).length c138) (n1 ++ (b128 :: n4)) :: kidsA (((ext2 s.a (g.rules.length : Int) (nms ((ruleAt g s.a).right.take s.b.toNat)) (nms (partR (ruleAt g s.a) s.b.toNat s.c.toNat))) f1).app (.cons (g.rules.length : Int) ((ext2 s.a (g.rules.length : Int) (nms ((ruleAt g s.a).right.take s.b.toNat)) (nms (partR (ruleAt g s.a) s.b.toNat s.c.toNat))) f3) ((ext2 s.a (g.rules.length : Int) (nms ((ruleAt g s.a).right.take s.b.toNat)) (nms (partR (ruleAt g s.a) s.b.toNat s.c.toNat))) f4))) (n1 ++ (b128 :: n4)) :: []) w := h3.kidsApp.sub sbt
   have hT : (ext2 s.a (g.rules.length : Int) (nms ((ruleAt g s.a).right.take s.b.toNat)) (nms (partR (ruleAt g s.a) s.b.toNat s.c.toNat))) (.cons x ks .nil) = .cons x (((ext2 s.a (g.rules.length : Int) (nms ((ruleAt g s.a).right.take s.b.toNat)) (nms (partR (ruleAt g s.a) s.b.toNat s.c.toNat))) f1).app (.cons (g.rules.length : Int) ((ext2 s.a (g.rules.length : Int) (nms ((ruleAt g s.a).right.take s.b.toNat)) (nms (partR (ruleAt g s.a) s.b.toNat s.c.toNat))) f3) ((ext2 s.a (g.rules.length : Int) (nms ((ruleAt g s.a).right.take s.b.toNat)) (nms (partR (ruleAt g s.a) s.b.toNat s.c.toNat))) f4))) .nil := by
     show For.cons x (if x = s.a then For.app (((ext2 s.a (g.rules.length : Int) (nms ((ruleAt g s.a).right.take s.b.toNat)) (nms (partR (ruleAt g s.a) s.b.toNat s.c.toNat))) ks).take (nms ((ruleAt g s.a).right.take s.b.toNat))) (.cons (g.rules.length : Int) ((((ext2 s.a (g.rules.length : Int) (nms ((ruleAt g s.a).right.take s.b.toNat)) (nms (partR (ruleAt g s.a) s.b.toNat s.c.toNat))) ks).drop (nms ((ruleAt g s.a).right.take s.b.toNat))).take (nms (partR (ruleAt g s.a) s.b.toNat s.c.toNat))) (((ext2 s.a (g.rules.length : Int) (nms ((ruleAt g s.a).right.take s.b.toNat)) (nms (partR (ruleAt g s.a) s.b.toNat s.c.toNat))) ks).drop ((nms ((ruleAt g s.a).right.take s.b.toNat)) + (nms (partR (ruleAt g s.a) s.b.toNat s.c.toNat))))) else _) .nil = _
     rw [if_pos hxa, hTk, take_app _ _ _ hTl, ← drop_drop, drop_app _ _ _ hTl, take_app _ _ _ hTl3, drop_app _ _ _ hTl3]
   rw [hT]
   exact ⟨b48, rfl, h5.kidNew⟩
 have hne : x ≠ s.a := by simpa using h87
 refine CW_skip ?_
 refine EW_block_normal ?_
 refine EW_then ?_
 refine nx3 ?_
 refine mO ?_
 refine aO ?_
 refine nx2 ?_
 refine CW_ret ?_
 refine ret1 Try.results43 rfl (fun w hw => ?_)
 have hT : (ext2 s.a (g.rules.length : Int) (nms ((ruleAt g s.a).right.take s.b.toNat)) (nms (partR (ruleAt g s.a) s.b.toNat s.c.toNat))) (.cons x ks .nil) = .cons x ((ext2 s.a (g.rules.length : Int) (nms ((ruleAt g s.a).right.take s.b.toNat)) (nms (partR (ruleAt g s.a) s.b.toNat s.c.toNat))) ks) .nil := by
   show For.cons x (if x = s.a then _ else _) _ = _
   rw [if_neg hne]; rfl
 rw [hT]
 refine ⟨b48, rfl, ?_⟩
 have h1 : Sat _ _ (cel b48 99 [vi x, .slice an nb.length cn] :: trow 80 1 encP (.slice an nb.length cn) nb :: kidsA ((ext2 s.a (g.rules.length : Int) (nms ((ruleAt g s.a).right.take s.b.toNat)) (nms (partR (ruleAt g s.a) s.b.toNat s.c.toNat))) ks) nb :: []) w := hw.sub sbt
 exact h1.kidNew

end Go.Sy
