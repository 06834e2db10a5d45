/- Walks and plain laws, part 15. No condition. -/
import Derived.Test.YteceklkjbcebkabM14
/- A tree, carried back: where names are swapped or rules left out; a rule with trees carried back. No condition. -/
namespace Go.Sy
open Go Go.RowKit Go.Proofs

theorem bk5_app {ls : List Nat} : ∀ f f' : For, bk5 ls (f.app f') = (bk5 ls f).app (bk5 ls f')
 | .nil, _ => rfl
 | .cons x k r, f' => by show For.cons _ _ (bk5 ls (r.app f')) = For.cons _ _ ((bk5 ls r).app _); rw [bk5_app r f']
set_option maxRecDepth 20000 in
theorem again_any (g : Gram) (s : SStep) (ls : List Nat) (h : Gram) (T : For → For) (hTa : ∀ f f', T (f.app f') = (T f).app (T f')) (hTn : T .nil = .nil) (N : Nat) (hN : N ≤ 5000) (ih : ∀ m, m < N → ∀ (x : Int) (ks : For) (b cb : Nat) (w : World), (For.cons x ks .nil).size ≤ m → m ≤ 5000 → CarAt (Cl w) cb g s ls → KidsAt (Cl w) (.cons x ks .nil) [b] → Wf h (.cons x ks .nil) → Calls Try.prog 44 #[.pointer (some ⟨cb, 0, none⟩), .pointer (some ⟨b, 0, none⟩)] w (fun e w' => ∃ b' : Nat, e = .returned (.pointer (some ⟨b', 0, none⟩)) ∧ Sat (Old w) w [kidsA (T (.cons x ks .nil)) [b']] w')) (r : Int) (f : For) (kb : List Nat) (v : Value) (cb : Nat) (w : World) (hsz : f.size < N) (hc0 : CarAt (Cl w) cb g s ls) (hp0 : PtrsAt (Cl w) v kb) (hk0 : KidsAt (Cl w) f kb) (hwf : Wf h f) : Calls Try.prog 65 #[.pointer (some ⟨cb, 0, none⟩), .int .i64 r, v] w (fun e w' => ∃ b' : Nat, e = .returned (.pointer (some ⟨b', 0, none⟩)) ∧ Sat (Old w) w [kidsA (.cons r (T f) .nil) [b']] w') := by
 obtain ⟨ak, ck, rfl, hk1, hk2, hkb⟩ := hp0.mono old_rd
 have hks := hk0.mono old_rd
 have hlsf := len_size f
 have hklf := KidsAt.len hks
 refine calls_CW Try.func65 rfl Try.ntmps65 rfl (Sat.start w) ?_
 refine nx3 ?_
 refine aO ?_
 refine nx4 ?_
 refine mO ?_
 refine OW_q (q_build (ps := #[(0, .int .i64 r)]) (v := .agg #[.int .i64 r, .slice none 0 0]) rfl (fun w => by kernel_rfl)) rfl ?_
 refine OW_e (e_box rfl rfl) rfl (fun b12 => ?_)
 refine aO ?_
 refine nx2 ?_
 refine CW_seq ?_
 refine nx3 ?_
 refine mO ?_
 refine OW_q (q_len Try.underlying97 rfl) rfl ?_
 refine mO ?_
 refine nx2 ?_
 refine CW_block ?_
 refine CW_weak (S' := Sat (Old w) w [cel b12 99 [vi r, .slice none 0 0], trow 80 1 encP (.slice none 0 0) [], kidsA (T .nil) []]) (fun w hw => by
   have h1 := (hw.tnil 80 1 encP).addEmp (A := kidsA .nil []) ⟨rfl, rfl⟩
   rw [show kidsA (T .nil) [] = kidsA .nil [] by rw [hTn]]
   exact h1.sub sbt) ?_
 refine CW_loopP (ι := Nat × For × For × List Nat × List Nat × Value × List Nat) (fun i_ => i_.1 ≤ kb.length ∧ f = i_.2.1.app i_.2.2.1 ∧ kb = i_.2.2.2.1 ++ i_.2.2.2.2.1 ∧ i_.2.2.2.1.length = i_.1 ∧ KidsAt (Rd (Old w) w) i_.2.2.1 i_.2.2.2.2.1 ∧ Wf h i_.2.2.1 ∧ i_.2.2.2.2.2.2.length = i_.1) (fun i_ => [(0, .pointer (some ⟨cb, 0, none⟩)), (7, .pointer (some ⟨b12, 0, none⟩)), (13, .slice ak kb.length ck), (14, .int .i64 (kb.length : Int)), (15, .int .i64 (i_.1 : Int))]) (fun i_ => Sat (Old w) w [cel b12 99 [vi r, i_.2.2.2.2.2.1], trow 80 1 encP i_.2.2.2.2.2.1 i_.2.2.2.2.2.2, kidsA (T i_.2.1) i_.2.2.2.2.2.2]) (fun i_ => kb.length - i_.1) (0, .nil, f, [], kb, .slice none 0 0, []) ?_ ⟨rfl, rfl, rfl, rfl, rfl, trivial⟩ sft ?_
 · exact ⟨Nat.zero_le _, rfl, rfl, rfl, hks, hwf, rfl⟩
 intro i_ hpre
 obtain ⟨k, fd, fr, bd, br, v, nb⟩ := i_
 replace hpre : k ≤ kb.length ∧ f = fd.app fr ∧ kb = bd ++ br ∧ bd.length = k ∧ KidsAt (Rd (Old w) w) fr br ∧ Wf h fr ∧ nb.length = k := hpre
 change CW _ _ _ _ [(0, .pointer (some ⟨cb, 0, none⟩)), (7, .pointer (some ⟨b12, 0, none⟩)), (13, .slice ak kb.length ck), (14, .int .i64 (kb.length : Int)), (15, .int .i64 (k : Int))] (Sat (Old w) w [cel b12 99 [vi r, v], trow 80 1 encP v nb, kidsA (T fd) nb])
 obtain ⟨hk, hfd, hbd, hbl, hkr, hwfr, hnb⟩ := hpre
 refine nx3 ?_
 refine OW_q (q_lss rfl rfl) rfl ?_
 refine nx2 ?_
 refine CW_seq ?_
 refine CW_cond rfl (fun h16 => ?_) (fun h16 => ?_)
 · skip
   have hlt : k < kb.length := by have := of_decide_eq_true h16; omega
   obtain ⟨b1, br2, rfl⟩ : ∃ b1 br2, br = b1 :: br2 := by
     cases br with
     | nil => rw [List.append_nil] at hbd; rw [hbd] at hlt; omega
     | cons b1 br2 => exact ⟨b1, br2, rfl⟩
   have hbk : kb[k]? = some b1 := by rw [hbd, List.getElem?_append_right (by omega), hbl, Nat.sub_self]; rfl
   obtain ⟨p1, hp1, hb1⟩ := hkb k b1 hbk
   subst hp1
   obtain ⟨xk, kk, fr2, rfl, hkk, hk2'⟩ := kids_cons hkr
   have hkl := KidsAt.len hks
   have hks5 := kid_size (x := r) hfd
   have hls5 := len_size (f)
   refine CW_skip ?_
   refine EW_then ?_
   refine CW_seq ?_
   refine CW_block ?_
   refine nx3 ?_
   refine OW_q (q_indexAddr Try.underlying97 Try.sizeOf80 rfl rfl (by omega)) rfl ?_
   refine OW_q (q_load1_ro Try.isAgg80 rfl (by exact hb1)) rfl ?_
   refine aO ?_
   refine nx2 ?_
   refine CW_draw (Sat (Old w) w [cel b12 99 [vi r, v]]) 12 [(0, false), (1, false), (2, false), (3, false), (4, false), (5, false), (6, false), (7, true), (8, true), (9, true), (10, false), (11, false), (12, true)] (by kernel_rfl) (Blind.block (Blind.then (Blind.again (Blind.block (Blind.then (Blind.body (by intro c w h; simp at h))))))) (by kernel_rfl) (fun w hw => hw.drew) ?_
   refine mD ?_
   refine mD ?_
   refine DW_q rfl sft (q_nilCheck rfl) rfl ?_
   refine DW_q rfl sft (q_fieldAddr Try.underlying99 rfl rfl Try.sizeOf97 rfl rfl) rfl ?_
   refine DW_q rfl sft (q_load1_own Try.isAgg97 rfl rfl swt (by rfl)) rfl ?_
   refine mD ?_
   refine mD ?_
   refine DW_e rfl (e_call Try.call44 rfl (fun w hw => lift_old (ih (For.cons xk kk .nil).size (by omega) xk kk b1 cb w (Nat.le_refl _) (by omega) (hc0.mono fun _ _ h => hw.rd (Rd.old h)) (hkk.mono hw.rd_cl) ⟨hwfr.1, trivial⟩) hw)) rfl (fun _ w hw => by first | exact hw.sub sbt | exact hw.2.sub sbt) (fun x26 => ?_)
   refine DW_e rfl (e_single Try.underlying97 Try.sizeOf80 Try.zeroValue80 (e := 80) (v := .pointer (some ⟨x26, 0, none⟩)) (cs := encP x26) rfl rfl rfl rfl (by decide) (by decide)) rfl (fun _ => sft) (fun b27 => ?_)
   refine DW_e rfl (e_append_t (x0 := x26) (enc := encP) (v := v) (l := nb) Try.underlying97 Try.typeInfo80 rfl rfl rfl rfl rfl rfl rfl pkt rfl (by exact fun w hw => hw.news swt) (by simp [Value.oneCell']) (by omega) (by decide)) rfl (fun _ => sft) (fun v28 => ?_)
   refine DW_fact (fun w hw => hw.tform (v := v28) (l := (nb ++ [x26])) (enc := encP) swt) (fun hf => ?_)
   obtain ⟨a28, c28, rfl, _, _, hb28⟩ := hf
   refine DW_q rfl sft (q_nilCheck rfl) rfl ?_
   refine DW_q rfl sft (q_fieldAddr Try.underlying99 rfl rfl Try.sizeOf97 rfl rfl) rfl ?_
   refine DW_z0 rfl (e_store Try.sizeOf97 rfl rfl rfl rfl swt (by rfl)) (fun _ => ?_)
   refine EW_block_normal ?_
   refine EW_then ?_
   refine CW_region ?_
   refine OW_q (q_add rfl rfl (by omega) (by omega)) rfl ?_
   refine mO ?_
   refine OW_nil ?_
   refine EW_weak (S' := Sat (Old _) _ [cel b12 99 [vi r, .slice a28 (nb ++ [x26]).length c28], trow 80 1 encP (.slice a28 (nb ++ [x26]).length c28) (nb ++ [x26]), kidsA (T (fd.app (.cons xk kk .nil))) (nb ++ [x26])]) (fun w hw => by
     have h1 : Sat _ _ (kidsA (T fd) nb :: kidsA (T (.cons xk kk .nil)) [x26] :: [cel b12 99 [vi r, .slice a28 (nb ++ [x26]).length c28], trow 80 1 encP (.slice a28 (nb ++ [x26]).length c28) (nb ++ [x26])]) w := hw.sub sbt
     exact (sat_kids (T := T) (hTa) h1).sub sbt) ?_
   refine EW_again ((k + 1, fd.app (.cons xk kk .nil), fr2, bd ++ [b1], br2, .slice a28 (nb ++ [x26]).length c28, nb ++ [x26])) ⟨?_, ?_⟩ ⟨rfl, rfl, rfl, rfl, rfl, trivial⟩ sft
   · show kb.length - (k + 1) < kb.length - k; omega
   · refine ⟨by show k + 1 ≤ _; omega, ?_, ?_, ?_, hk2', hwfr.2, ?_⟩
     · show f = _
       rw [hfd, For.app_one]
     · show kb = _
       rw [hbd]; simp
     · show (bd ++ [b1]).length = _
       rw [List.length_append, hbl]; rfl
     · show (nb ++ [x26]).length = _
       rw [List.length_append, hnb]; rfl
 have hke : k = kb.length := by have := of_decide_eq_false h16; omega
 have hbr : br = [] := by
   have := congrArg List.length hbd
   rw [List.length_append] at this
   exact List.eq_nil_of_length_eq_zero (by omega)
 subst hbr
 have hfr := kids_none hkr
 subst hfr
 rw [For.app_nil] at hfd
 subst hfd
 refine CW_fact (fun w hw => hw.tform (v := v) (l := nb) (enc := encP) swt) (fun hf => ?_)
 obtain ⟨an, cn, rfl, _, _, hbn⟩ := hf
 refine CW_exit ?_
 refine EW_then_exit ?_
 refine EW_out ?_
 refine EW_block_exit ?_
 refine EW_then ?_
 refine nx3 ?_
 refine mO ?_
 refine aO ?_
 refine nx2 ?_
 refine CW_ret ?_
 refine ret1 Try.results65 rfl (fun w hw => ?_)
 refine ⟨b12, rfl, ?_⟩
 have h1 : Sat _ _ (cel b12 99 [vi r, .slice an nb.length cn] :: trow 80 1 encP (.slice an nb.length cn) nb :: kidsA (T f) nb :: []) w := hw.sub sbt
 exact h1.kidNew

set_option maxRecDepth 20000 in
theorem bck1_any (g : Gram) (s : SStep) (ls : List Nat) (hm : mayB g = true) (hs : mayS g s = true) (h : Gram) (hmh : mayB h = true) (hop : s.op = 1) : ∀ (N : Nat) (x : Int) (ks : For) (b cb : Nat) (w : World), (For.cons x ks .nil).size ≤ N → N ≤ 5000 → CarAt (Cl w) cb g s ls → KidsAt (Cl w) (.cons x ks .nil) [b] → Wf h (.cons x ks .nil) → Calls Try.prog 44 #[.pointer (some ⟨cb, 0, none⟩), .pointer (some ⟨b, 0, none⟩)] w (fun e w' => ∃ b' : Nat, e = .returned (.pointer (some ⟨b', 0, none⟩)) ∧ Sat (Old w) w [kidsA (id (.cons x ks .nil)) [b']] w') := by
 intro N
 refine Nat.strongRecOn N ?_
 clear N
 intro N ih x ks b cb w hsz hN hc0 hk0 hwf
 obtain ⟨rv, lv, hcar, hrr, hll⟩ := (hc0.mono old_rd).ex
 obtain ⟨ar, cr, rfl, hr1, hr2, hrs⟩ := hrr
 obtain ⟨al, cl, rfl, hl1, hl2, hls1⟩ := hll
 rw [show (natV ls).length = ls.length by rw [List.length_map]] at hcar hl1
 obtain ⟨ak, kb, ck, hrow, hk1, hk2, hkb, hks⟩ := kids_top (hk0.mono old_rd)
 obtain ⟨⟨q, yq, hx0, hq, hdq⟩, _⟩ := id hwf
 have hwks9 := der_wf hdq
 have hxl := (List.getElem?_eq_some_iff.1 hq).1
 have hq8 := (may_rule hmh hq).2.2
 have hks8 : kb.length ≤ 8 := by rw [KidsAt.len hks, der_len hdq]; exact Nat.le_trans (nms_le _) hq8
 have hM := mayB_true.1 hm
 
 refine calls_CW Try.func44 rfl Try.ntmps44 rfl (Sat.start w) ?_
 refine nx3 ?_
 refine aO ?_
 refine nx2 ?_
 refine CW_seq ?_
 refine CW_seq ?_
 refine CW_draw (Sat (Old w) w []) 26 [(0, false), (1, false), (2, false), (3, false), (4, false), (5, false), (6, false), (7, false), (8, false), (9, false), (10, false), (11, false), (12, false), (13, false), (14, false), (15, false), (16, false), (17, false), (18, false), (19, false), (20, false), (21, false), (22, false), (23, false), (24, false), (25, false)] (by kernel_rfl) (Blind.then (Blind.then (Blind.body (by intro c w h; simp at h)))) (by kernel_rfl) (fun w hw => hw.drew) ?_
 refine mD ?_
 refine DW_q rfl sft (q_nilCheck rfl) rfl ?_
 refine DW_q rfl sft (q_fieldAddr Try.underlying96 rfl rfl Try.sizeOf26 rfl rfl) rfl ?_
 refine DW_q rfl sft (q_fieldAddr Try.underlying26 rfl rfl Try.sizeOf3 rfl rfl) rfl ?_
 refine DW_q rfl sft (q_load1_ro Try.isAgg3 rfl (by exact hcar.at_ (j := 3) rfl)) rfl ?_
 refine DW_q rfl sft (q_eqi rfl rfl) rfl ?_
 refine mD ?_
 refine DW_part (t := 20) rfl (fun hg20 => ?_) (fun hg20 => ?_)
 · skip
   exact absurd hg20 (by simp [hop]) --stop
 refine kD ?_
 refine kD ?_
 refine kD ?_
 refine kD ?_
 refine kD ?_
 refine kD ?_
 refine kD ?_
 refine kD ?_
 refine kD ?_
 refine kD ?_
 refine kD ?_
 refine kD ?_
 refine kD ?_
 refine kD ?_
 refine kD ?_
 refine kD ?_
 refine kD ?_
 refine kD ?_
 refine DW_q rfl sft (q_pick_f rfl rfl) rfl ?_
 refine DW_nil ?_
 refine EW_then ?_
 refine CW_false rfl rfl ?_
 refine CW_skip ?_
 refine EW_then ?_
 refine nx3 ?_
 refine mO ?_
 refine OW_q (q_nilCheck rfl) rfl ?_
 refine OW_q (q_fieldAddr Try.underlying99 rfl rfl Try.sizeOf3 rfl rfl) rfl ?_
 refine OW_q (q_load1_ro Try.isAgg3 rfl (by exact hrow.at_ (j := 0) rfl)) rfl ?_
 refine aO ?_
 refine aO ?_
 refine nx2 ?_
 refine CW_seq ?_
 refine nx3 ?_
 refine mO ?_
 refine OW_q (q_nilCheck rfl) rfl ?_
 refine OW_q (q_fieldAddr Try.underlying96 rfl rfl Try.sizeOf26 rfl rfl) rfl ?_
 refine OW_q (q_fieldAddr Try.underlying26 rfl rfl Try.sizeOf3 rfl rfl) rfl ?_
 refine OW_q (q_load1_ro Try.isAgg3 rfl (by exact hcar.at_ (j := 3) rfl)) rfl ?_
 refine nx2 ?_
 refine CW_block ?_
 refine nx3 ?_
 refine OW_q (q_eqi rfl rfl) rfl ?_
 refine aO ?_
 refine nx2 ?_
 refine CW_false rfl (by simp [hop]) ?_
 refine nx3 ?_
 refine OW_q (q_eqi rfl rfl) rfl ?_
 refine aO ?_
 refine nx2 ?_
 refine CW_false rfl (by simp [hop]) ?_
 refine CW_skip ?_
 refine EW_block_normal ?_
 refine EW_then ?_
 refine CW_seq ?_
 obtain ⟨X, hX⟩ : ∃ X : Int, X = x := ⟨_, rfl⟩
 obtain ⟨J, hJ⟩ : ∃ J : Int, J = -1 := ⟨_, rfl⟩
 refine CW_spell 5 (.int .i64 X) rfl (by rw [hX]) ?_
 refine CW_spell 6 (.int .i64 J) rfl (by rw [hJ]) ?_
 refine CW_region ?_
 refine mO ?_
 refine OW_q (q_build (ps := #[(0, .int .i64 X)]) (v := .agg #[.int .i64 X, .slice none 0 0]) rfl (fun w => by kernel_rfl)) rfl ?_
 refine OW_e (e_box rfl rfl) rfl (fun b128 => ?_)
 refine aO ?_
 refine nx2 ?_
 refine CW_seq ?_
 refine nx3 ?_
 refine mO ?_
 refine OW_q (q_nilCheck rfl) rfl ?_
 refine OW_q (q_fieldAddr Try.underlying99 rfl rfl Try.sizeOf97 rfl rfl) rfl ?_
 refine OW_q (q_load1_ro Try.isAgg97 rfl (by exact hrow.at_ (j := 1) rfl)) rfl ?_
 refine OW_q (q_len Try.underlying97 rfl) rfl ?_
 refine mO ?_
 refine nx2 ?_
 refine CW_block ?_
 refine CW_weak (S' := Sat (Old w) w [cel b128 99 [vi X, .slice none 0 0], trow 80 1 encP (.slice none 0 0) [], kidsA (id .nil) []]) (fun w hw => by
   have h1 := (hw.tnil 80 1 encP).addEmp (A := kidsA (id .nil) []) ⟨rfl, rfl⟩
   exact h1.sub sbt) ?_
 refine CW_loopP (ι := Nat × For × For × List Nat × List Nat × Value × List Nat) (fun i_ => i_.1 ≤ kb.length ∧ ks = i_.2.1.app i_.2.2.1 ∧ kb = i_.2.2.2.1 ++ i_.2.2.2.2.1 ∧ i_.2.2.2.1.length = i_.1 ∧ KidsAt (Rd (Old w) w) i_.2.2.1 i_.2.2.2.2.1 ∧ Wf h i_.2.2.1 ∧ i_.2.2.2.2.2.2.length = i_.1) (fun i_ => [(0, .pointer (some ⟨cb, 0, none⟩)), (1, .pointer (some ⟨b, 0, none⟩)), (6, .int .i64 J), (7, .pointer (some ⟨b128, 0, none⟩)), (132, .slice ak kb.length ck), (133, .int .i64 (kb.length : Int)), (134, .int .i64 (i_.1 : Int))]) (fun i_ => Sat (Old w) w [cel b128 99 [vi X, i_.2.2.2.2.2.1], trow 80 1 encP i_.2.2.2.2.2.1 i_.2.2.2.2.2.2, kidsA (id i_.2.1) i_.2.2.2.2.2.2]) (fun i_ => kb.length - i_.1) (0, .nil, ks, [], kb, .slice none 0 0, []) ?_ ⟨rfl, rfl, rfl, rfl, rfl, rfl, rfl, trivial⟩ sft ?_
 · exact ⟨Nat.zero_le _, rfl, rfl, rfl, hks, hwks9, rfl⟩
 intro i_ hpre
 obtain ⟨k, fd, fr, bd, br, v, nb⟩ := i_
 replace hpre : k ≤ kb.length ∧ ks = fd.app fr ∧ kb = bd ++ br ∧ bd.length = k ∧ KidsAt (Rd (Old w) w) fr br ∧ Wf h fr ∧ nb.length = k := hpre
 change CW _ _ _ _ [(0, .pointer (some ⟨cb, 0, none⟩)), (1, .pointer (some ⟨b, 0, none⟩)), (6, .int .i64 J), (7, .pointer (some ⟨b128, 0, none⟩)), (132, .slice ak kb.length ck), (133, .int .i64 (kb.length : Int)), (134, .int .i64 (k : Int))] (Sat (Old w) w [cel b128 99 [vi X, v], trow 80 1 encP v nb, kidsA (id fd) nb])
 obtain ⟨hk, hfd, hbd, hbl, hkr, hwfr, hnb⟩ := hpre
 refine nx3 ?_
 refine OW_q (q_lss rfl rfl) rfl ?_
 refine nx2 ?_
 refine CW_seq ?_
 refine CW_cond rfl (fun h135 => ?_) (fun h135 => ?_)
 · skip
   have hlt : k < kb.length := by have := of_decide_eq_true h135; omega
   obtain ⟨b1, br2, rfl⟩ : ∃ b1 br2, br = b1 :: br2 := by
     cases br with
     | nil => rw [List.append_nil] at hbd; rw [hbd] at hlt; omega
     | cons b1 br2 => exact ⟨b1, br2, rfl⟩
   have hbk : kb[k]? = some b1 := by rw [hbd, List.getElem?_append_right (by omega), hbl, Nat.sub_self]; rfl
   obtain ⟨p1, hp1, hb1⟩ := hkb k b1 hbk
   subst hp1
   obtain ⟨xk, kk, fr2, rfl, hkk, hk2'⟩ := kids_cons hkr
   have hkl := KidsAt.len hks
   have hks5 := kid_size (x := x) hfd
   have hls5 := len_size (ks)
   refine CW_skip ?_
   refine EW_then ?_
   refine CW_seq ?_
   refine CW_block ?_
   refine nx3 ?_
   refine OW_q (q_indexAddr Try.underlying97 Try.sizeOf80 rfl rfl (by omega)) rfl ?_
   refine OW_q (q_load1_ro Try.isAgg80 rfl (by exact hb1)) rfl ?_
   refine aO ?_
   refine nx2 ?_
   refine CW_draw (Sat (Old w) w [cel b128 99 [vi X, v]]) 12 [(0, false), (1, false), (2, false), (3, false), (4, false), (5, false), (6, false), (7, true), (8, true), (9, true), (10, false), (11, false), (12, true)] (by kernel_rfl) (Blind.block (Blind.then (Blind.again (Blind.block (Blind.then (Blind.body (by intro c w h; simp at h))))))) (by kernel_rfl) (fun w hw => hw.drew) ?_
   refine mD ?_
   refine mD ?_
   refine DW_q rfl sft (q_nilCheck rfl) rfl ?_
   refine DW_q rfl sft (q_fieldAddr Try.underlying99 rfl rfl Try.sizeOf97 rfl rfl) rfl ?_
   refine DW_q rfl sft (q_load1_own Try.isAgg97 rfl rfl swt (by rfl)) rfl ?_
   refine mD ?_
   refine mD ?_
   refine DW_e rfl (e_call Try.call44 rfl (fun w hw => lift_old (ih (For.cons xk kk .nil).size (by omega) xk kk b1 cb w (Nat.le_refl _) (by omega) (hc0.mono fun _ _ h => hw.rd (Rd.old h)) (hkk.mono hw.rd_cl) ⟨hwfr.1, trivial⟩) hw)) rfl (fun _ w hw => by first | exact hw.sub sbt | exact hw.2.sub sbt) (fun x145 => ?_)
   refine DW_e rfl (e_single Try.underlying97 Try.sizeOf80 Try.zeroValue80 (e := 80) (v := .pointer (some ⟨x145, 0, none⟩)) (cs := encP x145) rfl rfl rfl rfl (by decide) (by decide)) rfl (fun _ => sft) (fun b146 => ?_)
   refine DW_e rfl (e_append_t (x0 := x145) (enc := encP) (v := v) (l := nb) Try.underlying97 Try.typeInfo80 rfl rfl rfl rfl rfl rfl rfl pkt rfl (by exact fun w hw => hw.news swt) (by simp [Value.oneCell']) (by omega) (by decide)) rfl (fun _ => sft) (fun v147 => ?_)
   refine DW_fact (fun w hw => hw.tform (v := v147) (l := (nb ++ [x145])) (enc := encP) swt) (fun hf => ?_)
   obtain ⟨a147, c147, rfl, _, _, hb147⟩ := hf
   refine DW_q rfl sft (q_nilCheck rfl) rfl ?_
   refine DW_q rfl sft (q_fieldAddr Try.underlying99 rfl rfl Try.sizeOf97 rfl rfl) rfl ?_
   refine DW_z0 rfl (e_store Try.sizeOf97 rfl rfl rfl rfl swt (by rfl)) (fun _ => ?_)
   refine EW_block_normal ?_
   refine EW_then ?_
   refine CW_region ?_
   refine OW_q (q_add rfl rfl (by omega) (by omega)) rfl ?_
   refine mO ?_
   refine OW_nil ?_
   refine EW_weak (S' := Sat (Old _) _ [cel b128 99 [vi X, .slice a147 (nb ++ [x145]).length c147], trow 80 1 encP (.slice a147 (nb ++ [x145]).length c147) (nb ++ [x145]), kidsA (id (fd.app (.cons xk kk .nil))) (nb ++ [x145])]) (fun w hw => by
     have h1 : Sat _ _ (kidsA (id fd) nb :: kidsA (id (.cons xk kk .nil)) [x145] :: [cel b128 99 [vi X, .slice a147 (nb ++ [x145]).length c147], trow 80 1 encP (.slice a147 (nb ++ [x145]).length c147) (nb ++ [x145])]) w := hw.sub sbt
     exact (sat_kids (T := id) (fun _ _ => rfl) h1).sub sbt) ?_
   refine EW_again ((k + 1, fd.app (.cons xk kk .nil), fr2, bd ++ [b1], br2, .slice a147 (nb ++ [x145]).length c147, nb ++ [x145])) ⟨?_, ?_⟩ ⟨rfl, rfl, rfl, rfl, rfl, rfl, rfl, trivial⟩ sft
   · show kb.length - (k + 1) < kb.length - k; omega
   · refine ⟨by show k + 1 ≤ _; omega, ?_, ?_, ?_, hk2', hwfr.2, ?_⟩
     · show ks = _
       rw [hfd, For.app_one]
     · show kb = _
       rw [hbd]; simp
     · show (bd ++ [b1]).length = _
       rw [List.length_append, hbl]; rfl
     · show (nb ++ [x145]).length = _
       rw [List.length_append, hnb]; rfl
 have hke : k = kb.length := by have := of_decide_eq_false h135; omega
 have hbr : br = [] := by
   have := congrArg List.length hbd
   rw [List.length_append] at this
   exact List.eq_nil_of_length_eq_zero (by omega)
 subst hbr
 have hfr := kids_none hkr
 subst hfr
 rw [For.app_nil] at hfd
 subst hfd
 refine CW_fact (fun w hw => hw.tform (v := v) (l := nb) (enc := encP) swt) (fun hf => ?_)
 obtain ⟨an, cn, rfl, _, _, hbn⟩ := hf
 refine CW_exit ?_
 refine EW_then_exit ?_
 refine EW_out ?_
 refine EW_block_exit ?_
 refine EW_then ?_
 refine CW_seq ?_
 refine nx3 ?_
 refine mO ?_
 refine OW_q (q_geq rfl rfl) rfl ?_
 refine nx2 ?_
 refine CW_false rfl (by rw [hJ]; decide) ?_
 refine CW_skip ?_
 refine EW_then ?_
 refine CW_seq ?_
 refine CW_seq ?_
 refine CW_draw (Sat (Old w) w []) 18 [(0, false), (1, false), (2, false), (3, false), (4, false), (5, false), (6, false), (7, false), (8, false), (9, false), (10, false), (11, false), (12, false), (13, false), (14, false), (15, false), (16, false), (17, false)] (by kernel_rfl) (Blind.then (Blind.then (Blind.body (by intro c w h; simp at h)))) (by kernel_rfl) (fun w hw => hw.drew) ?_
 refine mD ?_
 refine DW_q rfl sft (q_nilCheck rfl) rfl ?_
 refine DW_q rfl sft (q_fieldAddr Try.underlying96 rfl rfl Try.sizeOf26 rfl rfl) rfl ?_
 refine DW_q rfl sft (q_fieldAddr Try.underlying26 rfl rfl Try.sizeOf3 rfl rfl) rfl ?_
 refine DW_q rfl sft (q_load1_ro Try.isAgg3 rfl (by exact hcar.at_ (j := 3) rfl)) rfl ?_
 refine DW_q rfl sft (q_eqi rfl rfl) rfl ?_
 refine mD ?_
 refine DW_part (t := 213) rfl (fun hg213 => ?_) (fun hg213 => ?_)
 · skip
   exact absurd hg213 (by simp [hop]) --stop
 refine kD ?_
 refine kD ?_
 refine kD ?_
 refine kD ?_
 refine kD ?_
 refine kD ?_
 refine kD ?_
 refine kD ?_
 refine kD ?_
 refine kD ?_
 refine DW_q rfl sft (q_pick_f rfl rfl) rfl ?_
 refine DW_nil ?_
 refine EW_then ?_
 refine CW_false rfl rfl ?_
 refine CW_skip ?_
 refine EW_then ?_
 refine nx3 ?_
 refine mO ?_
 refine aO ?_
 refine nx2 ?_
 refine CW_ret ?_
 refine ret1 Try.results44 rfl (fun w hw => ?_)
 refine ⟨b128, rfl, ?_⟩
 have h1 : Sat _ _ (cel b128 99 [vi X, .slice an nb.length cn] :: trow 80 1 encP (.slice an nb.length cn) nb :: kidsA (id ks) nb :: []) w := hw.sub sbt
 rw [hX] at h1
 exact h1.kidNew

set_option maxRecDepth 20000 in
theorem bck5_any (g : Gram) (s : SStep) (ls : List Nat) (hm : mayB g = true) (hs : mayS g s = true) (h : Gram) (hmh : mayB h = true) (hop : s.op = 5) (hlh : h.rules.length = ls.length) : ∀ (N : Nat) (x : Int) (ks : For) (b cb : Nat) (w : World), (For.cons x ks .nil).size ≤ N → N ≤ 5000 → CarAt (Cl w) cb g s ls → KidsAt (Cl w) (.cons x ks .nil) [b] → Wf h (.cons x ks .nil) → Calls Try.prog 44 #[.pointer (some ⟨cb, 0, none⟩), .pointer (some ⟨b, 0, none⟩)] w (fun e w' => ∃ b' : Nat, e = .returned (.pointer (some ⟨b', 0, none⟩)) ∧ Sat (Old w) w [kidsA ((bk5 ls) (.cons x ks .nil)) [b']] w') := by
 intro N
 refine Nat.strongRecOn N ?_
 clear N
 intro N ih x ks b cb w hsz hN hc0 hk0 hwf
 obtain ⟨rv, lv, hcar, hrr, hll⟩ := (hc0.mono old_rd).ex
 obtain ⟨ar, cr, rfl, hr1, hr2, hrs⟩ := hrr
 obtain ⟨al, cl, rfl, hl1, hl2, hls1⟩ := hll
 rw [show (natV ls).length = ls.length by rw [List.length_map]] at hcar hl1
 obtain ⟨ak, kb, ck, hrow, hk1, hk2, hkb, hks⟩ := kids_top (hk0.mono old_rd)
 obtain ⟨⟨q, yq, hx0, hq, hdq⟩, _⟩ := id hwf
 have hwks9 := der_wf hdq
 have hxl := (List.getElem?_eq_some_iff.1 hq).1
 have hq8 := (may_rule hmh hq).2.2
 have hks8 : kb.length ≤ 8 := by rw [KidsAt.len hks, der_len hdq]; exact Nat.le_trans (nms_le _) hq8
 have hM := mayB_true.1 hm
 obtain ⟨z, hz⟩ := get_of_lt (l := ls) (k := x.toNat) (by omega)
 have hzd : ls.getD x.toNat 0 = z := by rw [List.getD_eq_getElem?_getD, hz]; rfl
 obtain ⟨pl, hpl, hzc⟩ := hls1 x.toNat z (by rw [List.getElem?_map, hz]; rfl)
 subst hpl
 
 refine calls_CW Try.func44 rfl Try.ntmps44 rfl (Sat.start w) ?_
 refine nx3 ?_
 refine aO ?_
 refine nx2 ?_
 refine CW_seq ?_
 refine CW_seq ?_
 refine CW_draw (Sat (Old w) w []) 26 [(0, false), (1, false), (2, false), (3, false), (4, false), (5, false), (6, false), (7, false), (8, false), (9, false), (10, false), (11, false), (12, false), (13, false), (14, false), (15, false), (16, false), (17, false), (18, false), (19, false), (20, false), (21, false), (22, false), (23, false), (24, false), (25, false)] (by kernel_rfl) (Blind.then (Blind.then (Blind.body (by intro c w h; simp at h)))) (by kernel_rfl) (fun w hw => hw.drew) ?_
 refine mD ?_
 refine DW_q rfl sft (q_nilCheck rfl) rfl ?_
 refine DW_q rfl sft (q_fieldAddr Try.underlying96 rfl rfl Try.sizeOf26 rfl rfl) rfl ?_
 refine DW_q rfl sft (q_fieldAddr Try.underlying26 rfl rfl Try.sizeOf3 rfl rfl) rfl ?_
 refine DW_q rfl sft (q_load1_ro Try.isAgg3 rfl (by exact hcar.at_ (j := 3) rfl)) rfl ?_
 refine DW_q rfl sft (q_eqi rfl rfl) rfl ?_
 refine mD ?_
 refine DW_part (t := 20) rfl (fun hg20 => ?_) (fun hg20 => ?_)
 · skip
   exact absurd hg20 (by simp [hop]) --stop
 refine kD ?_
 refine kD ?_
 refine kD ?_
 refine kD ?_
 refine kD ?_
 refine kD ?_
 refine kD ?_
 refine kD ?_
 refine kD ?_
 refine kD ?_
 refine kD ?_
 refine kD ?_
 refine kD ?_
 refine kD ?_
 refine kD ?_
 refine kD ?_
 refine kD ?_
 refine kD ?_
 refine DW_q rfl sft (q_pick_f rfl rfl) rfl ?_
 refine DW_nil ?_
 refine EW_then ?_
 refine CW_false rfl rfl ?_
 refine CW_skip ?_
 refine EW_then ?_
 refine nx3 ?_
 refine mO ?_
 refine OW_q (q_nilCheck rfl) rfl ?_
 refine OW_q (q_fieldAddr Try.underlying99 rfl rfl Try.sizeOf3 rfl rfl) rfl ?_
 refine OW_q (q_load1_ro Try.isAgg3 rfl (by exact hrow.at_ (j := 0) rfl)) rfl ?_
 refine aO ?_
 refine aO ?_
 refine nx2 ?_
 refine CW_seq ?_
 refine nx3 ?_
 refine mO ?_
 refine OW_q (q_nilCheck rfl) rfl ?_
 refine OW_q (q_fieldAddr Try.underlying96 rfl rfl Try.sizeOf26 rfl rfl) rfl ?_
 refine OW_q (q_fieldAddr Try.underlying26 rfl rfl Try.sizeOf3 rfl rfl) rfl ?_
 refine OW_q (q_load1_ro Try.isAgg3 rfl (by exact hcar.at_ (j := 3) rfl)) rfl ?_
 refine nx2 ?_
 refine CW_block ?_
 refine nx3 ?_
 refine OW_q (q_eqi rfl rfl) rfl ?_
 refine aO ?_
 refine nx2 ?_
 refine CW_false rfl (by simp [hop]) ?_
 refine nx3 ?_
 refine OW_q (q_eqi rfl rfl) rfl ?_
 refine aO ?_
 refine nx2 ?_
 refine CW_true rfl (by simp [hop]) ?_
 refine CW_draw (Sat (Old w) w []) 11 [(0, false), (1, false), (2, false), (3, false), (4, false), (5, false), (6, false), (7, false), (8, false), (9, false), (10, false)] (by kernel_rfl) (Blind.block (Blind.then (Blind.body (by intro c w h; simp at h)))) (by kernel_rfl) (fun w hw => hw.drew) ?_
 refine mD ?_
 refine DW_q rfl sft (q_nilCheck rfl) rfl ?_
 refine DW_q rfl sft (q_fieldAddr Try.underlying96 rfl rfl Try.sizeOf32 rfl rfl) rfl ?_
 refine DW_q rfl sft (q_load1_ro Try.isAgg32 rfl (by exact hcar.at_ (j := 8) rfl)) rfl ?_
 refine mD ?_
 refine DW_q rfl sft (q_nilCheck rfl) rfl ?_
 refine DW_q rfl sft (q_fieldAddr Try.underlying99 rfl rfl Try.sizeOf3 rfl rfl) rfl ?_
 refine DW_q rfl sft (q_load1_ro Try.isAgg3 rfl (by exact hrow.at_ (j := 0) rfl)) rfl ?_
 refine DW_spell 123 (.int .i64 ((x.toNat : Nat) : Int)) rfl (congrArg (Value.int .i64) (by omega)) ?_
 refine DW_q rfl sft (q_indexAddr Try.underlying32 Try.sizeOf3 rfl rfl (by omega)) rfl ?_
 refine DW_q rfl sft (q_load1_ro Try.isAgg3 rfl (by exact hzc)) rfl ?_
 refine DW_q rfl sft (q_assign rfl) rfl ?_
 refine DW_nil ?_
 refine EW_block_normal ?_
 refine EW_then ?_
 refine CW_seq ?_
 obtain ⟨X, hX⟩ : ∃ X : Int, X = ((ls.getD x.toNat 0 : Nat) : Int) := ⟨_, rfl⟩
 obtain ⟨J, hJ⟩ : ∃ J : Int, J = -1 := ⟨_, rfl⟩
 refine CW_spell 5 (.int .i64 X) rfl (by rw [hX, hzd]) ?_
 refine CW_spell 6 (.int .i64 J) rfl (by rw [hJ]) ?_
 refine CW_region ?_
 refine mO ?_
 refine OW_q (q_build (ps := #[(0, .int .i64 X)]) (v := .agg #[.int .i64 X, .slice none 0 0]) rfl (fun w => by kernel_rfl)) rfl ?_
 refine OW_e (e_box rfl rfl) rfl (fun b128 => ?_)
 refine aO ?_
 refine nx2 ?_
 refine CW_seq ?_
 refine nx3 ?_
 refine mO ?_
 refine OW_q (q_nilCheck rfl) rfl ?_
 refine OW_q (q_fieldAddr Try.underlying99 rfl rfl Try.sizeOf97 rfl rfl) rfl ?_
 refine OW_q (q_load1_ro Try.isAgg97 rfl (by exact hrow.at_ (j := 1) rfl)) rfl ?_
 refine OW_q (q_len Try.underlying97 rfl) rfl ?_
 refine mO ?_
 refine nx2 ?_
 refine CW_block ?_
 refine CW_weak (S' := Sat (Old w) w [cel b128 99 [vi X, .slice none 0 0], trow 80 1 encP (.slice none 0 0) [], kidsA ((bk5 ls) .nil) []]) (fun w hw => by
   have h1 := (hw.tnil 80 1 encP).addEmp (A := kidsA ((bk5 ls) .nil) []) ⟨rfl, rfl⟩
   exact h1.sub sbt) ?_
 refine CW_loopP (ι := Nat × For × For × List Nat × List Nat × Value × List Nat) (fun i_ => i_.1 ≤ kb.length ∧ ks = i_.2.1.app i_.2.2.1 ∧ kb = i_.2.2.2.1 ++ i_.2.2.2.2.1 ∧ i_.2.2.2.1.length = i_.1 ∧ KidsAt (Rd (Old w) w) i_.2.2.1 i_.2.2.2.2.1 ∧ Wf h i_.2.2.1 ∧ i_.2.2.2.2.2.2.length = i_.1) (fun i_ => [(0, .pointer (some ⟨cb, 0, none⟩)), (1, .pointer (some ⟨b, 0, none⟩)), (6, .int .i64 J), (7, .pointer (some ⟨b128, 0, none⟩)), (132, .slice ak kb.length ck), (133, .int .i64 (kb.length : Int)), (134, .int .i64 (i_.1 : Int))]) (fun i_ => Sat (Old w) w [cel b128 99 [vi X, i_.2.2.2.2.2.1], trow 80 1 encP i_.2.2.2.2.2.1 i_.2.2.2.2.2.2, kidsA ((bk5 ls) i_.2.1) i_.2.2.2.2.2.2]) (fun i_ => kb.length - i_.1) (0, .nil, ks, [], kb, .slice none 0 0, []) ?_ ⟨rfl, rfl, rfl, rfl, rfl, rfl, rfl, trivial⟩ sft ?_
 · exact ⟨Nat.zero_le _, rfl, rfl, rfl, hks, hwks9, rfl⟩
 intro i_ hpre
 obtain ⟨k, fd, fr, bd, br, v, nb⟩ := i_
 replace hpre : k ≤ kb.length ∧ ks = fd.app fr ∧ kb = bd ++ br ∧ bd.length = k ∧ KidsAt (Rd (Old w) w) fr br ∧ Wf h fr ∧ nb.length = k := hpre
 change CW _ _ _ _ [(0, .pointer (some ⟨cb, 0, none⟩)), (1, .pointer (some ⟨b, 0, none⟩)), (6, .int .i64 J), (7, .pointer (some ⟨b128, 0, none⟩)), (132, .slice ak kb.length ck), (133, .int .i64 (kb.length : Int)), (134, .int .i64 (k : Int))] (Sat (Old w) w [cel b128 99 [vi X, v], trow 80 1 encP v nb, kidsA ((bk5 ls) fd) nb])
 obtain ⟨hk, hfd, hbd, hbl, hkr, hwfr, hnb⟩ := hpre
 refine nx3 ?_
 refine OW_q (q_lss rfl rfl) rfl ?_
 refine nx2 ?_
 refine CW_seq ?_
 refine CW_cond rfl (fun h135 => ?_) (fun h135 => ?_)
 · skip
   have hlt : k < kb.length := by have := of_decide_eq_true h135; omega
   obtain ⟨b1, br2, rfl⟩ : ∃ b1 br2, br = b1 :: br2 := by
     cases br with
     | nil => rw [List.append_nil] at hbd; rw [hbd] at hlt; omega
     | cons b1 br2 => exact ⟨b1, br2, rfl⟩
   have hbk : kb[k]? = some b1 := by rw [hbd, List.getElem?_append_right (by omega), hbl, Nat.sub_self]; rfl
   obtain ⟨p1, hp1, hb1⟩ := hkb k b1 hbk
   subst hp1
   obtain ⟨xk, kk, fr2, rfl, hkk, hk2'⟩ := kids_cons hkr
   have hkl := KidsAt.len hks
   have hks5 := kid_size (x := x) hfd
   have hls5 := len_size (ks)
   refine CW_skip ?_
   refine EW_then ?_
   refine CW_seq ?_
   refine CW_block ?_
   refine nx3 ?_
   refine OW_q (q_indexAddr Try.underlying97 Try.sizeOf80 rfl rfl (by omega)) rfl ?_
   refine OW_q (q_load1_ro Try.isAgg80 rfl (by exact hb1)) rfl ?_
   refine aO ?_
   refine nx2 ?_
   refine CW_draw (Sat (Old w) w [cel b128 99 [vi X, v]]) 12 [(0, false), (1, false), (2, false), (3, false), (4, false), (5, false), (6, false), (7, true), (8, true), (9, true), (10, false), (11, false), (12, true)] (by kernel_rfl) (Blind.block (Blind.then (Blind.again (Blind.block (Blind.then (Blind.body (by intro c w h; simp at h))))))) (by kernel_rfl) (fun w hw => hw.drew) ?_
   refine mD ?_
   refine mD ?_
   refine DW_q rfl sft (q_nilCheck rfl) rfl ?_
   refine DW_q rfl sft (q_fieldAddr Try.underlying99 rfl rfl Try.sizeOf97 rfl rfl) rfl ?_
   refine DW_q rfl sft (q_load1_own Try.isAgg97 rfl rfl swt (by rfl)) rfl ?_
   refine mD ?_
   refine mD ?_
   refine DW_e rfl (e_call Try.call44 rfl (fun w hw => lift_old (ih (For.cons xk kk .nil).size (by omega) xk kk b1 cb w (Nat.le_refl _) (by omega) (hc0.mono fun _ _ h => hw.rd (Rd.old h)) (hkk.mono hw.rd_cl) ⟨hwfr.1, trivial⟩) hw)) rfl (fun _ w hw => by first | exact hw.sub sbt | exact hw.2.sub sbt) (fun x145 => ?_)
   refine DW_e rfl (e_single Try.underlying97 Try.sizeOf80 Try.zeroValue80 (e := 80) (v := .pointer (some ⟨x145, 0, none⟩)) (cs := encP x145) rfl rfl rfl rfl (by decide) (by decide)) rfl (fun _ => sft) (fun b146 => ?_)
   refine DW_e rfl (e_append_t (x0 := x145) (enc := encP) (v := v) (l := nb) Try.underlying97 Try.typeInfo80 rfl rfl rfl rfl rfl rfl rfl pkt rfl (by exact fun w hw => hw.news swt) (by simp [Value.oneCell']) (by omega) (by decide)) rfl (fun _ => sft) (fun v147 => ?_)
   refine DW_fact (fun w hw => hw.tform (v := v147) (l := (nb ++ [x145])) (enc := encP) swt) (fun hf => ?_)
   obtain ⟨a147, c147, rfl, _, _, hb147⟩ := hf
   refine DW_q rfl sft (q_nilCheck rfl) rfl ?_
   refine DW_q rfl sft (q_fieldAddr Try.underlying99 rfl rfl Try.sizeOf97 rfl rfl) rfl ?_
   refine DW_z0 rfl (e_store Try.sizeOf97 rfl rfl rfl rfl swt (by rfl)) (fun _ => ?_)
   refine EW_block_normal ?_
   refine EW_then ?_
   refine CW_region ?_
   refine OW_q (q_add rfl rfl (by omega) (by omega)) rfl ?_
   refine mO ?_
   refine OW_nil ?_
   refine EW_weak (S' := Sat (Old _) _ [cel b128 99 [vi X, .slice a147 (nb ++ [x145]).length c147], trow 80 1 encP (.slice a147 (nb ++ [x145]).length c147) (nb ++ [x145]), kidsA ((bk5 ls) (fd.app (.cons xk kk .nil))) (nb ++ [x145])]) (fun w hw => by
     have h1 : Sat _ _ (kidsA ((bk5 ls) fd) nb :: kidsA ((bk5 ls) (.cons xk kk .nil)) [x145] :: [cel b128 99 [vi X, .slice a147 (nb ++ [x145]).length c147], trow 80 1 encP (.slice a147 (nb ++ [x145]).length c147) (nb ++ [x145])]) w := hw.sub sbt
     exact (sat_kids (T := (bk5 ls)) (bk5_app) h1).sub sbt) ?_
   refine EW_again ((k + 1, fd.app (.cons xk kk .nil), fr2, bd ++ [b1], br2, .slice a147 (nb ++ [x145]).length c147, nb ++ [x145])) ⟨?_, ?_⟩ ⟨rfl, rfl, rfl, rfl, rfl, rfl, rfl, trivial⟩ sft
   · show kb.length - (k + 1) < kb.length - k; omega
   · refine ⟨by show k + 1 ≤ _; omega, ?_, ?_, ?_, hk2', hwfr.2, ?_⟩
     · show ks = _
       rw [hfd, For.app_one]
     · show kb = _
       rw [hbd]; simp
     · show (bd ++ [b1]).length = _
       rw [List.length_append, hbl]; rfl
     · show (nb ++ [x145]).length = _
       rw [List.length_append, hnb]; rfl
 have hke : k = kb.length := by have := of_decide_eq_false h135; omega
 have hbr : br = [] := by
   have := congrArg List.length hbd
   rw [List.length_append] at this
   exact List.eq_nil_of_length_eq_zero (by omega)
 subst hbr
 have hfr := kids_none hkr
 subst hfr
 rw [For.app_nil] at hfd
 subst hfd
 refine CW_fact (fun w hw => hw.tform (v := v) (l := nb) (enc := encP) swt) (fun hf => ?_)
 obtain ⟨an, cn, rfl, _, _, hbn⟩ := hf
 refine CW_exit ?_
 refine EW_then_exit ?_
 refine EW_out ?_
 refine EW_block_exit ?_
 refine EW_then ?_
 refine CW_seq ?_
 refine nx3 ?_
 refine mO ?_
 refine OW_q (q_geq rfl rfl) rfl ?_
 refine nx2 ?_
 refine CW_false rfl (by rw [hJ]; decide) ?_
 refine CW_skip ?_
 refine EW_then ?_
 refine CW_seq ?_
 refine CW_seq ?_
 refine CW_draw (Sat (Old w) w []) 18 [(0, false), (1, false), (2, false), (3, false), (4, false), (5, false), (6, false), (7, false), (8, false), (9, false), (10, false), (11, false), (12, false), (13, false), (14, false), (15, false), (16, false), (17, false)] (by kernel_rfl) (Blind.then (Blind.then (Blind.body (by intro c w h; simp at h)))) (by kernel_rfl) (fun w hw => hw.drew) ?_
 refine mD ?_
 refine DW_q rfl sft (q_nilCheck rfl) rfl ?_
 refine DW_q rfl sft (q_fieldAddr Try.underlying96 rfl rfl Try.sizeOf26 rfl rfl) rfl ?_
 refine DW_q rfl sft (q_fieldAddr Try.underlying26 rfl rfl Try.sizeOf3 rfl rfl) rfl ?_
 refine DW_q rfl sft (q_load1_ro Try.isAgg3 rfl (by exact hcar.at_ (j := 3) rfl)) rfl ?_
 refine DW_q rfl sft (q_eqi rfl rfl) rfl ?_
 refine mD ?_
 refine DW_part (t := 213) rfl (fun hg213 => ?_) (fun hg213 => ?_)
 · skip
   exact absurd hg213 (by simp [hop]) --stop
 refine kD ?_
 refine kD ?_
 refine kD ?_
 refine kD ?_
 refine kD ?_
 refine kD ?_
 refine kD ?_
 refine kD ?_
 refine kD ?_
 refine kD ?_
 refine DW_q rfl sft (q_pick_f rfl rfl) rfl ?_
 refine DW_nil ?_
 refine EW_then ?_
 refine CW_false rfl rfl ?_
 refine CW_skip ?_
 refine EW_then ?_
 refine nx3 ?_
 refine mO ?_
 refine aO ?_
 refine nx2 ?_
 refine CW_ret ?_
 refine ret1 Try.results44 rfl (fun w hw => ?_)
 refine ⟨b128, rfl, ?_⟩
 have h1 : Sat _ _ (cel b128 99 [vi X, .slice an nb.length cn] :: trow 80 1 encP (.slice an nb.length cn) nb :: kidsA ((bk5 ls) ks) nb :: []) w := hw.sub sbt
 rw [hX] at h1
 exact h1.kidNew

end Go.Sy
/- A tree, carried back where a part was taken out, or a name put in. No condition. -/
namespace Go.Sy
open Go Go.RowKit Go.Proofs

theorem kidsAt_split {ρ : Addr → Value → Prop} : ∀ {a c : For} {bs : List Nat}, KidsAt ρ (a.app c) bs → ∃ n1 n2, bs = n1 ++ n2 ∧ n1.length = a.len ∧ KidsAt ρ a n1 ∧ KidsAt ρ c n2
 | .nil, c, bs, h => ⟨[], bs, rfl, rfl, rfl, h⟩
 | .cons x k r, c, bs, ⟨b, bs', v, kb, e, h1, h2, h3, h4⟩ => by
   obtain ⟨n1, n2, e1, e2, k1, k2⟩ := kidsAt_split (a := r) h4
   exact ⟨b :: n1, n2, by rw [e, e1]; rfl, congrArg (· + 1) e2, ⟨b, n1, v, kb, rfl, h1, h2, h3, k1⟩, k2⟩
theorem mid_list {n1 n3 n4 : List Nat} {p k : Nat} (h1 : n1.length = p) (h3 : n3.length = k) : ((n1 ++ (n3 ++ n4)).take (p + k)).drop p = n3 ∧ (n1 ++ (n3 ++ n4)).take p = n1 ∧ (n1 ++ (n3 ++ n4)).drop (p + k) = n4 := by
 subst h1
 subst h3
 refine ⟨?_, List.take_left, ?_⟩
 · rw [← List.append_assoc, ← List.length_append, List.take_left, List.drop_left]
 · rw [← List.append_assoc, ← List.length_append, List.drop_left]
set_option maxRecDepth 20000 in
theorem bck2_any (g : Gram) (s : SStep) (ls : List Nat) (hm : mayB g = true) (hs : mayS g s = true) (h : Gram) (hmh : mayB h = true) (hop : s.op = 2) (hh : h.rules[s.a.toNat]? = some (extR (ruleAt g s.a) s.b.toNat s.c.toNat (nameS g.names))) : ∀ (N : Nat) (x : Int) (ks : For) (b cb : Nat) (w : World), (For.cons x ks .nil).size ≤ N → N ≤ 5000 → CarAt (Cl w) cb g s ls → KidsAt (Cl w) (.cons x ks .nil) [b] → Wf h (.cons x ks .nil) → Calls Try.prog 44 #[.pointer (some ⟨cb, 0, none⟩), .pointer (some ⟨b, 0, none⟩)] w (fun e w' => ∃ b' : Nat, e = .returned (.pointer (some ⟨b', 0, none⟩)) ∧ Sat (Old w) w [kidsA ((bk2 s.a (nms ((ruleAt g s.a).right.take s.b.toNat))) (.cons x ks .nil)) [b']] w') := by
 intro N
 refine Nat.strongRecOn N ?_
 clear N
 intro N ih x ks b cb w hsz hN hc0 hk0 hwf
 obtain ⟨rv, lv, hcar, hrr, hll⟩ := (hc0.mono old_rd).ex
 obtain ⟨ar, cr, rfl, hr1, hr2, hrs⟩ := hrr
 obtain ⟨al, cl, rfl, hl1, hl2, hls1⟩ := hll
 rw [show (natV ls).length = ls.length by rw [List.length_map]] at hcar hl1
 obtain ⟨ak, kb, ck, hrow, hk1, hk2, hkb, hks⟩ := kids_top (hk0.mono old_rd)
 obtain ⟨⟨q, yq, hx0, hq, hdq⟩, _⟩ := id hwf
 have hwks9 := der_wf hdq
 have hxl := (List.getElem?_eq_some_iff.1 hq).1
 have hq8 := (may_rule hmh hq).2.2
 have hks8 : kb.length ≤ 8 := by rw [KidsAt.len hks, der_len hdq]; exact Nat.le_trans (nms_le _) hq8
 have hM := mayB_true.1 hm
 obtain ⟨ha0, hb0, hbc, qa, hqa, hra, hcl⟩ := may_ext hs hop
 rw [hra] at hh
 obtain ⟨pqa, hpqa, rvq, hsy, hrowq⟩ := hrs s.a.toNat qa hqa
 subst hpqa
 obtain ⟨ya, yc, rfl, hy1, hy2, hys⟩ := id hsy
 have hqal := (List.getElem?_eq_some_iff.1 hqa).1
 have hqa8 := (may_rule hm hqa).2.2
 
 refine calls_CW Try.func44 rfl Try.ntmps44 rfl (Sat.start w) ?_
 refine nx3 ?_
 refine aO ?_
 refine nx2 ?_
 refine CW_seq ?_
 refine CW_seq ?_
 refine CW_draw (Sat (Old w) w []) 26 [(0, false), (1, false), (2, false), (3, false), (4, false), (5, false), (6, false), (7, false), (8, false), (9, false), (10, false), (11, false), (12, false), (13, false), (14, false), (15, false), (16, false), (17, false), (18, false), (19, false), (20, false), (21, false), (22, false), (23, false), (24, false), (25, false)] (by kernel_rfl) (Blind.then (Blind.then (Blind.body (by intro c w h; simp at h)))) (by kernel_rfl) (fun w hw => hw.drew) ?_
 refine mD ?_
 refine DW_q rfl sft (q_nilCheck rfl) rfl ?_
 refine DW_q rfl sft (q_fieldAddr Try.underlying96 rfl rfl Try.sizeOf26 rfl rfl) rfl ?_
 refine DW_q rfl sft (q_fieldAddr Try.underlying26 rfl rfl Try.sizeOf3 rfl rfl) rfl ?_
 refine DW_q rfl sft (q_load1_ro Try.isAgg3 rfl (by exact hcar.at_ (j := 3) rfl)) rfl ?_
 refine DW_q rfl sft (q_eqi rfl rfl) rfl ?_
 refine mD ?_
 refine DW_part (t := 20) rfl (fun hg20 => ?_) (fun hg20 => ?_)
 · skip
   exact absurd hg20 (by simp [hop]) --stop
 refine kD ?_
 refine kD ?_
 refine kD ?_
 refine kD ?_
 refine kD ?_
 refine kD ?_
 refine kD ?_
 refine kD ?_
 refine kD ?_
 refine kD ?_
 refine kD ?_
 refine kD ?_
 refine kD ?_
 refine kD ?_
 refine kD ?_
 refine kD ?_
 refine kD ?_
 refine kD ?_
 refine DW_q rfl sft (q_pick_f rfl rfl) rfl ?_
 refine DW_nil ?_
 refine EW_then ?_
 refine CW_false rfl rfl ?_
 refine CW_skip ?_
 refine EW_then ?_
 refine nx3 ?_
 refine mO ?_
 refine OW_q (q_nilCheck rfl) rfl ?_
 refine OW_q (q_fieldAddr Try.underlying99 rfl rfl Try.sizeOf3 rfl rfl) rfl ?_
 refine OW_q (q_load1_ro Try.isAgg3 rfl (by exact hrow.at_ (j := 0) rfl)) rfl ?_
 refine aO ?_
 refine aO ?_
 refine nx2 ?_
 refine CW_seq ?_
 refine nx3 ?_
 refine mO ?_
 refine OW_q (q_nilCheck rfl) rfl ?_
 refine OW_q (q_fieldAddr Try.underlying96 rfl rfl Try.sizeOf26 rfl rfl) rfl ?_
 refine OW_q (q_fieldAddr Try.underlying26 rfl rfl Try.sizeOf3 rfl rfl) rfl ?_
 refine OW_q (q_load1_ro Try.isAgg3 rfl (by exact hcar.at_ (j := 3) rfl)) rfl ?_
 refine nx2 ?_
 refine CW_block ?_
 refine nx3 ?_
 refine OW_q (q_eqi rfl rfl) rfl ?_
 refine aO ?_
 refine nx2 ?_
 refine CW_false rfl (by simp [hop]) ?_
 refine nx3 ?_
 refine OW_q (q_eqi rfl rfl) rfl ?_
 refine aO ?_
 refine nx2 ?_
 refine CW_false rfl (by simp [hop]) ?_
 refine CW_skip ?_
 refine EW_block_normal ?_
 refine EW_then ?_
 refine CW_seq ?_
 obtain ⟨X, hX⟩ : ∃ X : Int, X = x := ⟨_, rfl⟩
 obtain ⟨J, hJ⟩ : ∃ J : Int, J = -1 := ⟨_, rfl⟩
 refine CW_spell 5 (.int .i64 X) rfl (by rw [hX]) ?_
 refine CW_spell 6 (.int .i64 J) rfl (by rw [hJ]) ?_
 refine CW_region ?_
 refine mO ?_
 refine OW_q (q_build (ps := #[(0, .int .i64 X)]) (v := .agg #[.int .i64 X, .slice none 0 0]) rfl (fun w => by kernel_rfl)) rfl ?_
 refine OW_e (e_box rfl rfl) rfl (fun b128 => ?_)
 refine aO ?_
 refine nx2 ?_
 refine CW_seq ?_
 refine nx3 ?_
 refine mO ?_
 refine OW_q (q_nilCheck rfl) rfl ?_
 refine OW_q (q_fieldAddr Try.underlying99 rfl rfl Try.sizeOf97 rfl rfl) rfl ?_
 refine OW_q (q_load1_ro Try.isAgg97 rfl (by exact hrow.at_ (j := 1) rfl)) rfl ?_
 refine OW_q (q_len Try.underlying97 rfl) rfl ?_
 refine mO ?_
 refine nx2 ?_
 refine CW_block ?_
 refine CW_weak (S' := Sat (Old w) w [cel b128 99 [vi X, .slice none 0 0], trow 80 1 encP (.slice none 0 0) [], kidsA ((bk2 s.a (nms ((ruleAt g s.a).right.take s.b.toNat))) .nil) []]) (fun w hw => by
   have h1 := (hw.tnil 80 1 encP).addEmp (A := kidsA ((bk2 s.a (nms ((ruleAt g s.a).right.take s.b.toNat))) .nil) []) ⟨rfl, rfl⟩
   exact h1.sub sbt) ?_
 refine CW_loopP (ι := Nat × For × For × List Nat × List Nat × Value × List Nat) (fun i_ => i_.1 ≤ kb.length ∧ ks = i_.2.1.app i_.2.2.1 ∧ kb = i_.2.2.2.1 ++ i_.2.2.2.2.1 ∧ i_.2.2.2.1.length = i_.1 ∧ KidsAt (Rd (Old w) w) i_.2.2.1 i_.2.2.2.2.1 ∧ Wf h i_.2.2.1 ∧ i_.2.2.2.2.2.2.length = i_.1) (fun i_ => [(0, .pointer (some ⟨cb, 0, none⟩)), (1, .pointer (some ⟨b, 0, none⟩)), (6, .int .i64 J), (7, .pointer (some ⟨b128, 0, none⟩)), (132, .slice ak kb.length ck), (133, .int .i64 (kb.length : Int)), (134, .int .i64 (i_.1 : Int))]) (fun i_ => Sat (Old w) w [cel b128 99 [vi X, i_.2.2.2.2.2.1], trow 80 1 encP i_.2.2.2.2.2.1 i_.2.2.2.2.2.2, kidsA ((bk2 s.a (nms ((ruleAt g s.a).right.take s.b.toNat))) i_.2.1) i_.2.2.2.2.2.2]) (fun i_ => kb.length - i_.1) (0, .nil, ks, [], kb, .slice none 0 0, []) ?_ ⟨rfl, rfl, rfl, rfl, rfl, rfl, rfl, trivial⟩ sft ?_
 · exact ⟨Nat.zero_le _, rfl, rfl, rfl, hks, hwks9, rfl⟩
 intro i_ hpre
 obtain ⟨k, fd, fr, bd, br, v, nb⟩ := i_
 replace hpre : k ≤ kb.length ∧ ks = fd.app fr ∧ kb = bd ++ br ∧ bd.length = k ∧ KidsAt (Rd (Old w) w) fr br ∧ Wf h fr ∧ nb.length = k := hpre
 change CW _ _ _ _ [(0, .pointer (some ⟨cb, 0, none⟩)), (1, .pointer (some ⟨b, 0, none⟩)), (6, .int .i64 J), (7, .pointer (some ⟨b128, 0, none⟩)), (132, .slice ak kb.length ck), (133, .int .i64 (kb.length : Int)), (134, .int .i64 (k : Int))] (Sat (Old w) w [cel b128 99 [vi X, v], trow 80 1 encP v nb, kidsA ((bk2 s.a (nms ((ruleAt g s.a).right.take s.b.toNat))) fd) nb])
 obtain ⟨hk, hfd, hbd, hbl, hkr, hwfr, hnb⟩ := hpre
 refine nx3 ?_
 refine OW_q (q_lss rfl rfl) rfl ?_
 refine nx2 ?_
 refine CW_seq ?_
 refine CW_cond rfl (fun h135 => ?_) (fun h135 => ?_)
 · skip
   have hlt : k < kb.length := by have := of_decide_eq_true h135; omega
   obtain ⟨b1, br2, rfl⟩ : ∃ b1 br2, br = b1 :: br2 := by
     cases br with
     | nil => rw [List.append_nil] at hbd; rw [hbd] at hlt; omega
     | cons b1 br2 => exact ⟨b1, br2, rfl⟩
   have hbk : kb[k]? = some b1 := by rw [hbd, List.getElem?_append_right (by omega), hbl, Nat.sub_self]; rfl
   obtain ⟨p1, hp1, hb1⟩ := hkb k b1 hbk
   subst hp1
   obtain ⟨xk, kk, fr2, rfl, hkk, hk2'⟩ := kids_cons hkr
   have hkl := KidsAt.len hks
   have hks5 := kid_size (x := x) hfd
   have hls5 := len_size (ks)
   refine CW_skip ?_
   refine EW_then ?_
   refine CW_seq ?_
   refine CW_block ?_
   refine nx3 ?_
   refine OW_q (q_indexAddr Try.underlying97 Try.sizeOf80 rfl rfl (by omega)) rfl ?_
   refine OW_q (q_load1_ro Try.isAgg80 rfl (by exact hb1)) rfl ?_
   refine aO ?_
   refine nx2 ?_
   refine CW_draw (Sat (Old w) w [cel b128 99 [vi X, v]]) 12 [(0, false), (1, false), (2, false), (3, false), (4, false), (5, false), (6, false), (7, true), (8, true), (9, true), (10, false), (11, false), (12, true)] (by kernel_rfl) (Blind.block (Blind.then (Blind.again (Blind.block (Blind.then (Blind.body (by intro c w h; simp at h))))))) (by kernel_rfl) (fun w hw => hw.drew) ?_
   refine mD ?_
   refine mD ?_
   refine DW_q rfl sft (q_nilCheck rfl) rfl ?_
   refine DW_q rfl sft (q_fieldAddr Try.underlying99 rfl rfl Try.sizeOf97 rfl rfl) rfl ?_
   refine DW_q rfl sft (q_load1_own Try.isAgg97 rfl rfl swt (by rfl)) rfl ?_
   refine mD ?_
   refine mD ?_
   refine DW_e rfl (e_call Try.call44 rfl (fun w hw => lift_old (ih (For.cons xk kk .nil).size (by omega) xk kk b1 cb w (Nat.le_refl _) (by omega) (hc0.mono fun _ _ h => hw.rd (Rd.old h)) (hkk.mono hw.rd_cl) ⟨hwfr.1, trivial⟩) hw)) rfl (fun _ w hw => by first | exact hw.sub sbt | exact hw.2.sub sbt) (fun x145 => ?_)
   refine DW_e rfl (e_single Try.underlying97 Try.sizeOf80 Try.zeroValue80 (e := 80) (v := .pointer (some ⟨x145, 0, none⟩)) (cs := encP x145) rfl rfl rfl rfl (by decide) (by decide)) rfl (fun _ => sft) (fun b146 => ?_)
   refine DW_e rfl (e_append_t (x0 := x145) (enc := encP) (v := v) (l := nb) Try.underlying97 Try.typeInfo80 rfl rfl rfl rfl rfl rfl rfl pkt rfl (by exact fun w hw => hw.news swt) (by simp [Value.oneCell']) (by omega) (by decide)) rfl (fun _ => sft) (fun v147 => ?_)
   refine DW_fact (fun w hw => hw.tform (v := v147) (l := (nb ++ [x145])) (enc := encP) swt) (fun hf => ?_)
   obtain ⟨a147, c147, rfl, _, _, hb147⟩ := hf
   refine DW_q rfl sft (q_nilCheck rfl) rfl ?_
   refine DW_q rfl sft (q_fieldAddr Try.underlying99 rfl rfl Try.sizeOf97 rfl rfl) rfl ?_
   refine DW_z0 rfl (e_store Try.sizeOf97 rfl rfl rfl rfl swt (by rfl)) (fun _ => ?_)
   refine EW_block_normal ?_
   refine EW_then ?_
   refine CW_region ?_
   refine OW_q (q_add rfl rfl (by omega) (by omega)) rfl ?_
   refine mO ?_
   refine OW_nil ?_
   refine EW_weak (S' := Sat (Old _) _ [cel b128 99 [vi X, .slice a147 (nb ++ [x145]).length c147], trow 80 1 encP (.slice a147 (nb ++ [x145]).length c147) (nb ++ [x145]), kidsA ((bk2 s.a (nms ((ruleAt g s.a).right.take s.b.toNat))) (fd.app (.cons xk kk .nil))) (nb ++ [x145])]) (fun w hw => by
     have h1 : Sat _ _ (kidsA ((bk2 s.a (nms ((ruleAt g s.a).right.take s.b.toNat))) fd) nb :: kidsA ((bk2 s.a (nms ((ruleAt g s.a).right.take s.b.toNat))) (.cons xk kk .nil)) [x145] :: [cel b128 99 [vi X, .slice a147 (nb ++ [x145]).length c147], trow 80 1 encP (.slice a147 (nb ++ [x145]).length c147) (nb ++ [x145])]) w := hw.sub sbt
     exact (sat_kids (T := (bk2 s.a (nms ((ruleAt g s.a).right.take s.b.toNat)))) (bk2_app) h1).sub sbt) ?_
   refine EW_again ((k + 1, fd.app (.cons xk kk .nil), fr2, bd ++ [b1], br2, .slice a147 (nb ++ [x145]).length c147, nb ++ [x145])) ⟨?_, ?_⟩ ⟨rfl, rfl, rfl, rfl, rfl, rfl, rfl, trivial⟩ sft
   · show kb.length - (k + 1) < kb.length - k; omega
   · refine ⟨by show k + 1 ≤ _; omega, ?_, ?_, ?_, hk2', hwfr.2, ?_⟩
     · show ks = _
       rw [hfd, For.app_one]
     · show kb = _
       rw [hbd]; simp
     · show (bd ++ [b1]).length = _
       rw [List.length_append, hbl]; rfl
     · show (nb ++ [x145]).length = _
       rw [List.length_append, hnb]; rfl
 have hke : k = kb.length := by have := of_decide_eq_false h135; omega
 have hbr : br = [] := by
   have := congrArg List.length hbd
   rw [List.length_append] at this
   exact List.eq_nil_of_length_eq_zero (by omega)
 subst hbr
 have hfr := kids_none hkr
 subst hfr
 rw [For.app_nil] at hfd
 subst hfd
 refine CW_fact (fun w hw => hw.tform (v := v) (l := nb) (enc := encP) swt) (fun hf => ?_)
 obtain ⟨an, cn, rfl, _, _, hbn⟩ := hf
 refine CW_exit ?_
 refine EW_then_exit ?_
 refine EW_out ?_
 refine EW_block_exit ?_
 refine EW_then ?_
 refine CW_seq ?_
 refine nx3 ?_
 refine mO ?_
 refine OW_q (q_geq rfl rfl) rfl ?_
 refine nx2 ?_
 refine CW_false rfl (by rw [hJ]; decide) ?_
 refine CW_skip ?_
 refine EW_then ?_
 refine CW_seq ?_
 refine CW_seq ?_
 refine CW_draw (Sat (Old w) w []) 18 [(0, false), (1, false), (2, false), (3, false), (4, false), (5, false), (6, false), (7, false), (8, false), (9, false), (10, false), (11, false), (12, false), (13, false), (14, false), (15, false), (16, false), (17, false)] (by kernel_rfl) (Blind.then (Blind.then (Blind.body (by intro c w h; simp at h)))) (by kernel_rfl) (fun w hw => hw.drew) ?_
 refine mD ?_
 refine DW_q rfl sft (q_nilCheck rfl) rfl ?_
 refine DW_q rfl sft (q_fieldAddr Try.underlying96 rfl rfl Try.sizeOf26 rfl rfl) rfl ?_
 refine DW_q rfl sft (q_fieldAddr Try.underlying26 rfl rfl Try.sizeOf3 rfl rfl) rfl ?_
 refine DW_q rfl sft (q_load1_ro Try.isAgg3 rfl (by exact hcar.at_ (j := 3) rfl)) rfl ?_
 refine DW_q rfl sft (q_eqi rfl rfl) rfl ?_
 refine mD ?_
 refine DW_part (t := 213) rfl (fun hg213 => ?_) (fun hg213 => ?_)
 · skip
   refine DW_qg rfl sft rfl rfl rfl (q_move rfl) rfl ?_
   refine DW_qg rfl sft rfl rfl rfl (q_nilCheck rfl) rfl ?_
   refine DW_qg rfl sft rfl rfl rfl (q_fieldAddr Try.underlying99 rfl rfl Try.sizeOf3 rfl rfl) rfl ?_
   refine DW_qg rfl sft rfl rfl rfl (q_load1_ro Try.isAgg3 rfl (by exact hrow.at_ (j := 0) rfl)) rfl ?_
   refine DW_qg rfl sft rfl rfl rfl (q_move rfl) rfl ?_
   refine DW_qg rfl sft rfl rfl rfl (q_nilCheck rfl) rfl ?_
   refine DW_qg rfl sft rfl rfl rfl (q_fieldAddr Try.underlying96 rfl rfl Try.sizeOf26 rfl rfl) rfl ?_
   refine DW_qg rfl sft rfl rfl rfl (q_fieldAddr Try.underlying26 rfl rfl Try.sizeOf3 rfl rfl) rfl ?_
   refine DW_qg rfl sft rfl rfl rfl (q_load1_ro Try.isAgg3 rfl (by exact hcar.at_ (j := 4) rfl)) rfl ?_
   refine DW_qg rfl sft rfl rfl rfl (q_eqi rfl rfl) rfl ?_
   refine DW_q rfl sft (q_pick_t rfl rfl) rfl ?_
   refine DW_nil ?_
   refine EW_then ?_
   refine CW_cond rfl (fun h224 => ?_) (fun h224 => ?_)
   · skip
     have hxa : x = s.a := by simpa using h224
     have hqq : q = extR qa s.b.toNat s.c.toNat (nameS g.names) := by rw [hxa, hh] at hq; exact (Option.some.inj hq).symm
     subst hqq
     obtain ⟨f1, f2, y1, y2, hks1, hyq, d1, d2⟩ := der_cut (show Der h (qa.right.take s.b.toNat ++ nameS g.names :: qa.right.drop s.c.toNat) ks yq from hdq)
     obtain ⟨x2, k2, f4, q2, hf2, hx20, hq2, hq2l, hk2n⟩ : ∃ x2 k2 f4 q2, f2 = .cons x2 k2 f4 ∧ 0 ≤ x2 ∧ h.rules[x2.toNat]? = some q2 ∧ q2.left = g.names ∧ k2.len = nms q2.right := by
       cases d2 with
       | term h1 _ => cases h1
       | name _ h0 hq hl hk _ => exact ⟨_, _, _, _, rfl, h0, hq, hl, der_len hk⟩
     subst hf2
     have hfl1 : f1.len = (nms ((ruleAt g s.a).right.take s.b.toNat)) := by rw [hra]; exact der_len d1
     have hx2a : x2 ≠ s.a := fun e => by
       rw [e, hh] at hq2
       injection hq2 with hq2
       subst hq2
       have h9 := (may_rule hm hqa).2.1
       have h8 : qa.left = g.names := hq2l
       omega
     have hTk : (bk2 s.a (nms ((ruleAt g s.a).right.take s.b.toNat))) ks = ((bk2 s.a (nms ((ruleAt g s.a).right.take s.b.toNat))) f1).app (.cons x2 ((bk2 s.a (nms ((ruleAt g s.a).right.take s.b.toNat))) k2) ((bk2 s.a (nms ((ruleAt g s.a).right.take s.b.toNat))) f4)) := by
       rw [hks1, bk2_app]
       congr 1
       show For.cons _ (if x2 = s.a then _ else _) _ = _
       rw [if_neg hx2a]
     have hTl : ((bk2 s.a (nms ((ruleAt g s.a).right.take s.b.toNat))) f1).len = (nms ((ruleAt g s.a).right.take s.b.toNat)) := by rw [bk2_len]; exact hfl1
     refine CW_ex (S' := fun (z : List Nat × List Nat) w' => (nb = z.1 ++ z.2 ∧ z.1.length = ((bk2 s.a (nms ((ruleAt g s.a).right.take s.b.toNat))) f1).len) ∧ Sat (Old w) w (kidsA ((bk2 s.a (nms ((ruleAt g s.a).right.take s.b.toNat))) f1) z.1 :: kidsA (.cons x2 ((bk2 s.a (nms ((ruleAt g s.a).right.take s.b.toNat))) k2) ((bk2 s.a (nms ((ruleAt g s.a).right.take s.b.toNat))) f4)) z.2 :: [cel b128 99 [vi X, .slice an nb.length cn], trow 80 1 encP (.slice an nb.length cn) nb]) w') (fun w' hw => by
       have h1 : Sat _ _ (kidsA ((bk2 s.a (nms ((ruleAt g s.a).right.take s.b.toNat))) ks) nb :: [cel b128 99 [vi X, .slice an nb.length cn], trow 80 1 encP (.slice an nb.length cn) nb]) w' := hw.sub sbt
       rw [hTk] at h1
       exact h1.kidsCut) (fun z => ?_)
     obtain ⟨n1, n2⟩ := z
     refine CW_pure fun hz => ?_
     obtain ⟨hn1, hn2⟩ := hz
     have hn1 : nb = n1 ++ n2 := hn1
     have hn2 : n1.length = ((bk2 s.a (nms ((ruleAt g s.a).right.take s.b.toNat))) f1).len := hn2
     refine CW_ex (S' := fun (z : Nat × List Nat × Value × List Nat) w' => n2 = z.1 :: z.2.1 ∧ Sat (Old w) w (cel z.1 99 [vi x2, z.2.2.1] :: trow 80 1 encP z.2.2.1 z.2.2.2 :: kidsA ((bk2 s.a (nms ((ruleAt g s.a).right.take s.b.toNat))) k2) z.2.2.2 :: kidsA ((bk2 s.a (nms ((ruleAt g s.a).right.take s.b.toNat))) f4) z.2.1 :: [kidsA ((bk2 s.a (nms ((ruleAt g s.a).right.take s.b.toNat))) f1) n1, cel b128 99 [vi X, .slice an nb.length cn], trow 80 1 encP (.slice an nb.length cn) nb]) w') (fun w' hw => Sat.kidOpen (hw.sub sbt)) (fun z => ?_)
     obtain ⟨b2p, n4, v2, kb2⟩ := z
     refine CW_pure fun hz2 => ?_
     have hz2 : n2 = b2p :: n4 := hz2
     subst hz2
     rw [hTl] at hn2
     have hnb1 : nb[(nms ((ruleAt g s.a).right.take s.b.toNat))]? = some b2p := by rw [hn1, List.getElem?_append_right (by omega), hn2, Nat.sub_self]; rfl
     have hnbl := (List.getElem?_eq_some_iff.1 hnb1).1
     have hlist : (nb.take (nms ((ruleAt g s.a).right.take s.b.toNat)) ++ kb2 ++ nb.drop ((nms ((ruleAt g s.a).right.take s.b.toNat)) + 1)) = n1 ++ (kb2 ++ n4) := by
       have e1 : nb.take (nms ((ruleAt g s.a).right.take s.b.toNat)) = n1 := by rw [hn1, ← hn2, List.take_left]
       have e2 : nb.drop ((nms ((ruleAt g s.a).right.take s.b.toNat)) + 1) = n4 := by rw [hn1, ← hn2, show n1.length + 1 = (n1 ++ [b2p]).length by simp, show n1 ++ b2p :: n4 = (n1 ++ [b2p]) ++ n4 by simp, List.drop_left]
       rw [e1, e2, List.append_assoc]
     refine CW_fact (fun w hw => hw.tform (v := v2) (l := kb2) (enc := encP) swt) (fun hf => ?_)
     obtain ⟨a2k, c2k, rfl, _, _, hb2k⟩ := hf
     refine CW_fact (S := _) (fun w hw => Sat.kidsLen (f := (bk2 s.a (nms ((ruleAt g s.a).right.take s.b.toNat))) k2) (bs := kb2) hw swt) (fun hk2l => ?_)
     obtain ⟨gn, rfl⟩ := hbn (by omega)
     rw [bk2_len] at hk2l
     have hk28 : k2.len ≤ 8 := by rw [hk2n]; exact Nat.le_trans (nms_le _) (may_rule hmh hq2).2.2
     refine CW_seq ?_
     refine CW_draw (Sat (Old w) w []) 21 [(0, false), (1, false), (2, false), (3, false), (4, false), (5, false), (6, false), (7, false), (8, false), (9, false), (10, false), (11, false), (12, false), (13, false), (14, false), (15, false), (16, false), (17, false), (18, false), (19, true), (20, false)] (by kernel_rfl) (Blind.then (Blind.then (Blind.body (by intro c w h; simp at h)))) (by kernel_rfl) (fun w hw => hw.drew) ?_
     refine mD ?_
     refine DW_q rfl sft (q_nilCheck rfl) rfl ?_
     refine DW_q rfl sft (q_fieldAddr Try.underlying96 rfl rfl Try.sizeOf24 rfl rfl) rfl ?_
     refine DW_q rfl sft (q_fieldAddr Try.underlying24 rfl rfl Try.sizeOf22 rfl rfl) rfl ?_
     refine DW_q rfl sft (q_load1_ro Try.isAgg22 rfl (by exact hcar.at_ (j := 2) rfl)) rfl ?_
     refine mD ?_
     refine DW_q rfl sft (q_nilCheck rfl) rfl ?_
     refine DW_q rfl sft (q_fieldAddr Try.underlying96 rfl rfl Try.sizeOf26 rfl rfl) rfl ?_
     refine DW_q rfl sft (q_fieldAddr Try.underlying26 rfl rfl Try.sizeOf3 rfl rfl) rfl ?_
     refine DW_q rfl sft (q_load1_ro Try.isAgg3 rfl (by exact hcar.at_ (j := 4) rfl)) rfl ?_
     refine DW_spell 234 (.int .i64 ((s.a.toNat : Nat) : Int)) rfl (congrArg (Value.int .i64) (by omega)) ?_
     refine DW_q rfl sft (q_indexAddr Try.underlying22 Try.sizeOf49 rfl rfl hqal) rfl ?_
     refine DW_q rfl sft (q_fieldAddr Try.underlying49 rfl rfl Try.sizeOf46 rfl rfl) rfl ?_
     refine DW_q rfl sft (q_load1_ro Try.isAgg46 rfl (by exact hrowq.at_ (j := 1) rfl)) rfl ?_
     refine mD ?_
     refine DW_q rfl sft (q_nilCheck rfl) rfl ?_
     refine DW_q rfl sft (q_fieldAddr Try.underlying96 rfl rfl Try.sizeOf26 rfl rfl) rfl ?_
     refine DW_q rfl sft (q_fieldAddr Try.underlying26 rfl rfl Try.sizeOf3 rfl rfl) rfl ?_
     refine DW_q rfl sft (q_load1_ro Try.isAgg3 rfl (by exact hcar.at_ (j := 5) rfl)) rfl ?_
     refine DW_spell 242 (.int .i64 ((s.b.toNat : Nat) : Int)) rfl (congrArg (Value.int .i64) (by omega)) ?_
     refine DW_q rfl sft (q_slice (l := 0) (h := s.b.toNat) Try.underlying46 Try.sizeOf51 rfl (.inl ⟨rfl, rfl⟩) (.inr ⟨_, rfl, rfl⟩) (by omega) (by omega) (by omega)) rfl ?_
     refine DW_e rfl (e_call Try.call60 rfl (fun w hw => lift_ro (names_any _ ((qa.right.take s.b.toNat).drop 0) w (by rw [List.length_drop, List.length_take]; omega) (SlAt.sub (hsy.mono fun _ _ h => hw.rd h) (by omega) (by omega))) hw)) rfl (fun _ w hw => by first | exact hw.sub sbt | exact hw.2.sub sbt) (fun x244 => ?_)
     refine DW_spell 244 (.int .i64 (((nms ((ruleAt g s.a).right.take s.b.toNat)) : Nat) : Int)) rfl (by rw [List.drop_zero, hra]) ?_
     refine DW_q rfl sft (q_assign rfl) rfl ?_
     refine DW_nil ?_
     refine EW_then ?_
     refine CW_drawT (Sat (Old w) w [cel b128 99 [vi X, .slice (some ⟨gn, 0, none⟩) nb.length cn], trow 80 1 encP (.slice (some ⟨gn, 0, none⟩) nb.length cn) nb, cel b2p 99 [vi x2, .slice a2k kb2.length c2k]]) [18] (.q 0 false (.q 1 false (.q 2 false (.q 3 false (.q 4 true (.q 5 false (.q 6 false (.q 7 false (.q 8 false (.q 9 false (.q 10 false (.q 12 false (.e 11 (.q 13 false (.e 14 (.q 15 false (.q 16 false (.q 17 true (.e 18 (.q 19 false (.q 20 false (.e 21 .nil)))))))))))))))))))))) (by kernel_rfl) (Blind.then (Blind.body (by intro c w h; simp at h))) (by kernel_rfl) (fun w hw => hw.drew) ?_
     refine DT_p rfl (.inr (fun w hw => (by exact hw.sub sbt))) (q_move rfl) rfl ?_
     refine DT_p rfl (.inr (fun w hw => (by exact hw.sub sbt))) (q_move rfl) rfl ?_
     refine DT_p rfl (.inr (fun w hw => (by exact hw.sub sbt))) (q_nilCheck rfl) rfl ?_
     refine DT_p rfl (.inr (fun w hw => (by exact hw.sub sbt))) (q_fieldAddr Try.underlying99 rfl rfl Try.sizeOf97 rfl rfl) rfl ?_
     refine DT_q rfl (fun w hw => (by exact hw.sub sbt)) (q_load1_own Try.isAgg97 rfl rfl swt (by rfl)) rfl ?_
     refine DT_p rfl (.inr (fun w hw => (by exact hw.sub sbt))) (q_move rfl) rfl ?_
     refine DT_p rfl (.inr (fun w hw => (by exact hw.sub sbt))) (q_move rfl) rfl ?_
     refine DT_p rfl (.inr (fun w hw => (by exact hw.sub sbt))) (q_add rfl rfl (by omega) (by omega)) rfl ?_
     refine DT_p rfl (.inr (fun w hw => (by exact hw.sub sbt))) (q_move rfl) rfl ?_
     refine DT_p rfl (.inr (fun w hw => (by exact hw.sub sbt))) (q_nilCheck rfl) rfl ?_
     refine DT_p rfl (.inr (fun w hw => (by exact hw.sub sbt))) (q_fieldAddr Try.underlying99 rfl rfl Try.sizeOf97 rfl rfl) rfl ?_
     refine DT_p rfl (.inr (fun w hw => (by exact hw.sub sbt))) (q_move rfl) rfl ?_
     refine DT_e rfl (ef_of_q (q_load1_own Try.isAgg97 rfl rfl swt (by rfl))) rfl (.inr (fun _ => sft)) (fun _ => ?_)
     refine DT_p rfl (.inr (fun w hw => (by exact hw.sub sbt))) (q_indexAddr Try.underlying97 Try.sizeOf80 rfl rfl (hnbl)) rfl ?_
     refine DT_e rfl (ef_of_q (q_load_t1 (enc := encP) (k := (nms ((ruleAt g s.a).right.take s.b.toNat))) (v := .slice (some ⟨gn, 0, none⟩) nb.length cn) (l := nb) Try.isAgg80 (fun _ => rfl) rfl swt rfl hnb1 rfl)) rfl (.inr (fun _ => sft)) (fun _ => ?_)
     refine DT_p rfl (.inr (fun w hw => (by exact hw.sub sbt))) (q_nilCheck rfl) rfl ?_
     refine DT_p rfl (.inr (fun w hw => (by exact hw.sub sbt))) (q_fieldAddr Try.underlying99 rfl rfl Try.sizeOf97 rfl rfl) rfl ?_
     refine DT_q rfl (fun w hw => (by exact hw.sub sbt)) (q_load1_own Try.isAgg97 rfl rfl swt (by rfl)) rfl ?_
     refine DT_e rfl (e_call Try.call62 rfl (fun w hw => lift_two (VA := trow 80 1 encP (.slice a2k kb2.length c2k) kb2) (A := trow 80 1 encP (.slice (some ⟨gn, 0, none⟩) nb.length cn) nb) (L1 := [trow 80 1 encP (.slice (some ⟨gn, 0, none⟩) nb.length cn) nb, cel b128 99 [vi X, .slice (some ⟨gn, 0, none⟩) nb.length cn], cel b2p 99 [vi x2, .slice a2k kb2.length c2k], kidsA ((bk2 s.a (nms ((ruleAt g s.a).right.take s.b.toNat))) k2) kb2, kidsA ((bk2 s.a (nms ((ruleAt g s.a).right.take s.b.toNat))) f4) n4, kidsA ((bk2 s.a (nms ((ruleAt g s.a).right.take s.b.toNat))) f1) n1]) Hole.head (hw.sub sbt) (fun F hF => replP_any (.slice (some ⟨gn, 0, none⟩) nb.length cn) nb kb2 (nms ((ruleAt g s.a).right.take s.b.toNat)) ((nms ((ruleAt g s.a).right.take s.b.toNat)) + 1) c2k a2k _ _ w _ (by omega) (by omega) (by omega) (VIn.star VIn.trow) hF))) rfl (.inl rfl) (fun x263 => ?_)
     refine DT_fact (fun w hw => hw.tform (v := x263) (l := (nb.take (nms ((ruleAt g s.a).right.take s.b.toNat)) ++ kb2 ++ nb.drop ((nms ((ruleAt g s.a).right.take s.b.toNat)) + 1))) (enc := encP) swt) (fun hf => ?_)
     obtain ⟨a263, c263, rfl, _, _, hb263⟩ := hf
     refine DT_p rfl (.inl rfl) (q_nilCheck rfl) rfl ?_
     refine DT_p rfl (.inl rfl) (q_fieldAddr Try.underlying99 rfl rfl Try.sizeOf97 rfl rfl) rfl ?_
     refine DT_e0 rfl (e_store Try.sizeOf97 rfl rfl rfl rfl swt (by rfl)) (.inl rfl) (fun _ => ?_)
     refine DT_nil ?_
     refine EW_then ?_
     refine nx3 ?_
     refine mO ?_
     refine aO ?_
     refine nx2 ?_
     refine CW_ret ?_
     refine ret1 Try.results44 rfl (fun w hw => ?_)
     rw [hlist] at hw
     have h1 : Sat _ _ (kidsA ((bk2 s.a (nms ((ruleAt g s.a).right.take s.b.toNat))) k2) kb2 :: kidsA ((bk2 s.a (nms ((ruleAt g s.a).right.take s.b.toNat))) f4) n4 :: [cel b128 99 [vi X, .slice a263 (n1 ++ (kb2 ++ n4)).length c263], trow 80 1 encP (.slice a263 (n1 ++ (kb2 ++ n4)).length c263) (n1 ++ (kb2 ++ n4)), kidsA ((bk2 s.a (nms ((ruleAt g s.a).right.take s.b.toNat))) f1) n1]) w := hw.sub sbt
     have h3 : Sat _ _ (kidsA ((bk2 s.a (nms ((ruleAt g s.a).right.take s.b.toNat))) f1) n1 :: kidsA (((bk2 s.a (nms ((ruleAt g s.a).right.take s.b.toNat))) k2).app ((bk2 s.a (nms ((ruleAt g s.a).right.take s.b.toNat))) f4)) (kb2 ++ n4) :: [cel b128 99 [vi X, .slice a263 (n1 ++ (kb2 ++ n4)).length c263], trow 80 1 encP (.slice a263 (n1 ++ (kb2 ++ n4)).length c263) (n1 ++ (kb2 ++ n4))]) w := h1.kidsApp.sub sbt
     have h5 : Sat _ _ (cel b128 99 [vi X, .slice a263 (n1 ++ (kb2 ++ n4)).length c263] :: trow 80 1 encP (.slice a263 (n1 ++ (kb2 ++ n4)).length c263) (n1 ++ (kb2 ++ n4)) :: kidsA (((bk2 s.a (nms ((ruleAt g s.a).right.take s.b.toNat))) f1).app (((bk2 s.a (nms ((ruleAt g s.a).right.take s.b.toNat))) k2).app ((bk2 s.a (nms ((ruleAt g s.a).right.take s.b.toNat))) f4))) (n1 ++ (kb2 ++ n4)) :: []) w := h3.kidsApp.sub sbt
     have hT : (bk2 s.a (nms ((ruleAt g s.a).right.take s.b.toNat))) (.cons x ks .nil) = .cons X (((bk2 s.a (nms ((ruleAt g s.a).right.take s.b.toNat))) f1).app (((bk2 s.a (nms ((ruleAt g s.a).right.take s.b.toNat))) k2).app ((bk2 s.a (nms ((ruleAt g s.a).right.take s.b.toNat))) f4))) .nil := by
       show For.cons x (if x = s.a then For.app (((bk2 s.a (nms ((ruleAt g s.a).right.take s.b.toNat))) ks).take (nms ((ruleAt g s.a).right.take s.b.toNat))) (For.app (((bk2 s.a (nms ((ruleAt g s.a).right.take s.b.toNat))) ks).drop (nms ((ruleAt g s.a).right.take s.b.toNat))).kids1 (((bk2 s.a (nms ((ruleAt g s.a).right.take s.b.toNat))) ks).drop ((nms ((ruleAt g s.a).right.take s.b.toNat)) + 1))) else _) .nil = _
       rw [if_pos hxa, hTk, take_app _ _ _ hTl, ← drop_drop, drop_app _ _ _ hTl, hX]
       show For.cons _ (For.app _ (For.app _ (For.drop 0 _))) _ = _
       rw [drop0]; rfl
     rw [hT]
     exact ⟨b128, rfl, h5.kidNew⟩
   have hne : x ≠ s.a := by simpa using h224
   refine CW_skip ?_
   refine EW_then ?_
   refine nx3 ?_
   refine mO ?_
   refine aO ?_
   refine nx2 ?_
   refine CW_ret ?_
   refine ret1 Try.results44 rfl (fun w hw => ?_)
   have hT : (bk2 s.a (nms ((ruleAt g s.a).right.take s.b.toNat))) (.cons x ks .nil) = .cons X ((bk2 s.a (nms ((ruleAt g s.a).right.take s.b.toNat))) ks) .nil := by
     show For.cons x (if x = s.a then _ else _) _ = _
     rw [if_neg hne, hX]; rfl
   rw [hT]
   refine ⟨b128, rfl, ?_⟩
   have h1 : Sat _ _ (cel b128 99 [vi X, .slice an nb.length cn] :: trow 80 1 encP (.slice an nb.length cn) nb :: kidsA ((bk2 s.a (nms ((ruleAt g s.a).right.take s.b.toNat))) ks) nb :: []) w := hw.sub sbt
   exact h1.kidNew
 exact absurd hg213 (by simp [hop]) --stop

end Go.Sy
