/- Walks and plain laws, part 13. No condition. -/
import Derived.Test.YteceklkjbcebkabM12
/- A tree, carried over: where names are swapped or rules left out. No condition. -/
namespace Go.Sy
open Go Go.RowKit Go.Proofs

/-- Each tree is of a rule, its own trees derive what the rule says. -/
def Wf (g : Gram) : For → Prop
 | .nil => True
 | .cons x ks r => (∃ q y, 0 ≤ x ∧ g.rules[x.toNat]? = some q ∧ Der g q.right ks y) ∧ Wf g r
theorem der_wf {g : Gram} {l : List Sym} {f : For} {y : List Int} (h : Der g l f y) : Wf g f := by
 induction h with
 | nil => trivial
 | term _ _ ih => exact ih
 | name _ h0 hq _ hk _ _ ih2 => exact ⟨⟨_, _, h0, hq, hk⟩, ih2⟩
def In5 (ls : List Nat) : For → Prop
 | .nil => True
 | .cons x ks r => 0 ≤ x ∧ x.toNat ∈ ls ∧ In5 ls ks ∧ In5 ls r
theorem len_size : ∀ f : For, f.len ≤ f.size
 | .nil => Nat.le_refl _
 | .cons x k r => by show r.len + 1 ≤ k.size + r.size + 1; have := len_size r; omega
theorem fwd5_app {ls : List Nat} : ∀ f f' : For, fwd5 ls (f.app f') = (fwd5 ls f).app (fwd5 ls f')
 | .nil, _ => rfl
 | .cons x k r, f' => by show For.cons _ _ (fwd5 ls (r.app f')) = For.cons _ _ ((fwd5 ls r).app _); rw [fwd5_app r f']
theorem sat_kids {R : Nat → Prop} {w0 w : World} {L : List HP} {T : For → For} {fd : For} {xk : Int} {kk : For} {nb : List Nat} {b : Nat} (hT : ∀ f f', T (f.app f') = (T f).app (T f')) (h : Sat R w0 (kidsA (T fd) nb :: kidsA (T (.cons xk kk .nil)) [b] :: L) w) : Sat R w0 (kidsA (T (fd.app (.cons xk kk .nil))) (nb ++ [b]) :: L) w := by
 rw [hT]; exact h.kidsApp
set_option maxRecDepth 20000 in
theorem fwd1_any (g : Gram) (s : SStep) (ls : List Nat) (hm : mayB g = true) (hs : mayS g s = true) (hop : s.op = 1) : ∀ (N : Nat) (x : Int) (ks : For) (b cb : Nat) (w : World), (For.cons x ks .nil).size ≤ N → N ≤ 5000 → CarAt (Cl w) cb g s ls → KidsAt (Cl w) (.cons x ks .nil) [b] → Wf g (.cons x ks .nil) → Calls Try.prog 43 #[.pointer (some ⟨cb, 0, none⟩), .pointer (some ⟨b, 0, none⟩)] w (fun e w' => ∃ b' : Nat, e = .returned (.pointer (some ⟨b', 0, none⟩)) ∧ Sat (Old w) w [kidsA (id (.cons x ks .nil)) [b']] w') := by
 intro N
 refine Nat.strongRecOn N ?_
 clear N
 intro N ih x ks b cb w hsz hN hc0 hk0 hwf
 obtain ⟨rv, lv, hcar, hrr, hll⟩ := (hc0.mono old_rd).ex
 obtain ⟨ar, cr, rfl, hr1, hr2, hrs⟩ := hrr
 obtain ⟨al, cl, rfl, hl1, hl2, hls1⟩ := hll
 rw [show (natV ls).length = ls.length by rw [List.length_map]] at hcar hl1
 obtain ⟨ak, kb, ck, hrow, hk1, hk2, hkb, hks⟩ := kids_top (hk0.mono old_rd)
 obtain ⟨⟨q, yq, hx0, hq, hdq⟩, _⟩ := id hwf
 have hwks := der_wf hdq
 obtain ⟨pq, hpq, rvq, hsy, hrowq⟩ := hrs x.toNat q hq
 subst hpq
 obtain ⟨ya, yc, rfl, hy1, hy2, hys⟩ := id hsy
 have hxl := (List.getElem?_eq_some_iff.1 hq).1
 have hq8 := (may_rule hm hq).2.2
 
 refine calls_CW Try.func43 rfl Try.ntmps43 rfl (Sat.start w) ?_
 refine nx3 ?_
 refine aO ?_
 refine nx2 ?_
 refine CW_seq ?_
 refine CW_draw (Sat (Old w) w []) 12 [(0, false), (1, false), (2, false), (3, false), (4, false), (5, false), (6, false), (7, false), (8, false), (9, false), (10, false), (11, true), (12, true)] (by kernel_rfl) (Blind.then (Blind.body (by intro c w h; simp at h))) (by kernel_rfl) (fun w hw => hw.drew) ?_
 refine mD ?_
 refine DW_q rfl sft (q_nilCheck rfl) rfl ?_
 refine DW_q rfl sft (q_fieldAddr Try.underlying96 rfl rfl Try.sizeOf24 rfl rfl) rfl ?_
 refine DW_q rfl sft (q_fieldAddr Try.underlying24 rfl rfl Try.sizeOf22 rfl rfl) rfl ?_
 refine DW_q rfl sft (q_load1_ro Try.isAgg22 rfl (by exact hcar.at_ (j := 2) rfl)) rfl ?_
 refine mD ?_
 refine DW_q rfl sft (q_nilCheck rfl) rfl ?_
 refine DW_q rfl sft (q_fieldAddr Try.underlying99 rfl rfl Try.sizeOf3 rfl rfl) rfl ?_
 refine DW_q rfl sft (q_load1_ro Try.isAgg3 rfl (by exact hrow.at_ (j := 0) rfl)) rfl ?_
 refine DW_spell 21 (.int .i64 ((x.toNat : Nat) : Int)) rfl (congrArg (Value.int .i64) (by omega)) ?_
 refine DW_q rfl sft (q_indexAddr Try.underlying22 Try.sizeOf49 rfl rfl hxl) rfl ?_
 refine DW_q rfl sft (q_loadN_ro Try.isAgg49 Try.sizeOf49 rfl (by exact hrowq) (by rfl)) rfl ?_
 refine DW_e rfl (e_alloc Try.zeroValue49 rfl) rfl (fun _ w hw => by first | exact hw.sub sbt | exact hw.2.sub sbt) (fun b5 => ?_)
 refine DW_z0 rfl (e_storeN Try.sizeOf49 rfl rfl rfl rfl (by simp [Value.oneCell']) swt (by rfl)) (fun _ => ?_)
 refine EW_then ?_
 refine CW_seq ?_
 refine CW_seq ?_
 refine CW_draw (Sat (Old w) w [cel b5 49 [.int .i64 q.left, .slice ya q.right.length yc]]) 16 [(0, false), (1, false), (2, false), (3, false), (4, false), (5, false), (6, false), (7, false), (8, false), (9, false), (10, false), (11, false), (12, false), (13, false), (14, false), (15, false)] (by kernel_rfl) (Blind.then (Blind.then (Blind.body (by intro c w h; simp at h)))) (by kernel_rfl) (fun w hw => hw.drew) ?_
 refine mD ?_
 refine DW_q rfl sft (q_nilCheck rfl) rfl ?_
 refine DW_q rfl sft (q_fieldAddr Try.underlying96 rfl rfl Try.sizeOf26 rfl rfl) rfl ?_
 refine DW_q rfl sft (q_fieldAddr Try.underlying26 rfl rfl Try.sizeOf3 rfl rfl) rfl ?_
 refine DW_q rfl sft (q_load1_ro Try.isAgg3 rfl (by exact hcar.at_ (j := 3) rfl)) rfl ?_
 refine DW_q rfl sft (q_eqi rfl rfl) rfl ?_
 refine mD ?_
 refine DW_part (t := 30) rfl (fun hg30 => ?_) (fun hg30 => ?_)
 · skip
   exact absurd hg30 (by simp [hop]) --stop
 refine kD ?_
 refine kD ?_
 refine kD ?_
 refine kD ?_
 refine kD ?_
 refine kD ?_
 refine kD ?_
 refine kD ?_
 refine DW_q rfl sft (q_pick_f rfl rfl) rfl ?_
 refine DW_nil ?_
 refine EW_then ?_
 refine CW_false rfl rfl ?_
 refine CW_skip ?_
 refine EW_then ?_
 refine nx3 ?_
 refine mO ?_
 refine OW_q (q_nilCheck rfl) rfl ?_
 refine OW_q (q_fieldAddr Try.underlying99 rfl rfl Try.sizeOf3 rfl rfl) rfl ?_
 refine OW_q (q_load1_ro Try.isAgg3 rfl (by exact hrow.at_ (j := 0) rfl)) rfl ?_
 refine OW_q (q_build (ps := #[(0, .int .i64 x)]) (v := .agg #[.int .i64 x, .slice none 0 0]) rfl (fun w => by kernel_rfl)) rfl ?_
 refine OW_e (e_box rfl rfl) rfl (fun b48 => ?_)
 refine aO ?_
 refine nx2 ?_
 refine CW_seq ?_
 refine nx3 ?_
 refine mO ?_
 refine OW_q (q_nilCheck rfl) rfl ?_
 refine OW_q (q_fieldAddr Try.underlying99 rfl rfl Try.sizeOf97 rfl rfl) rfl ?_
 refine OW_q (q_load1_ro Try.isAgg97 rfl (by exact hrow.at_ (j := 1) rfl)) rfl ?_
 refine OW_q (q_len Try.underlying97 rfl) rfl ?_
 refine mO ?_
 refine nx2 ?_
 refine CW_block ?_
 refine CW_weak (S' := Sat (Old w) w [cel b48 99 [vi x, .slice none 0 0], trow 80 1 encP (.slice none 0 0) [], kidsA (id .nil) [], cel b5 49 [.int .i64 q.left, .slice ya q.right.length yc]]) (fun w hw => by
   have h1 := (hw.tnil 80 1 encP).addEmp (A := kidsA (id .nil) []) ⟨rfl, rfl⟩
   exact h1.sub sbt) ?_
 refine CW_loopP (ι := Nat × For × For × List Nat × List Nat × Value × List Nat) (fun i_ => i_.1 ≤ kb.length ∧ ks = i_.2.1.app i_.2.2.1 ∧ kb = i_.2.2.2.1 ++ i_.2.2.2.2.1 ∧ i_.2.2.2.1.length = i_.1 ∧ KidsAt (Rd (Old w) w) i_.2.2.1 i_.2.2.2.2.1 ∧ Wf g i_.2.2.1 ∧ i_.2.2.2.2.2.2.length = i_.1) (fun i_ => [(0, .pointer (some ⟨cb, 0, none⟩)), (1, .pointer (some ⟨b, 0, none⟩)), (5, .pointer (some ⟨b5, 0, none⟩)), (6, .pointer (some ⟨b48, 0, none⟩)), (52, .slice ak kb.length ck), (53, .int .i64 (kb.length : Int)), (54, .int .i64 (i_.1 : Int))]) (fun i_ => Sat (Old w) w [cel b48 99 [vi x, i_.2.2.2.2.2.1], trow 80 1 encP i_.2.2.2.2.2.1 i_.2.2.2.2.2.2, kidsA (id i_.2.1) i_.2.2.2.2.2.2, cel b5 49 [.int .i64 q.left, .slice ya q.right.length yc]]) (fun i_ => kb.length - i_.1) (0, .nil, ks, [], kb, .slice none 0 0, []) ?_ ⟨rfl, rfl, rfl, rfl, rfl, rfl, rfl, trivial⟩ sft ?_
 · exact ⟨Nat.zero_le _, rfl, rfl, rfl, hks, hwks, rfl⟩
 intro i_ hpre
 obtain ⟨k, fd, fr, bd, br, v, nb⟩ := i_
 replace hpre : k ≤ kb.length ∧ ks = fd.app fr ∧ kb = bd ++ br ∧ bd.length = k ∧ KidsAt (Rd (Old w) w) fr br ∧ Wf g fr ∧ nb.length = k := hpre
 change CW _ _ _ _ [(0, .pointer (some ⟨cb, 0, none⟩)), (1, .pointer (some ⟨b, 0, none⟩)), (5, .pointer (some ⟨b5, 0, none⟩)), (6, .pointer (some ⟨b48, 0, none⟩)), (52, .slice ak kb.length ck), (53, .int .i64 (kb.length : Int)), (54, .int .i64 (k : Int))] (Sat (Old w) w [cel b48 99 [vi x, v], trow 80 1 encP v nb, kidsA (id fd) nb, cel b5 49 [.int .i64 q.left, .slice ya q.right.length yc]])
 obtain ⟨hk, hfd, hbd, hbl, hkr, hwfr, hnb⟩ := hpre
 refine nx3 ?_
 refine OW_q (q_lss rfl rfl) rfl ?_
 refine nx2 ?_
 refine CW_seq ?_
 refine CW_cond rfl (fun h55 => ?_) (fun h55 => ?_)
 · skip
   have hlt : k < kb.length := by have := of_decide_eq_true h55; omega
   obtain ⟨b1, br2, rfl⟩ : ∃ b1 br2, br = b1 :: br2 := by
     cases br with
     | nil => rw [List.append_nil] at hbd; rw [hbd] at hlt; omega
     | cons b1 br2 => exact ⟨b1, br2, rfl⟩
   have hbk : kb[k]? = some b1 := by rw [hbd, List.getElem?_append_right (by omega), hbl, Nat.sub_self]; rfl
   obtain ⟨p1, hp1, hb1⟩ := hkb k b1 hbk
   subst hp1
   obtain ⟨xk, kk, fr2, rfl, hkk, hk2'⟩ := kids_cons hkr
   have hkl := KidsAt.len hks
   have hks5 := kid_size (x := x) hfd
   have hls5 := len_size ks
   refine CW_skip ?_
   refine EW_then ?_
   refine CW_seq ?_
   refine CW_block ?_
   refine nx3 ?_
   refine OW_q (q_indexAddr Try.underlying97 Try.sizeOf80 rfl rfl (by omega)) rfl ?_
   refine OW_q (q_load1_ro Try.isAgg80 rfl (by exact hb1)) rfl ?_
   refine aO ?_
   refine nx2 ?_
   refine CW_draw (Sat (Old w) w [cel b48 99 [vi x, v]]) 12 [(0, false), (1, false), (2, false), (3, false), (4, false), (5, false), (6, false), (7, true), (8, true), (9, true), (10, false), (11, false), (12, true)] (by kernel_rfl) (Blind.block (Blind.then (Blind.again (Blind.block (Blind.then (Blind.body (by intro c w h; simp at h))))))) (by kernel_rfl) (fun w hw => hw.drew) ?_
   refine mD ?_
   refine mD ?_
   refine DW_q rfl sft (q_nilCheck rfl) rfl ?_
   refine DW_q rfl sft (q_fieldAddr Try.underlying99 rfl rfl Try.sizeOf97 rfl rfl) rfl ?_
   refine DW_q rfl sft (q_load1_own Try.isAgg97 rfl rfl swt (by rfl)) rfl ?_
   refine mD ?_
   refine mD ?_
   refine DW_e rfl (e_call Try.call43 rfl (fun w hw => lift_old (ih (For.cons xk kk .nil).size (by have := kid_size (x := x) hfd; omega) xk kk b1 cb w (Nat.le_refl _) (by have := kid_size (x := x) hfd; omega) (hc0.mono fun _ _ h => hw.rd (Rd.old h)) (hkk.mono hw.rd_cl) ⟨hwfr.1, trivial⟩) hw)) rfl (fun _ w hw => by first | exact hw.sub sbt | exact hw.2.sub sbt) (fun x65 => ?_)
   refine DW_e rfl (e_single Try.underlying97 Try.sizeOf80 Try.zeroValue80 (e := 80) (v := .pointer (some ⟨x65, 0, none⟩)) (cs := encP x65) rfl rfl rfl rfl (by decide) (by decide)) rfl (fun _ => sft) (fun b66 => ?_)
   refine DW_e rfl (e_append_t (x0 := x65) (enc := encP) (v := v) (l := nb) Try.underlying97 Try.typeInfo80 rfl rfl rfl rfl rfl rfl rfl pkt rfl (by exact fun w hw => hw.news swt) (by simp [Value.oneCell']) (by omega) (by decide)) rfl (fun _ => sft) (fun v67 => ?_)
   refine DW_fact (fun w hw => hw.tform (v := v67) (l := (nb ++ [x65])) (enc := encP) swt) (fun hf => ?_)
   obtain ⟨a67, c67, rfl, _, _, hb67⟩ := hf
   refine DW_q rfl sft (q_nilCheck rfl) rfl ?_
   refine DW_q rfl sft (q_fieldAddr Try.underlying99 rfl rfl Try.sizeOf97 rfl rfl) rfl ?_
   refine DW_z0 rfl (e_store Try.sizeOf97 rfl rfl rfl rfl swt (by rfl)) (fun _ => ?_)
   refine EW_block_normal ?_
   refine EW_then ?_
   refine CW_region ?_
   refine OW_q (q_add rfl rfl (by omega) (by omega)) rfl ?_
   refine mO ?_
   refine OW_nil ?_
   refine EW_weak (S' := Sat (Old _) _ [cel b48 99 [vi x, .slice a67 (nb ++ [x65]).length c67], trow 80 1 encP (.slice a67 (nb ++ [x65]).length c67) (nb ++ [x65]), kidsA (id (fd.app (.cons xk kk .nil))) (nb ++ [x65]), cel b5 49 [.int .i64 q.left, .slice ya q.right.length yc]]) (fun w hw => by
     have h1 : Sat _ _ (kidsA (id fd) nb :: kidsA (id (.cons xk kk .nil)) [x65] :: [cel b48 99 [vi x, .slice a67 (nb ++ [x65]).length c67], trow 80 1 encP (.slice a67 (nb ++ [x65]).length c67) (nb ++ [x65]), cel b5 49 [.int .i64 q.left, .slice ya q.right.length yc]]) w := hw.sub sbt
     exact (sat_kids (T := id) (fun _ _ => rfl) h1).sub sbt) ?_
   refine EW_again ((k + 1, fd.app (.cons xk kk .nil), fr2, bd ++ [b1], br2, .slice a67 (nb ++ [x65]).length c67, nb ++ [x65])) ⟨?_, ?_⟩ ⟨rfl, rfl, rfl, rfl, rfl, rfl, rfl, trivial⟩ sft
   · show kb.length - (k + 1) < kb.length - k; omega
   · refine ⟨by show k + 1 ≤ _; omega, ?_, ?_, ?_, hk2', hwfr.2, ?_⟩
     · show ks = _
       rw [hfd, For.app_one]
     · show kb = _
       rw [hbd]; simp
     · show (bd ++ [b1]).length = _
       rw [List.length_append, hbl]; rfl
     · show (nb ++ [x65]).length = _
       rw [List.length_append, hnb]; rfl
 have hke : k = kb.length := by have := of_decide_eq_false h55; omega
 have hbr : br = [] := by
   have := congrArg List.length hbd
   rw [List.length_append] at this
   exact List.eq_nil_of_length_eq_zero (by omega)
 subst hbr
 have hfr := kids_none hkr
 subst hfr
 rw [For.app_nil] at hfd
 subst hfd
 refine CW_fact (fun w hw => hw.tform (v := v) (l := nb) (enc := encP) swt) (fun hf => ?_)
 obtain ⟨an, cn, rfl, _, _, hbn⟩ := hf
 refine CW_exit ?_
 refine EW_then_exit ?_
 refine EW_out ?_
 refine EW_block_exit ?_
 refine EW_then ?_
 refine CW_seq ?_
 refine nx3 ?_
 refine mO ?_
 refine OW_q (q_nilCheck rfl) rfl ?_
 refine OW_q (q_fieldAddr Try.underlying96 rfl rfl Try.sizeOf26 rfl rfl) rfl ?_
 refine OW_q (q_fieldAddr Try.underlying26 rfl rfl Try.sizeOf3 rfl rfl) rfl ?_
 refine OW_q (q_load1_ro Try.isAgg3 rfl (by exact hcar.at_ (j := 3) rfl)) rfl ?_
 refine nx2 ?_
 refine CW_block ?_
 refine nx3 ?_
 refine OW_q (q_eqi rfl rfl) rfl ?_
 refine aO ?_
 refine nx2 ?_
 refine CW_false rfl (by simp [hop]) ?_
 refine nx3 ?_
 refine OW_q (q_eqi rfl rfl) rfl ?_
 refine aO ?_
 refine nx2 ?_
 refine CW_false rfl (by simp [hop]) ?_
 refine nx3 ?_
 refine OW_q (q_eqi rfl rfl) rfl ?_
 refine aO ?_
 refine nx2 ?_
 refine CW_false rfl (by simp [hop]) ?_
 refine CW_skip ?_
 refine EW_block_normal ?_
 refine EW_then ?_
 refine nx3 ?_
 refine mO ?_
 refine aO ?_
 refine nx2 ?_
 refine CW_ret ?_
 refine ret1 Try.results43 rfl (fun w hw => ?_)
 refine ⟨b48, rfl, ?_⟩
 have h1 : Sat _ _ (cel b48 99 [vi x, .slice an nb.length cn] :: trow 80 1 encP (.slice an nb.length cn) nb :: kidsA (id ks) nb :: []) w := hw.sub sbt
 exact h1.kidNew

set_option maxRecDepth 20000 in
theorem fwd5_any (g : Gram) (s : SStep) (ls : List Nat) (hm : mayB g = true) (hs : mayS g s = true) (hop : s.op = 5) : ∀ (N : Nat) (x : Int) (ks : For) (b cb : Nat) (w : World), (For.cons x ks .nil).size ≤ N → N ≤ 5000 → CarAt (Cl w) cb g s ls → KidsAt (Cl w) (.cons x ks .nil) [b] → In5 ls (.cons x ks .nil) ∧ Wf g (.cons x ks .nil) → Calls Try.prog 43 #[.pointer (some ⟨cb, 0, none⟩), .pointer (some ⟨b, 0, none⟩)] w (fun e w' => ∃ b' : Nat, e = .returned (.pointer (some ⟨b', 0, none⟩)) ∧ Sat (Old w) w [kidsA (fwd5 ls (.cons x ks .nil)) [b']] w') := by
 intro N
 refine Nat.strongRecOn N ?_
 clear N
 intro N ih x ks b cb w hsz hN hc0 hk0 hwf
 obtain ⟨hin, hwf⟩ := hwf
 obtain ⟨rv, lv, hcar, hrr, hll⟩ := (hc0.mono old_rd).ex
 obtain ⟨ar, cr, rfl, hr1, hr2, hrs⟩ := hrr
 obtain ⟨al, cl, rfl, hl1, hl2, hls1⟩ := hll
 rw [show (natV ls).length = ls.length by rw [List.length_map]] at hcar hl1
 obtain ⟨ak, kb, ck, hrow, hk1, hk2, hkb, hks⟩ := kids_top (hk0.mono old_rd)
 obtain ⟨⟨q, yq, hx0, hq, hdq⟩, _⟩ := id hwf
 have hwks := der_wf hdq
 obtain ⟨pq, hpq, rvq, hsy, hrowq⟩ := hrs x.toNat q hq
 subst hpq
 obtain ⟨ya, yc, rfl, hy1, hy2, hys⟩ := id hsy
 have hxl := (List.getElem?_eq_some_iff.1 hq).1
 have hq8 := (may_rule hm hq).2.2
 
 refine calls_CW Try.func43 rfl Try.ntmps43 rfl (Sat.start w) ?_
 refine nx3 ?_
 refine aO ?_
 refine nx2 ?_
 refine CW_seq ?_
 refine CW_draw (Sat (Old w) w []) 12 [(0, false), (1, false), (2, false), (3, false), (4, false), (5, false), (6, false), (7, false), (8, false), (9, false), (10, false), (11, true), (12, true)] (by kernel_rfl) (Blind.then (Blind.body (by intro c w h; simp at h))) (by kernel_rfl) (fun w hw => hw.drew) ?_
 refine mD ?_
 refine DW_q rfl sft (q_nilCheck rfl) rfl ?_
 refine DW_q rfl sft (q_fieldAddr Try.underlying96 rfl rfl Try.sizeOf24 rfl rfl) rfl ?_
 refine DW_q rfl sft (q_fieldAddr Try.underlying24 rfl rfl Try.sizeOf22 rfl rfl) rfl ?_
 refine DW_q rfl sft (q_load1_ro Try.isAgg22 rfl (by exact hcar.at_ (j := 2) rfl)) rfl ?_
 refine mD ?_
 refine DW_q rfl sft (q_nilCheck rfl) rfl ?_
 refine DW_q rfl sft (q_fieldAddr Try.underlying99 rfl rfl Try.sizeOf3 rfl rfl) rfl ?_
 refine DW_q rfl sft (q_load1_ro Try.isAgg3 rfl (by exact hrow.at_ (j := 0) rfl)) rfl ?_
 refine DW_spell 21 (.int .i64 ((x.toNat : Nat) : Int)) rfl (congrArg (Value.int .i64) (by omega)) ?_
 refine DW_q rfl sft (q_indexAddr Try.underlying22 Try.sizeOf49 rfl rfl hxl) rfl ?_
 refine DW_q rfl sft (q_loadN_ro Try.isAgg49 Try.sizeOf49 rfl (by exact hrowq) (by rfl)) rfl ?_
 refine DW_e rfl (e_alloc Try.zeroValue49 rfl) rfl (fun _ w hw => by first | exact hw.sub sbt | exact hw.2.sub sbt) (fun b5 => ?_)
 refine DW_z0 rfl (e_storeN Try.sizeOf49 rfl rfl rfl rfl (by simp [Value.oneCell']) swt (by rfl)) (fun _ => ?_)
 refine EW_then ?_
 refine CW_seq ?_
 refine CW_seq ?_
 refine CW_draw (Sat (Old w) w [cel b5 49 [.int .i64 q.left, .slice ya q.right.length yc]]) 16 [(0, false), (1, false), (2, false), (3, false), (4, false), (5, false), (6, false), (7, false), (8, false), (9, false), (10, false), (11, false), (12, false), (13, false), (14, false), (15, false)] (by kernel_rfl) (Blind.then (Blind.then (Blind.body (by intro c w h; simp at h)))) (by kernel_rfl) (fun w hw => hw.drew) ?_
 refine mD ?_
 refine DW_q rfl sft (q_nilCheck rfl) rfl ?_
 refine DW_q rfl sft (q_fieldAddr Try.underlying96 rfl rfl Try.sizeOf26 rfl rfl) rfl ?_
 refine DW_q rfl sft (q_fieldAddr Try.underlying26 rfl rfl Try.sizeOf3 rfl rfl) rfl ?_
 refine DW_q rfl sft (q_load1_ro Try.isAgg3 rfl (by exact hcar.at_ (j := 3) rfl)) rfl ?_
 refine DW_q rfl sft (q_eqi rfl rfl) rfl ?_
 refine mD ?_
 refine DW_part (t := 30) rfl (fun hg30 => ?_) (fun hg30 => ?_)
 · skip
   exact absurd hg30 (by simp [hop]) --stop
 refine kD ?_
 refine kD ?_
 refine kD ?_
 refine kD ?_
 refine kD ?_
 refine kD ?_
 refine kD ?_
 refine kD ?_
 refine DW_q rfl sft (q_pick_f rfl rfl) rfl ?_
 refine DW_nil ?_
 refine EW_then ?_
 refine CW_false rfl rfl ?_
 refine CW_skip ?_
 refine EW_then ?_
 refine nx3 ?_
 refine mO ?_
 refine OW_q (q_nilCheck rfl) rfl ?_
 refine OW_q (q_fieldAddr Try.underlying99 rfl rfl Try.sizeOf3 rfl rfl) rfl ?_
 refine OW_q (q_load1_ro Try.isAgg3 rfl (by exact hrow.at_ (j := 0) rfl)) rfl ?_
 refine OW_q (q_build (ps := #[(0, .int .i64 x)]) (v := .agg #[.int .i64 x, .slice none 0 0]) rfl (fun w => by kernel_rfl)) rfl ?_
 refine OW_e (e_box rfl rfl) rfl (fun b48 => ?_)
 refine aO ?_
 refine nx2 ?_
 refine CW_seq ?_
 refine nx3 ?_
 refine mO ?_
 refine OW_q (q_nilCheck rfl) rfl ?_
 refine OW_q (q_fieldAddr Try.underlying99 rfl rfl Try.sizeOf97 rfl rfl) rfl ?_
 refine OW_q (q_load1_ro Try.isAgg97 rfl (by exact hrow.at_ (j := 1) rfl)) rfl ?_
 refine OW_q (q_len Try.underlying97 rfl) rfl ?_
 refine mO ?_
 refine nx2 ?_
 refine CW_block ?_
 refine CW_weak (S' := Sat (Old w) w [cel b48 99 [vi x, .slice none 0 0], trow 80 1 encP (.slice none 0 0) [], kidsA (fwd5 ls .nil) [], cel b5 49 [.int .i64 q.left, .slice ya q.right.length yc]]) (fun w hw => by
   have h1 := (hw.tnil 80 1 encP).addEmp (A := kidsA (fwd5 ls .nil) []) ⟨rfl, rfl⟩
   exact h1.sub sbt) ?_
 refine CW_loopP (ι := Nat × For × For × List Nat × List Nat × Value × List Nat) (fun i_ => i_.1 ≤ kb.length ∧ ks = i_.2.1.app i_.2.2.1 ∧ kb = i_.2.2.2.1 ++ i_.2.2.2.2.1 ∧ i_.2.2.2.1.length = i_.1 ∧ KidsAt (Rd (Old w) w) i_.2.2.1 i_.2.2.2.2.1 ∧ (In5 ls i_.2.2.1 ∧ Wf g i_.2.2.1) ∧ i_.2.2.2.2.2.2.length = i_.1) (fun i_ => [(0, .pointer (some ⟨cb, 0, none⟩)), (1, .pointer (some ⟨b, 0, none⟩)), (5, .pointer (some ⟨b5, 0, none⟩)), (6, .pointer (some ⟨b48, 0, none⟩)), (52, .slice ak kb.length ck), (53, .int .i64 (kb.length : Int)), (54, .int .i64 (i_.1 : Int))]) (fun i_ => Sat (Old w) w [cel b48 99 [vi x, i_.2.2.2.2.2.1], trow 80 1 encP i_.2.2.2.2.2.1 i_.2.2.2.2.2.2, kidsA (fwd5 ls i_.2.1) i_.2.2.2.2.2.2, cel b5 49 [.int .i64 q.left, .slice ya q.right.length yc]]) (fun i_ => kb.length - i_.1) (0, .nil, ks, [], kb, .slice none 0 0, []) ?_ ⟨rfl, rfl, rfl, rfl, rfl, rfl, rfl, trivial⟩ sft ?_
 · exact ⟨Nat.zero_le _, rfl, rfl, rfl, hks, ⟨hin.2.2.1, hwks⟩, rfl⟩
 intro i_ hpre
 obtain ⟨k, fd, fr, bd, br, v, nb⟩ := i_
 replace hpre : k ≤ kb.length ∧ ks = fd.app fr ∧ kb = bd ++ br ∧ bd.length = k ∧ KidsAt (Rd (Old w) w) fr br ∧ (In5 ls fr ∧ Wf g fr) ∧ nb.length = k := hpre
 change CW _ _ _ _ [(0, .pointer (some ⟨cb, 0, none⟩)), (1, .pointer (some ⟨b, 0, none⟩)), (5, .pointer (some ⟨b5, 0, none⟩)), (6, .pointer (some ⟨b48, 0, none⟩)), (52, .slice ak kb.length ck), (53, .int .i64 (kb.length : Int)), (54, .int .i64 (k : Int))] (Sat (Old w) w [cel b48 99 [vi x, v], trow 80 1 encP v nb, kidsA (fwd5 ls fd) nb, cel b5 49 [.int .i64 q.left, .slice ya q.right.length yc]])
 obtain ⟨hk, hfd, hbd, hbl, hkr, hwfr, hnb⟩ := hpre
 refine nx3 ?_
 refine OW_q (q_lss rfl rfl) rfl ?_
 refine nx2 ?_
 refine CW_seq ?_
 refine CW_cond rfl (fun h55 => ?_) (fun h55 => ?_)
 · skip
   have hlt : k < kb.length := by have := of_decide_eq_true h55; omega
   obtain ⟨b1, br2, rfl⟩ : ∃ b1 br2, br = b1 :: br2 := by
     cases br with
     | nil => rw [List.append_nil] at hbd; rw [hbd] at hlt; omega
     | cons b1 br2 => exact ⟨b1, br2, rfl⟩
   have hbk : kb[k]? = some b1 := by rw [hbd, List.getElem?_append_right (by omega), hbl, Nat.sub_self]; rfl
   obtain ⟨p1, hp1, hb1⟩ := hkb k b1 hbk
   subst hp1
   obtain ⟨xk, kk, fr2, rfl, hkk, hk2'⟩ := kids_cons hkr
   have hkl := KidsAt.len hks
   have hks5 := kid_size (x := x) hfd
   have hls5 := len_size ks
   refine CW_skip ?_
   refine EW_then ?_
   refine CW_seq ?_
   refine CW_block ?_
   refine nx3 ?_
   refine OW_q (q_indexAddr Try.underlying97 Try.sizeOf80 rfl rfl (by omega)) rfl ?_
   refine OW_q (q_load1_ro Try.isAgg80 rfl (by exact hb1)) rfl ?_
   refine aO ?_
   refine nx2 ?_
   refine CW_draw (Sat (Old w) w [cel b48 99 [vi x, v]]) 12 [(0, false), (1, false), (2, false), (3, false), (4, false), (5, false), (6, false), (7, true), (8, true), (9, true), (10, false), (11, false), (12, true)] (by kernel_rfl) (Blind.block (Blind.then (Blind.again (Blind.block (Blind.then (Blind.body (by intro c w h; simp at h))))))) (by kernel_rfl) (fun w hw => hw.drew) ?_
   refine mD ?_
   refine mD ?_
   refine DW_q rfl sft (q_nilCheck rfl) rfl ?_
   refine DW_q rfl sft (q_fieldAddr Try.underlying99 rfl rfl Try.sizeOf97 rfl rfl) rfl ?_
   refine DW_q rfl sft (q_load1_own Try.isAgg97 rfl rfl swt (by rfl)) rfl ?_
   refine mD ?_
   refine mD ?_
   refine DW_e rfl (e_call Try.call43 rfl (fun w hw => lift_old (ih (For.cons xk kk .nil).size (by have := kid_size (x := x) hfd; omega) xk kk b1 cb w (Nat.le_refl _) (by have := kid_size (x := x) hfd; omega) (hc0.mono fun _ _ h => hw.rd (Rd.old h)) (hkk.mono hw.rd_cl) ⟨⟨hwfr.1.1, hwfr.1.2.1, hwfr.1.2.2.1, trivial⟩, hwfr.2.1, trivial⟩) hw)) rfl (fun _ w hw => by first | exact hw.sub sbt | exact hw.2.sub sbt) (fun x65 => ?_)
   refine DW_e rfl (e_single Try.underlying97 Try.sizeOf80 Try.zeroValue80 (e := 80) (v := .pointer (some ⟨x65, 0, none⟩)) (cs := encP x65) rfl rfl rfl rfl (by decide) (by decide)) rfl (fun _ => sft) (fun b66 => ?_)
   refine DW_e rfl (e_append_t (x0 := x65) (enc := encP) (v := v) (l := nb) Try.underlying97 Try.typeInfo80 rfl rfl rfl rfl rfl rfl rfl pkt rfl (by exact fun w hw => hw.news swt) (by simp [Value.oneCell']) (by omega) (by decide)) rfl (fun _ => sft) (fun v67 => ?_)
   refine DW_fact (fun w hw => hw.tform (v := v67) (l := (nb ++ [x65])) (enc := encP) swt) (fun hf => ?_)
   obtain ⟨a67, c67, rfl, _, _, hb67⟩ := hf
   refine DW_q rfl sft (q_nilCheck rfl) rfl ?_
   refine DW_q rfl sft (q_fieldAddr Try.underlying99 rfl rfl Try.sizeOf97 rfl rfl) rfl ?_
   refine DW_z0 rfl (e_store Try.sizeOf97 rfl rfl rfl rfl swt (by rfl)) (fun _ => ?_)
   refine EW_block_normal ?_
   refine EW_then ?_
   refine CW_region ?_
   refine OW_q (q_add rfl rfl (by omega) (by omega)) rfl ?_
   refine mO ?_
   refine OW_nil ?_
   refine EW_weak (S' := Sat (Old _) _ [cel b48 99 [vi x, .slice a67 (nb ++ [x65]).length c67], trow 80 1 encP (.slice a67 (nb ++ [x65]).length c67) (nb ++ [x65]), kidsA (fwd5 ls (fd.app (.cons xk kk .nil))) (nb ++ [x65]), cel b5 49 [.int .i64 q.left, .slice ya q.right.length yc]]) (fun w hw => by
     have h1 : Sat _ _ (kidsA (fwd5 ls fd) nb :: kidsA (fwd5 ls (.cons xk kk .nil)) [x65] :: [cel b48 99 [vi x, .slice a67 (nb ++ [x65]).length c67], trow 80 1 encP (.slice a67 (nb ++ [x65]).length c67) (nb ++ [x65]), cel b5 49 [.int .i64 q.left, .slice ya q.right.length yc]]) w := hw.sub sbt
     exact (sat_kids (T := fwd5 ls) (fwd5_app) h1).sub sbt) ?_
   refine EW_again ((k + 1, fd.app (.cons xk kk .nil), fr2, bd ++ [b1], br2, .slice a67 (nb ++ [x65]).length c67, nb ++ [x65])) ⟨?_, ?_⟩ ⟨rfl, rfl, rfl, rfl, rfl, rfl, rfl, trivial⟩ sft
   · show kb.length - (k + 1) < kb.length - k; omega
   · refine ⟨by show k + 1 ≤ _; omega, ?_, ?_, ?_, hk2', ⟨hwfr.1.2.2.2, hwfr.2.2⟩, ?_⟩
     · show ks = _
       rw [hfd, For.app_one]
     · show kb = _
       rw [hbd]; simp
     · show (bd ++ [b1]).length = _
       rw [List.length_append, hbl]; rfl
     · show (nb ++ [x65]).length = _
       rw [List.length_append, hnb]; rfl
 have hke : k = kb.length := by have := of_decide_eq_false h55; omega
 have hbr : br = [] := by
   have := congrArg List.length hbd
   rw [List.length_append] at this
   exact List.eq_nil_of_length_eq_zero (by omega)
 subst hbr
 have hfr := kids_none hkr
 subst hfr
 rw [For.app_nil] at hfd
 subst hfd
 refine CW_fact (fun w hw => hw.tform (v := v) (l := nb) (enc := encP) swt) (fun hf => ?_)
 obtain ⟨an, cn, rfl, _, _, hbn⟩ := hf
 refine CW_exit ?_
 refine EW_then_exit ?_
 refine EW_out ?_
 refine EW_block_exit ?_
 refine EW_then ?_
 refine CW_seq ?_
 refine nx3 ?_
 refine mO ?_
 refine OW_q (q_nilCheck rfl) rfl ?_
 refine OW_q (q_fieldAddr Try.underlying96 rfl rfl Try.sizeOf26 rfl rfl) rfl ?_
 refine OW_q (q_fieldAddr Try.underlying26 rfl rfl Try.sizeOf3 rfl rfl) rfl ?_
 refine OW_q (q_load1_ro Try.isAgg3 rfl (by exact hcar.at_ (j := 3) rfl)) rfl ?_
 refine nx2 ?_
 refine CW_block ?_
 refine nx3 ?_
 refine OW_q (q_eqi rfl rfl) rfl ?_
 refine aO ?_
 refine nx2 ?_
 refine CW_false rfl (by simp [hop]) ?_
 refine nx3 ?_
 refine OW_q (q_eqi rfl rfl) rfl ?_
 refine aO ?_
 refine nx2 ?_
 refine CW_false rfl (by simp [hop]) ?_
 refine nx3 ?_
 refine OW_q (q_eqi rfl rfl) rfl ?_
 refine aO ?_
 refine nx2 ?_
 refine CW_true rfl (by simp [hop]) ?_
 refine CW_draw (Sat (Old w) w []) 12 [(0, false), (1, false), (2, false), (3, false), (4, false), (5, false), (6, false), (7, false), (8, false), (9, true), (10, false), (11, false), (12, true)] (by kernel_rfl) (Blind.block (Blind.then (Blind.body (by intro c w h; simp at h)))) (by kernel_rfl) (fun w hw => hw.drew) ?_
 refine mD ?_
 refine mD ?_
 refine DW_q rfl sft (q_nilCheck rfl) rfl ?_
 refine DW_q rfl sft (q_fieldAddr Try.underlying96 rfl rfl Try.sizeOf32 rfl rfl) rfl ?_
 refine DW_q rfl sft (q_load1_ro Try.isAgg32 rfl (by exact hcar.at_ (j := 8) rfl)) rfl ?_
 refine mD ?_
 refine DW_q rfl sft (q_nilCheck rfl) rfl ?_
 refine DW_q rfl sft (q_fieldAddr Try.underlying99 rfl rfl Try.sizeOf3 rfl rfl) rfl ?_
 refine DW_q rfl sft (q_load1_ro Try.isAgg3 rfl (by exact hrow.at_ (j := 0) rfl)) rfl ?_
 refine DW_spell 238 (.int .i64 ((x.toNat : Nat) : Int)) rfl (congrArg (Value.int .i64) (by omega)) ?_
 refine DW_e rfl (e_call Try.call63 rfl (fun w hw => lift_ro (indexI_any _ ls x.toNat w hin.2.1 ((show IntsAt (Rd (Old _) _) (.slice al ls.length cl) (natV ls) from ⟨al, cl, by rw [List.length_map], by rw [List.length_map]; exact hl1, hl2, hls1⟩).mono fun _ _ h => hw.rd h)) hw)) rfl (fun _ w hw => by first | exact hw.sub sbt | exact hw.2.sub sbt) (fun x239 => ?_)
 refine DW_q rfl sft (q_nilCheck rfl) rfl ?_
 refine DW_q rfl sft (q_fieldAddr Try.underlying99 rfl rfl Try.sizeOf3 rfl rfl) rfl ?_
 refine DW_z0 rfl (e_store Try.sizeOf3 rfl rfl rfl rfl swt (by rfl)) (fun _ => ?_)
 refine EW_block_normal ?_
 refine EW_then ?_
 refine nx3 ?_
 refine mO ?_
 refine aO ?_
 refine nx2 ?_
 refine CW_ret ?_
 refine ret1 Try.results43 rfl (fun w hw => ?_)
 refine ⟨b48, rfl, ?_⟩
 have h1 : Sat _ _ (cel b48 99 [vi ((idx x.toNat ls : Nat) : Int), .slice an nb.length cn] :: trow 80 1 encP (.slice an nb.length cn) nb :: kidsA (fwd5 ls ks) nb :: []) w := hw.sub sbt
 exact h1.kidNew

end Go.Sy
/- Trees that are a function's own, taken apart; slices of trees. No condition. -/
namespace Go.Sy
open Go Go.RowKit Go.Proofs

theorem ef_of_q [Inhabited (List Deferred)] {P : Program} {n : Nat} {K : Env} {S : World → Prop} {o : Oper} {v : Value} (hq : Qt P n K S o v) : Ef P n K S o (fun _ : Unit => v) (fun _ => S) := fun a w ha hw next Q h => by
 have := h () w hw
 simp only [Oper.wp, hq a ha w hw, Oper.upon]
 exact this
theorem nms_le (l : List Sym) : nms l ≤ l.length := List.length_filter_le _ _
theorem encP_one (l : List Nat) : ∀ u ∈ l.flatMap encP, u.oneCell' = true := fun u hu => by
 obtain ⟨x, _, h⟩ := List.mem_flatMap.1 hu
 rw [List.mem_singleton.1 h]; rfl
theorem replP_any (v : Value) (l ys : List Nat) (i j vc : Nat) (sa : Option Addr) (R : Nat → Prop) (w0 w : World) (F : HP) (hij : i < j) (hj : j ≤ l.length) (hlm : l.length + ys.length ≤ 1000) (hvi : VIn R w0 F sa (ys.flatMap encP)) (hw : Sat R w0 ([trow 80 1 encP v l] ++ [F]) w) : Calls Try.prog 62 #[v, .int .i64 (i : Int), .int .i64 (j : Int), .slice sa ys.length vc] w (fun e w' => ∃ v' : Value, e = .returned v' ∧ Sat R w0 ([trow 80 1 encP v' (l.take i ++ ys ++ l.drop j)] ++ [F]) w') := by
 refine (replN_any v (l.flatMap encP) (ys.flatMap encP) l.length i j ys.length vc sa R w0 w F hij hj hlm (flat_length (enc := encP) (size := 1) (fun _ => rfl) ys) hvi (encP_one ys) (encP_one l) hw).mono fun e w' ⟨v', he, hw'⟩ => ⟨v', he, ?_⟩
 rw [← rep_row (size := 1) (enc := encP) (fun _ => rfl) hij hj]
 exact hw'
theorem dl {a b c : Heap} (h : Dis a (uni b c)) : Dis a b := h.symm.left.symm
theorem dr {a b c : Heap} (h : Dis a (uni b c)) : Dis a c := h.symm.right.symm
theorem dj {a b c : Heap} (h : Dis a b) (h' : Dis a c) : Dis a (uni b c) := (Dis.join h.symm h'.symm).symm
theorem kids_split : ∀ {a c : For} {bs : List Nat} {h : Heap}, kidsA (a.app c) bs h → ∃ n1 n2 h1 h2, bs = n1 ++ n2 ∧ n1.length = a.len ∧ Dis h1 h2 ∧ h = uni h1 h2 ∧ kidsA a n1 h1 ∧ kidsA c n2 h2
 | .nil, c, bs, h, hk => ⟨[], bs, emp0, h, rfl, rfl, (dis_emp h).symm, (emp_uni h).symm, ⟨rfl, rfl⟩, hk⟩
 | .cons x ks r, c, bs, h, ⟨b, cs, v, kb, e, hs⟩ => by
   subst e
   obtain ⟨g1, g2, hd1, rfl, hc, g3, g4, hd2, rfl, ht, g5, g6, hd3, rfl, hk, g7, g8, hd4, rfl, hr, he⟩ := hs
   have e8 : g8 = emp0 := he
   subst e8
   rw [uni_emp] at *
   obtain ⟨n1, n2, h1, h2, e1, e2, hd5, rfl, k1, k2⟩ := kids_split (a := r) (c := c) hr
   refine ⟨b :: n1, n2, uni g1 (uni g3 (uni g5 h1)), h2, by rw [e1]; rfl, congrArg (· + 1) e2, ?_, by simp only [uni_assoc], ⟨b, n1, v, kb, rfl, g1, uni g3 (uni g5 h1), ?_, rfl, hc, g3, uni g5 h1, ?_, rfl, ht, g5, h1, ?_, rfl, hk, h1, emp0, dis_emp _, (uni_emp _).symm, k1, rfl⟩, k2⟩
   · exact Dis.join (dr (dr (dr hd1))) (Dis.join (dr (dr hd2)) (Dis.join (dr hd3) hd5))
   · exact dj (dl hd1) (dj (dl (dr hd1)) (dl (dr (dr hd1))))
   · exact dj (dl hd2) (dl (dr hd2))
   · exact dl hd3
theorem kids_len : ∀ {f : For} {bs : List Nat} {h : Heap}, kidsA f bs h → bs.length = f.len
 | .nil, bs, h, ⟨e, _⟩ => by rw [e]; rfl
 | .cons x k r, bs, h, ⟨b, cs, v, kb, e, hs⟩ => by
   obtain ⟨g1, g2, hd1, rfl, hc, g3, g4, hd2, rfl, ht, g5, g6, hd3, rfl, hk, g7, g8, hd4, rfl, hr, he⟩ := hs
   rw [e]
   exact congrArg (· + 1) (kids_len hr)
section
variable {R : Nat → Prop} {w0 w : World} {L : List HP}
theorem Sat.exs {A : HP} {ι : Type} {p : ι → Prop} {M : ι → List HP} (h : Sat R w0 (A :: L) w) (ha : ∀ x, A x → ∃ i, p i ∧ stars (M i) x) : ∃ i, p i ∧ Sat R w0 (M i ++ L) w := by
 obtain ⟨y, ⟨h1, h2, hd, rfl, hA, hL⟩, hy⟩ := h.own
 obtain ⟨i, hp, hM⟩ := ha h1 hA
 exact ⟨i, hp, h.os, h.tape, h.output, h.size, h.ro, uni h1 h2, (stars_append (M i) L _).2 ⟨h1, h2, hd, rfl, hM, hL⟩, hy⟩
/-- Trees in a row, cut. -/
theorem Sat.kidsCut {a c : For} {bs : List Nat} (h : Sat R w0 (kidsA (a.app c) bs :: L) w) : ∃ z : List Nat × List Nat, (bs = z.1 ++ z.2 ∧ z.1.length = a.len) ∧ Sat R w0 (kidsA a z.1 :: kidsA c z.2 :: L) w :=
 h.exs (M := fun z : List Nat × List Nat => [kidsA a z.1, kidsA c z.2]) fun x hx => by
   obtain ⟨n1, n2, h1, h2, e1, e2, hd, e3, k1, k2⟩ := kids_split hx
   exact ⟨(n1, n2), ⟨e1, e2⟩, h1, h2, hd, e3, k1, h2, emp0, dis_emp _, (uni_emp _).symm, k2, rfl⟩
/-- The first of them, opened. -/
theorem Sat.kidOpen {x : Int} {ks r : For} {bs : List Nat} (h : Sat R w0 (kidsA (.cons x ks r) bs :: L) w) : ∃ z : Nat × List Nat × Value × List Nat, bs = z.1 :: z.2.1 ∧ Sat R w0 (cel z.1 99 [vi x, z.2.2.1] :: trow 80 1 encP z.2.2.1 z.2.2.2 :: kidsA ks z.2.2.2 :: kidsA r z.2.1 :: L) w :=
 h.exs (M := fun z : Nat × List Nat × Value × List Nat => [cel z.1 99 [vi x, z.2.2.1], trow 80 1 encP z.2.2.1 z.2.2.2, kidsA ks z.2.2.2, kidsA r z.2.1]) fun y hy => by
   obtain ⟨b, bs', v, kb, e, hs⟩ := hy
   exact ⟨(b, bs', v, kb), e, hs⟩
theorem Sat.kidsLen {L' : List HP} {f : For} {bs : List Nat} (h : Sat R w0 L w) (s : Swap L (kidsA f bs) (kidsA f bs) L') : bs.length = f.len := by
 obtain ⟨y, hy, _⟩ := h.own
 obtain ⟨h1, h2, _, _, hA, _⟩ := s.focus y hy
 exact kids_len hA
end
theorem kids_idx {ρ : Addr → Value → Prop} {x : Int} {k r : For} : ∀ {a : For} {kb : List Nat}, KidsAt ρ (a.app (.cons x k r)) kb → ∃ b v, kb[a.len]? = some b ∧ Row ρ ⟨b, 0, none⟩ [vi x, v]
 | .nil, kb, ⟨b, bs', v, kb2, e, h1, _⟩ => ⟨b, v, by rw [e]; rfl, h1⟩
 | .cons x2 k2 r2, kb, ⟨b, bs', v, kb2, e, _, _, _, h5⟩ => by
   obtain ⟨b1, v1, h6, h7⟩ := kids_idx (a := r2) h5
   exact ⟨b1, v1, by rw [e]; exact h6, h7⟩
end Go.Sy
/- A tree, carried over where a name is put in. No condition. -/
namespace Go.Sy
open Go Go.RowKit Go.Proofs
set_option maxRecDepth 20000 in
theorem fwd3_any (g : Gram) (s : SStep) (ls : List Nat) (hm : mayB g = true) (hs : mayS g s = true) (hop : s.op = 3) (hls : ls = ofL g.rules ((ruleAt g s.a).right.getD s.b.toNat ⟨false, 0⟩).n) : ∀ (N : Nat) (x : Int) (ks : For) (b cb : Nat) (w : World), (For.cons x ks .nil).size ≤ N → N ≤ 5000 → CarAt (Cl w) cb g s ls → KidsAt (Cl w) (.cons x ks .nil) [b] → Wf g (.cons x ks .nil) → Calls Try.prog 43 #[.pointer (some ⟨cb, 0, none⟩), .pointer (some ⟨b, 0, none⟩)] w (fun e w' => ∃ b' : Nat, e = .returned (.pointer (some ⟨b', 0, none⟩)) ∧ Sat (Old w) w [kidsA ((fwd3 s.a (nms ((ruleAt g s.a).right.take s.b.toNat)) ls) (.cons x ks .nil)) [b']] w') := by
 intro N
 refine Nat.strongRecOn N ?_
 clear N
 intro N ih x ks b cb w hsz hN hc0 hk0 hwf
 obtain ⟨rv, lv, hcar, hrr, hll⟩ := (hc0.mono old_rd).ex
 obtain ⟨ar, cr, rfl, hr1, hr2, hrs⟩ := hrr
 obtain ⟨al, cl, rfl, hl1, hl2, hls1⟩ := hll
 rw [show (natV ls).length = ls.length by rw [List.length_map]] at hcar hl1
 obtain ⟨ak, kb, ck, hrow, hk1, hk2, hkb, hks⟩ := kids_top (hk0.mono old_rd)
 obtain ⟨⟨q, yq, hx0, hq, hdq⟩, _⟩ := id hwf
 have hwks := der_wf hdq
 obtain ⟨pq, hpq, rvq, hsy, hrowq⟩ := hrs x.toNat q hq
 subst hpq
 obtain ⟨ya, yc, rfl, hy1, hy2, hys⟩ := id hsy
 have hxl := (List.getElem?_eq_some_iff.1 hq).1
 have hq8 := (may_rule hm hq).2.2
 obtain ⟨ha0, hb0, qa, y0, hqa, hya, hyt, hyn, hra, hry0⟩ := may_inl hm hs hop
 rw [hry0] at hls
 have hM := mayB_true.1 hm
 have hlsl : ls.length ≤ g.rules.length := by rw [hls]; exact ofLk_len _ _ _
 have hbl5 := (List.getElem?_eq_some_iff.1 hya).1
 
 refine calls_CW Try.func43 rfl Try.ntmps43 rfl (Sat.start w) ?_
 refine nx3 ?_
 refine aO ?_
 refine nx2 ?_
 refine CW_seq ?_
 refine CW_draw (Sat (Old w) w []) 12 [(0, false), (1, false), (2, false), (3, false), (4, false), (5, false), (6, false), (7, false), (8, false), (9, false), (10, false), (11, true), (12, true)] (by kernel_rfl) (Blind.then (Blind.body (by intro c w h; simp at h))) (by kernel_rfl) (fun w hw => hw.drew) ?_
 refine mD ?_
 refine DW_q rfl sft (q_nilCheck rfl) rfl ?_
 refine DW_q rfl sft (q_fieldAddr Try.underlying96 rfl rfl Try.sizeOf24 rfl rfl) rfl ?_
 refine DW_q rfl sft (q_fieldAddr Try.underlying24 rfl rfl Try.sizeOf22 rfl rfl) rfl ?_
 refine DW_q rfl sft (q_load1_ro Try.isAgg22 rfl (by exact hcar.at_ (j := 2) rfl)) rfl ?_
 refine mD ?_
 refine DW_q rfl sft (q_nilCheck rfl) rfl ?_
 refine DW_q rfl sft (q_fieldAddr Try.underlying99 rfl rfl Try.sizeOf3 rfl rfl) rfl ?_
 refine DW_q rfl sft (q_load1_ro Try.isAgg3 rfl (by exact hrow.at_ (j := 0) rfl)) rfl ?_
 refine DW_spell 21 (.int .i64 ((x.toNat : Nat) : Int)) rfl (congrArg (Value.int .i64) (by omega)) ?_
 refine DW_q rfl sft (q_indexAddr Try.underlying22 Try.sizeOf49 rfl rfl hxl) rfl ?_
 refine DW_q rfl sft (q_loadN_ro Try.isAgg49 Try.sizeOf49 rfl (by exact hrowq) (by rfl)) rfl ?_
 refine DW_e rfl (e_alloc Try.zeroValue49 rfl) rfl (fun _ w hw => by first | exact hw.sub sbt | exact hw.2.sub sbt) (fun b5 => ?_)
 refine DW_z0 rfl (e_storeN Try.sizeOf49 rfl rfl rfl rfl (by simp [Value.oneCell']) swt (by rfl)) (fun _ => ?_)
 refine EW_then ?_
 refine CW_seq ?_
 refine CW_seq ?_
 refine CW_draw (Sat (Old w) w [cel b5 49 [.int .i64 q.left, .slice ya q.right.length yc]]) 16 [(0, false), (1, false), (2, false), (3, false), (4, false), (5, false), (6, false), (7, false), (8, false), (9, false), (10, false), (11, false), (12, false), (13, false), (14, false), (15, false)] (by kernel_rfl) (Blind.then (Blind.then (Blind.body (by intro c w h; simp at h)))) (by kernel_rfl) (fun w hw => hw.drew) ?_
 refine mD ?_
 refine DW_q rfl sft (q_nilCheck rfl) rfl ?_
 refine DW_q rfl sft (q_fieldAddr Try.underlying96 rfl rfl Try.sizeOf26 rfl rfl) rfl ?_
 refine DW_q rfl sft (q_fieldAddr Try.underlying26 rfl rfl Try.sizeOf3 rfl rfl) rfl ?_
 refine DW_q rfl sft (q_load1_ro Try.isAgg3 rfl (by exact hcar.at_ (j := 3) rfl)) rfl ?_
 refine DW_q rfl sft (q_eqi rfl rfl) rfl ?_
 refine mD ?_
 refine DW_part (t := 30) rfl (fun hg30 => ?_) (fun hg30 => ?_)
 · skip
   exact absurd hg30 (by simp [hop]) --stop
 refine kD ?_
 refine kD ?_
 refine kD ?_
 refine kD ?_
 refine kD ?_
 refine kD ?_
 refine kD ?_
 refine kD ?_
 refine DW_q rfl sft (q_pick_f rfl rfl) rfl ?_
 refine DW_nil ?_
 refine EW_then ?_
 refine CW_false rfl rfl ?_
 refine CW_skip ?_
 refine EW_then ?_
 refine nx3 ?_
 refine mO ?_
 refine OW_q (q_nilCheck rfl) rfl ?_
 refine OW_q (q_fieldAddr Try.underlying99 rfl rfl Try.sizeOf3 rfl rfl) rfl ?_
 refine OW_q (q_load1_ro Try.isAgg3 rfl (by exact hrow.at_ (j := 0) rfl)) rfl ?_
 refine OW_q (q_build (ps := #[(0, .int .i64 x)]) (v := .agg #[.int .i64 x, .slice none 0 0]) rfl (fun w => by kernel_rfl)) rfl ?_
 refine OW_e (e_box rfl rfl) rfl (fun b48 => ?_)
 refine aO ?_
 refine nx2 ?_
 refine CW_seq ?_
 refine nx3 ?_
 refine mO ?_
 refine OW_q (q_nilCheck rfl) rfl ?_
 refine OW_q (q_fieldAddr Try.underlying99 rfl rfl Try.sizeOf97 rfl rfl) rfl ?_
 refine OW_q (q_load1_ro Try.isAgg97 rfl (by exact hrow.at_ (j := 1) rfl)) rfl ?_
 refine OW_q (q_len Try.underlying97 rfl) rfl ?_
 refine mO ?_
 refine nx2 ?_
 refine CW_block ?_
 refine CW_weak (S' := Sat (Old w) w [cel b48 99 [vi x, .slice none 0 0], trow 80 1 encP (.slice none 0 0) [], kidsA ((fwd3 s.a (nms ((ruleAt g s.a).right.take s.b.toNat)) ls) .nil) [], cel b5 49 [.int .i64 q.left, .slice ya q.right.length yc]]) (fun w hw => by
   have h1 := (hw.tnil 80 1 encP).addEmp (A := kidsA ((fwd3 s.a (nms ((ruleAt g s.a).right.take s.b.toNat)) ls) .nil) []) ⟨rfl, rfl⟩
   exact h1.sub sbt) ?_
 refine CW_loopP (ι := Nat × For × For × List Nat × List Nat × Value × List Nat) (fun i_ => i_.1 ≤ kb.length ∧ ks = i_.2.1.app i_.2.2.1 ∧ kb = i_.2.2.2.1 ++ i_.2.2.2.2.1 ∧ i_.2.2.2.1.length = i_.1 ∧ KidsAt (Rd (Old w) w) i_.2.2.1 i_.2.2.2.2.1 ∧ Wf g i_.2.2.1 ∧ i_.2.2.2.2.2.2.length = i_.1) (fun i_ => [(0, .pointer (some ⟨cb, 0, none⟩)), (1, .pointer (some ⟨b, 0, none⟩)), (5, .pointer (some ⟨b5, 0, none⟩)), (6, .pointer (some ⟨b48, 0, none⟩)), (52, .slice ak kb.length ck), (53, .int .i64 (kb.length : Int)), (54, .int .i64 (i_.1 : Int))]) (fun i_ => Sat (Old w) w [cel b48 99 [vi x, i_.2.2.2.2.2.1], trow 80 1 encP i_.2.2.2.2.2.1 i_.2.2.2.2.2.2, kidsA ((fwd3 s.a (nms ((ruleAt g s.a).right.take s.b.toNat)) ls) i_.2.1) i_.2.2.2.2.2.2, cel b5 49 [.int .i64 q.left, .slice ya q.right.length yc]]) (fun i_ => kb.length - i_.1) (0, .nil, ks, [], kb, .slice none 0 0, []) ?_ ⟨rfl, rfl, rfl, rfl, rfl, rfl, rfl, trivial⟩ sft ?_
 · exact ⟨Nat.zero_le _, rfl, rfl, rfl, hks, hwks, rfl⟩
 intro i_ hpre
 obtain ⟨k, fd, fr, bd, br, v, nb⟩ := i_
 replace hpre : k ≤ kb.length ∧ ks = fd.app fr ∧ kb = bd ++ br ∧ bd.length = k ∧ KidsAt (Rd (Old w) w) fr br ∧ Wf g fr ∧ nb.length = k := hpre
 change CW _ _ _ _ [(0, .pointer (some ⟨cb, 0, none⟩)), (1, .pointer (some ⟨b, 0, none⟩)), (5, .pointer (some ⟨b5, 0, none⟩)), (6, .pointer (some ⟨b48, 0, none⟩)), (52, .slice ak kb.length ck), (53, .int .i64 (kb.length : Int)), (54, .int .i64 (k : Int))] (Sat (Old w) w [cel b48 99 [vi x, v], trow 80 1 encP v nb, kidsA ((fwd3 s.a (nms ((ruleAt g s.a).right.take s.b.toNat)) ls) fd) nb, cel b5 49 [.int .i64 q.left, .slice ya q.right.length yc]])
 obtain ⟨hk, hfd, hbd, hbl, hkr, hwfr, hnb⟩ := hpre
 refine nx3 ?_
 refine OW_q (q_lss rfl rfl) rfl ?_
 refine nx2 ?_
 refine CW_seq ?_
 refine CW_cond rfl (fun h55 => ?_) (fun h55 => ?_)
 · skip
   have hlt : k < kb.length := by have := of_decide_eq_true h55; omega
   obtain ⟨b1, br2, rfl⟩ : ∃ b1 br2, br = b1 :: br2 := by
     cases br with
     | nil => rw [List.append_nil] at hbd; rw [hbd] at hlt; omega
     | cons b1 br2 => exact ⟨b1, br2, rfl⟩
   have hbk : kb[k]? = some b1 := by rw [hbd, List.getElem?_append_right (by omega), hbl, Nat.sub_self]; rfl
   obtain ⟨p1, hp1, hb1⟩ := hkb k b1 hbk
   subst hp1
   obtain ⟨xk, kk, fr2, rfl, hkk, hk2'⟩ := kids_cons hkr
   have hkl := KidsAt.len hks
   have hks5 := kid_size (x := x) hfd
   have hls5 := len_size ks
   refine CW_skip ?_
   refine EW_then ?_
   refine CW_seq ?_
   refine CW_block ?_
   refine nx3 ?_
   refine OW_q (q_indexAddr Try.underlying97 Try.sizeOf80 rfl rfl (by omega)) rfl ?_
   refine OW_q (q_load1_ro Try.isAgg80 rfl (by exact hb1)) rfl ?_
   refine aO ?_
   refine nx2 ?_
   refine CW_draw (Sat (Old w) w [cel b48 99 [vi x, v]]) 12 [(0, false), (1, false), (2, false), (3, false), (4, false), (5, false), (6, false), (7, true), (8, true), (9, true), (10, false), (11, false), (12, true)] (by kernel_rfl) (Blind.block (Blind.then (Blind.again (Blind.block (Blind.then (Blind.body (by intro c w h; simp at h))))))) (by kernel_rfl) (fun w hw => hw.drew) ?_
   refine mD ?_
   refine mD ?_
   refine DW_q rfl sft (q_nilCheck rfl) rfl ?_
   refine DW_q rfl sft (q_fieldAddr Try.underlying99 rfl rfl Try.sizeOf97 rfl rfl) rfl ?_
   refine DW_q rfl sft (q_load1_own Try.isAgg97 rfl rfl swt (by rfl)) rfl ?_
   refine mD ?_
   refine mD ?_
   refine DW_e rfl (e_call Try.call43 rfl (fun w hw => lift_old (ih (For.cons xk kk .nil).size (by have := kid_size (x := x) hfd; omega) xk kk b1 cb w (Nat.le_refl _) (by have := kid_size (x := x) hfd; omega) (hc0.mono fun _ _ h => hw.rd (Rd.old h)) (hkk.mono hw.rd_cl) ⟨hwfr.1, trivial⟩) hw)) rfl (fun _ w hw => by first | exact hw.sub sbt | exact hw.2.sub sbt) (fun x65 => ?_)
   refine DW_e rfl (e_single Try.underlying97 Try.sizeOf80 Try.zeroValue80 (e := 80) (v := .pointer (some ⟨x65, 0, none⟩)) (cs := encP x65) rfl rfl rfl rfl (by decide) (by decide)) rfl (fun _ => sft) (fun b66 => ?_)
   refine DW_e rfl (e_append_t (x0 := x65) (enc := encP) (v := v) (l := nb) Try.underlying97 Try.typeInfo80 rfl rfl rfl rfl rfl rfl rfl pkt rfl (by exact fun w hw => hw.news swt) (by simp [Value.oneCell']) (by omega) (by decide)) rfl (fun _ => sft) (fun v67 => ?_)
   refine DW_fact (fun w hw => hw.tform (v := v67) (l := (nb ++ [x65])) (enc := encP) swt) (fun hf => ?_)
   obtain ⟨a67, c67, rfl, _, _, hb67⟩ := hf
   refine DW_q rfl sft (q_nilCheck rfl) rfl ?_
   refine DW_q rfl sft (q_fieldAddr Try.underlying99 rfl rfl Try.sizeOf97 rfl rfl) rfl ?_
   refine DW_z0 rfl (e_store Try.sizeOf97 rfl rfl rfl rfl swt (by rfl)) (fun _ => ?_)
   refine EW_block_normal ?_
   refine EW_then ?_
   refine CW_region ?_
   refine OW_q (q_add rfl rfl (by omega) (by omega)) rfl ?_
   refine mO ?_
   refine OW_nil ?_
   refine EW_weak (S' := Sat (Old _) _ [cel b48 99 [vi x, .slice a67 (nb ++ [x65]).length c67], trow 80 1 encP (.slice a67 (nb ++ [x65]).length c67) (nb ++ [x65]), kidsA ((fwd3 s.a (nms ((ruleAt g s.a).right.take s.b.toNat)) ls) (fd.app (.cons xk kk .nil))) (nb ++ [x65]), cel b5 49 [.int .i64 q.left, .slice ya q.right.length yc]]) (fun w hw => by
     have h1 : Sat _ _ (kidsA ((fwd3 s.a (nms ((ruleAt g s.a).right.take s.b.toNat)) ls) fd) nb :: kidsA ((fwd3 s.a (nms ((ruleAt g s.a).right.take s.b.toNat)) ls) (.cons xk kk .nil)) [x65] :: [cel b48 99 [vi x, .slice a67 (nb ++ [x65]).length c67], trow 80 1 encP (.slice a67 (nb ++ [x65]).length c67) (nb ++ [x65]), cel b5 49 [.int .i64 q.left, .slice ya q.right.length yc]]) w := hw.sub sbt
     exact (sat_kids (T := (fwd3 s.a (nms ((ruleAt g s.a).right.take s.b.toNat)) ls)) (fwd3_app) h1).sub sbt) ?_
   refine EW_again ((k + 1, fd.app (.cons xk kk .nil), fr2, bd ++ [b1], br2, .slice a67 (nb ++ [x65]).length c67, nb ++ [x65])) ⟨?_, ?_⟩ ⟨rfl, rfl, rfl, rfl, rfl, rfl, rfl, trivial⟩ sft
   · show kb.length - (k + 1) < kb.length - k; omega
   · refine ⟨by show k + 1 ≤ _; omega, ?_, ?_, ?_, hk2', hwfr.2, ?_⟩
     · show ks = _
       rw [hfd, For.app_one]
     · show kb = _
       rw [hbd]; simp
     · show (bd ++ [b1]).length = _
       rw [List.length_append, hbl]; rfl
     · show (nb ++ [x65]).length = _
       rw [List.length_append, hnb]; rfl
 have hke : k = kb.length := by have := of_decide_eq_false h55; omega
 have hbr : br = [] := by
   have := congrArg List.length hbd
   rw [List.length_append] at this
   exact List.eq_nil_of_length_eq_zero (by omega)
 subst hbr
 have hfr := kids_none hkr
 subst hfr
 rw [For.app_nil] at hfd
 subst hfd
 refine CW_fact (fun w hw => hw.tform (v := v) (l := nb) (enc := encP) swt) (fun hf => ?_)
 obtain ⟨an, cn, rfl, _, _, hbn⟩ := hf
 refine CW_exit ?_
 refine EW_then_exit ?_
 refine EW_out ?_
 refine EW_block_exit ?_
 refine EW_then ?_
 refine CW_seq ?_
 refine nx3 ?_
 refine mO ?_
 refine OW_q (q_nilCheck rfl) rfl ?_
 refine OW_q (q_fieldAddr Try.underlying96 rfl rfl Try.sizeOf26 rfl rfl) rfl ?_
 refine OW_q (q_fieldAddr Try.underlying26 rfl rfl Try.sizeOf3 rfl rfl) rfl ?_
 refine OW_q (q_load1_ro Try.isAgg3 rfl (by exact hcar.at_ (j := 3) rfl)) rfl ?_
 refine nx2 ?_
 refine CW_block ?_
 refine nx3 ?_
 refine OW_q (q_eqi rfl rfl) rfl ?_
 refine aO ?_
 refine nx2 ?_
 refine CW_false rfl (by simp [hop]) ?_
 refine nx3 ?_
 refine OW_q (q_eqi rfl rfl) rfl ?_
 refine aO ?_
 refine nx2 ?_
 refine CW_true rfl (by simp [hop]) ?_
 refine CW_seq ?_
 refine CW_seq ?_
 refine CW_draw (Sat (Old w) w []) 10 [(0, false), (1, false), (2, false), (3, false), (4, false), (5, false), (6, false), (7, false), (8, false), (9, false)] (by kernel_rfl) (Blind.then (Blind.then (Blind.block (Blind.then (Blind.body (by intro c w h; simp at h)))))) (by kernel_rfl) (fun w hw => hw.drew) ?_
 refine mD ?_
 refine DW_q rfl sft (q_nilCheck rfl) rfl ?_
 refine DW_q rfl sft (q_fieldAddr Try.underlying99 rfl rfl Try.sizeOf3 rfl rfl) rfl ?_
 refine DW_q rfl sft (q_load1_ro Try.isAgg3 rfl (by exact hrow.at_ (j := 0) rfl)) rfl ?_
 refine mD ?_
 refine DW_q rfl sft (q_nilCheck rfl) rfl ?_
 refine DW_q rfl sft (q_fieldAddr Try.underlying96 rfl rfl Try.sizeOf26 rfl rfl) rfl ?_
 refine DW_q rfl sft (q_fieldAddr Try.underlying26 rfl rfl Try.sizeOf3 rfl rfl) rfl ?_
 refine DW_q rfl sft (q_load1_ro Try.isAgg3 rfl (by exact hcar.at_ (j := 4) rfl)) rfl ?_
 refine DW_q rfl sft (q_gtr rfl rfl) rfl ?_
 refine DW_nil ?_
 refine EW_then ?_
 refine CW_cond rfl (fun h152 => ?_) (fun h152 => ?_)
 · skip
   have hgt : s.a < x := of_decide_eq_true h152
   refine CW_draw (Sat (Old w) w [cel b48 99 [vi x, .slice an nb.length cn]]) 13 [(0, false), (1, false), (2, false), (3, false), (4, false), (5, false), (6, false), (7, false), (8, false), (9, false), (10, false), (11, false), (12, false), (13, true)] (by kernel_rfl) (Blind.then (Blind.block (Blind.then (Blind.body (by intro c w h; simp at h))))) (by kernel_rfl) (fun w hw => hw.drew) ?_
   refine mD ?_
   refine DW_q rfl sft (q_nilCheck rfl) rfl ?_
   refine DW_q rfl sft (q_fieldAddr Try.underlying99 rfl rfl Try.sizeOf3 rfl rfl) rfl ?_
   refine DW_q rfl sft (q_load1_own Try.isAgg3 rfl rfl swt (by rfl)) rfl ?_
   refine mD ?_
   refine DW_q rfl sft (q_nilCheck rfl) rfl ?_
   refine DW_q rfl sft (q_fieldAddr Try.underlying96 rfl rfl Try.sizeOf32 rfl rfl) rfl ?_
   refine DW_q rfl sft (q_load1_ro Try.isAgg32 rfl (by exact hcar.at_ (j := 8) rfl)) rfl ?_
   refine DW_q rfl sft (q_len Try.underlying32 rfl) rfl ?_
   refine DW_q rfl sft (q_sub rfl rfl (by omega) (by omega)) rfl ?_
   refine DW_q rfl sft (q_add rfl rfl (by omega) (by omega)) rfl ?_
   refine DW_q rfl sft (q_nilCheck rfl) rfl ?_
   refine DW_q rfl sft (q_fieldAddr Try.underlying99 rfl rfl Try.sizeOf3 rfl rfl) rfl ?_
   refine DW_z0 rfl (e_store Try.sizeOf3 rfl rfl rfl rfl swt (by rfl)) (fun _ => ?_)
   refine EW_then ?_
   refine CW_seq ?_
   refine CW_draw (Sat (Old w) w []) 10 [(0, false), (1, false), (2, false), (3, false), (4, false), (5, false), (6, false), (7, false), (8, false), (9, false)] (by kernel_rfl) (Blind.then (Blind.block (Blind.then (Blind.body (by intro c w h; simp at h))))) (by kernel_rfl) (fun w hw => hw.drew) ?_
   refine mD ?_
   refine DW_q rfl sft (q_nilCheck rfl) rfl ?_
   refine DW_q rfl sft (q_fieldAddr Try.underlying99 rfl rfl Try.sizeOf3 rfl rfl) rfl ?_
   refine DW_q rfl sft (q_load1_ro Try.isAgg3 rfl (by exact hrow.at_ (j := 0) rfl)) rfl ?_
   refine mD ?_
   refine DW_q rfl sft (q_nilCheck rfl) rfl ?_
   refine DW_q rfl sft (q_fieldAddr Try.underlying96 rfl rfl Try.sizeOf26 rfl rfl) rfl ?_
   refine DW_q rfl sft (q_fieldAddr Try.underlying26 rfl rfl Try.sizeOf3 rfl rfl) rfl ?_
   refine DW_q rfl sft (q_load1_ro Try.isAgg3 rfl (by exact hcar.at_ (j := 4) rfl)) rfl ?_
   refine DW_q rfl sft (q_eqi rfl rfl) rfl ?_
   refine DW_nil ?_
   refine EW_then ?_
   refine CW_cond rfl (fun h175 => ?_) (fun h175 => ?_)
   · skip
     exfalso
     have hxa : x = s.a := by simpa using h175
     omega --stop
   have hne : x ≠ s.a := by simpa using h175
   refine CW_skip ?_
   refine EW_block_normal ?_
   refine EW_then ?_
   refine nx3 ?_
   refine mO ?_
   refine aO ?_
   refine nx2 ?_
   refine CW_ret ?_
   refine ret1 Try.results43 rfl (fun w hw => ?_)
   have hT : (fwd3 s.a (nms ((ruleAt g s.a).right.take s.b.toNat)) ls) (.cons x ks .nil) = .cons (x + ((ls.length : Int) - 1)) ((fwd3 s.a (nms ((ruleAt g s.a).right.take s.b.toNat)) ls) ks) .nil := by
     show (if x = s.a then For.cons _ _ _ else For.cons (if s.a < x then _ else _) _ _) = _
     rw [if_neg hne, if_pos hgt]; rfl
   rw [hT]
   refine ⟨b48, rfl, ?_⟩
   have h1 : Sat _ _ (cel b48 99 [vi (x + ((ls.length : Int) - 1)), .slice an nb.length cn] :: trow 80 1 encP (.slice an nb.length cn) nb :: kidsA ((fwd3 s.a (nms ((ruleAt g s.a).right.take s.b.toNat)) ls) ks) nb :: []) w := hw.sub sbt
   exact h1.kidNew
 have hgt : ¬ s.a < x := of_decide_eq_false h152
 refine CW_skip ?_
 refine EW_then ?_
 refine CW_seq ?_
 refine CW_draw (Sat (Old w) w []) 10 [(0, false), (1, false), (2, false), (3, false), (4, false), (5, false), (6, false), (7, false), (8, false), (9, false)] (by kernel_rfl) (Blind.then (Blind.block (Blind.then (Blind.body (by intro c w h; simp at h))))) (by kernel_rfl) (fun w hw => hw.drew) ?_
 refine mD ?_
 refine DW_q rfl sft (q_nilCheck rfl) rfl ?_
 refine DW_q rfl sft (q_fieldAddr Try.underlying99 rfl rfl Try.sizeOf3 rfl rfl) rfl ?_
 refine DW_q rfl sft (q_load1_ro Try.isAgg3 rfl (by exact hrow.at_ (j := 0) rfl)) rfl ?_
 refine mD ?_
 refine DW_q rfl sft (q_nilCheck rfl) rfl ?_
 refine DW_q rfl sft (q_fieldAddr Try.underlying96 rfl rfl Try.sizeOf26 rfl rfl) rfl ?_
 refine DW_q rfl sft (q_fieldAddr Try.underlying26 rfl rfl Try.sizeOf3 rfl rfl) rfl ?_
 refine DW_q rfl sft (q_load1_ro Try.isAgg3 rfl (by exact hcar.at_ (j := 4) rfl)) rfl ?_
 refine DW_q rfl sft (q_eqi rfl rfl) rfl ?_
 refine DW_nil ?_
 refine EW_then ?_
 refine CW_cond rfl (fun h175 => ?_) (fun h175 => ?_)
 · skip
   have hxa : x = s.a := by simpa using h175
   have hqq : q = qa := by rw [hxa, hqa] at hq; exact (Option.some.inj hq).symm
   subst hqq
   have hdq' : Der g (q.right.take s.b.toNat ++ y0 :: q.right.drop (s.b.toNat + 1)) ks yq := by rw [← inl_join hya]; exact hdq
   obtain ⟨f1, f2, y1, y2, hks1, hyq, d1, d2⟩ := der_cut hdq'
   obtain ⟨x2, k2, f4, q2, hf2, hx20, hq2, hq2l, hk2n⟩ : ∃ x2 k2 f4 q2, f2 = .cons x2 k2 f4 ∧ 0 ≤ x2 ∧ g.rules[x2.toNat]? = some q2 ∧ q2.left = y0.n ∧ k2.len = nms q2.right := by
     cases d2 with
     | term h1 _ => rw [hyt] at h1; cases h1
     | name _ h0 hq hl hk _ => exact ⟨_, _, _, _, rfl, h0, hq, hl, der_len hk⟩
   subst hf2
   have hfl1 : f1.len = (nms ((ruleAt g s.a).right.take s.b.toNat)) := by rw [hra]; exact der_len d1
   have hx2a : x2 ≠ s.a := fun e => by
     rw [e, hqa] at hq2
     injection hq2 with hq2
     subst hq2
     exact hyn hq2l.symm
   have hTk : (fwd3 s.a (nms ((ruleAt g s.a).right.take s.b.toNat)) ls) ks = ((fwd3 s.a (nms ((ruleAt g s.a).right.take s.b.toNat)) ls) f1).app (.cons (if s.a < x2 then x2 + ((ls.length : Int) - 1) else x2) ((fwd3 s.a (nms ((ruleAt g s.a).right.take s.b.toNat)) ls) k2) ((fwd3 s.a (nms ((ruleAt g s.a).right.take s.b.toNat)) ls) f4)) := by
     rw [hks1, fwd3_app]
     congr 1
     show (if x2 = s.a then For.cons _ _ _ else For.cons _ _ _) = _
     rw [if_neg hx2a]
   have hmem : x2.toNat ∈ ls := by rw [hls]; exact ofL_get hq2 hq2l
   have hil := (List.getElem?_eq_some_iff.1 (idx_get hmem)).1
   obtain ⟨bp, vp, hbp, hrowp⟩ := kids_idx (x := x2) (k := k2) (r := f4) (a := f1) (by rw [← hks1]; exact hks)
   rw [hfl1] at hbp
   obtain ⟨pp, hpp, hbp1⟩ := hkb _ bp hbp
   subst hpp
   have hpl := (List.getElem?_eq_some_iff.1 hbp).1
   have hTl : ((fwd3 s.a (nms ((ruleAt g s.a).right.take s.b.toNat)) ls) f1).len = (nms ((ruleAt g s.a).right.take s.b.toNat)) := by rw [fwd3_len]; exact hfl1
   refine CW_ex (S' := fun (z : List Nat × List Nat) w' => (nb = z.1 ++ z.2 ∧ z.1.length = ((fwd3 s.a (nms ((ruleAt g s.a).right.take s.b.toNat)) ls) f1).len) ∧ Sat (Old w) w (kidsA ((fwd3 s.a (nms ((ruleAt g s.a).right.take s.b.toNat)) ls) f1) z.1 :: kidsA (.cons (if s.a < x2 then x2 + ((ls.length : Int) - 1) else x2) ((fwd3 s.a (nms ((ruleAt g s.a).right.take s.b.toNat)) ls) k2) ((fwd3 s.a (nms ((ruleAt g s.a).right.take s.b.toNat)) ls) f4)) z.2 :: [cel b48 99 [vi x, .slice an nb.length cn], trow 80 1 encP (.slice an nb.length cn) nb, cel b5 49 [.int .i64 q.left, .slice ya q.right.length yc]]) w') (fun w' hw => by
     have h1 : Sat _ _ (kidsA ((fwd3 s.a (nms ((ruleAt g s.a).right.take s.b.toNat)) ls) ks) nb :: [cel b48 99 [vi x, .slice an nb.length cn], trow 80 1 encP (.slice an nb.length cn) nb, cel b5 49 [.int .i64 q.left, .slice ya q.right.length yc]]) w' := hw.sub sbt
     rw [hTk] at h1
     exact h1.kidsCut) (fun z => ?_)
   obtain ⟨n1, n2⟩ := z
   refine CW_pure fun hz => ?_
   obtain ⟨hn1, hn2⟩ := hz
   have hn1 : nb = n1 ++ n2 := hn1
   have hn2 : n1.length = ((fwd3 s.a (nms ((ruleAt g s.a).right.take s.b.toNat)) ls) f1).len := hn2
   refine CW_ex (S' := fun (z : Nat × List Nat × Value × List Nat) w' => n2 = z.1 :: z.2.1 ∧ Sat (Old w) w (cel z.1 99 [vi (if s.a < x2 then x2 + ((ls.length : Int) - 1) else x2), z.2.2.1] :: trow 80 1 encP z.2.2.1 z.2.2.2 :: kidsA ((fwd3 s.a (nms ((ruleAt g s.a).right.take s.b.toNat)) ls) k2) z.2.2.2 :: kidsA ((fwd3 s.a (nms ((ruleAt g s.a).right.take s.b.toNat)) ls) f4) z.2.1 :: [kidsA ((fwd3 s.a (nms ((ruleAt g s.a).right.take s.b.toNat)) ls) f1) n1, cel b48 99 [vi x, .slice an nb.length cn], trow 80 1 encP (.slice an nb.length cn) nb, cel b5 49 [.int .i64 q.left, .slice ya q.right.length yc]]) w') (fun w' hw => Sat.kidOpen (hw.sub sbt)) (fun z => ?_)
   obtain ⟨b2p, n4, v2, kb2⟩ := z
   refine CW_pure fun hz2 => ?_
   have hz2 : n2 = b2p :: n4 := hz2
   subst hz2
   rw [hTl] at hn2
   have hnb1 : nb[(nms ((ruleAt g s.a).right.take s.b.toNat))]? = some b2p := by rw [hn1, List.getElem?_append_right (by omega), hn2, Nat.sub_self]; rfl
   have hnbl := (List.getElem?_eq_some_iff.1 hnb1).1
   have hlist : (nb.take (nms ((ruleAt g s.a).right.take s.b.toNat)) ++ kb2 ++ nb.drop ((nms ((ruleAt g s.a).right.take s.b.toNat)) + 1)) = n1 ++ (kb2 ++ n4) := by
     have e1 : nb.take (nms ((ruleAt g s.a).right.take s.b.toNat)) = n1 := by rw [hn1, ← hn2, List.take_left]
     have e2 : nb.drop ((nms ((ruleAt g s.a).right.take s.b.toNat)) + 1) = n4 := by rw [hn1, ← hn2, show n1.length + 1 = (n1 ++ [b2p]).length by simp, show n1 ++ b2p :: n4 = (n1 ++ [b2p]) ++ n4 by simp, List.drop_left]
     rw [e1, e2, List.append_assoc]
   refine CW_fact (fun w hw => hw.tform (v := v2) (l := kb2) (enc := encP) swt) (fun hf => ?_)
   obtain ⟨a2k, c2k, rfl, _, _, hb2k⟩ := hf
   refine CW_fact (S := _) (fun w hw => Sat.kidsLen (f := (fwd3 s.a (nms ((ruleAt g s.a).right.take s.b.toNat)) ls) k2) (bs := kb2) hw swt) (fun hk2l => ?_)
   obtain ⟨gn, rfl⟩ := hbn (by omega)
   rw [fwd3_len] at hk2l
   have hk28 : k2.len ≤ 8 := by rw [hk2n]; exact Nat.le_trans (nms_le _) (may_rule hm hq2).2.2
   have hks8 : kb.length ≤ 8 := by rw [KidsAt.len hks, der_len hdq]; exact Nat.le_trans (nms_le _) hq8
   refine CW_seq ?_
   refine CW_draw (Sat (Old w) w [cel b5 49 [.int .i64 q.left, .slice ya q.right.length yc]]) 10 [(0, false), (1, false), (2, false), (3, false), (4, false), (5, false), (6, false), (7, false), (8, true), (9, false)] (by kernel_rfl) (Blind.then (Blind.block (Blind.then (Blind.body (by intro c w h; simp at h))))) (by kernel_rfl) (fun w hw => hw.drew) ?_
   refine DW_q rfl sft (q_fieldAddr Try.underlying49 rfl rfl Try.sizeOf46 rfl rfl) rfl ?_
   refine DW_q rfl sft (q_load1_own Try.isAgg46 rfl rfl swt (by rfl)) rfl ?_
   refine mD ?_
   refine DW_q rfl sft (q_nilCheck rfl) rfl ?_
   refine DW_q rfl sft (q_fieldAddr Try.underlying96 rfl rfl Try.sizeOf26 rfl rfl) rfl ?_
   refine DW_q rfl sft (q_fieldAddr Try.underlying26 rfl rfl Try.sizeOf3 rfl rfl) rfl ?_
   refine DW_q rfl sft (q_load1_ro Try.isAgg3 rfl (by exact hcar.at_ (j := 5) rfl)) rfl ?_
   refine DW_spell 182 (.int .i64 ((s.b.toNat : Nat) : Int)) rfl (congrArg (Value.int .i64) (by omega)) ?_
   refine DW_q rfl sft (q_slice (l := 0) (h := s.b.toNat) Try.underlying46 Try.sizeOf51 rfl (.inl ⟨rfl, rfl⟩) (.inr ⟨_, rfl, rfl⟩) (Nat.zero_le _) (by omega) (by omega)) rfl ?_
   refine DW_e rfl (e_call Try.call60 rfl (fun w hw => lift_ro (names_any _ ((q.right.take s.b.toNat).drop 0) w (by rw [List.length_drop, List.length_take]; omega) (SlAt.sub (hsy.mono fun _ _ h => hw.rd h) (Nat.zero_le _) (by omega))) hw)) rfl (fun _ w hw => by first | exact hw.sub sbt | exact hw.2.sub sbt) (fun x184 => ?_)
   refine DW_spell 184 (.int .i64 (((nms ((ruleAt g s.a).right.take s.b.toNat)) : Nat) : Int)) rfl (by rw [List.drop_zero, hra]) ?_
   refine DW_q rfl sft (q_assign rfl) rfl ?_
   refine DW_nil ?_
   refine EW_then ?_
   refine CW_seq ?_
   refine CW_draw (Sat (Old w) w [cel b48 99 [vi x, .slice (some ⟨gn, 0, none⟩) nb.length cn]]) 22 [(0, false), (1, false), (2, false), (3, false), (4, false), (5, false), (6, false), (7, false), (8, false), (9, false), (10, false), (11, false), (12, false), (13, false), (14, false), (15, false), (16, false), (17, false), (18, true), (19, false), (20, false), (21, false), (22, true)] (by kernel_rfl) (Blind.then (Blind.block (Blind.then (Blind.body (by intro c w h; simp at h))))) (by kernel_rfl) (fun w hw => hw.drew) ?_
   refine mD ?_
   refine DW_q rfl sft (q_nilCheck rfl) rfl ?_
   refine DW_q rfl sft (q_fieldAddr Try.underlying99 rfl rfl Try.sizeOf3 rfl rfl) rfl ?_
   refine DW_q rfl sft (q_load1_own Try.isAgg3 rfl rfl swt (by rfl)) rfl ?_
   refine mD ?_
   refine DW_q rfl sft (q_nilCheck rfl) rfl ?_
   refine DW_q rfl sft (q_fieldAddr Try.underlying96 rfl rfl Try.sizeOf32 rfl rfl) rfl ?_
   refine DW_q rfl sft (q_load1_ro Try.isAgg32 rfl (by exact hcar.at_ (j := 8) rfl)) rfl ?_
   refine mD ?_
   refine DW_q rfl sft (q_nilCheck rfl) rfl ?_
   refine DW_q rfl sft (q_fieldAddr Try.underlying99 rfl rfl Try.sizeOf97 rfl rfl) rfl ?_
   refine DW_q rfl sft (q_load1_ro Try.isAgg97 rfl (by exact hrow.at_ (j := 1) rfl)) rfl ?_
   refine mD ?_
   refine DW_q rfl sft (q_indexAddr Try.underlying97 Try.sizeOf80 rfl rfl hpl) rfl ?_
   refine DW_q rfl sft (q_load1_ro Try.isAgg80 rfl (by exact hbp1)) rfl ?_
   refine DW_q rfl sft (q_nilCheck rfl) rfl ?_
   refine DW_q rfl sft (q_fieldAddr Try.underlying99 rfl rfl Try.sizeOf3 rfl rfl) rfl ?_
   refine DW_q rfl sft (q_load1_ro Try.isAgg3 rfl (by exact hrowp.at_ (j := 0) rfl)) rfl ?_
   refine DW_spell 202 (.int .i64 ((x2.toNat : Nat) : Int)) rfl (congrArg (Value.int .i64) (by omega)) ?_
   refine DW_e rfl (e_call Try.call63 rfl (fun w hw => lift_ro (indexI_any _ ls x2.toNat w hmem ((show IntsAt (Rd (Old _) _) (.slice al ls.length cl) (natV ls) from ⟨al, cl, by rw [List.length_map], by rw [List.length_map]; exact hl1, hl2, hls1⟩).mono fun _ _ h => hw.rd h)) hw)) rfl (fun _ w hw => by first | exact hw.sub sbt | exact hw.2.sub sbt) (fun x203 => ?_)
   refine DW_q rfl sft (q_add rfl rfl (by omega) (by omega)) rfl ?_
   refine DW_q rfl sft (q_nilCheck rfl) rfl ?_
   refine DW_q rfl sft (q_fieldAddr Try.underlying99 rfl rfl Try.sizeOf3 rfl rfl) rfl ?_
   refine DW_z0 rfl (e_store Try.sizeOf3 rfl rfl rfl rfl swt (by rfl)) (fun _ => ?_)
   refine EW_then ?_
   refine CW_drawT (Sat (Old w) w [cel b48 99 [.int .i64 (x + ((idx x2.toNat ls : Nat) : Int)), .slice (some ⟨gn, 0, none⟩) nb.length cn], trow 80 1 encP (.slice (some ⟨gn, 0, none⟩) nb.length cn) nb, cel b2p 99 [vi (if s.a < x2 then x2 + ((ls.length : Int) - 1) else x2), .slice a2k kb2.length c2k]]) [18] (.q 0 false (.q 1 false (.q 2 false (.q 3 false (.q 4 true (.q 5 false (.q 6 false (.q 7 false (.q 8 false (.q 9 false (.q 10 false (.q 12 false (.e 11 (.q 13 false (.e 14 (.q 15 false (.q 16 false (.q 17 true (.e 18 (.q 19 false (.q 20 false (.e 21 .nil)))))))))))))))))))))) (by kernel_rfl) (Blind.block (Blind.then (Blind.body (by intro c w h; simp at h)))) (by kernel_rfl) (fun w hw => hw.drew) ?_
   refine DT_p rfl (.inr (fun w hw => (by exact hw.sub sbt))) (q_move rfl) rfl ?_
   refine DT_p rfl (.inr (fun w hw => (by exact hw.sub sbt))) (q_move rfl) rfl ?_
   refine DT_p rfl (.inr (fun w hw => (by exact hw.sub sbt))) (q_nilCheck rfl) rfl ?_
   refine DT_p rfl (.inr (fun w hw => (by exact hw.sub sbt))) (q_fieldAddr Try.underlying99 rfl rfl Try.sizeOf97 rfl rfl) rfl ?_
   refine DT_q rfl (fun w hw => (by exact hw.sub sbt)) (q_load1_own Try.isAgg97 rfl rfl swt (by rfl)) rfl ?_
   refine DT_p rfl (.inr (fun w hw => (by exact hw.sub sbt))) (q_move rfl) rfl ?_
   refine DT_p rfl (.inr (fun w hw => (by exact hw.sub sbt))) (q_move rfl) rfl ?_
   refine DT_p rfl (.inr (fun w hw => (by exact hw.sub sbt))) (q_add rfl rfl (by omega) (by omega)) rfl ?_
   refine DT_p rfl (.inr (fun w hw => (by exact hw.sub sbt))) (q_move rfl) rfl ?_
   refine DT_p rfl (.inr (fun w hw => (by exact hw.sub sbt))) (q_nilCheck rfl) rfl ?_
   refine DT_p rfl (.inr (fun w hw => (by exact hw.sub sbt))) (q_fieldAddr Try.underlying99 rfl rfl Try.sizeOf97 rfl rfl) rfl ?_
   refine DT_p rfl (.inr (fun w hw => (by exact hw.sub sbt))) (q_move rfl) rfl ?_
   refine DT_e rfl (ef_of_q (q_load1_own Try.isAgg97 rfl rfl swt (by rfl))) rfl (.inr (fun _ => sft)) (fun _ => ?_)
   refine DT_p rfl (.inr (fun w hw => (by exact hw.sub sbt))) (q_indexAddr Try.underlying97 Try.sizeOf80 rfl rfl (hnbl)) rfl ?_
   refine DT_e rfl (ef_of_q (q_load_t1 (enc := encP) (k := (nms ((ruleAt g s.a).right.take s.b.toNat))) (v := .slice (some ⟨gn, 0, none⟩) nb.length cn) (l := nb) Try.isAgg80 (fun _ => rfl) rfl swt rfl hnb1 rfl)) rfl (.inr (fun _ => sft)) (fun _ => ?_)
   refine DT_p rfl (.inr (fun w hw => (by exact hw.sub sbt))) (q_nilCheck rfl) rfl ?_
   refine DT_p rfl (.inr (fun w hw => (by exact hw.sub sbt))) (q_fieldAddr Try.underlying99 rfl rfl Try.sizeOf97 rfl rfl) rfl ?_
   refine DT_q rfl (fun w hw => (by exact hw.sub sbt)) (q_load1_own Try.isAgg97 rfl rfl swt (by rfl)) rfl ?_
   refine DT_e rfl (e_call Try.call62 rfl (fun w hw => lift_two (VA := trow 80 1 encP (.slice a2k kb2.length c2k) kb2) (A := trow 80 1 encP (.slice (some ⟨gn, 0, none⟩) nb.length cn) nb) (L1 := [trow 80 1 encP (.slice (some ⟨gn, 0, none⟩) nb.length cn) nb, cel b48 99 [.int .i64 (x + ((idx x2.toNat ls : Nat) : Int)), .slice (some ⟨gn, 0, none⟩) nb.length cn], cel b2p 99 [vi (if s.a < x2 then x2 + ((ls.length : Int) - 1) else x2), .slice a2k kb2.length c2k], kidsA ((fwd3 s.a (nms ((ruleAt g s.a).right.take s.b.toNat)) ls) k2) kb2, kidsA ((fwd3 s.a (nms ((ruleAt g s.a).right.take s.b.toNat)) ls) f4) n4, kidsA ((fwd3 s.a (nms ((ruleAt g s.a).right.take s.b.toNat)) ls) f1) n1]) Hole.head (hw.sub sbt) (fun F hF => replP_any (.slice (some ⟨gn, 0, none⟩) nb.length cn) nb kb2 (nms ((ruleAt g s.a).right.take s.b.toNat)) ((nms ((ruleAt g s.a).right.take s.b.toNat)) + 1) c2k a2k _ _ w _ (by omega) (by omega) (by omega) (VIn.star VIn.trow) hF))) rfl (.inl rfl) (fun x225 => ?_)
   refine DT_fact (fun w hw => hw.tform (v := x225) (l := (nb.take (nms ((ruleAt g s.a).right.take s.b.toNat)) ++ kb2 ++ nb.drop ((nms ((ruleAt g s.a).right.take s.b.toNat)) + 1))) (enc := encP) swt) (fun hf => ?_)
   obtain ⟨a225, c225, rfl, _, _, hb225⟩ := hf
   refine DT_p rfl (.inl rfl) (q_nilCheck rfl) rfl ?_
   refine DT_p rfl (.inl rfl) (q_fieldAddr Try.underlying99 rfl rfl Try.sizeOf97 rfl rfl) rfl ?_
   refine DT_e0 rfl (e_store Try.sizeOf97 rfl rfl rfl rfl swt (by rfl)) (.inl rfl) (fun _ => ?_)
   refine DT_nil ?_
   refine EW_block_normal ?_
   refine EW_then ?_
   refine nx3 ?_
   refine mO ?_
   refine aO ?_
   refine nx2 ?_
   refine CW_ret ?_
   refine ret1 Try.results43 rfl (fun w hw => ?_)
   rw [hlist] at hw
   have h1 : Sat _ _ (kidsA ((fwd3 s.a (nms ((ruleAt g s.a).right.take s.b.toNat)) ls) k2) kb2 :: kidsA ((fwd3 s.a (nms ((ruleAt g s.a).right.take s.b.toNat)) ls) f4) n4 :: [cel b48 99 [.int .i64 (x + ((idx x2.toNat ls : Nat) : Int)), .slice a225 (n1 ++ (kb2 ++ n4)).length c225], trow 80 1 encP (.slice a225 (n1 ++ (kb2 ++ n4)).length c225) (n1 ++ (kb2 ++ n4)), kidsA ((fwd3 s.a (nms ((ruleAt g s.a).right.take s.b.toNat)) ls) f1) n1]) w := hw.sub sbt
   have h3 : Sat _ _ (kidsA ((fwd3 s.a (nms ((ruleAt g s.a).right.take s.b.toNat)) ls) f1) n1 :: kidsA (((fwd3 s.a (nms ((ruleAt g s.a).right.take s.b.toNat)) ls) k2).app ((fwd3 s.a (nms ((ruleAt g s.a).right.take s.b.toNat)) ls) f4)) (kb2 ++ n4) :: [cel b48 99 [.int .i64 (x + ((idx x2.toNat ls : Nat) : Int)), .slice a225 (n1 ++ (kb2 ++ n4)).length c225], trow 80 1 encP (.slice a225 (n1 ++ (kb2 ++ n4)).length c225) (n1 ++ (kb2 ++ n4))]) w := h1.kidsApp.sub sbt
   have h5 : Sat _ _ (cel b48 99 [.int .i64 (x + ((idx x2.toNat ls : Nat) : Int)), .slice a225 (n1 ++ (kb2 ++ n4)).length c225] :: trow 80 1 encP (.slice a225 (n1 ++ (kb2 ++ n4)).length c225) (n1 ++ (kb2 ++ n4)) :: kidsA (((fwd3 s.a (nms ((ruleAt g s.a).right.take s.b.toNat)) ls) f1).app (((fwd3 s.a (nms ((ruleAt g s.a).right.take s.b.toNat)) ls) k2).app ((fwd3 s.a (nms ((ruleAt g s.a).right.take s.b.toNat)) ls) f4))) (n1 ++ (kb2 ++ n4)) :: []) w := h3.kidsApp.sub sbt
   have hT : (fwd3 s.a (nms ((ruleAt g s.a).right.take s.b.toNat)) ls) (.cons x ks .nil) = .cons (x + ((idx x2.toNat ls : Nat) : Int)) (((fwd3 s.a (nms ((ruleAt g s.a).right.take s.b.toNat)) ls) f1).app (((fwd3 s.a (nms ((ruleAt g s.a).right.take s.b.toNat)) ls) k2).app ((fwd3 s.a (nms ((ruleAt g s.a).right.take s.b.toNat)) ls) f4))) .nil := by
     show (if x = s.a then For.cons (s.a + ((idx (ks.drop (nms ((ruleAt g s.a).right.take s.b.toNat))).rule1.toNat ls : Nat) : Int)) (For.app (((fwd3 s.a (nms ((ruleAt g s.a).right.take s.b.toNat)) ls) ks).take (nms ((ruleAt g s.a).right.take s.b.toNat))) (For.app (((fwd3 s.a (nms ((ruleAt g s.a).right.take s.b.toNat)) ls) ks).drop (nms ((ruleAt g s.a).right.take s.b.toNat))).kids1 (((fwd3 s.a (nms ((ruleAt g s.a).right.take s.b.toNat)) ls) ks).drop ((nms ((ruleAt g s.a).right.take s.b.toNat)) + 1)))) .nil else _) = _
     rw [if_pos hxa, hTk, take_app _ _ _ hTl, ← drop_drop, drop_app _ _ _ hTl, hks1, drop_app _ _ _ hfl1, hxa]
     show For.cons _ (For.app _ (For.app _ (For.drop 0 _))) _ = _
     rw [drop0]; rfl
   rw [hT]
   exact ⟨b48, rfl, h5.kidNew⟩
 have hne : x ≠ s.a := by simpa using h175
 refine CW_skip ?_
 refine EW_block_normal ?_
 refine EW_then ?_
 refine nx3 ?_
 refine mO ?_
 refine aO ?_
 refine nx2 ?_
 refine CW_ret ?_
 refine ret1 Try.results43 rfl (fun w hw => ?_)
 have hT : (fwd3 s.a (nms ((ruleAt g s.a).right.take s.b.toNat)) ls) (.cons x ks .nil) = .cons x ((fwd3 s.a (nms ((ruleAt g s.a).right.take s.b.toNat)) ls) ks) .nil := by
   show (if x = s.a then For.cons _ _ _ else For.cons (if s.a < x then _ else _) _ _) = _
   rw [if_neg hne, if_neg hgt]; rfl
 rw [hT]
 refine ⟨b48, rfl, ?_⟩
 have h1 : Sat _ _ (cel b48 99 [vi x, .slice an nb.length cn] :: trow 80 1 encP (.slice an nb.length cn) nb :: kidsA ((fwd3 s.a (nms ((ruleAt g s.a).right.take s.b.toNat)) ls) ks) nb :: []) w := hw.sub sbt
 exact h1.kidNew

end Go.Sy
