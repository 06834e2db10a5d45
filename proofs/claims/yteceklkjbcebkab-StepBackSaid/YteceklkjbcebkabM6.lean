/- Walks and plain laws, part 6. No condition. -/
import Derived.Test.YteceklkjbcebkabM5
/- step.clone, swap, kept. No condition. -/
namespace Go.Sy
open Go Go.RowKit Go.Proofs

theorem encY_one (l : List Sym) : ∀ u ∈ l.flatMap encY, u.oneCell' = true := fun u hu => by
 obtain ⟨s, _, hs⟩ := List.mem_flatMap.1 hu
 simp only [List.mem_cons, List.not_mem_nil, or_false] at hs
 rcases hs with rfl | rfl <;> rfl
theorem cloneY_any (v : Value) (l : List Sym) (w : World) (hl : l.length ≤ 1000) (hs : SymsAt (Cl w) v l) : Calls Try.prog 33 #[v] w (fun e w' => ∃ v' : Value, e = .returned v' ∧ Sat (Old w) w [trow 51 2 encY v' l] w') := by
 have hs' := hs.mono old_rd
 obtain ⟨a, c, rfl, _, _, _⟩ := id hs'
 refine (cloneS_any a (l.flatMap encY) l.length c (Old w) w w emp0H hl (flat_length (enc := encY) (size := 2) (fun _ => rfl) l) (VIn.syms hs') (encY_one l) ((Sat.start w).addEmp rfl)).mono ?_
 rintro e w' ⟨v', h1, h2⟩
 exact ⟨v', h1, h2.sub (SubL.cons .head .nil)⟩
theorem flatMap_congr_enc {α : Type} {enc : α → List Value} {l l' : List α} (h : l.map enc = l'.map enc) : l.flatMap enc = l'.flatMap enc := by
 rw [List.flatMap_def, List.flatMap_def, h]
theorem rulesA_right {v : Value} {rs : List RV} {k : Nat} {n : Int} {ys ys' : List Sym} {u : Value} : rulesA v (rs.set k ⟨⟨n, ys⟩, u⟩) = rulesA v (rs.set k ⟨⟨n, ys'⟩, u⟩) := by
 unfold rulesA trow
 rw [List.length_set, List.length_set, flatMap_congr_enc (enc := encRV) (l := rs.set k ⟨⟨n, ys⟩, u⟩) (l' := rs.set k ⟨⟨n, ys'⟩, u⟩) (by rw [List.map_set, List.map_set])]
def swRV (a b : Int) (x : RV) : RV := ⟨swapR a b x.r, x.v⟩
def keptK (g : Gram) (ms cs : List Bool) (k : Nat) : List Nat := (List.range k).filter (fun k => decide (g.rules[k]?.map (keptB ms cs) = some true))
theorem keptK_yes {g : Gram} {ms cs : List Bool} {k : Nat} {r : Rule} (h : g.rules[k]? = some r) (hn : keptB ms cs r = true) : keptK g ms cs (k + 1) = keptK g ms cs k ++ [k] := by
 unfold keptK
 rw [List.range_succ, List.filter_append, List.filter_cons_of_pos (by rw [h]; simp [hn])]
 rfl
theorem keptK_no {g : Gram} {ms cs : List Bool} {k : Nat} {r : Rule} (h : g.rules[k]? = some r) (hn : keptB ms cs r = false) : keptK g ms cs (k + 1) = keptK g ms cs k := by
 unfold keptK
 rw [List.range_succ, List.filter_append, List.filter_cons_of_neg (by rw [h]; simp [hn])]
 simp
theorem keptK_len (g : Gram) (ms cs : List Bool) (k : Nat) : (keptK g ms cs k).length ≤ k := by
 have := List.length_filter_le (fun k => decide (g.rules[k]?.map (keptB ms cs) = some true)) (List.range k)
 rw [List.length_range] at this
 exact this
def MksOk (g : Gram) (ms : List Bool) : Prop := ms.length = g.names.toNat ∧ LeastM g ms ∧ ClosedM g ms
def CmsOk (g : Gram) (cs : List Bool) : Prop := cs.length = g.names.toNat ∧ ∃ m : List Bool, m.length = g.names.toNat ∧ LeastM g m ∧ ClosedM g m ∧ LeastC g m cs ∧ ClosedC g m cs ∧ (atB m 0 = true → atB cs 0 = true)
theorem set_same_of {α : Type} {l : List α} {k : Nat} {x : α} (h : l[k]? = some x) : l.set k x = l := by
 apply List.ext_getElem?
 intro j
 by_cases e : k = j
 · subst e
   rw [List.getElem?_set_self (List.getElem?_eq_some_iff.1 h).1, h]
 · rw [List.getElem?_set_ne e]
set_option maxRecDepth 20000 in
theorem cloneG_any (gv : Value) (g : Gram) (w : World) (hl : g.rules.length ≤ 1000) (hr8 : ∀ r ∈ g.rules, r.right.length ≤ 1000) (hg : GramAt (Cl w) gv g) : Calls Try.prog 30 #[gv] w (fun e w' => ∃ x : Value × List RV, e = .returned (.agg #[.int .i64 g.terms, .int .i64 g.names, x.1]) ∧ plainR x.2 = g.rules ∧ Sat (Old w) w [rulesA x.1 x.2, symsA x.2] w') := by
 have hg0 := hg
 obtain ⟨rv, rfl, hr⟩ := hg.mono old_rd
 obtain ⟨a, c, rfl, hc1, hc2, hrs⟩ := id hr
 clear hg
 refine calls_CW Try.func30 rfl Try.ntmps30 rfl (Sat.start w) ?_
 refine nx3 ?_
 refine OW_e (e_box rfl rfl) rfl (fun b1 => ?_)
 refine OW_e (e_alloc Try.zeroValue24 rfl) rfl (fun b2 => ?_)
 refine nx4 ?_
 refine OW_q (q_fieldAddr Try.underlying24 rfl rfl Try.sizeOf3 rfl rfl) rfl ?_
 refine OW_q (q_load1_own Try.isAgg3 rfl rfl swt (by rfl)) rfl ?_
 refine OW_q (q_fieldAddr Try.underlying24 rfl rfl Try.sizeOf3 rfl rfl) rfl ?_
 refine OW_q (q_load1_own Try.isAgg3 rfl rfl swt (by rfl)) rfl ?_
 refine OW_q (q_build (ps := #[(0, .int .i64 g.terms), (1, .int .i64 g.names)]) (v := .agg #[.int .i64 g.terms, .int .i64 g.names, .slice none 0 0]) rfl (fun w => by kernel_rfl)) rfl ?_
 refine OW_e (e_alloc Try.zeroValue24 rfl) rfl (fun b3 => ?_)
 refine OW_e0 (e_storeN Try.sizeOf24 rfl rfl rfl rfl (by simp [Value.oneCell']) swt (by rfl)) (fun _ => ?_)
 refine nx2 ?_
 refine CW_seq ?_
 refine nx3 ?_
 refine OW_q (q_fieldAddr Try.underlying24 rfl rfl Try.sizeOf22 rfl rfl) rfl ?_
 refine OW_q (q_load1_own Try.isAgg22 rfl rfl swt (by rfl)) rfl ?_
 refine OW_q (q_len Try.underlying22 rfl) rfl ?_
 refine mO ?_
 refine nx2 ?_
 refine CW_block ?_
 refine CW_weak (S' := Sat (Old w) w [cel b3 24 [.int .i64 g.terms, .int .i64 g.names, .slice none 0 0], rulesA (.slice none 0 0) [], symsA [], cel b2 24 [.int .i64 0, .int .i64 0, .slice none 0 0]]) (fun w hw => by
   have h1 := (hw.tnil 49 2 encRV).addEmp (A := symsA []) rfl
   exact h1.sub sbt) ?_
 refine CW_loopP (ι := Nat × Value × List RV) (fun i_ => i_.1 ≤ g.rules.length ∧ plainR i_.2.2 = g.rules.take i_.1) (fun i_ => [(2, .pointer (some ⟨b2, 0, none⟩)), (3, .pointer (some ⟨b3, 0, none⟩)), (12, .slice a g.rules.length c), (13, .int .i64 (g.rules.length : Int)), (14, .int .i64 (i_.1 : Int))]) (fun i_ => Sat (Old w) w [cel b3 24 [.int .i64 g.terms, .int .i64 g.names, i_.2.1], rulesA i_.2.1 i_.2.2, symsA i_.2.2, cel b2 24 [.int .i64 0, .int .i64 0, .slice none 0 0]]) (fun i_ => g.rules.length - i_.1) (0, .slice none 0 0, []) ?_ ⟨rfl, rfl, rfl, rfl, rfl, trivial⟩ sft ?_
 · exact ⟨Nat.zero_le _, rfl⟩
 intro i_ hpre
 obtain ⟨k, ov, rs⟩ := i_
 replace hpre : k ≤ g.rules.length ∧ plainR rs = g.rules.take k := hpre
 change CW _ _ _ _ [(2, .pointer (some ⟨b2, 0, none⟩)), (3, .pointer (some ⟨b3, 0, none⟩)), (12, .slice a g.rules.length c), (13, .int .i64 (g.rules.length : Int)), (14, .int .i64 (k : Int))] (Sat (Old w) w [cel b3 24 [.int .i64 g.terms, .int .i64 g.names, ov], rulesA ov rs, symsA rs, cel b2 24 [.int .i64 0, .int .i64 0, .slice none 0 0]])
 obtain ⟨hk, hrl⟩ := hpre
 have hrsl : rs.length = k := by have := congrArg List.length hrl; unfold plainR at this; rw [List.length_map, List.length_take] at this; omega
 refine nx3 ?_
 refine OW_q (q_lss rfl rfl) rfl ?_
 refine nx2 ?_
 refine CW_seq ?_
 refine CW_cond rfl (fun h15 => ?_) (fun h15 => ?_)
 · skip
   have hlt : k < g.rules.length := by have := of_decide_eq_true h15; omega
   obtain ⟨q, hq⟩ := get_of_lt hlt
   obtain ⟨p, rfl, rvq, hsy, hrow⟩ := hrs k q hq
   obtain ⟨ya, yc, rfl, hy1, hy2, hys⟩ := id hsy
   refine CW_skip ?_
   refine EW_then ?_
   refine CW_seq ?_
   refine CW_block ?_
   refine nx3 ?_
   refine OW_q (q_indexAddr Try.underlying22 Try.sizeOf49 rfl rfl (by omega)) rfl ?_
   refine OW_q (q_loadN_ro Try.isAgg49 Try.sizeOf49 rfl (by exact hrow) (by rfl)) rfl ?_
   refine OW_e (e_alloc Try.zeroValue49 rfl) rfl (fun b5 => ?_)
   refine OW_e0 (e_storeN Try.sizeOf49 rfl rfl rfl rfl (by simp [Value.oneCell']) swt (by rfl)) (fun _ => ?_)
   refine nx2 ?_
   refine CW_draw (Sat (Old w) w [cel b5 49 [.int .i64 q.left, .slice ya q.right.length yc], cel b3 24 [.int .i64 g.terms, .int .i64 g.names, ov]]) 11 [(0, false), (1, false), (2, false), (3, false), (4, false), (5, false), (6, true), (7, false), (8, true), (9, true), (10, false), (11, true)] (by kernel_rfl) (Blind.block (Blind.then (Blind.again (Blind.block (Blind.then (Blind.body (by intro c w h; simp at h))))))) (by kernel_rfl) (fun w hw => hw.drew) ?_
   refine DW_q rfl sft (q_fieldAddr Try.underlying24 rfl rfl Try.sizeOf22 rfl rfl) rfl ?_
   refine DW_q rfl sft (q_load1_own Try.isAgg22 rfl rfl swt (by rfl)) rfl ?_
   refine DW_q rfl sft (q_fieldAddr Try.underlying49 rfl rfl Try.sizeOf3 rfl rfl) rfl ?_
   refine DW_q rfl sft (q_load1_own Try.isAgg3 rfl rfl swt (by rfl)) rfl ?_
   refine DW_q rfl sft (q_fieldAddr Try.underlying49 rfl rfl Try.sizeOf46 rfl rfl) rfl ?_
   refine DW_q rfl sft (q_load1_own Try.isAgg46 rfl rfl swt (by rfl)) rfl ?_
   refine DW_e rfl (e_call Try.call33 rfl (fun w hw => lift_old (cloneY_any _ q.right w (hr8 q (List.mem_of_getElem? hq)) (hsy.mono fun _ _ h => hw.rd h)) hw)) rfl (fun _ w hw => by first | exact hw.sub sbt | exact hw.2.sub sbt) (fun x24 => ?_)
   refine DW_fact (fun w hw => hw.tform (v := x24) (l := q.right) (enc := encY) swt) (fun hf => ?_)
   obtain ⟨a24, c24, rfl, _, _, hb24⟩ := hf
   refine DW_q rfl sft (q_build (ps := #[(0, .int .i64 q.left), (1, (.slice a24 q.right.length c24))]) (v := .agg #[.int .i64 q.left, (.slice a24 q.right.length c24)]) rfl (fun w => by kernel_rfl)) rfl ?_
   refine DW_e rfl (e_single Try.underlying22 Try.sizeOf49 Try.zeroValue49 (e := 49) (v := .agg #[.int .i64 q.left, (.slice a24 q.right.length c24)]) (cs := [.int .i64 q.left, (.slice a24 q.right.length c24)]) rfl rfl rfl rfl (by decide) (by decide)) rfl (fun _ => sft) (fun b26 => ?_)
   refine DW_e rfl (e_append_t (x0 := (⟨q, (.slice a24 q.right.length c24)⟩ : RV)) (enc := encRV) (l := rs) Try.underlying22 Try.typeInfo49 rfl rfl rfl rfl rfl rfl rfl pkt rfl (by exact fun w hw => hw.news swt) (by simp [Value.oneCell']) (by omega) (by decide)) rfl (fun _ => sft) (fun v27 => ?_)
   refine DW_fact (fun w hw => hw.tform (v := v27) (l := rs ++ [⟨q, (.slice a24 q.right.length c24)⟩]) (enc := encRV) swt) (fun hf => ?_)
   obtain ⟨a27, c27, e27, _, _, hb27⟩ := hf
   refine DW_q rfl sft (q_fieldAddr Try.underlying24 rfl rfl Try.sizeOf22 rfl rfl) rfl ?_
   refine DW_z0 rfl (e_store Try.sizeOf22 rfl rfl rfl (by rw [e27]; rfl) swt (by rfl)) (fun _ => ?_)
   refine EW_block_normal ?_
   refine EW_then ?_
   refine CW_region ?_
   refine OW_q (q_add rfl rfl (by omega) (by omega)) rfl ?_
   refine mO ?_
   refine OW_nil ?_
   refine EW_weak (S' := Sat (Old w) w [cel b3 24 [.int .i64 g.terms, .int .i64 g.names, v27], rulesA v27 (rs ++ [⟨q, (.slice a24 q.right.length c24)⟩]), symsA (rs ++ [⟨q, (.slice a24 q.right.length c24)⟩]), cel b2 24 [.int .i64 0, .int .i64 0, .slice none 0 0]]) (fun w hw => by
     have h1 : Sat _ _ (symsA rs :: symA ⟨q, (.slice a24 q.right.length c24)⟩ :: [cel b3 24 [.int .i64 g.terms, .int .i64 g.names, v27], rulesA v27 (rs ++ [⟨q, (.slice a24 q.right.length c24)⟩]), cel b2 24 [.int .i64 0, .int .i64 0, .slice none 0 0]]) w := hw.sub sbt
     exact h1.symsPush.sub sbt) ?_
   refine EW_again ((k + 1, v27, rs ++ [⟨q, (.slice a24 q.right.length c24)⟩])) ⟨?_, ?_⟩ ⟨rfl, rfl, rfl, rfl, rfl, trivial⟩ sft
   · show g.rules.length - (k + 1) < g.rules.length - k; omega
   · refine ⟨by show k + 1 ≤ _; omega, ?_⟩
     show plainR (rs ++ [_]) = g.rules.take (k + 1)
     unfold plainR at hrl ⊢
     rw [take_next hq, List.map_append, hrl]
     rfl
 have hke : k = g.rules.length := by have := of_decide_eq_false h15; omega
 refine CW_fact (fun w hw => hw.tform (v := ov) (l := rs) (enc := encRV) swt) (fun hf => ?_)
 obtain ⟨ao, co, eo, _, _, hbo⟩ := hf
 subst eo
 refine CW_exit ?_
 refine EW_then_exit ?_
 refine EW_out ?_
 refine EW_block_exit ?_
 refine EW_then ?_
 refine nx3 ?_
 refine OW_q (q_loadN_own Try.isAgg24 Try.sizeOf24 rfl rfl swt (by rfl)) rfl ?_
 refine OW_e0 (e_storeN Try.sizeOf24 rfl rfl rfl rfl (by simp [Value.oneCell']) swt (by rfl)) (fun _ => ?_)
 refine nx2 ?_
 refine CW_ret ?_
 refine retc1a (vs := [.int .i64 g.terms, .int .i64 g.names, .slice ao rs.length co]) Try.results30 Try.isAgg24 Try.sizeOf24 rfl rfl (fun w hw j u hj => by rw [Addr.add_lit, hw.cell (t := 24) (cs := [.int .i64 g.terms, .int .i64 g.names, .slice ao rs.length co]) (A' := cel b2 24 [.int .i64 g.terms, .int .i64 g.names, .slice ao rs.length co]) swt, Nat.zero_add]; exact hj) (fun w hw => ?_)
 exact ⟨(_, rs), rfl, by rw [hrl, hke, List.take_length], hw.sub sbt⟩

set_option maxRecDepth 20000 in
theorem other_any (a b n : Int) (b4 b5 : Nat) (w : World) (h1 : w.cell? ⟨b4, 0, none⟩ = some (.int .i64 a)) (h2 : w.cell? ⟨b5, 0, none⟩ = some (.int .i64 b)) : Calls Try.prog 47 #[.int .i64 n, .pointer (some ⟨b4, 0, none⟩), .pointer (some ⟨b5, 0, none⟩)] w (fun e w' => e = .returned (.int .i64 (swapN a b n)) ∧ Sat (Old w) w [] w') := by
 have r1 : Rd (Old w) w ⟨b4, 0, none⟩ (.int .i64 a) := Rd.old h1
 have r2 : Rd (Old w) w ⟨b5, 0, none⟩ (.int .i64 b) := Rd.old h2
 refine calls_CW Try.func47 rfl Try.ntmps47 rfl (Sat.start w) ?_
 refine nx3 ?_
 refine aO ?_
 refine nx2 ?_
 refine CW_seq ?_
 refine nx3 ?_
 refine mO ?_
 refine nx2 ?_
 refine CW_block ?_
 refine nx3 ?_
 refine OW_q (q_load1_ro Try.isAgg3 rfl (by exact r1)) rfl ?_
 refine OW_q (q_eqi rfl rfl) rfl ?_
 refine aO ?_
 refine nx2 ?_
 refine CW_cond rfl (fun h6 => ?_) (fun h6 => ?_)
 · skip
   refine nx3 ?_
   refine OW_q (q_load1_ro Try.isAgg3 rfl (by exact r2)) rfl ?_
   refine aO ?_
   refine nx2 ?_
   refine CW_ret ?_
   refine EW_block_ret ?_
   refine EW_then_ret ?_
   refine ret1 Try.results47 rfl (fun w hw => ?_)
   refine ⟨?_, hw.sub .nil⟩
   unfold swapN
   simp_all
 refine nx3 ?_
 refine OW_q (q_load1_ro Try.isAgg3 rfl (by exact r2)) rfl ?_
 refine OW_q (q_eqi rfl rfl) rfl ?_
 refine aO ?_
 refine nx2 ?_
 refine CW_cond rfl (fun h10 => ?_) (fun h10 => ?_)
 · skip
   refine nx3 ?_
   refine OW_q (q_load1_ro Try.isAgg3 rfl (by exact r1)) rfl ?_
   refine aO ?_
   refine nx2 ?_
   refine CW_ret ?_
   refine EW_block_ret ?_
   refine EW_then_ret ?_
   refine ret1 Try.results47 rfl (fun w hw => ?_)
   refine ⟨?_, hw.sub .nil⟩
   unfold swapN
   simp_all
 refine CW_skip ?_
 refine EW_block_normal ?_
 refine EW_then ?_
 refine nx3 ?_
 refine mO ?_
 refine aO ?_
 refine nx2 ?_
 refine CW_ret ?_
 refine ret1 Try.results47 rfl (fun w hw => ?_)
 refine ⟨?_, hw.sub .nil⟩
 unfold swapN
 simp_all

set_option maxRecDepth 20000 in
theorem swapG_any (bg : Nat) (t n a b : Int) (ov : Value) (rs : List RV) (R : Nat → Prop) (w0 w : World) (F : HP) (hl : rs.length ≤ 1000) (hl8 : ∀ x ∈ rs, x.r.right.length ≤ 1000) (hw : Sat R w0 ([cel bg 24 [.int .i64 t, .int .i64 n, ov], rulesA ov rs, symsA rs] ++ [F]) w) : Calls Try.prog 32 #[.pointer (some ⟨bg, 0, none⟩), .int .i64 a, .int .i64 b] w (fun e w' => ∃ _x : Unit, e = .returned (.tuple #[]) ∧ True ∧ Sat R w0 ([cel bg 24 [.int .i64 t, .int .i64 n, ov], rulesA ov (rs.map (swRV a b)), symsA (rs.map (swRV a b))] ++ [F]) w') := by
 obtain ⟨ao, co, rfl, _, _, hbo⟩ := hw.tform (v := ov) (l := rs) (enc := encRV) swt
 refine calls_CW (S := Sat R w0 [cel bg 24 [.int .i64 t, .int .i64 n, .slice ao rs.length co], rulesA (.slice ao rs.length co) rs, symsA rs, F]) Try.func32 rfl Try.ntmps32 rfl (hw) ?_
 refine nx3 ?_
 refine OW_e (e_box rfl rfl) rfl (fun b4 => ?_)
 refine OW_e (e_box rfl rfl) rfl (fun b5 => ?_)
 refine nx4 ?_
 refine OW_q (q_makeFuncL (us := [.pointer (some ⟨b4, 0, none⟩), .pointer (some ⟨b5, 0, none⟩)]) rfl) rfl ?_
 refine aO ?_
 refine nx4 ?_
 refine mO ?_
 refine OW_q (q_nilCheck rfl) rfl ?_
 refine OW_q (q_fieldAddr Try.underlying24 rfl rfl Try.sizeOf22 rfl rfl) rfl ?_
 refine OW_q (q_load1_own Try.isAgg22 rfl rfl swt (by rfl)) rfl ?_
 refine OW_q (q_len Try.underlying22 rfl) rfl ?_
 refine mO ?_
 refine nx2 ?_
 refine CW_block ?_
 refine CW_loopP (ι := Nat × List RV) (fun i_ => i_.1 ≤ rs.length ∧ i_.2.length = rs.length ∧ ∀ j, i_.2[j]? = if j < i_.1 then (rs[j]?).map (swRV a b) else rs[j]?) (fun i_ => [(0, .pointer (some ⟨bg, 0, none⟩)), (6, .func (.func 47) #[] #[.pointer (some ⟨b4, 0, none⟩), .pointer (some ⟨b5, 0, none⟩)]), (14, .slice ao rs.length co), (15, .int .i64 (rs.length : Int)), (16, .int .i64 (i_.1 : Int))]) (fun i_ => Sat R w0 [cel bg 24 [.int .i64 t, .int .i64 n, .slice ao rs.length co], rulesA (.slice ao rs.length co) i_.2, symsA i_.2, cel b4 3 [.int .i64 a], cel b5 3 [.int .i64 b], F]) (fun i_ => rs.length - i_.1) (0, rs) ?_ ⟨rfl, rfl, rfl, rfl, rfl, trivial⟩ sft ?_
 · exact ⟨Nat.zero_le _, rfl, fun j => by simp⟩
 intro i_ hpre
 obtain ⟨k, rs1⟩ := i_
 replace hpre : k ≤ rs.length ∧ rs1.length = rs.length ∧ ∀ j, rs1[j]? = if j < k then (rs[j]?).map (swRV a b) else rs[j]? := hpre
 change CW _ _ _ _ [(0, .pointer (some ⟨bg, 0, none⟩)), (6, .func (.func 47) #[] #[.pointer (some ⟨b4, 0, none⟩), .pointer (some ⟨b5, 0, none⟩)]), (14, .slice ao rs.length co), (15, .int .i64 (rs.length : Int)), (16, .int .i64 (k : Int))] (Sat R w0 [cel bg 24 [.int .i64 t, .int .i64 n, .slice ao rs.length co], rulesA (.slice ao rs.length co) rs1, symsA rs1, cel b4 3 [.int .i64 a], cel b5 3 [.int .i64 b], F])
 obtain ⟨hk, hrl, hrk⟩ := hpre
 refine nx3 ?_
 refine OW_q (q_lss rfl rfl) rfl ?_
 refine nx2 ?_
 refine CW_seq ?_
 refine CW_cond rfl (fun h17 => ?_) (fun h17 => ?_)
 · skip
   have hlt : k < rs.length := by have := of_decide_eq_true h17; omega
   obtain ⟨bo, rfl⟩ := hbo (by omega)
   obtain ⟨⟨⟨xl, xr⟩, xv⟩, hkx⟩ := get_of_lt (l := rs1) (k := k) (by omega)
   refine CW_fact (fun w hw => hw.tform (v := xv) (l := xr) (enc := encY) ((Hole.tail (Hole.tail (Hole.sym hkx))).swap _)) (fun hf => ?_)
   obtain ⟨ax, cx, rfl, _, _, hbx⟩ := hf
   have hxr8 : xr.length ≤ 1000 := by
     have h1 := hrk k
     rw [if_neg (by omega), hkx] at h1
     exact hl8 _ (List.mem_of_getElem? h1.symm)
   have hkx1 : (rs1.set k ⟨⟨swapN a b xl, xr⟩, (.slice ax xr.length cx)⟩)[k]? = some ⟨⟨swapN a b xl, xr⟩, (.slice ax xr.length cx)⟩ := List.getElem?_set_self (by omega)
   refine CW_skip ?_
   refine EW_then ?_
   refine CW_seq ?_
   refine CW_block ?_
   refine nx3 ?_
   refine mO ?_
   refine aO ?_
   refine nx4 ?_
   refine mO ?_
   refine OW_q (q_nilCheck rfl) rfl ?_
   refine OW_q (q_fieldAddr Try.underlying24 rfl rfl Try.sizeOf22 rfl rfl) rfl ?_
   refine OW_q (q_load1_own Try.isAgg22 rfl rfl swt (by rfl)) rfl ?_
   refine mO ?_
   refine OW_q (q_indexAddr Try.underlying22 Try.sizeOf49 rfl rfl (by omega)) rfl ?_
   refine aO ?_
   refine nx4 ?_
   refine mO ?_
   refine mO ?_
   refine mO ?_
   refine OW_q (q_nilCheck rfl) rfl ?_
   refine OW_q (q_fieldAddr Try.underlying49 rfl rfl Try.sizeOf3 rfl rfl) rfl ?_
   refine OW_q (q_load1_t (enc := encRV) (k := k) (off := 0) (v := (.slice (some ⟨bo, 0, none⟩) rs.length co)) (l := rs1) Try.isAgg3 (fun _ => rfl) rfl swt rfl hkx rfl) rfl ?_
   refine OW_e (e_callv Try.call47 rfl rfl (fun w hw => lift_ro (other_any a b _ b4 b5 w (by rw [hw.cell (t := 3) (cs := [.int .i64 a]) (A' := cel b4 3 [.int .i64 a]) swt]; rfl) (by rw [hw.cell (t := 3) (cs := [.int .i64 b]) (A' := cel b5 3 [.int .i64 b]) swt]; rfl)) hw)) rfl (fun x31 => ?_)
   refine OW_q (q_nilCheck rfl) rfl ?_
   refine OW_q (q_fieldAddr Try.underlying49 rfl rfl Try.sizeOf3 rfl rfl) rfl ?_
   refine OW_e0 (e_store_t (enc := encRV) (k := k) (off := 0) (v := (.slice (some ⟨bo, 0, none⟩) rs.length co)) (l := rs1) (y := ⟨⟨xl, xr⟩, (.slice ax xr.length cx)⟩) (y' := ⟨⟨swapN a b xl, xr⟩, (.slice ax xr.length cx)⟩) Try.sizeOf3 (fun _ => rfl) rfl rfl rfl rfl hkx rfl swt) (fun _ => ?_)
   refine nx4 ?_
   refine mO ?_
   refine OW_q (q_nilCheck rfl) rfl ?_
   refine OW_q (q_fieldAddr Try.underlying49 rfl rfl Try.sizeOf46 rfl rfl) rfl ?_
   refine OW_q (q_load1_t (enc := encRV) (k := k) (off := 1) (v := (.slice (some ⟨bo, 0, none⟩) rs.length co)) (l := rs1.set k ⟨⟨swapN a b xl, xr⟩, (.slice ax xr.length cx)⟩) Try.isAgg46 (fun _ => rfl) rfl swt rfl hkx1 rfl) rfl ?_
   refine OW_q (q_len Try.underlying46 rfl) rfl ?_
   refine mO ?_
   refine nx2 ?_
   refine CW_block ?_
   refine CW_weak (S' := Sat R w0 [cel bg 24 [.int .i64 t, .int .i64 n, .slice (some ⟨bo, 0, none⟩) rs.length co], rulesA (.slice (some ⟨bo, 0, none⟩) rs.length co) (rs1.set k ⟨⟨swapN a b xl, xr⟩, (.slice ax xr.length cx)⟩), symsA (rs1.set k ⟨⟨swapN a b xl, xr⟩, (.slice ax xr.length cx)⟩), cel b4 3 [.int .i64 a], cel b5 3 [.int .i64 b], F]) (fun w hw => by
     have e : symsA (rs1.set k ⟨⟨swapN a b xl, xr⟩, (.slice ax xr.length cx)⟩) = symsA rs1 := by
       unfold symsA
       congr 1
       rw [List.map_set]
       exact set_same_of (by rw [List.getElem?_map, hkx]; rfl)
     rw [e]
     exact hw) ?_
   refine CW_loopP (ι := Nat × List Sym) (fun i_ => i_.1 ≤ xr.length ∧ i_.2.length = xr.length ∧ ∀ j, i_.2[j]? = if j < i_.1 then (xr[j]?).map (swapY a b) else xr[j]?) (fun i_ => [(0, .pointer (some ⟨bg, 0, none⟩)), (6, .func (.func 47) #[] #[.pointer (some ⟨b4, 0, none⟩), .pointer (some ⟨b5, 0, none⟩)]), (14, (.slice (some ⟨bo, 0, none⟩) rs.length co)), (15, .int .i64 (rs.length : Int)), (16, .int .i64 (k : Int)), (8, .pointer (some ((⟨bo, 0, none⟩ : Addr).add (k * 2)))), (37, (.slice ax xr.length cx)), (38, .int .i64 (xr.length : Int)), (39, .int .i64 (i_.1 : Int))]) (fun i_ => Sat R w0 [cel bg 24 [.int .i64 t, .int .i64 n, .slice (some ⟨bo, 0, none⟩) rs.length co], rulesA (.slice (some ⟨bo, 0, none⟩) rs.length co) (rs1.set k ⟨⟨swapN a b xl, xr⟩, (.slice ax xr.length cx)⟩), symsA (rs1.set k ⟨⟨swapN a b xl, i_.2⟩, (.slice ax xr.length cx)⟩), cel b4 3 [.int .i64 a], cel b5 3 [.int .i64 b], F]) (fun i_ => xr.length - i_.1) (0, xr) ?_ ⟨rfl, rfl, rfl, rfl, rfl, rfl, rfl, rfl, rfl, trivial⟩ sft ?_
   · exact ⟨Nat.zero_le _, rfl, fun j => by simp⟩
   intro i_ hpre
   obtain ⟨i, ys⟩ := i_
   replace hpre : i ≤ xr.length ∧ ys.length = xr.length ∧ ∀ j, ys[j]? = if j < i then (xr[j]?).map (swapY a b) else xr[j]? := hpre
   change CW _ _ _ _ [(0, .pointer (some ⟨bg, 0, none⟩)), (6, .func (.func 47) #[] #[.pointer (some ⟨b4, 0, none⟩), .pointer (some ⟨b5, 0, none⟩)]), (14, (.slice (some ⟨bo, 0, none⟩) rs.length co)), (15, .int .i64 (rs.length : Int)), (16, .int .i64 (k : Int)), (8, .pointer (some ((⟨bo, 0, none⟩ : Addr).add (k * 2)))), (37, (.slice ax xr.length cx)), (38, .int .i64 (xr.length : Int)), (39, .int .i64 (i : Int))] (Sat R w0 [cel bg 24 [.int .i64 t, .int .i64 n, .slice (some ⟨bo, 0, none⟩) rs.length co], rulesA (.slice (some ⟨bo, 0, none⟩) rs.length co) (rs1.set k ⟨⟨swapN a b xl, xr⟩, (.slice ax xr.length cx)⟩), symsA (rs1.set k ⟨⟨swapN a b xl, ys⟩, (.slice ax xr.length cx)⟩), cel b4 3 [.int .i64 a], cel b5 3 [.int .i64 b], F])
   obtain ⟨hi, hysl, hyk⟩ := hpre
   have hky : (rs1.set k ⟨⟨swapN a b xl, ys⟩, (.slice ax xr.length cx)⟩)[k]? = some ⟨⟨swapN a b xl, ys⟩, (.slice ax xr.length cx)⟩ := List.getElem?_set_self (by omega)
   refine nx3 ?_
   refine OW_q (q_lss rfl rfl) rfl ?_
   refine nx2 ?_
   refine CW_seq ?_
   refine CW_cond rfl (fun h40 => ?_) (fun h40 => ?_)
   · skip
     have hli : i < xr.length := by have := of_decide_eq_true h40; omega
     obtain ⟨bx, rfl⟩ := hbx (by omega)
     obtain ⟨y, hyi⟩ := get_of_lt (l := ys) (k := i) (by omega)
     have hxi := hyk i
     rw [if_neg (by omega), hyi] at hxi
     refine CW_skip ?_
     refine EW_then ?_
     refine CW_seq ?_
     refine CW_block ?_
     refine nx3 ?_
     refine mO ?_
     refine aO ?_
     refine nx4 ?_
     refine mO ?_
     refine OW_q (q_nilCheck rfl) rfl ?_
     refine OW_q (q_fieldAddr Try.underlying49 rfl rfl Try.sizeOf46 rfl rfl) rfl ?_
     refine OW_q (q_load1_t (enc := encRV) (k := k) (off := 1) (v := (.slice (some ⟨bo, 0, none⟩) rs.length co)) (l := rs1.set k ⟨⟨swapN a b xl, xr⟩, (.slice (some ⟨bx, 0, none⟩) xr.length cx)⟩) Try.isAgg46 (fun _ => rfl) rfl swt rfl hkx1 rfl) rfl ?_
     refine mO ?_
     refine OW_q (q_indexAddr Try.underlying46 Try.sizeOf51 rfl rfl (by omega)) rfl ?_
     refine OW_q (q_fieldAddr Try.underlying51 rfl rfl Try.sizeOf4 rfl rfl) rfl ?_
     refine OW_q (q_load1_t (enc := encY) (k := i) (off := 0) (v := .slice (some ⟨bx, 0, none⟩) xr.length cx) (l := ys) Try.isAgg4 (fun _ => rfl) rfl ((Hole.tail (Hole.tail (Hole.sym hky))).swap _) rfl hyi rfl) rfl ?_
     refine OW_q (q_not rfl) rfl ?_
     refine nx2 ?_
     refine CW_cond rfl (fun h50 => ?_) (fun h50 => ?_)
     · skip
       refine CW_drawS 17 [(0, false), (1, false), (2, false), (3, false), (4, false), (5, false), (6, false), (7, false), (8, false), (9, false), (10, false), (11, false), (12, false), (13, false), (14, true), (15, false), (16, false), (17, true)] (by kernel_rfl) (Blind.block (Blind.then (Blind.again (Blind.block (Blind.block (Blind.then (Blind.again (Blind.block Blind.bodyP)))))))) (by kernel_rfl) (fun w hw => hw.drew) ?_
       refine mD ?_
       refine DW_q rfl sft (q_nilCheck rfl) rfl ?_
       refine DW_q rfl sft (q_fieldAddr Try.underlying49 rfl rfl Try.sizeOf46 rfl rfl) rfl ?_
       refine DW_q rfl sft (q_load1_t (enc := encRV) (k := k) (off := 1) (v := (.slice (some ⟨bo, 0, none⟩) rs.length co)) (l := rs1.set k ⟨⟨swapN a b xl, xr⟩, (.slice (some ⟨bx, 0, none⟩) xr.length cx)⟩) Try.isAgg46 (fun _ => rfl) rfl swt rfl hkx1 rfl) rfl ?_
       refine mD ?_
       refine mD ?_
       refine mD ?_
       refine DW_q rfl sft (q_nilCheck rfl) rfl ?_
       refine DW_q rfl sft (q_fieldAddr Try.underlying49 rfl rfl Try.sizeOf46 rfl rfl) rfl ?_
       refine DW_q rfl sft (q_load1_t (enc := encRV) (k := k) (off := 1) (v := (.slice (some ⟨bo, 0, none⟩) rs.length co)) (l := rs1.set k ⟨⟨swapN a b xl, xr⟩, (.slice (some ⟨bx, 0, none⟩) xr.length cx)⟩) Try.isAgg46 (fun _ => rfl) rfl swt rfl hkx1 rfl) rfl ?_
       refine mD ?_
       refine DW_q rfl sft (q_indexAddr Try.underlying46 Try.sizeOf51 rfl rfl (by omega)) rfl ?_
       refine DW_q rfl sft (q_fieldAddr Try.underlying51 rfl rfl Try.sizeOf3 rfl rfl) rfl ?_
       refine DW_q rfl sft (q_load1_t (enc := encY) (k := i) (off := 1) (v := .slice (some ⟨bx, 0, none⟩) xr.length cx) (l := ys) Try.isAgg3 (fun _ => rfl) rfl ((Hole.tail (Hole.tail (Hole.sym hky))).swap _) rfl hyi rfl) rfl ?_
       refine DW_e rfl (e_callv Try.call47 rfl rfl (fun w hw => lift_ro (other_any a b _ b4 b5 w (by rw [hw.cell (t := 3) (cs := [.int .i64 a]) (A' := cel b4 3 [.int .i64 a]) swt]; rfl) (by rw [hw.cell (t := 3) (cs := [.int .i64 b]) (A' := cel b5 3 [.int .i64 b]) swt]; rfl)) hw)) rfl (fun _ w hw => by first | exact hw.sub sbt | exact hw.2.sub sbt) (fun x65 => ?_)
       refine DW_q rfl sft (q_indexAddr Try.underlying46 Try.sizeOf51 rfl rfl (by omega)) rfl ?_
       refine DW_q rfl sft (q_fieldAddr Try.underlying51 rfl rfl Try.sizeOf3 rfl rfl) rfl ?_
       refine DW_z0 rfl (e_store_t (enc := encY) (k := i) (off := 1) (v := .slice (some ⟨bx, 0, none⟩) xr.length cx) (l := ys) (y := y) (y' := ⟨y.term, swapN a b y.n⟩) Try.sizeOf3 (fun _ => rfl) rfl rfl rfl rfl hyi rfl ((Hole.tail (Hole.tail (Hole.sym hky))).swap _)) (fun _ => ?_)
       refine EW_block_normal ?_
       refine EW_then ?_
       refine CW_region ?_
       refine OW_q (q_add rfl rfl (by omega) (by omega)) rfl ?_
       refine mO ?_
       refine OW_nil ?_
       refine EW_weak (S' := Sat R w0 [cel bg 24 [.int .i64 t, .int .i64 n, .slice (some ⟨bo, 0, none⟩) rs.length co], rulesA (.slice (some ⟨bo, 0, none⟩) rs.length co) (rs1.set k ⟨⟨swapN a b xl, xr⟩, (.slice (some ⟨bx, 0, none⟩) xr.length cx)⟩), symsA (rs1.set k ⟨⟨swapN a b xl, (ys.set i ⟨y.term, swapN a b y.n⟩)⟩, (.slice (some ⟨bx, 0, none⟩) xr.length cx)⟩), cel b4 3 [.int .i64 a], cel b5 3 [.int .i64 b], F]) (fun w hw => by
         have h1 := hw
         rw [show stars (((rs1.set k ⟨⟨swapN a b xl, ys⟩, (.slice (some ⟨bx, 0, none⟩) xr.length cx)⟩).map symA).set k (trow 51 2 encY (.slice (some ⟨bx, 0, none⟩) xr.length cx) (ys.set i ⟨y.term, swapN a b y.n⟩))) = symsA (rs1.set k ⟨⟨swapN a b xl, (ys.set i ⟨y.term, swapN a b y.n⟩)⟩, (.slice (some ⟨bx, 0, none⟩) xr.length cx)⟩) from by
           have := symsA_set (rs := rs1.set k ⟨⟨swapN a b xl, ys⟩, (.slice (some ⟨bx, 0, none⟩) xr.length cx)⟩) (k := k) ⟨⟨swapN a b xl, (ys.set i ⟨y.term, swapN a b y.n⟩)⟩, (.slice (some ⟨bx, 0, none⟩) xr.length cx)⟩
           rw [List.set_set] at this
           exact this] at h1
         exact h1) ?_
       refine EW_again ((i + 1, ys.set i ⟨y.term, swapN a b y.n⟩)) ⟨?_, ?_⟩ ⟨rfl, rfl, rfl, rfl, rfl, rfl, rfl, rfl, rfl, trivial⟩ sft
       · show xr.length - (i + 1) < xr.length - i; omega
       · refine ⟨by show i + 1 ≤ _; omega, by show (ys.set i _).length = _; rw [List.length_set]; exact hysl, fun j => ?_⟩
         show (ys.set i _)[j]? = if j < i + 1 then _ else _
         by_cases e : i = j
         · subst e
           rw [List.getElem?_set_self (by omega), if_pos (by omega), ← hxi]
           show some _ = some (swapY a b y)
           unfold swapY
           have hf : y.term = false := by simpa using h50
           rw [if_neg (by rw [hf]; decide), hf]
         · rw [List.getElem?_set_ne e, hyk j]
           by_cases e2 : j < i
           · rw [if_pos e2, if_pos (by omega)]
           · rw [if_neg e2, if_neg (by omega)]
     refine CW_skip ?_
     refine EW_block_normal ?_
     refine EW_then ?_
     refine CW_region ?_
     refine OW_q (q_add rfl rfl (by omega) (by omega)) rfl ?_
     refine mO ?_
     refine OW_nil ?_
     refine EW_again ((i + 1, ys)) ⟨?_, ?_⟩ ⟨rfl, rfl, rfl, rfl, rfl, rfl, rfl, rfl, rfl, trivial⟩ sft
     · show xr.length - (i + 1) < xr.length - i; omega
     · refine ⟨by show i + 1 ≤ _; omega, hysl, fun j => ?_⟩
       show ys[j]? = if j < i + 1 then _ else _
       rw [hyk j]
       by_cases e : i = j
       · subst e
         rw [if_neg (by omega), if_pos (by omega), ← hxi]
         show some _ = some (swapY a b y)
         unfold swapY
         have hf : y.term = true := by simpa using h50
         rw [if_pos hf]
       · by_cases e2 : j < i
         · rw [if_pos e2, if_pos (by omega)]
         · rw [if_neg e2, if_neg (by omega)]
   refine CW_exit ?_
   refine EW_then_exit ?_
   refine EW_out ?_
   refine EW_block_exit ?_
   refine EW_block_normal ?_
   refine EW_then ?_
   refine CW_region ?_
   refine OW_q (q_add rfl rfl (by omega) (by omega)) rfl ?_
   refine mO ?_
   refine OW_nil ?_
   refine EW_weak (S' := Sat R w0 [cel bg 24 [.int .i64 t, .int .i64 n, .slice (some ⟨bo, 0, none⟩) rs.length co], rulesA (.slice (some ⟨bo, 0, none⟩) rs.length co) (rs1.set k ⟨⟨swapN a b xl, ys⟩, (.slice ax xr.length cx)⟩), symsA (rs1.set k ⟨⟨swapN a b xl, ys⟩, (.slice ax xr.length cx)⟩), cel b4 3 [.int .i64 a], cel b5 3 [.int .i64 b], F]) (fun w hw => by
     rw [rulesA_right (ys' := ys)] at hw
     exact hw) ?_
   refine EW_again ((k + 1, rs1.set k ⟨⟨swapN a b xl, ys⟩, (.slice ax xr.length cx)⟩)) ⟨?_, ?_⟩ ⟨rfl, rfl, rfl, rfl, rfl, trivial⟩ sft
   · show rs.length - (k + 1) < rs.length - k; omega
   · refine ⟨by show k + 1 ≤ _; omega, by show (rs1.set k _).length = _; rw [List.length_set]; exact hrl, fun j => ?_⟩
     show (rs1.set k _)[j]? = if j < k + 1 then _ else _
     by_cases e : k = j
     · subst e
       rw [List.getElem?_set_self (by omega), if_pos (by omega)]
       have h1 := hrk k
       rw [if_neg (by omega), hkx] at h1
       rw [← h1]
       show some _ = some (swRV a b _)
       have hys : ys = xr.map (swapY a b) := by
         apply List.ext_getElem?
         intro z
         rw [hyk z, List.getElem?_map]
         split
         · rfl
         · have hie : xr.length ≤ i := by have := of_decide_eq_false h40; omega
           rw [List.getElem?_eq_none (by omega)]; rfl
       rw [hys]; rfl
     · rw [List.getElem?_set_ne e, hrk j]
       by_cases e2 : j < k
       · rw [if_pos e2, if_pos (by omega)]
       · rw [if_neg e2, if_neg (by omega)]
 have hke : k = rs.length := by have := of_decide_eq_false h17; omega
 refine CW_exit ?_
 refine EW_then_exit ?_
 refine EW_out ?_
 refine EW_block_exit ?_
 refine end0 Try.results32 (fun w hw => ?_)
 have e : rs1 = rs.map (swRV a b) := by
   apply List.ext_getElem?
   intro j
   rw [hrk j, List.getElem?_map]
   split
   · rfl
   · rw [List.getElem?_eq_none (by omega)]; rfl
 rw [← e]
 exact ⟨(), rfl, trivial, hw.sub sbt⟩

end Go.Sy
/- pollardingref8: the small ones, and which steps may be. No condition. -/
namespace Go.Sy
open Go Go.RowKit Go.Proofs

theorem loops_own {r : Rule} {s : Sym} {l : List Sym} (h : r.right = s :: l) : loopsB r = (!s.term && (s.n == r.left)) := by
 unfold loopsB
 rw [h]
 obtain ⟨t, n⟩ := s
 by_cases e : n = r.left <;> cases t <;> simp [nameS, e]
def anyL (g : Gram) (a : Int) (k : Nat) : Bool := (g.rules.take k).any (fun r => decide (r.left = a) && loopsB r)
def allL (g : Gram) (a : Int) (k : Nat) : Bool := (g.rules.take k).all (fun r => !(decide (r.left = a) && loopsB r && decide (r.right.length = 1)))
theorem anyL_next {g : Gram} {a : Int} {k : Nat} {r : Rule} (h : g.rules[k]? = some r) : anyL g a (k + 1) = (anyL g a k || (decide (r.left = a) && loopsB r)) := by
 unfold anyL
 rw [List.take_add_one, h]; simp
theorem allL_next {g : Gram} {a : Int} {k : Nat} {r : Rule} (h : g.rules[k]? = some r) : allL g a (k + 1) = (allL g a k && !(decide (r.left = a) && loopsB r && decide (r.right.length = 1))) := by
 unfold allL
 rw [List.take_add_one, h]; simp
theorem leftB_full {g : Gram} {a : Int} {k : Nat} (h : g.rules.length ≤ k) : leftB g a = (anyL g a k && allL g a k) := by
 unfold leftB anyL allL
 rw [List.take_of_length_le h]
theorem leftB_bad {g : Gram} {a : Int} {k : Nat} {r : Rule} (h : g.rules[k]? = some r) (h1 : r.left = a) (h2 : loopsB r = true) (h3 : r.right.length = 1) : leftB g a = false := by
 unfold leftB
 have : (g.rules.all fun r => !(decide (r.left = a) && loopsB r && decide (r.right.length = 1))) = false := by
   rw [List.all_eq_false]
   exact ⟨r, List.mem_of_getElem? h, by simp [h1, h2, h3]⟩
 rw [this, Bool.and_false]
set_option maxRecDepth 20000 in
theorem copied_any (v : Value) (l : List Sym) (w : World) (hl : l.length ≤ 1000) (hs : SymsAt (Cl w) v l) : Calls Try.prog 23 #[v] w (fun e w' => ∃ v' : Value, e = .returned v' ∧ Sat (Old w) w [trow 51 2 encY v' l] w') := by
 have hs' := hs.mono old_rd
 obtain ⟨a, c, rfl, _, _, _⟩ := id hs'
 have hvi : VIn (Old w) w emp0H a (l.flatMap encY) := VIn.syms hs'
 refine calls_CW (S := Sat (Old w) w [emp0H]) Try.func23 rfl Try.ntmps23 rfl ((Sat.start w).addEmp (A := emp0H) rfl) ?_
 refine nx3 ?_
 refine aO ?_
 refine nx4 ?_
 refine OW_e (e_none Try.underlying46 Try.sizeOf51 Try.zeroValue51) rfl (fun b3 => ?_)
 refine mO ?_
 refine OW_e (e_appendV (size := 2) (b := b3) (len := 0) (cap := 0) (xs := []) (rest := []) (news := l.flatMap encY) (sa := a) Try.underlying46 Try.typeInfo51 rfl rfl rfl rfl rfl rfl rfl pkt (flat_length (enc := encY) (size := 2) (fun _ => rfl) l) rfl rfl (Nat.le_refl _) (Nat.zero_le _) (fun w hw => hw.vin (F := emp0H) swt hvi) (encY_one l) (by omega) (by decide)) rfl (fun v5 => ?_)
 refine OW_pure fun _ => ?_
 refine aO ?_
 refine nx2 ?_
 refine CW_ret ?_
 refine ret1 Try.results23 rfl (fun w hw => ?_)
 rw [List.nil_append, Nat.zero_add] at hw
 exact ⟨v5, rfl, hw.sub sbt⟩

set_option maxRecDepth 20000 in
theorem own_any (r : Rule) (rv : Value) (w : World) (hs : SymsAt (Cl w) rv r.right) : Calls Try.prog 39 #[.agg #[.int .i64 r.left, rv]] w (fun e w' => e = .returned (.bool (loopsB r)) ∧ Sat (Old w) w [] w') := by
 obtain ⟨a, c, rfl, hd1, hd2, hss⟩ := hs.mono old_rd
 clear hs
 refine calls_CW Try.func39 rfl Try.ntmps39 rfl (Sat.start w) ?_
 refine nx3 ?_
 refine OW_e (e_box rfl rfl) rfl (fun b1 => ?_)
 refine aO ?_
 refine nx2 ?_
 refine CW_seq ?_
 refine CW_drawS 23 [(0, false), (1, false), (2, false), (3, false), (4, false), (5, false), (6, false), (7, false), (8, false), (9, false), (10, false), (11, false), (12, false), (13, false), (14, false), (15, false), (16, false), (17, false), (18, false), (19, false), (20, false), (21, false), (22, false)] (by kernel_rfl) (Blind.then (Blind.body (by intro c w h; simp at h))) (by kernel_rfl) (fun w hw => hw.drew) ?_
 refine DW_q rfl sft (q_fieldAddr Try.underlying49 rfl rfl Try.sizeOf46 rfl rfl) rfl ?_
 refine DW_q rfl sft (q_load1_own Try.isAgg46 rfl rfl swt (by rfl)) rfl ?_
 refine DW_q rfl sft (q_len Try.underlying46 rfl) rfl ?_
 refine DW_q rfl sft (q_gtr rfl rfl) rfl ?_
 refine mD ?_
 refine DW_part (t := 7) rfl (fun hg7 => ?_) (fun hg7 => ?_)
 · skip
   obtain ⟨s, l, hl⟩ : ∃ s l, r.right = s :: l := by
     cases hr : r.right with
     | nil => rw [hr] at hg7; simp at hg7
     | cons s l => exact ⟨s, l, rfl⟩
   obtain ⟨p, rfl, hrow⟩ := hss 0 s (by rw [hl]; rfl)
   have hlt0 : (0 : Int) < (r.right.length : Int) := by rw [hl]; simp only [List.length_cons]; omega
   refine DW_qg rfl sft rfl rfl rfl (q_fieldAddr Try.underlying49 rfl rfl Try.sizeOf46 rfl rfl) rfl ?_
   refine DW_qg rfl sft rfl rfl rfl (q_load1_own Try.isAgg46 rfl rfl swt (by rfl)) rfl ?_
   refine DW_qg rfl sft rfl rfl rfl (q_indexAddrI Try.underlying46 Try.sizeOf51 rfl rfl (by omega) (by omega)) rfl ?_
   refine DW_qg rfl sft rfl rfl rfl (q_fieldAddr Try.underlying51 rfl rfl Try.sizeOf4 rfl rfl) rfl ?_
   refine DW_qg rfl sft rfl rfl rfl (q_load1_ro Try.isAgg4 rfl (by exact Row.at0 hrow)) rfl ?_
   refine DW_qg rfl sft rfl rfl rfl (q_not rfl) rfl ?_
   refine DW_q rfl sft (q_pick_t rfl rfl) rfl ?_
   refine mD ?_
   refine DW_part (t := 15) rfl (fun hg15 => ?_) (fun hg15 => ?_)
   · skip
     refine DW_qg rfl sft rfl rfl rfl (q_fieldAddr Try.underlying49 rfl rfl Try.sizeOf46 rfl rfl) rfl ?_
     refine DW_qg rfl sft rfl rfl rfl (q_load1_own Try.isAgg46 rfl rfl swt (by rfl)) rfl ?_
     refine DW_qg rfl sft rfl rfl rfl (q_indexAddrI Try.underlying46 Try.sizeOf51 rfl rfl (by omega) (by omega)) rfl ?_
     refine DW_qg rfl sft rfl rfl rfl (q_fieldAddr Try.underlying51 rfl rfl Try.sizeOf3 rfl rfl) rfl ?_
     refine DW_qg rfl sft rfl rfl rfl (q_load1_ro Try.isAgg3 rfl (by exact hrow.at_ (j := 1) rfl)) rfl ?_
     refine DW_qg rfl sft rfl rfl rfl (q_fieldAddr Try.underlying49 rfl rfl Try.sizeOf3 rfl rfl) rfl ?_
     refine DW_qg rfl sft rfl rfl rfl (q_load1_own Try.isAgg3 rfl rfl swt (by rfl)) rfl ?_
     refine DW_qg rfl sft rfl rfl rfl (q_eqi rfl rfl) rfl ?_
     refine DW_q rfl sft (q_pick_t rfl rfl) rfl ?_
     refine DW_q rfl sft (q_assign rfl) rfl ?_
     refine DW_nil ?_
     refine EW_then ?_
     refine CW_ret ?_
     refine ret1 Try.results39 rfl (fun w hw => ?_)
     refine ⟨congrArg (fun b => Ending.returned (Value.bool b)) (?_ : _ = loopsB r), hw.sub .nil⟩
     rw [loops_own hl]; simp_all; done
   refine kD ?_
   refine kD ?_
   refine kD ?_
   refine kD ?_
   refine kD ?_
   refine kD ?_
   refine kD ?_
   refine kD ?_
   refine DW_q rfl sft (q_pick_f rfl rfl) rfl ?_
   refine DW_q rfl sft (q_assign rfl) rfl ?_
   refine DW_nil ?_
   refine EW_then ?_
   refine CW_ret ?_
   refine ret1 Try.results39 rfl (fun w hw => ?_)
   refine ⟨congrArg (fun b => Ending.returned (Value.bool b)) (?_ : _ = loopsB r), hw.sub .nil⟩
   rw [loops_own hl]; simp_all; done
 have hl : r.right = [] := by
   cases hr : r.right with
   | nil => rfl
   | cons s l => rw [hr] at hg7; simp at hg7
 refine kD ?_
 refine kD ?_
 refine kD ?_
 refine kD ?_
 refine kD ?_
 refine kD ?_
 refine DW_q rfl sft (q_pick_f rfl rfl) rfl ?_
 refine mD ?_
 refine kD ?_
 refine kD ?_
 refine kD ?_
 refine kD ?_
 refine kD ?_
 refine kD ?_
 refine kD ?_
 refine kD ?_
 refine DW_q rfl sft (q_pick_f rfl rfl) rfl ?_
 refine DW_q rfl sft (q_assign rfl) rfl ?_
 refine DW_nil ?_
 refine EW_then ?_
 refine CW_ret ?_
 refine ret1 Try.results39 rfl (fun w hw => ?_)
 refine ⟨congrArg (fun b => Ending.returned (Value.bool b)) (?_ : _ = loopsB r), hw.sub .nil⟩
 unfold loopsB; rw [hl]

set_option maxRecDepth 20000 in
theorem swapped_any (n a b : Int) (w : World) : Calls Try.prog 38 #[.int .i64 n, .int .i64 a, .int .i64 b] w (fun e w' => e = .returned (.int .i64 (swapN a b n)) ∧ Sat (Old w) w [] w') := by
 refine calls_CW Try.func38 rfl Try.ntmps38 rfl (Sat.start w) ?_
 refine nx3 ?_
 refine aO ?_
 refine nx2 ?_
 refine CW_seq ?_
 refine nx3 ?_
 refine mO ?_
 refine mO ?_
 refine OW_q (q_eqi rfl rfl) rfl ?_
 refine nx2 ?_
 refine CW_cond rfl (fun h9 => ?_) (fun h9 => ?_)
 · skip
   refine nx3 ?_
   refine mO ?_
   refine aO ?_
   refine nx2 ?_
   refine CW_ret ?_
   refine EW_then_ret ?_
   refine ret1 Try.results38 rfl (fun w hw => ?_)
   refine ⟨?_, hw.sub .nil⟩
   unfold swapN
   simp_all
 refine CW_skip ?_
 refine EW_then ?_
 refine CW_seq ?_
 refine nx3 ?_
 refine mO ?_
 refine mO ?_
 refine OW_q (q_eqi rfl rfl) rfl ?_
 refine nx2 ?_
 refine CW_cond rfl (fun h13 => ?_) (fun h13 => ?_)
 · skip
   refine nx3 ?_
   refine mO ?_
   refine aO ?_
   refine nx2 ?_
   refine CW_ret ?_
   refine EW_then_ret ?_
   refine ret1 Try.results38 rfl (fun w hw => ?_)
   refine ⟨?_, hw.sub .nil⟩
   unfold swapN
   simp_all
 refine CW_skip ?_
 refine EW_then ?_
 refine nx3 ?_
 refine mO ?_
 refine aO ?_
 refine nx2 ?_
 refine CW_ret ?_
 refine ret1 Try.results38 rfl (fun w hw => ?_)
 refine ⟨?_, hw.sub .nil⟩
 unfold swapN
 simp_all

set_option maxRecDepth 20000 in
theorem left_any (gv : Value) (g : Gram) (n : Int) (w : World) (hg : GramAt (Cl w) gv g) : Calls Try.prog 37 #[gv, .int .i64 n] w (fun e w' => e = .returned (.bool (leftB g n)) ∧ Sat (Old w) w [] w') := by
 have hg0 := hg
 obtain ⟨rv, rfl, hr⟩ := hg.mono old_rd
 obtain ⟨a, c, rfl, hc1, hc2, hrs⟩ := id hr
 clear hg
 refine calls_CW Try.func37 rfl Try.ntmps37 rfl (Sat.start w) ?_
 refine nx3 ?_
 refine OW_e (e_box rfl rfl) rfl (fun b2 => ?_)
 refine aO ?_
 refine nx4 ?_
 refine aO ?_
 refine nx2 ?_
 refine CW_seq ?_
 refine nx3 ?_
 refine aO ?_
 refine nx2 ?_
 refine CW_block ?_
 refine CW_loopP (ι := Nat × Bool) (fun i_ => i_.1 ≤ g.rules.length ∧ i_.2 = anyL g n i_.1 ∧ allL g n i_.1 = true) (fun i_ => [(1, .int .i64 n), (2, .pointer (some ⟨b2, 0, none⟩)), (5, .bool i_.2), (6, .int .i64 (i_.1 : Int))]) (fun i_ => Sat (Old w) w [cel b2 24 [.int .i64 g.terms, .int .i64 g.names, .slice a g.rules.length c]]) (fun i_ => g.rules.length - i_.1) (0, false) ?_ ⟨rfl, rfl, rfl, rfl, trivial⟩ sft ?_
 · exact ⟨Nat.zero_le _, by simp [anyL], by simp [allL]⟩
 intro i_ hpre
 obtain ⟨k, sm⟩ := i_
 replace hpre : k ≤ g.rules.length ∧ sm = anyL g n k ∧ allL g n k = true := hpre
 change CW _ _ _ _ [(1, .int .i64 n), (2, .pointer (some ⟨b2, 0, none⟩)), (5, .bool sm), (6, .int .i64 (k : Int))] (Sat (Old w) w [cel b2 24 [.int .i64 g.terms, .int .i64 g.names, .slice a g.rules.length c]])
 obtain ⟨hk, hsm, hal⟩ := hpre
 refine CW_seq ?_
 refine nx3 ?_
 refine mO ?_
 refine OW_q (q_fieldAddr Try.underlying24 rfl rfl Try.sizeOf22 rfl rfl) rfl ?_
 refine OW_q (q_load1_own Try.isAgg22 rfl rfl swt (by rfl)) rfl ?_
 refine OW_q (q_len Try.underlying22 rfl) rfl ?_
 refine OW_q (q_lss rfl rfl) rfl ?_
 refine nx2 ?_
 refine CW_cond rfl (fun h12 => ?_) (fun h12 => ?_)
 · skip
   have hlt : k < g.rules.length := by have := of_decide_eq_true h12; omega
   obtain ⟨q, hq⟩ := get_of_lt hlt
   obtain ⟨p, rfl, rvq, hsy, hrow⟩ := hrs k q hq
   obtain ⟨ya, yc, rfl, hy1, hy2, hys⟩ := id hsy
   refine CW_skip ?_
   refine EW_then ?_
   refine CW_seq ?_
   refine CW_block ?_
   refine nx3 ?_
   refine OW_q (q_fieldAddr Try.underlying24 rfl rfl Try.sizeOf22 rfl rfl) rfl ?_
   refine OW_q (q_load1_own Try.isAgg22 rfl rfl swt (by rfl)) rfl ?_
   refine mO ?_
   refine OW_q (q_indexAddr Try.underlying22 Try.sizeOf49 rfl rfl (by omega)) rfl ?_
   refine OW_q (q_loadN_ro Try.isAgg49 Try.sizeOf49 rfl (by exact hrow) (by rfl)) rfl ?_
   refine OW_e (e_alloc Try.zeroValue49 rfl) rfl (fun b7 => ?_)
   refine OW_e0 (e_storeN Try.sizeOf49 rfl rfl rfl rfl (by simp [Value.oneCell']) swt (by rfl)) (fun _ => ?_)
   refine nx4 ?_
   refine OW_q (q_fieldAddr Try.underlying49 rfl rfl Try.sizeOf3 rfl rfl) rfl ?_
   refine OW_q (q_load1_own Try.isAgg3 rfl rfl swt (by rfl)) rfl ?_
   refine mO ?_
   refine OW_q (q_eqi rfl rfl) rfl ?_
   refine mO ?_
   refine OW_part (t := 24) rfl (fun hg24 => ?_) (fun hg24 => ?_)
   · skip
     have hql : decide (q.left = n) = true := by simpa using hg24
     refine wO ?_
     refine OW_q (q_loadN_own Try.isAgg49 Try.sizeOf49 rfl rfl swt (by rfl)) rfl ?_
     refine wO ?_
     refine OW_e (e_call Try.call39 rfl (fun w hw => lift_ro (own_any q _ w (hsy.mono fun _ _ h => hw.rd h)) hw)) rfl (fun x26 => ?_)
     refine OW_q (q_pick_t rfl rfl) rfl ?_
     refine nx2 ?_
     refine CW_cond rfl (fun h27 => ?_) (fun h27 => ?_)
     · skip
       refine nx3 ?_
       refine aO ?_
       refine nx4 ?_
       refine OW_q (q_fieldAddr Try.underlying49 rfl rfl Try.sizeOf46 rfl rfl) rfl ?_
       refine OW_q (q_load1_own Try.isAgg46 rfl rfl swt (by rfl)) rfl ?_
       refine OW_q (q_len Try.underlying46 rfl) rfl ?_
       refine OW_q (q_eqi rfl rfl) rfl ?_
       refine nx2 ?_
       refine CW_cond rfl (fun h31 => ?_) (fun h31 => ?_)
       · skip
         refine nx3 ?_
         refine aO ?_
         refine nx2 ?_
         refine CW_ret ?_
         refine EW_block_ret ?_
         refine EW_then_ret ?_
         refine EW_out_ret ?_
         refine EW_block_ret ?_
         refine EW_then_ret ?_
         refine ret1 Try.results37 rfl (fun w hw => ?_)
         exact ⟨by rw [leftB_bad hq (of_decide_eq_true hql) h27 (by simp at h31; omega)], hw.sub .nil⟩
       refine CW_skip ?_
       refine EW_block_normal ?_
       refine EW_then ?_
       refine CW_region ?_
       refine mO ?_
       refine OW_q (q_add rfl rfl (by omega) (by omega)) rfl ?_
       refine aO ?_
       refine OW_nil ?_
       refine EW_again ((k + 1, true)) ⟨?_, ?_⟩ ⟨rfl, rfl, rfl, rfl, trivial⟩ sft
       · show g.rules.length - (k + 1) < g.rules.length - k; omega
       · refine ⟨by show k + 1 ≤ _; omega, ?_, ?_⟩
         · show (true : Bool) = anyL g n (k + 1)
           rw [anyL_next hq, ← hsm]
           rw [hql, h27]; simp
         · rw [allL_next hq, hal]
           rw [hql, h27]; simp at h31; simp; omega
     refine CW_skip ?_
     refine EW_block_normal ?_
     refine EW_then ?_
     refine CW_region ?_
     refine mO ?_
     refine OW_q (q_add rfl rfl (by omega) (by omega)) rfl ?_
     refine aO ?_
     refine OW_nil ?_
     refine EW_again ((k + 1, sm)) ⟨?_, ?_⟩ ⟨rfl, rfl, rfl, rfl, trivial⟩ sft
     · show g.rules.length - (k + 1) < g.rules.length - k; omega
     · refine ⟨by show k + 1 ≤ _; omega, ?_, ?_⟩
       · show (sm : Bool) = anyL g n (k + 1)
         rw [anyL_next hq, ← hsm]
         rw [hql, h27]; simp
       · rw [allL_next hq, hal]
         rw [hql, h27]; simp
   have hql : decide (q.left = n) = false := by simpa using hg24
   refine kO ?_
   refine kO ?_
   refine OW_q (q_pick_f rfl rfl) rfl ?_
   refine nx2 ?_
   refine CW_false rfl rfl ?_
   refine CW_skip ?_
   refine EW_block_normal ?_
   refine EW_then ?_
   refine CW_region ?_
   refine mO ?_
   refine OW_q (q_add rfl rfl (by omega) (by omega)) rfl ?_
   refine aO ?_
   refine OW_nil ?_
   refine EW_again ((k + 1, sm)) ⟨?_, ?_⟩ ⟨rfl, rfl, rfl, rfl, trivial⟩ sft
   · show g.rules.length - (k + 1) < g.rules.length - k; omega
   · refine ⟨by show k + 1 ≤ _; omega, ?_, ?_⟩
     · show (sm : Bool) = anyL g n (k + 1)
       rw [anyL_next hq, ← hsm]
       rw [hql]; simp
     · rw [allL_next hq, hal]
       rw [hql]; simp
 have hke : g.rules.length ≤ k := by have := of_decide_eq_false h12; omega
 refine CW_exit ?_
 refine EW_then_exit ?_
 refine EW_out ?_
 refine EW_block_exit ?_
 refine EW_then ?_
 refine nx3 ?_
 refine mO ?_
 refine aO ?_
 refine nx2 ?_
 refine CW_ret ?_
 refine ret1 Try.results37 rfl (fun w hw => ?_)
 exact ⟨by rw [leftB_full hke, ← hsm, hal, Bool.and_true], hw.sub .nil⟩

set_option maxRecDepth 20000 in
theorem may8_any (gv : Value) (g : Gram) (s : SStep) (w : World) (hg : GramAt (Cl w) gv g) : Calls Try.prog 21 #[gv, stepV s] w (fun e w' => e = .returned (.bool (mayS g s)) ∧ Sat (Old w) w [] w') := by
 have hg0 := hg
 obtain ⟨rv, rfl, hr⟩ := hg.mono old_rd
 obtain ⟨a, c, rfl, hc1, hc2, hrs⟩ := id hr
 clear hg
 refine calls_CW Try.func21 rfl Try.ntmps21 rfl (Sat.start w) ?_
 refine nx3 ?_
 refine OW_e (e_box rfl rfl) rfl (fun b2 => ?_)
 refine OW_e (e_box rfl rfl) rfl (fun b3 => ?_)
 refine aO ?_
 refine nx2 ?_
 refine CW_seqJ (ι := Bool) (fun rl => rl = inR s.a 0 g.rules.length) (fun rl => [(2, .pointer (some ⟨b2, 0, none⟩)), (3, .pointer (some ⟨b3, 0, none⟩)), (5, .bool rl)]) (fun rl => Sat (Old w) w [cel b3 26 [.int .i64 s.op, .int .i64 s.a, .int .i64 s.b, .int .i64 s.c], cel b2 24 [.int .i64 g.terms, .int .i64 g.names, .slice a g.rules.length c]]) ?_ ?_
 · skip
   refine CW_region ?_
   refine OW_q (q_fieldAddr Try.underlying26 rfl rfl Try.sizeOf3 rfl rfl) rfl ?_
   refine OW_q (q_load1_own Try.isAgg3 rfl rfl swt (by rfl)) rfl ?_
   refine OW_q (q_geq rfl rfl) rfl ?_
   refine mO ?_
   refine OW_part (t := 10) rfl (fun hg10 => ?_) (fun hg10 => ?_)
   · skip
     refine wO ?_
     refine OW_q (q_fieldAddr Try.underlying26 rfl rfl Try.sizeOf3 rfl rfl) rfl ?_
     refine wO ?_
     refine OW_q (q_load1_own Try.isAgg3 rfl rfl swt (by rfl)) rfl ?_
     refine wO ?_
     refine OW_q (q_fieldAddr Try.underlying24 rfl rfl Try.sizeOf22 rfl rfl) rfl ?_
     refine wO ?_
     refine OW_q (q_load1_own Try.isAgg22 rfl rfl swt (by rfl)) rfl ?_
     refine wO ?_
     refine OW_q (q_len Try.underlying22 rfl) rfl ?_
     refine wO ?_
     refine OW_q (q_lss rfl rfl) rfl ?_
     refine OW_q (q_pick_t rfl rfl) rfl ?_
     refine aO ?_
     refine OW_nil ?_
     refine EW_again (decide (s.a < (g.rules.length : Int))) ?_ ⟨rfl, rfl, rfl, trivial⟩ sft
     · show _ = _; unfold inR; rw [show decide (0 ≤ s.a) = true from hg10]; rfl
   refine kO ?_
   refine kO ?_
   refine kO ?_
   refine kO ?_
   refine kO ?_
   refine kO ?_
   refine OW_q (q_pick_f rfl rfl) rfl ?_
   refine aO ?_
   refine OW_nil ?_
   refine EW_again (false) ?_ ⟨rfl, rfl, rfl, trivial⟩ sft
   · show _ = _; unfold inR; rw [show decide (0 ≤ s.a) = false from hg10]; rfl
 intro rl hpre
 change CW _ _ _ _ [(2, .pointer (some ⟨b2, 0, none⟩)), (3, .pointer (some ⟨b3, 0, none⟩)), (5, .bool rl)] (Sat (Old w) w [cel b3 26 [.int .i64 s.op, .int .i64 s.a, .int .i64 s.b, .int .i64 s.c], cel b2 24 [.int .i64 g.terms, .int .i64 g.names, .slice a g.rules.length c]])
 have hrl : rl = inR s.a 0 g.rules.length := hpre
 refine CW_seq ?_
 refine nx3 ?_
 refine OW_q (q_fieldAddr Try.underlying26 rfl rfl Try.sizeOf3 rfl rfl) rfl ?_
 refine OW_q (q_load1_own Try.isAgg3 rfl rfl swt (by rfl)) rfl ?_
 refine nx2 ?_
 refine CW_block ?_
 refine nx3 ?_
 refine OW_q (q_eqi rfl rfl) rfl ?_
 refine aO ?_
 refine nx2 ?_
 refine CW_cond rfl (fun h20 => ?_) (fun h20 => ?_)
 · skip
   have hop : s.op = 1 := by simpa using h20
   refine nx3 ?_
   refine OW_q (q_fieldAddr Try.underlying26 rfl rfl Try.sizeOf3 rfl rfl) rfl ?_
   refine OW_q (q_load1_own Try.isAgg3 rfl rfl swt (by rfl)) rfl ?_
   refine OW_q (q_geq rfl rfl) rfl ?_
   refine mO ?_
   refine OW_part (t := 25) rfl (fun hg25 => ?_) (fun hg25 => ?_)
   · skip
     refine wO ?_
     refine OW_q (q_fieldAddr Try.underlying26 rfl rfl Try.sizeOf3 rfl rfl) rfl ?_
     refine wO ?_
     refine OW_q (q_load1_own Try.isAgg3 rfl rfl swt (by rfl)) rfl ?_
     refine wO ?_
     refine OW_q (q_fieldAddr Try.underlying24 rfl rfl Try.sizeOf3 rfl rfl) rfl ?_
     refine wO ?_
     refine OW_q (q_load1_own Try.isAgg3 rfl rfl swt (by rfl)) rfl ?_
     refine wO ?_
     refine OW_q (q_lss rfl rfl) rfl ?_
     refine OW_q (q_pick_t rfl rfl) rfl ?_
     refine mO ?_
     refine OW_part (t := 32) rfl (fun hg32 => ?_) (fun hg32 => ?_)
     · skip
       refine wO ?_
       refine OW_q (q_fieldAddr Try.underlying26 rfl rfl Try.sizeOf3 rfl rfl) rfl ?_
       refine wO ?_
       refine OW_q (q_load1_own Try.isAgg3 rfl rfl swt (by rfl)) rfl ?_
       refine wO ?_
       refine OW_q (q_geq rfl rfl) rfl ?_
       refine OW_q (q_pick_t rfl rfl) rfl ?_
       refine mO ?_
       refine OW_part (t := 37) rfl (fun hg37 => ?_) (fun hg37 => ?_)
       · skip
         refine wO ?_
         refine OW_q (q_fieldAddr Try.underlying26 rfl rfl Try.sizeOf3 rfl rfl) rfl ?_
         refine wO ?_
         refine OW_q (q_load1_own Try.isAgg3 rfl rfl swt (by rfl)) rfl ?_
         refine wO ?_
         refine OW_q (q_fieldAddr Try.underlying24 rfl rfl Try.sizeOf3 rfl rfl) rfl ?_
         refine wO ?_
         refine OW_q (q_load1_own Try.isAgg3 rfl rfl swt (by rfl)) rfl ?_
         refine wO ?_
         refine OW_q (q_lss rfl rfl) rfl ?_
         refine OW_q (q_pick_t rfl rfl) rfl ?_
         refine mO ?_
         refine OW_part (t := 44) rfl (fun hg44 => ?_) (fun hg44 => ?_)
         · skip
           refine wO ?_
           refine OW_q (q_fieldAddr Try.underlying26 rfl rfl Try.sizeOf3 rfl rfl) rfl ?_
           refine wO ?_
           refine OW_q (q_load1_own Try.isAgg3 rfl rfl swt (by rfl)) rfl ?_
           refine wO ?_
           refine OW_q (q_eqi rfl rfl) rfl ?_
           refine OW_q (q_pick_t rfl rfl) rfl ?_
           refine aO ?_
           refine nx2 ?_
           refine CW_ret ?_
           refine EW_block_ret ?_
           refine EW_then_ret ?_
           refine ret1 Try.results21 rfl (fun w hw => ?_)
           refine ⟨congrArg (fun b => Ending.returned (Value.bool b)) (?_ : _ = mayS g s), hw.sub .nil⟩
           clear hw
           simp [mayS, inR, *]; rfl
         refine kO ?_
         refine kO ?_
         refine kO ?_
         refine OW_q (q_pick_f rfl rfl) rfl ?_
         refine aO ?_
         refine nx2 ?_
         refine CW_ret ?_
         refine EW_block_ret ?_
         refine EW_then_ret ?_
         refine ret1 Try.results21 rfl (fun w hw => ?_)
         refine ⟨congrArg (fun b => Ending.returned (Value.bool b)) (?_ : _ = mayS g s), hw.sub .nil⟩
         clear hw
         simp [mayS, inR, *]; done
       refine kO ?_
       refine kO ?_
       refine kO ?_
       refine kO ?_
       refine kO ?_
       refine OW_q (q_pick_f rfl rfl) rfl ?_
       refine mO ?_
       refine kO ?_
       refine kO ?_
       refine kO ?_
       refine OW_q (q_pick_f rfl rfl) rfl ?_
       refine aO ?_
       refine nx2 ?_
       refine CW_ret ?_
       refine EW_block_ret ?_
       refine EW_then_ret ?_
       refine ret1 Try.results21 rfl (fun w hw => ?_)
       refine ⟨congrArg (fun b => Ending.returned (Value.bool b)) (?_ : _ = mayS g s), hw.sub .nil⟩
       clear hw
       simp [mayS, inR, *]; done
     refine kO ?_
     refine kO ?_
     refine kO ?_
     refine OW_q (q_pick_f rfl rfl) rfl ?_
     refine mO ?_
     refine kO ?_
     refine kO ?_
     refine kO ?_
     refine kO ?_
     refine kO ?_
     refine OW_q (q_pick_f rfl rfl) rfl ?_
     refine mO ?_
     refine kO ?_
     refine kO ?_
     refine kO ?_
     refine OW_q (q_pick_f rfl rfl) rfl ?_
     refine aO ?_
     refine nx2 ?_
     refine CW_ret ?_
     refine EW_block_ret ?_
     refine EW_then_ret ?_
     refine ret1 Try.results21 rfl (fun w hw => ?_)
     refine ⟨congrArg (fun b => Ending.returned (Value.bool b)) (?_ : _ = mayS g s), hw.sub .nil⟩
     clear hw
     simp [mayS, inR, *]; done
   refine kO ?_
   refine kO ?_
   refine kO ?_
   refine kO ?_
   refine kO ?_
   refine OW_q (q_pick_f rfl rfl) rfl ?_
   refine mO ?_
   refine kO ?_
   refine kO ?_
   refine kO ?_
   refine OW_q (q_pick_f rfl rfl) rfl ?_
   refine mO ?_
   refine kO ?_
   refine kO ?_
   refine kO ?_
   refine kO ?_
   refine kO ?_
   refine OW_q (q_pick_f rfl rfl) rfl ?_
   refine mO ?_
   refine kO ?_
   refine kO ?_
   refine kO ?_
   refine OW_q (q_pick_f rfl rfl) rfl ?_
   refine aO ?_
   refine nx2 ?_
   refine CW_ret ?_
   refine EW_block_ret ?_
   refine EW_then_ret ?_
   refine ret1 Try.results21 rfl (fun w hw => ?_)
   refine ⟨congrArg (fun b => Ending.returned (Value.bool b)) (?_ : _ = mayS g s), hw.sub .nil⟩
   clear hw
   simp [mayS, inR, *]; done
 refine nx3 ?_
 refine OW_q (q_eqi rfl rfl) rfl ?_
 refine aO ?_
 refine nx2 ?_
 refine CW_cond rfl (fun h49 => ?_) (fun h49 => ?_)
 · skip
   have hop : s.op = 2 := by simpa using h49
   refine CW_seq ?_
   refine CW_drawS 27 [(0, false), (1, false), (2, false), (3, false), (4, false), (5, false), (6, false), (7, false), (8, false), (9, false), (10, false), (11, false), (12, false), (13, false), (14, false), (15, false), (16, false), (17, false), (18, false), (19, false), (20, false), (21, false), (22, false), (23, false), (24, false), (25, false), (26, false)] (by kernel_rfl) (Blind.then (Blind.block (Blind.then (Blind.body (by intro c w h; simp at h))))) (by kernel_rfl) (fun w hw => hw.drew) ?_
   refine mD ?_
   refine mD ?_
   refine DW_part (t := 52) rfl (fun hg52 => ?_) (fun hg52 => ?_)
   · skip
     have hir : inR s.a 0 g.rules.length = true := by rw [← hrl]; exact hg52
     obtain ⟨ha0, ha1⟩ := inR_true.1 hir
     obtain ⟨q, hq⟩ := get_of_lt (l := g.rules) (k := s.a.toNat) (by omega)
     obtain ⟨p, rfl, rvq, hsy, hrow⟩ := hrs s.a.toNat q hq
     obtain ⟨ya, yc, rfl, hy1, hy2, hys⟩ := id hsy
     have hra := ruleAt_get hq
     refine DW_qg rfl sft rfl rfl rfl (q_fieldAddr Try.underlying26 rfl rfl Try.sizeOf3 rfl rfl) rfl ?_
     refine DW_qg rfl sft rfl rfl rfl (q_load1_own Try.isAgg3 rfl rfl swt (by rfl)) rfl ?_
     refine DW_qg rfl sft rfl rfl rfl (q_geq rfl rfl) rfl ?_
     refine DW_q rfl sft (q_pick_t rfl rfl) rfl ?_
     refine mD ?_
     refine DW_part (t := 57) rfl (fun hg57 => ?_) (fun hg57 => ?_)
     · skip
       refine DW_qg rfl sft rfl rfl rfl (q_fieldAddr Try.underlying26 rfl rfl Try.sizeOf3 rfl rfl) rfl ?_
       refine DW_qg rfl sft rfl rfl rfl (q_load1_own Try.isAgg3 rfl rfl swt (by rfl)) rfl ?_
       refine DW_qg rfl sft rfl rfl rfl (q_fieldAddr Try.underlying26 rfl rfl Try.sizeOf3 rfl rfl) rfl ?_
       refine DW_qg rfl sft rfl rfl rfl (q_load1_own Try.isAgg3 rfl rfl swt (by rfl)) rfl ?_
       refine DW_qg rfl sft rfl rfl rfl (q_lss rfl rfl) rfl ?_
       refine DW_q rfl sft (q_pick_t rfl rfl) rfl ?_
       refine mD ?_
       refine DW_part (t := 64) rfl (fun hg64 => ?_) (fun hg64 => ?_)
       · skip
         refine DW_qg rfl sft rfl rfl rfl (q_fieldAddr Try.underlying26 rfl rfl Try.sizeOf3 rfl rfl) rfl ?_
         refine DW_qg rfl sft rfl rfl rfl (q_load1_own Try.isAgg3 rfl rfl swt (by rfl)) rfl ?_
         refine DW_qg rfl sft rfl rfl rfl (q_fieldAddr Try.underlying24 rfl rfl Try.sizeOf22 rfl rfl) rfl ?_
         refine DW_qg rfl sft rfl rfl rfl (q_load1_own Try.isAgg22 rfl rfl swt (by rfl)) rfl ?_
         refine DW_qg rfl sft rfl rfl rfl (q_fieldAddr Try.underlying26 rfl rfl Try.sizeOf3 rfl rfl) rfl ?_
         refine DW_qg rfl sft rfl rfl rfl (q_load1_own Try.isAgg3 rfl rfl swt (by rfl)) rfl ?_
         refine DW_qg rfl sft rfl rfl rfl (q_indexAddrI Try.underlying22 Try.sizeOf49 rfl rfl (by omega) (by omega)) rfl ?_
         refine DW_qg rfl sft rfl rfl rfl (q_fieldAddr Try.underlying49 rfl rfl Try.sizeOf46 rfl rfl) rfl ?_
         refine DW_qg rfl sft rfl rfl rfl (q_load1_ro Try.isAgg46 rfl (by exact hrow.at_ (j := 1) rfl)) rfl ?_
         refine DW_qg rfl sft rfl rfl rfl (q_len Try.underlying46 rfl) rfl ?_
         refine DW_qg rfl sft rfl rfl rfl (q_leq rfl rfl) rfl ?_
         refine DW_q rfl sft (q_pick_t rfl rfl) rfl ?_
         refine DW_q rfl sft (q_assign rfl) rfl ?_
         refine DW_nil ?_
         refine EW_then ?_
         refine CW_ret ?_
         refine EW_block_ret ?_
         refine EW_then_ret ?_
         refine ret1 Try.results21 rfl (fun w hw => ?_)
         refine ⟨congrArg (fun b => Ending.returned (Value.bool b)) (?_ : _ = mayS g s), hw.sub .nil⟩
         clear hw
         simp [mayS, inR, *]; done
       refine kD ?_
       refine kD ?_
       refine kD ?_
       refine kD ?_
       refine kD ?_
       refine kD ?_
       refine kD ?_
       refine kD ?_
       refine kD ?_
       refine kD ?_
       refine kD ?_
       refine DW_q rfl sft (q_pick_f rfl rfl) rfl ?_
       refine DW_q rfl sft (q_assign rfl) rfl ?_
       refine DW_nil ?_
       refine EW_then ?_
       refine CW_ret ?_
       refine EW_block_ret ?_
       refine EW_then_ret ?_
       refine ret1 Try.results21 rfl (fun w hw => ?_)
       refine ⟨congrArg (fun b => Ending.returned (Value.bool b)) (?_ : _ = mayS g s), hw.sub .nil⟩
       clear hw
       simp [mayS, inR, *]; done
     refine kD ?_
     refine kD ?_
     refine kD ?_
     refine kD ?_
     refine kD ?_
     refine DW_q rfl sft (q_pick_f rfl rfl) rfl ?_
     refine mD ?_
     refine kD ?_
     refine kD ?_
     refine kD ?_
     refine kD ?_
     refine kD ?_
     refine kD ?_
     refine kD ?_
     refine kD ?_
     refine kD ?_
     refine kD ?_
     refine kD ?_
     refine DW_q rfl sft (q_pick_f rfl rfl) rfl ?_
     refine DW_q rfl sft (q_assign rfl) rfl ?_
     refine DW_nil ?_
     refine EW_then ?_
     refine CW_ret ?_
     refine EW_block_ret ?_
     refine EW_then_ret ?_
     refine ret1 Try.results21 rfl (fun w hw => ?_)
     refine ⟨congrArg (fun b => Ending.returned (Value.bool b)) (?_ : _ = mayS g s), hw.sub .nil⟩
     clear hw
     simp [mayS, inR, *]; done
   have hnr : inR s.a 0 g.rules.length = false := by rw [← hrl]; exact hg52
   refine kD ?_
   refine kD ?_
   refine kD ?_
   refine DW_q rfl sft (q_pick_f rfl rfl) rfl ?_
   refine mD ?_
   refine kD ?_
   refine kD ?_
   refine kD ?_
   refine kD ?_
   refine kD ?_
   refine DW_q rfl sft (q_pick_f rfl rfl) rfl ?_
   refine mD ?_
   refine kD ?_
   refine kD ?_
   refine kD ?_
   refine kD ?_
   refine kD ?_
   refine kD ?_
   refine kD ?_
   refine kD ?_
   refine kD ?_
   refine kD ?_
   refine kD ?_
   refine DW_q rfl sft (q_pick_f rfl rfl) rfl ?_
   refine DW_q rfl sft (q_assign rfl) rfl ?_
   refine DW_nil ?_
   refine EW_then ?_
   refine CW_ret ?_
   refine EW_block_ret ?_
   refine EW_then_ret ?_
   refine ret1 Try.results21 rfl (fun w hw => ?_)
   refine ⟨congrArg (fun b => Ending.returned (Value.bool b)) (?_ : _ = mayS g s), hw.sub .nil⟩
   clear hw
   simp_all [mayS, inR]; intros; omega
 refine nx3 ?_
 refine OW_q (q_eqi rfl rfl) rfl ?_
 refine aO ?_
 refine nx2 ?_
 refine CW_cond rfl (fun h77 => ?_) (fun h77 => ?_)
 · skip
   have hop : s.op = 3 := by simpa using h77
   refine CW_seq ?_
   refine CW_seq ?_
   refine CW_drawS 25 [(0, false), (1, false), (2, false), (3, false), (4, false), (5, false), (6, false), (7, false), (8, false), (9, false), (10, false), (11, false), (12, false), (13, false), (14, false), (15, false), (16, false), (17, false), (18, false), (19, false), (20, false), (21, false), (22, false), (23, false), (24, false)] (by kernel_rfl) (Blind.then (Blind.then (Blind.block (Blind.then (Blind.body (by intro c w h; simp at h)))))) (by kernel_rfl) (fun w hw => hw.drew) ?_
   refine mD ?_
   refine DW_q rfl sft (q_not rfl) rfl ?_
   refine mD ?_
   refine DW_part (t := 81) rfl (fun hg81 => ?_) (fun hg81 => ?_)
   · skip
     have hnr : inR s.a 0 g.rules.length = false := by rw [← hrl]; simpa using hg81
     refine kD ?_
     refine kD ?_
     refine kD ?_
     refine DW_q rfl sft (q_pick_t rfl rfl) rfl ?_
     refine mD ?_
     refine kD ?_
     refine kD ?_
     refine kD ?_
     refine kD ?_
     refine kD ?_
     refine kD ?_
     refine kD ?_
     refine kD ?_
     refine kD ?_
     refine kD ?_
     refine kD ?_
     refine DW_q rfl sft (q_pick_t rfl rfl) rfl ?_
     refine mD ?_
     refine kD ?_
     refine kD ?_
     refine kD ?_
     refine DW_q rfl sft (q_pick_t rfl rfl) rfl ?_
     refine DW_nil ?_
     refine EW_then ?_
     refine CW_true rfl rfl ?_
     refine nx3 ?_
     refine aO ?_
     refine nx2 ?_
     refine CW_ret ?_
     refine EW_then_ret ?_
     refine EW_block_ret ?_
     refine EW_then_ret ?_
     refine ret1 Try.results21 rfl (fun w hw => ?_)
     refine ⟨congrArg (fun b => Ending.returned (Value.bool b)) (?_ : _ = mayS g s), hw.sub .nil⟩
     clear hw
     simp_all [mayS, inlB, inR]; intros; omega
   have hir : inR s.a 0 g.rules.length = true := by rw [← hrl]; simpa using hg81
   obtain ⟨ha0, ha1⟩ := inR_true.1 hir
   obtain ⟨q, hq⟩ := get_of_lt (l := g.rules) (k := s.a.toNat) (by omega)
   obtain ⟨p, rfl, rvq, hsy, hrow⟩ := hrs s.a.toNat q hq
   obtain ⟨ya, yc, rfl, hy1, hy2, hys⟩ := id hsy
   have hra := ruleAt_get hq
   refine DW_qg rfl sft rfl rfl rfl (q_fieldAddr Try.underlying26 rfl rfl Try.sizeOf3 rfl rfl) rfl ?_
   refine DW_qg rfl sft rfl rfl rfl (q_load1_own Try.isAgg3 rfl rfl swt (by rfl)) rfl ?_
   refine DW_qg rfl sft rfl rfl rfl (q_lss rfl rfl) rfl ?_
   refine DW_q rfl sft (q_pick_f rfl rfl) rfl ?_
   refine mD ?_
   refine DW_part (t := 86) rfl (fun hg86 => ?_) (fun hg86 => ?_)
   · skip
     refine kD ?_
     refine kD ?_
     refine kD ?_
     refine kD ?_
     refine kD ?_
     refine kD ?_
     refine kD ?_
     refine kD ?_
     refine kD ?_
     refine kD ?_
     refine kD ?_
     refine DW_q rfl sft (q_pick_t rfl rfl) rfl ?_
     refine mD ?_
     refine kD ?_
     refine kD ?_
     refine kD ?_
     refine DW_q rfl sft (q_pick_t rfl rfl) rfl ?_
     refine DW_nil ?_
     refine EW_then ?_
     refine CW_true rfl rfl ?_
     refine nx3 ?_
     refine aO ?_
     refine nx2 ?_
     refine CW_ret ?_
     refine EW_then_ret ?_
     refine EW_block_ret ?_
     refine EW_then_ret ?_
     refine ret1 Try.results21 rfl (fun w hw => ?_)
     refine ⟨congrArg (fun b => Ending.returned (Value.bool b)) (?_ : _ = mayS g s), hw.sub .nil⟩
     clear hw
     simp_all [mayS, inlB, inR]; intros; omega
   refine DW_qg rfl sft rfl rfl rfl (q_fieldAddr Try.underlying26 rfl rfl Try.sizeOf3 rfl rfl) rfl ?_
   refine DW_qg rfl sft rfl rfl rfl (q_load1_own Try.isAgg3 rfl rfl swt (by rfl)) rfl ?_
   refine DW_qg rfl sft rfl rfl rfl (q_fieldAddr Try.underlying24 rfl rfl Try.sizeOf22 rfl rfl) rfl ?_
   refine DW_qg rfl sft rfl rfl rfl (q_load1_own Try.isAgg22 rfl rfl swt (by rfl)) rfl ?_
   refine DW_qg rfl sft rfl rfl rfl (q_fieldAddr Try.underlying26 rfl rfl Try.sizeOf3 rfl rfl) rfl ?_
   refine DW_qg rfl sft rfl rfl rfl (q_load1_own Try.isAgg3 rfl rfl swt (by rfl)) rfl ?_
   refine DW_qg rfl sft rfl rfl rfl (q_indexAddrI Try.underlying22 Try.sizeOf49 rfl rfl (by omega) (by omega)) rfl ?_
   refine DW_qg rfl sft rfl rfl rfl (q_fieldAddr Try.underlying49 rfl rfl Try.sizeOf46 rfl rfl) rfl ?_
   refine DW_qg rfl sft rfl rfl rfl (q_load1_ro Try.isAgg46 rfl (by exact hrow.at_ (j := 1) rfl)) rfl ?_
   refine DW_qg rfl sft rfl rfl rfl (q_len Try.underlying46 rfl) rfl ?_
   refine DW_qg rfl sft rfl rfl rfl (q_geq rfl rfl) rfl ?_
   refine DW_q rfl sft (q_pick_f rfl rfl) rfl ?_
   refine mD ?_
   refine DW_part (t := 99) rfl (fun hg99 => ?_) (fun hg99 => ?_)
   · skip
     refine kD ?_
     refine kD ?_
     refine kD ?_
     refine DW_q rfl sft (q_pick_t rfl rfl) rfl ?_
     refine DW_nil ?_
     refine EW_then ?_
     refine CW_true rfl rfl ?_
     refine nx3 ?_
     refine aO ?_
     refine nx2 ?_
     refine CW_ret ?_
     refine EW_then_ret ?_
     refine EW_block_ret ?_
     refine EW_then_ret ?_
     refine ret1 Try.results21 rfl (fun w hw => ?_)
     refine ⟨congrArg (fun b => Ending.returned (Value.bool b)) (?_ : _ = mayS g s), hw.sub .nil⟩
     clear hw
     simp_all [mayS, inlB, inR]; done
   refine DW_qg rfl sft rfl rfl rfl (q_fieldAddr Try.underlying26 rfl rfl Try.sizeOf3 rfl rfl) rfl ?_
   refine DW_qg rfl sft rfl rfl rfl (q_load1_own Try.isAgg3 rfl rfl swt (by rfl)) rfl ?_
   refine DW_qg rfl sft rfl rfl rfl (q_nei rfl rfl) rfl ?_
   refine DW_q rfl sft (q_pick_f rfl rfl) rfl ?_
   refine DW_nil ?_
   refine EW_then ?_
   refine CW_cond rfl (fun h103 => ?_) (fun h103 => ?_)
   · skip
     refine nx3 ?_
     refine aO ?_
     refine nx2 ?_
     refine CW_ret ?_
     refine EW_then_ret ?_
     refine EW_block_ret ?_
     refine EW_then_ret ?_
     refine ret1 Try.results21 rfl (fun w hw => ?_)
     refine ⟨congrArg (fun b => Ending.returned (Value.bool b)) (?_ : _ = mayS g s), hw.sub .nil⟩
     clear hw
     simp_all [mayS, inlB, inR]; done
   have hb0 : 0 ≤ s.b := by have := of_decide_eq_false hg86; omega
   have hb1 : s.b < (q.right.length : Int) := by have := of_decide_eq_false hg99; omega
   obtain ⟨y, hyx⟩ := get_of_lt (l := q.right) (k := s.b.toNat) (by omega)
   obtain ⟨py, rfl, hry⟩ := hys s.b.toNat y hyx
   refine CW_skip ?_
   refine EW_then ?_
   refine CW_seq ?_
   refine CW_drawS 12 [(0, false), (1, false), (2, false), (3, false), (4, false), (5, false), (6, false), (7, false), (8, false), (9, false), (10, false), (11, true), (12, true)] (by kernel_rfl) (Blind.then (Blind.block (Blind.then (Blind.body (by intro c w h; simp at h))))) (by kernel_rfl) (fun w hw => hw.drew) ?_
   refine DW_q rfl sft (q_fieldAddr Try.underlying24 rfl rfl Try.sizeOf22 rfl rfl) rfl ?_
   refine DW_q rfl sft (q_load1_own Try.isAgg22 rfl rfl swt (by rfl)) rfl ?_
   refine DW_q rfl sft (q_fieldAddr Try.underlying26 rfl rfl Try.sizeOf3 rfl rfl) rfl ?_
   refine DW_q rfl sft (q_load1_own Try.isAgg3 rfl rfl swt (by rfl)) rfl ?_
   refine DW_q rfl sft (q_indexAddrI Try.underlying22 Try.sizeOf49 rfl rfl (by omega) (by omega)) rfl ?_
   refine DW_q rfl sft (q_fieldAddr Try.underlying49 rfl rfl Try.sizeOf46 rfl rfl) rfl ?_
   refine DW_q rfl sft (q_load1_ro Try.isAgg46 rfl (by exact hrow.at_ (j := 1) rfl)) rfl ?_
   refine DW_q rfl sft (q_fieldAddr Try.underlying26 rfl rfl Try.sizeOf3 rfl rfl) rfl ?_
   refine DW_q rfl sft (q_load1_own Try.isAgg3 rfl rfl swt (by rfl)) rfl ?_
   refine DW_q rfl sft (q_indexAddrI Try.underlying46 Try.sizeOf51 rfl rfl (by omega) (by omega)) rfl ?_
   refine DW_q rfl sft (q_loadN_ro Try.isAgg51 Try.sizeOf51 rfl (by exact hry) (by rfl)) rfl ?_
   refine DW_e rfl (e_alloc Try.zeroValue51 rfl) rfl (fun _ w hw => by first | exact hw.sub sbt | exact hw.2.sub sbt) (fun b6 => ?_)
   refine DW_z0 rfl (e_storeN Try.sizeOf51 rfl rfl rfl rfl (by simp [Value.oneCell']) swt (by rfl)) (fun _ => ?_)
   refine EW_then ?_
   refine CW_seq ?_
   refine CW_drawS 16 [(0, false), (1, false), (2, false), (3, false), (4, false), (5, false), (6, false), (7, false), (8, false), (9, false), (10, false), (11, false), (12, false), (13, false), (14, false), (15, false)] (by kernel_rfl) (Blind.then (Blind.block (Blind.then (Blind.body (by intro c w h; simp at h))))) (by kernel_rfl) (fun w hw => hw.drew) ?_
   refine DW_q rfl sft (q_fieldAddr Try.underlying51 rfl rfl Try.sizeOf4 rfl rfl) rfl ?_
   refine DW_q rfl sft (q_load1_own Try.isAgg4 rfl rfl swt (by rfl)) rfl ?_
   refine DW_q rfl sft (q_not rfl) rfl ?_
   refine mD ?_
   refine DW_part (t := 118) rfl (fun hg118 => ?_) (fun hg118 => ?_)
   · skip
     refine DW_qg rfl sft rfl rfl rfl (q_fieldAddr Try.underlying51 rfl rfl Try.sizeOf3 rfl rfl) rfl ?_
     refine DW_qg rfl sft rfl rfl rfl (q_load1_own Try.isAgg3 rfl rfl swt (by rfl)) rfl ?_
     refine DW_qg rfl sft rfl rfl rfl (q_fieldAddr Try.underlying24 rfl rfl Try.sizeOf22 rfl rfl) rfl ?_
     refine DW_qg rfl sft rfl rfl rfl (q_load1_own Try.isAgg22 rfl rfl swt (by rfl)) rfl ?_
     refine DW_qg rfl sft rfl rfl rfl (q_fieldAddr Try.underlying26 rfl rfl Try.sizeOf3 rfl rfl) rfl ?_
     refine DW_qg rfl sft rfl rfl rfl (q_load1_own Try.isAgg3 rfl rfl swt (by rfl)) rfl ?_
     refine DW_qg rfl sft rfl rfl rfl (q_indexAddrI Try.underlying22 Try.sizeOf49 rfl rfl (by omega) (by omega)) rfl ?_
     refine DW_qg rfl sft rfl rfl rfl (q_fieldAddr Try.underlying49 rfl rfl Try.sizeOf3 rfl rfl) rfl ?_
     refine DW_qg rfl sft rfl rfl rfl (q_load1_ro Try.isAgg3 rfl (by exact Row.at0 hrow)) rfl ?_
     refine DW_qg rfl sft rfl rfl rfl (q_nei rfl rfl) rfl ?_
     refine DW_q rfl sft (q_pick_t rfl rfl) rfl ?_
     refine DW_q rfl sft (q_assign rfl) rfl ?_
     refine DW_nil ?_
     refine EW_then ?_
     refine CW_ret ?_
     refine EW_block_ret ?_
     refine EW_then_ret ?_
     refine ret1 Try.results21 rfl (fun w hw => ?_)
     refine ⟨congrArg (fun b => Ending.returned (Value.bool b)) (?_ : _ = mayS g s), hw.sub .nil⟩
     clear hw
     simp_all [mayS, inlB, inR]; rfl
   refine kD ?_
   refine kD ?_
   refine kD ?_
   refine kD ?_
   refine kD ?_
   refine kD ?_
   refine kD ?_
   refine kD ?_
   refine kD ?_
   refine kD ?_
   refine DW_q rfl sft (q_pick_f rfl rfl) rfl ?_
   refine DW_q rfl sft (q_assign rfl) rfl ?_
   refine DW_nil ?_
   refine EW_then ?_
   refine CW_ret ?_
   refine EW_block_ret ?_
   refine EW_then_ret ?_
   refine ret1 Try.results21 rfl (fun w hw => ?_)
   refine ⟨congrArg (fun b => Ending.returned (Value.bool b)) (?_ : _ = mayS g s), hw.sub .nil⟩
   clear hw
   simp_all [mayS, inlB, inR]; done
 refine nx3 ?_
 refine OW_q (q_eqi rfl rfl) rfl ?_
 refine aO ?_
 refine nx2 ?_
 refine CW_cond rfl (fun h130 => ?_) (fun h130 => ?_)
 · skip
   have hop : s.op = 4 := by simpa using h130
   refine nx3 ?_
   refine OW_q (q_fieldAddr Try.underlying26 rfl rfl Try.sizeOf3 rfl rfl) rfl ?_
   refine OW_q (q_load1_own Try.isAgg3 rfl rfl swt (by rfl)) rfl ?_
   refine OW_q (q_eqi rfl rfl) rfl ?_
   refine mO ?_
   refine OW_part (t := 135) rfl (fun hg135 => ?_) (fun hg135 => ?_)
   · skip
     refine wO ?_
     refine OW_q (q_fieldAddr Try.underlying26 rfl rfl Try.sizeOf3 rfl rfl) rfl ?_
     refine wO ?_
     refine OW_q (q_load1_own Try.isAgg3 rfl rfl swt (by rfl)) rfl ?_
     refine wO ?_
     refine OW_q (q_eqi rfl rfl) rfl ?_
     refine OW_q (q_pick_t rfl rfl) rfl ?_
     refine mO ?_
     refine OW_part (t := 140) rfl (fun hg140 => ?_) (fun hg140 => ?_)
     · skip
       refine wO ?_
       refine OW_q (q_loadN_own Try.isAgg24 Try.sizeOf24 rfl rfl swt (by rfl)) rfl ?_
       refine wO ?_
       refine OW_q (q_fieldAddr Try.underlying26 rfl rfl Try.sizeOf3 rfl rfl) rfl ?_
       refine wO ?_
       refine OW_q (q_load1_own Try.isAgg3 rfl rfl swt (by rfl)) rfl ?_
       refine wO ?_
       refine OW_e (e_call Try.call37 rfl (fun w hw => lift_ro (left_any _ g s.a w (hg0.mono (fun _ _ h => hw.rd (Rd.old h)))) hw)) rfl (fun x144 => ?_)
       refine OW_q (q_pick_t rfl rfl) rfl ?_
       refine aO ?_
       refine nx2 ?_
       refine CW_ret ?_
       refine EW_block_ret ?_
       refine EW_then_ret ?_
       refine ret1 Try.results21 rfl (fun w hw => ?_)
       refine ⟨congrArg (fun b => Ending.returned (Value.bool b)) (?_ : _ = mayS g s), hw.sub .nil⟩
       clear hw
       simp_all [mayS, inR]; done
     refine kO ?_
     refine kO ?_
     refine kO ?_
     refine kO ?_
     refine OW_q (q_pick_f rfl rfl) rfl ?_
     refine aO ?_
     refine nx2 ?_
     refine CW_ret ?_
     refine EW_block_ret ?_
     refine EW_then_ret ?_
     refine ret1 Try.results21 rfl (fun w hw => ?_)
     refine ⟨congrArg (fun b => Ending.returned (Value.bool b)) (?_ : _ = mayS g s), hw.sub .nil⟩
     clear hw
     simp_all [mayS, inR]; done
   refine kO ?_
   refine kO ?_
   refine kO ?_
   refine OW_q (q_pick_f rfl rfl) rfl ?_
   refine mO ?_
   refine kO ?_
   refine kO ?_
   refine kO ?_
   refine kO ?_
   refine OW_q (q_pick_f rfl rfl) rfl ?_
   refine aO ?_
   refine nx2 ?_
   refine CW_ret ?_
   refine EW_block_ret ?_
   refine EW_then_ret ?_
   refine ret1 Try.results21 rfl (fun w hw => ?_)
   refine ⟨congrArg (fun b => Ending.returned (Value.bool b)) (?_ : _ = mayS g s), hw.sub .nil⟩
   clear hw
   simp_all [mayS, inR]; done
 refine nx3 ?_
 refine OW_q (q_eqi rfl rfl) rfl ?_
 refine aO ?_
 refine nx2 ?_
 refine CW_cond rfl (fun h146 => ?_) (fun h146 => ?_)
 · skip
   have hop : s.op = 5 := by simpa using h146
   refine nx3 ?_
   refine OW_q (q_fieldAddr Try.underlying26 rfl rfl Try.sizeOf3 rfl rfl) rfl ?_
   refine OW_q (q_load1_own Try.isAgg3 rfl rfl swt (by rfl)) rfl ?_
   refine OW_q (q_eqi rfl rfl) rfl ?_
   refine mO ?_
   refine OW_part (t := 151) rfl (fun hg151 => ?_) (fun hg151 => ?_)
   · skip
     refine wO ?_
     refine OW_q (q_fieldAddr Try.underlying26 rfl rfl Try.sizeOf3 rfl rfl) rfl ?_
     refine wO ?_
     refine OW_q (q_load1_own Try.isAgg3 rfl rfl swt (by rfl)) rfl ?_
     refine wO ?_
     refine OW_q (q_eqi rfl rfl) rfl ?_
     refine OW_q (q_pick_t rfl rfl) rfl ?_
     refine mO ?_
     refine OW_part (t := 156) rfl (fun hg156 => ?_) (fun hg156 => ?_)
     · skip
       refine wO ?_
       refine OW_q (q_fieldAddr Try.underlying26 rfl rfl Try.sizeOf3 rfl rfl) rfl ?_
       refine wO ?_
       refine OW_q (q_load1_own Try.isAgg3 rfl rfl swt (by rfl)) rfl ?_
       refine wO ?_
       refine OW_q (q_eqi rfl rfl) rfl ?_
       refine OW_q (q_pick_t rfl rfl) rfl ?_
       refine aO ?_
       refine nx2 ?_
       refine CW_ret ?_
       refine EW_block_ret ?_
       refine EW_then_ret ?_
       refine ret1 Try.results21 rfl (fun w hw => ?_)
       refine ⟨congrArg (fun b => Ending.returned (Value.bool b)) (?_ : _ = mayS g s), hw.sub .nil⟩
       clear hw
       simp_all [mayS, inR]; rfl
     refine kO ?_
     refine kO ?_
     refine kO ?_
     refine OW_q (q_pick_f rfl rfl) rfl ?_
     refine aO ?_
     refine nx2 ?_
     refine CW_ret ?_
     refine EW_block_ret ?_
     refine EW_then_ret ?_
     refine ret1 Try.results21 rfl (fun w hw => ?_)
     refine ⟨congrArg (fun b => Ending.returned (Value.bool b)) (?_ : _ = mayS g s), hw.sub .nil⟩
     clear hw
     simp_all [mayS, inR]; done
   refine kO ?_
   refine kO ?_
   refine kO ?_
   refine OW_q (q_pick_f rfl rfl) rfl ?_
   refine mO ?_
   refine kO ?_
   refine kO ?_
   refine kO ?_
   refine OW_q (q_pick_f rfl rfl) rfl ?_
   refine aO ?_
   refine nx2 ?_
   refine CW_ret ?_
   refine EW_block_ret ?_
   refine EW_then_ret ?_
   refine ret1 Try.results21 rfl (fun w hw => ?_)
   refine ⟨congrArg (fun b => Ending.returned (Value.bool b)) (?_ : _ = mayS g s), hw.sub .nil⟩
   clear hw
   simp_all [mayS, inR]; done
 refine CW_skip ?_
 refine EW_block_normal ?_
 refine EW_then ?_
 refine nx3 ?_
 refine aO ?_
 refine nx2 ?_
 refine CW_ret ?_
 refine ret1 Try.results21 rfl (fun w hw => ?_)
 refine ⟨congrArg (fun b => Ending.returned (Value.bool b)) (?_ : _ = mayS g s), hw.sub .nil⟩
 clear hw
 simp_all [mayS, inR]; done

end Go.Sy
/- step.kept. No condition. -/
namespace Go.Sy
open Go Go.RowKit Go.Proofs

set_option maxRecDepth 20000 in
theorem kept_any (gv : Value) (g : Gram) (w : World) (hm : mayB g = true) (hg : GramAt (Cl w) gv g) : Calls Try.prog 36 #[gv] w (fun e w' => ∃ x : Value × List Bool × List Bool, e = .returned x.1 ∧ (MksOk g x.2.1 ∧ CmsOk g x.2.2) ∧ Sat (Old w) w [trow 3 1 encN x.1 ((keptK g x.2.1 x.2.2 g.rules.length).map (fun (z : Nat) => (z : Int)))] w') := by
 have hg0 := hg
 obtain ⟨rv, rfl, hr⟩ := hg.mono old_rd
 obtain ⟨a, c, rfl, hc1, hc2, hrs⟩ := id hr
 clear hg
 have hM := mayB_true.1 hm
 have hkn : ((g.names.toNat : Nat) : Int) = g.names := by omega
 refine calls_CW Try.func36 rfl Try.ntmps36 rfl (Sat.start w) ?_
 refine nx3 ?_
 refine OW_e (e_box rfl rfl) rfl (fun b1 => ?_)
 refine aO ?_
 refine nx4 ?_
 refine OW_q (q_loadN_own Try.isAgg24 Try.sizeOf24 rfl rfl swt (by rfl)) rfl ?_
 refine OW_e (e_call Try.call56 rfl (fun w hw => lift_oldP (makes_yes _ g w (hg0.mono (fun _ _ h => hw.rd (Rd.old h))) hm) hw)) rfl (fun x15 => ?_)
 refine OW_pure fun hx15 => ?_
 refine mO ?_
 refine OW_q (q_extract rfl rfl) rfl ?_
 refine OW_q (q_extract rfl rfl) rfl ?_
 refine aO ?_
 refine aO ?_
 refine nx4 ?_
 refine OW_q (q_loadN_own Try.isAgg24 Try.sizeOf24 rfl rfl swt (by rfl)) rfl ?_
 refine OW_e (e_call Try.call57 rfl (fun w hw => lift_oldP (comes_yes _ g w (hg0.mono (fun _ _ h => hw.rd (Rd.old h))) hm) hw)) rfl (fun x20 => ?_)
 refine OW_pure fun hx20 => ?_
 refine mO ?_
 refine OW_q (q_extract rfl rfl) rfl ?_
 refine OW_q (q_extract rfl rfl) rfl ?_
 refine aO ?_
 refine aO ?_
 refine nx4 ?_
 refine aO ?_
 refine nx2 ?_
 refine CW_seq ?_
 refine nx3 ?_
 refine OW_q (q_fieldAddr Try.underlying24 rfl rfl Try.sizeOf22 rfl rfl) rfl ?_
 refine OW_q (q_load1_own Try.isAgg22 rfl rfl swt (by rfl)) rfl ?_
 refine OW_q (q_len Try.underlying22 rfl) rfl ?_
 refine mO ?_
 refine nx2 ?_
 refine CW_block ?_
 refine CW_weak (S' := Sat (Old w) w [trow 3 1 encN (.slice none 0 0) ((keptK g x15.2 x20.2 0).map (fun (z : Nat) => (z : Int))), bools x20.1 4 x20.2, bools x15.1 4 x15.2, cel b1 24 [.int .i64 g.terms, .int .i64 g.names, .slice a g.rules.length c]]) (fun w hw => (hw.tnil 3 1 encN).sub sbt) ?_
 refine CW_loopP (ι := Nat × Value) (fun i_ => i_.1 ≤ g.rules.length) (fun i_ => [(1, .pointer (some ⟨b1, 0, none⟩)), (3, .slice (some ⟨x15.1, 0, none⟩) g.names.toNat g.names.toNat), (5, .slice (some ⟨x20.1, 0, none⟩) g.names.toNat g.names.toNat), (7, i_.2), (24, .slice a g.rules.length c), (25, .int .i64 (g.rules.length : Int)), (26, .int .i64 (i_.1 : Int))]) (fun i_ => Sat (Old w) w [trow 3 1 encN i_.2 ((keptK g x15.2 x20.2 i_.1).map (fun (z : Nat) => (z : Int))), bools x20.1 4 x20.2, bools x15.1 4 x15.2, cel b1 24 [.int .i64 g.terms, .int .i64 g.names, .slice a g.rules.length c]]) (fun i_ => g.rules.length - i_.1) (0, .slice none 0 0) ?_ ⟨rfl, rfl, rfl, rfl, rfl, rfl, rfl, trivial⟩ sft ?_
 · exact Nat.zero_le _
 intro i_ hpre
 obtain ⟨k, v7⟩ := i_
 replace hpre : k ≤ g.rules.length := hpre
 change CW _ _ _ _ [(1, .pointer (some ⟨b1, 0, none⟩)), (3, .slice (some ⟨x15.1, 0, none⟩) g.names.toNat g.names.toNat), (5, .slice (some ⟨x20.1, 0, none⟩) g.names.toNat g.names.toNat), (7, v7), (24, .slice a g.rules.length c), (25, .int .i64 (g.rules.length : Int)), (26, .int .i64 (k : Int))] (Sat (Old w) w [trow 3 1 encN v7 ((keptK g x15.2 x20.2 k).map (fun (z : Nat) => (z : Int))), bools x20.1 4 x20.2, bools x15.1 4 x15.2, cel b1 24 [.int .i64 g.terms, .int .i64 g.names, .slice a g.rules.length c]])
 have hk : k ≤ g.rules.length := hpre
 refine nx3 ?_
 refine OW_q (q_lss rfl rfl) rfl ?_
 refine nx2 ?_
 refine CW_seq ?_
 refine CW_cond rfl (fun h27 => ?_) (fun h27 => ?_)
 · skip
   have hlt : k < g.rules.length := by have := of_decide_eq_true h27; omega
   obtain ⟨q, hq⟩ := get_of_lt hlt
   obtain ⟨p, rfl, rvq, hsy, hrow⟩ := hrs k q hq
   obtain ⟨ya, yc, rfl, hy1, hy2, hys⟩ := id hsy
   have hqr := may_rule hm hq
   have hm1 := atB_get (is := x15.2) hqr.1 (by have := hx15.1; omega)
   have hc1 := atB_get (is := x20.2) hqr.1 (by have := hx20.1; omega)
   have hkl := keptK_len g x15.2 x20.2 k
   refine CW_skip ?_
   refine EW_then ?_
   refine CW_seq ?_
   refine CW_block ?_
   refine nx3 ?_
   refine mO ?_
   refine OW_q (q_indexAddr Try.underlying22 Try.sizeOf49 rfl rfl (by omega)) rfl ?_
   refine OW_q (q_loadN_ro Try.isAgg49 Try.sizeOf49 rfl (by exact hrow) (by rfl)) rfl ?_
   refine OW_e (e_alloc Try.zeroValue49 rfl) rfl (fun b9 => ?_)
   refine aO ?_
   refine OW_e0 (e_storeN Try.sizeOf49 rfl rfl rfl rfl (by simp [Value.oneCell']) swt (by rfl)) (fun _ => ?_)
   refine nx2 ?_
   refine CW_seqJ (ι := Bool) (fun nd => nd = (atB x15.2 q.left && atB x20.2 q.left)) (fun nd => [(1, .pointer (some ⟨b1, 0, none⟩)), (3, .slice (some ⟨x15.1, 0, none⟩) g.names.toNat g.names.toNat), (5, .slice (some ⟨x20.1, 0, none⟩) g.names.toNat g.names.toNat), (7, v7), (8, .int .i64 (k : Int)), (9, .pointer (some ⟨b9, 0, none⟩)), (10, .bool nd), (24, .slice (some p) g.rules.length c), (25, .int .i64 (g.rules.length : Int)), (26, .int .i64 (k : Int))]) (fun nd => Sat (Old w) w [cel b9 49 [.int .i64 q.left, .slice ya q.right.length yc], trow 3 1 encN v7 ((keptK g x15.2 x20.2 k).map (fun (z : Nat) => (z : Int))), bools x20.1 4 x20.2, bools x15.1 4 x15.2, cel b1 24 [.int .i64 g.terms, .int .i64 g.names, .slice (some p) g.rules.length c]]) ?_ ?_
   · skip
     refine CW_region ?_
     refine mO ?_
     refine OW_q (q_fieldAddr Try.underlying49 rfl rfl Try.sizeOf3 rfl rfl) rfl ?_
     refine OW_q (q_load1_own Try.isAgg3 rfl rfl swt (by rfl)) rfl ?_
     refine OW_q (q_indexAddrI Try.underlying54 Try.sizeOf4 rfl rfl (by omega) (by omega)) rfl ?_
     refine OW_q (q_load_bools Try.isAgg4 rfl swt (by exact hm1)) rfl ?_
     refine mO ?_
     refine OW_part (t := 36) rfl (fun hg36 => ?_) (fun hg36 => ?_)
     · skip
       refine wO ?_
       refine mO ?_
       refine wO ?_
       refine OW_q (q_fieldAddr Try.underlying49 rfl rfl Try.sizeOf3 rfl rfl) rfl ?_
       refine wO ?_
       refine OW_q (q_load1_own Try.isAgg3 rfl rfl swt (by rfl)) rfl ?_
       refine wO ?_
       refine OW_q (q_indexAddrI Try.underlying54 Try.sizeOf4 rfl rfl (by omega) (by omega)) rfl ?_
       refine wO ?_
       refine OW_q (q_load_bools Try.isAgg4 rfl swt (by exact hc1)) rfl ?_
       refine OW_q (q_pick_t rfl rfl) rfl ?_
       refine aO ?_
       refine OW_nil ?_
       refine EW_again (atB x20.2 q.left) ?_ ⟨rfl, rfl, rfl, rfl, rfl, rfl, rfl, rfl, rfl, rfl, trivial⟩ sft
       · show _ = _; rw [hg36]; rfl
     refine kO ?_
     refine kO ?_
     refine kO ?_
     refine kO ?_
     refine kO ?_
     refine OW_q (q_pick_f rfl rfl) rfl ?_
     refine aO ?_
     refine OW_nil ?_
     refine EW_again (false) ?_ ⟨rfl, rfl, rfl, rfl, rfl, rfl, rfl, rfl, rfl, rfl, trivial⟩ sft
     · show _ = _; rw [hg36]; rfl
   intro nd hpre
   change CW _ _ _ _ [(1, .pointer (some ⟨b1, 0, none⟩)), (3, .slice (some ⟨x15.1, 0, none⟩) g.names.toNat g.names.toNat), (5, .slice (some ⟨x20.1, 0, none⟩) g.names.toNat g.names.toNat), (7, v7), (8, .int .i64 (k : Int)), (9, .pointer (some ⟨b9, 0, none⟩)), (10, .bool nd), (24, .slice (some p) g.rules.length c), (25, .int .i64 (g.rules.length : Int)), (26, .int .i64 (k : Int))] (Sat (Old w) w [cel b9 49 [.int .i64 q.left, .slice ya q.right.length yc], trow 3 1 encN v7 ((keptK g x15.2 x20.2 k).map (fun (z : Nat) => (z : Int))), bools x20.1 4 x20.2, bools x15.1 4 x15.2, cel b1 24 [.int .i64 g.terms, .int .i64 g.names, .slice (some p) g.rules.length c]])
   have hnd : nd = (atB x15.2 q.left && atB x20.2 q.left) := hpre
   refine CW_seq ?_
   refine nx3 ?_
   refine OW_q (q_fieldAddr Try.underlying49 rfl rfl Try.sizeOf46 rfl rfl) rfl ?_
   refine OW_q (q_load1_own Try.isAgg46 rfl rfl swt (by rfl)) rfl ?_
   refine OW_q (q_len Try.underlying46 rfl) rfl ?_
   refine mO ?_
   refine nx2 ?_
   refine CW_block ?_
   refine CW_loopP (ι := Nat × Bool) (fun i_ => i_.1 ≤ q.right.length ∧ i_.2 = (nd && allB x15.2 (q.right.take i_.1))) (fun i_ => [(1, .pointer (some ⟨b1, 0, none⟩)), (3, .slice (some ⟨x15.1, 0, none⟩) g.names.toNat g.names.toNat), (5, .slice (some ⟨x20.1, 0, none⟩) g.names.toNat g.names.toNat), (7, v7), (8, .int .i64 (k : Int)), (9, .pointer (some ⟨b9, 0, none⟩)), (10, .bool i_.2), (24, .slice (some p) g.rules.length c), (25, .int .i64 (g.rules.length : Int)), (26, .int .i64 (k : Int)), (44, .slice ya q.right.length yc), (45, .int .i64 (q.right.length : Int)), (46, .int .i64 (i_.1 : Int))]) (fun i_ => Sat (Old w) w [cel b9 49 [.int .i64 q.left, .slice ya q.right.length yc], trow 3 1 encN v7 ((keptK g x15.2 x20.2 k).map (fun (z : Nat) => (z : Int))), bools x20.1 4 x20.2, bools x15.1 4 x15.2, cel b1 24 [.int .i64 g.terms, .int .i64 g.names, .slice (some p) g.rules.length c]]) (fun i_ => q.right.length - i_.1) (0, nd) ?_ ⟨rfl, rfl, rfl, rfl, rfl, rfl, rfl, rfl, rfl, rfl, rfl, rfl, rfl, trivial⟩ sft ?_
   · exact ⟨Nat.zero_le _, by simp [allB]⟩
   intro i_ hpre
   obtain ⟨j, nd2⟩ := i_
   replace hpre : j ≤ q.right.length ∧ nd2 = (nd && allB x15.2 (q.right.take j)) := hpre
   change CW _ _ _ _ [(1, .pointer (some ⟨b1, 0, none⟩)), (3, .slice (some ⟨x15.1, 0, none⟩) g.names.toNat g.names.toNat), (5, .slice (some ⟨x20.1, 0, none⟩) g.names.toNat g.names.toNat), (7, v7), (8, .int .i64 (k : Int)), (9, .pointer (some ⟨b9, 0, none⟩)), (10, .bool nd2), (24, .slice (some p) g.rules.length c), (25, .int .i64 (g.rules.length : Int)), (26, .int .i64 (k : Int)), (44, .slice ya q.right.length yc), (45, .int .i64 (q.right.length : Int)), (46, .int .i64 (j : Int))] (Sat (Old w) w [cel b9 49 [.int .i64 q.left, .slice ya q.right.length yc], trow 3 1 encN v7 ((keptK g x15.2 x20.2 k).map (fun (z : Nat) => (z : Int))), bools x20.1 4 x20.2, bools x15.1 4 x15.2, cel b1 24 [.int .i64 g.terms, .int .i64 g.names, .slice (some p) g.rules.length c]])
   obtain ⟨hj, hnd2⟩ := hpre
   refine nx3 ?_
   refine OW_q (q_lss rfl rfl) rfl ?_
   refine nx2 ?_
   refine CW_seq ?_
   refine CW_cond rfl (fun h47 => ?_) (fun h47 => ?_)
   · skip
     have hlj : j < q.right.length := by have := of_decide_eq_true h47; omega
     obtain ⟨s, hsj⟩ := get_of_lt hlj
     obtain ⟨py, rfl, hsym⟩ := hys j s hsj
     have hss := may_sym hm hq hsj
     refine CW_skip ?_
     refine EW_then ?_
     refine CW_seq ?_
     refine CW_block ?_
     refine nx3 ?_
     refine OW_q (q_indexAddr Try.underlying46 Try.sizeOf51 rfl rfl (by omega)) rfl ?_
     refine OW_q (q_loadN_ro Try.isAgg51 Try.sizeOf51 rfl (by exact hsym) (by rfl)) rfl ?_
     refine OW_e (e_alloc Try.zeroValue51 rfl) rfl (fun b12 => ?_)
     refine OW_e0 (e_storeN Try.sizeOf51 rfl rfl rfl rfl (by simp [Value.oneCell']) swt (by rfl)) (fun _ => ?_)
     refine nx2 ?_
     refine CW_region ?_
     refine mO ?_
     refine mO ?_
     refine OW_part (t := 51) rfl (fun hg51 => ?_) (fun hg51 => ?_)
     · skip
       refine wO ?_
       refine OW_q (q_fieldAddr Try.underlying51 rfl rfl Try.sizeOf4 rfl rfl) rfl ?_
       refine wO ?_
       refine OW_q (q_load1_own Try.isAgg4 rfl rfl swt (by rfl)) rfl ?_
       refine wO ?_
       refine mO ?_
       refine OW_part (t := 54) rfl (fun hg54 => ?_) (fun hg54 => ?_)
       · skip
         refine kO ?_
         refine kO ?_
         refine kO ?_
         refine kO ?_
         refine kO ?_
         refine wO ?_
         refine OW_q (q_pick_t rfl rfl) rfl ?_
         refine OW_q (q_pick_t rfl rfl) rfl ?_
         refine aO ?_
         refine OW_nil ?_
         refine EW_block_normal ?_
         refine EW_then ?_
         refine CW_region ?_
         refine OW_q (q_add rfl rfl (by omega) (by omega)) rfl ?_
         refine mO ?_
         refine OW_nil ?_
         refine EW_again ((j + 1, true)) ⟨?_, ?_⟩ ⟨rfl, rfl, rfl, rfl, rfl, rfl, rfl, rfl, rfl, rfl, rfl, rfl, rfl, trivial⟩ sft
         · show q.right.length - (j + 1) < q.right.length - j; omega
         · refine ⟨by show j + 1 ≤ _; omega, ?_⟩
           show (true : Bool) = _
           unfold allB at hnd2 ⊢
           rw [all_take_succ _ hsj]
           rw [hg51] at hnd2; rw [← Bool.and_assoc, ← hnd2, hg54]; rfl
       have hs2 := hss.2.2 (by simpa using hg54)
       have hs1 := atB_get (is := x15.2) hss.1 (by have := hx15.1; omega)
       refine wO ?_
       refine mO ?_
       refine wO ?_
       refine OW_q (q_fieldAddr Try.underlying51 rfl rfl Try.sizeOf3 rfl rfl) rfl ?_
       refine wO ?_
       refine OW_q (q_load1_own Try.isAgg3 rfl rfl swt (by rfl)) rfl ?_
       refine wO ?_
       refine OW_q (q_indexAddrI Try.underlying54 Try.sizeOf4 rfl rfl (by omega) (by omega)) rfl ?_
       refine wO ?_
       refine OW_q (q_load_bools Try.isAgg4 rfl swt (by exact hs1)) rfl ?_
       refine wO ?_
       refine OW_q (q_pick_f rfl rfl) rfl ?_
       refine OW_q (q_pick_t rfl rfl) rfl ?_
       refine aO ?_
       refine OW_nil ?_
       refine EW_block_normal ?_
       refine EW_then ?_
       refine CW_region ?_
       refine OW_q (q_add rfl rfl (by omega) (by omega)) rfl ?_
       refine mO ?_
       refine OW_nil ?_
       refine EW_again ((j + 1, atB x15.2 s.n)) ⟨?_, ?_⟩ ⟨rfl, rfl, rfl, rfl, rfl, rfl, rfl, rfl, rfl, rfl, rfl, rfl, rfl, trivial⟩ sft
       · show q.right.length - (j + 1) < q.right.length - j; omega
       · refine ⟨by show j + 1 ≤ _; omega, ?_⟩
         show (atB x15.2 s.n : Bool) = _
         unfold allB at hnd2 ⊢
         rw [all_take_succ _ hsj]
         rw [hg51] at hnd2; rw [← Bool.and_assoc, ← hnd2, hg54]; simp
     refine kO ?_
     refine kO ?_
     refine kO ?_
     refine OW_skipU rfl rfl rfl ?_
     refine OW_skipU rfl rfl rfl ?_
     refine OW_skipU rfl rfl rfl ?_
     refine OW_skipU rfl rfl rfl ?_
     refine OW_skipU rfl rfl rfl ?_
     refine kO ?_
     refine OW_q (q_pick_f rfl rfl) rfl ?_
     refine aO ?_
     refine OW_nil ?_
     refine EW_block_normal ?_
     refine EW_then ?_
     refine CW_region ?_
     refine OW_q (q_add rfl rfl (by omega) (by omega)) rfl ?_
     refine mO ?_
     refine OW_nil ?_
     refine EW_again ((j + 1, false)) ⟨?_, ?_⟩ ⟨rfl, rfl, rfl, rfl, rfl, rfl, rfl, rfl, rfl, rfl, rfl, rfl, rfl, trivial⟩ sft
     · show q.right.length - (j + 1) < q.right.length - j; omega
     · refine ⟨by show j + 1 ≤ _; omega, ?_⟩
       show (false : Bool) = _
       unfold allB at hnd2 ⊢
       rw [all_take_succ _ hsj]
       rw [hg51] at hnd2; rw [← Bool.and_assoc, ← hnd2]; simp
   have hje : j = q.right.length := by have := of_decide_eq_false h47; omega
   have hkb : keptB x15.2 x20.2 q = nd2 := by rw [hnd2, hje, List.take_length, hnd]; rfl
   refine CW_exit ?_
   refine EW_then_exit ?_
   refine EW_out ?_
   refine EW_block_exit ?_
   refine EW_then ?_
   refine nx3 ?_
   refine mO ?_
   refine nx2 ?_
   refine CW_cond rfl (fun h63 => ?_) (fun h63 => ?_)
   · skip
     refine CW_region ?_
     refine mO ?_
     refine mO ?_
     refine OW_e (e_single Try.underlying32 Try.sizeOf3 Try.zeroValue3 (e := 3) (v := .int .i64 (k : Int)) (cs := [.int .i64 (k : Int)]) rfl rfl rfl rfl (by decide) (by decide)) rfl (fun b66 => ?_)
     refine OW_e (e_append_t (x0 := (k : Int)) (enc := encN) Try.underlying32 Try.typeInfo3 rfl rfl rfl rfl rfl rfl rfl pkt rfl (by exact fun w hw => hw.news swt) (by simp [Value.oneCell']) (by rw [List.length_map]; omega) (by decide)) rfl (fun v67 => ?_)
     refine aO ?_
     refine OW_nil ?_
     refine EW_block_normal ?_
     refine EW_then ?_
     refine CW_region ?_
     refine OW_q (q_add rfl rfl (by omega) (by omega)) rfl ?_
     refine mO ?_
     refine OW_nil ?_
     refine EW_weak (fun w hw => by rw [← List.map_singleton (f := (fun (z : Nat) => (z : Int))), ← List.map_append, ← keptK_yes hq (hkb.trans h63)] at hw; exact hw) ?_
     refine EW_again ((k + 1, v67)) ⟨?_, ?_⟩ ⟨rfl, rfl, rfl, rfl, rfl, rfl, rfl, trivial⟩ sft
     · show g.rules.length - (k + 1) < g.rules.length - k; omega
     · show k + 1 ≤ _; omega
   refine CW_skip ?_
   refine EW_block_normal ?_
   refine EW_then ?_
   refine CW_region ?_
   refine OW_q (q_add rfl rfl (by omega) (by omega)) rfl ?_
   refine mO ?_
   refine OW_nil ?_
   refine EW_weak (fun w hw => by rw [← keptK_no hq (hkb.trans h63)] at hw; exact hw) ?_
   refine EW_again ((k + 1, v7)) ⟨?_, ?_⟩ ⟨rfl, rfl, rfl, rfl, rfl, rfl, rfl, trivial⟩ sft
   · show g.rules.length - (k + 1) < g.rules.length - k; omega
   · show k + 1 ≤ _; omega
 have hke : k = g.rules.length := by have := of_decide_eq_false h27; omega
 subst hke
 refine CW_exit ?_
 refine EW_then_exit ?_
 refine EW_out ?_
 refine EW_block_exit ?_
 refine EW_then ?_
 refine nx3 ?_
 refine mO ?_
 refine aO ?_
 refine nx2 ?_
 refine CW_ret ?_
 refine ret1 Try.results36 rfl (fun w hw => ?_)
 exact ⟨(v7, x15.2, x20.2), rfl, ⟨hx15, hx20⟩, hw.sub sbt⟩

end Go.Sy
/- step.change: what it stands on. No condition. -/
namespace Go.Sy
open Go Go.RowKit Go.Proofs

section
variable {P : Program} {R : Nat → Prop} {w0 w : World} {L L' L1 L2 : List HP} {A VA : HP} {K' : HP → List HP} {sa : Option Addr} {vs : List Value}
theorem VIn.star {F : HP} (h : VIn R w0 VA sa vs) : VIn R w0 (stars [VA, F]) sa vs := fun h1 hh w hR hw j u hj => by
 obtain ⟨ha, hb, hd, rfl, hA, _⟩ := hh
 obtain ⟨a, e, h2, h3⟩ := h ha hA w hR (fun b o hb => hw b o (by simp [uni, hb])) j u hj
 refine ⟨a, e, h2.imp_right fun h4 => ?_, h3⟩
 cases h5 : ha a.block with
 | none => rw [h5] at h4; cases h4
 | some o => simp [uni, h5]
theorem VIn.cel {b off : Nat} {e : TypeId} {cs : List Value} : VIn R w0 (cel b e cs) (some ⟨b, off, none⟩) (cs.drop off) :=
 VIn.own (b := b) (cs := cs) (e := e) (fun h hh => by rw [show h = one b _ from hh]; exact one_same _ _) (fun j u hj => by rw [List.getElem?_drop] at hj; exact hj)
theorem VIn.trow {α : Type} {e : TypeId} {size n c : Nat} {enc : α → List Value} {l : List α} {a : Option Addr} : VIn R w0 (trow e size enc (.slice a n c) l) a (l.flatMap enc) := fun h1 hh w _ hw j u hj => by
 obtain ⟨hl, _, ⟨h0, h2, rfl⟩ | ⟨g, cap, rest, h0, h2, h3, h4, rfl⟩⟩ := hh
 · exfalso
   rw [h2, Nat.zero_mul] at hl
   have := (List.getElem?_eq_some_iff.1 hj).1
   omega
 · injection h0 with e1 _ _
   subst e1
   refine ⟨_, rfl, .inr (by rw [show (⟨g, 0, none⟩ : Addr).block = g from rfl, one_same]; rfl), ?_⟩
   have hb := hw g _ (one_same _ _)
   have hlt := (List.getElem?_eq_some_iff.1 hj).1
   rw [Addr.add_lit, Nat.zero_add]
   simp [World.cell?, hb, List.getElem?_append_left hlt, hj]
theorem lift_two {f : FuncId} {us : Array Value} {ι : Type} {V : ι → Value} {A' : ι → HP} (o : Hole L1 A K') (hS : Sat R w0 (VA :: L1) w)
   (h : ∀ F, Sat R w0 ([A] ++ [stars [VA, F]]) w → Calls P f us w (fun e w' => ∃ x, e = .returned (V x) ∧ Sat R w0 ([A' x] ++ [stars [VA, F]]) w')) :
   Calls P f us w (fun e w' => ∃ x, e = .returned (V x) ∧ Sat R w0 (VA :: K' (A' x)) w') := by
 obtain ⟨x, ⟨hv, hl, hd, rfl, hV, hL⟩, hy⟩ := hS.own
 obtain ⟨h1, h2, hd2, rfl, hA, hk⟩ := o.focus hl hL
 have d1 : Dis hv h1 := hd.symm.left.symm
 have d2 : Dis hv h2 := hd.symm.right.symm
 have e0 : uni hv (uni h1 h2) = uni h1 (uni hv h2) := by rw [← uni_assoc, uni_comm d1, uni_assoc]
 have hS' : Sat R w0 ([A] ++ [stars [VA, fun h => h = h2]]) w := ⟨hS.os, hS.tape, hS.output, hS.size, hS.ro, uni h1 (uni hv h2), ⟨h1, uni hv h2, (Dis.join d1 hd2.symm).symm, rfl, hA, uni hv h2, emp0, dis_emp _, (uni_emp _).symm, ⟨hv, h2, d2, rfl, hV, h2, emp0, dis_emp h2, (uni_emp h2).symm, rfl, rfl⟩, rfl⟩, fun b o hb => hy b o (by rw [e0]; exact hb)⟩
 refine (h _ hS').mono fun e w' ⟨x, he, hw⟩ => ⟨x, he, hw.imp_ fun y hy2 => ?_⟩
 obtain ⟨h3, h4, hd3, rfl, hA3, h5, h6, hd5, rfl, ⟨h7, h8, hd7, rfl, hV7, h9, h10, hd9, rfl, h9e, h10e⟩, h6e⟩ := hy2
 have e6 : h6 = emp0 := h6e
 subst e6
 have e10 : h10 = emp0 := h10e
 subst e10
 have e9 : h9 = h2 := h9e
 subst e9
 rw [uni_emp, uni_emp]
 rw [uni_emp, uni_emp] at hd3
 rw [uni_emp] at hd7
 have d3 : Dis h3 h7 := hd3.symm.left.symm
 have d4 : Dis h3 h9 := hd3.symm.right.symm
 refine ⟨h7, uni h3 h9, (Dis.join d3 hd7.symm).symm, ?_, hV7, hk _ h3 d4 hA3⟩
 rw [← uni_assoc, uni_comm d3, uni_assoc]
theorem Sat.drop_hole {X : HP} (o : Hole L A K') (h : Sat R w0 (X :: L) w) : Sat R w0 (K' X) w := by
 obtain ⟨x, ⟨hv, hl, hd, rfl, hV, hL⟩, hy⟩ := h.own
 obtain ⟨h1, h2, hd2, rfl, hA, hk⟩ := o.focus hl hL
 refine ⟨h.os, h.tape, h.output, h.size, h.ro, uni hv h2, hk X hv hd.symm.right.symm hV, fun b o hb => hy b o ?_⟩
 cases h7 : hv b with
 | some o' => simp [uni, h7] at hb ⊢; exact hb
 | none =>
   simp [uni, h7] at hb ⊢
   rcases hd2 b with e | e
   · simp [e, hb]
   · rw [hb] at e; cases e
theorem Sat.symsPut {rs : List RV} {k : Nat} {x y : RV} (hk : rs[k]? = some x) (h : Sat R w0 (symA y :: symsA rs :: L) w) : Sat R w0 (symsA (rs.set k y) :: L) w := by
 have := h.drop_hole (Hole.sym (L := L) hk)
 rw [symsA_set] at this
 exact this
theorem stars_sub {l m : List HP} (hs : l.Sublist m) : ∀ h, stars m h → ∃ h1 h2, Dis h1 h2 ∧ h = uni h1 h2 ∧ stars l h1 := by
 induction hs with
 | slnil => intro h hh; exact ⟨h, emp0, dis_emp h, (uni_emp h).symm, hh⟩
 | @cons l m a _ ih =>
   rintro h ⟨h1, h2, hd, rfl, _, hM⟩
   obtain ⟨h3, h4, hd2, rfl, h5⟩ := ih h2 hM
   have d1 : Dis h3 h1 := hd.symm.left
   refine ⟨h3, uni h1 h4, (Dis.join d1.symm hd2.symm).symm, ?_, h5⟩
   rw [← uni_assoc, uni_comm d1.symm, uni_assoc]
 | @cons_cons l m a _ ih =>
   rintro h ⟨h1, h2, hd, rfl, hA, hM⟩
   obtain ⟨h3, h4, hd2, rfl, h5⟩ := ih h2 hM
   have d1 : Dis h1 h3 := hd.symm.left.symm
   have d2 : Dis h1 h4 := hd.symm.right.symm
   exact ⟨uni h1 h3, h4, Dis.join d2 hd2, (uni_assoc _ _ _).symm, h1, h3, d1, rfl, hA, h5⟩
theorem Sat.symsSub {l rs : List RV} (hs : l.Sublist rs) (h : Sat R w0 (symsA rs :: L) w) : Sat R w0 (symsA l :: L) w := by
 obtain ⟨x, ⟨h1, h2, hd, rfl, hA, hL⟩, hy⟩ := h.own
 obtain ⟨h3, h4, hd2, rfl, h5⟩ := stars_sub (hs.map symA) h1 hA
 have d1 : Dis h3 h2 := hd.left
 refine ⟨h.os, h.tape, h.output, h.size, h.ro, uni h3 h2, ⟨h3, h2, d1, rfl, h5, hL⟩, fun b o hb => hy b o ?_⟩
 cases h7 : h3 b with
 | some o' => simp [uni, h7] at hb ⊢; exact hb
 | none =>
   simp [uni, h7] at hb ⊢
   rcases hd b with e | e
   · simp [uni, h7] at e; simp [e, hb]
   · rw [hb] at e; cases e
theorem Sat.symsJoin {l m : List RV} (h : Sat R w0 (symsA l :: symsA m :: L) w) : Sat R w0 (symsA (l ++ m) :: L) w := h.imp_ fun y hy => by
 obtain ⟨h1, h2, hd, rfl, hA, h3, h4, hd2, rfl, hB, hL⟩ := hy
 refine ⟨uni h1 h3, h4, Dis.join hd.symm.right.symm hd2, (uni_assoc _ _ _).symm, ?_, hL⟩
 unfold symsA
 rw [List.map_append]
 exact (stars_append _ _ _).2 ⟨h1, h3, hd.symm.left.symm, rfl, hA, hB⟩
theorem Sat.symsCut {l m : List RV} (h : Sat R w0 (symsA (l ++ m) :: L) w) : Sat R w0 (symsA l :: symsA m :: L) w := h.imp_ fun y hy => by
 obtain ⟨h1, h2, hd, rfl, hA, hL⟩ := hy
 unfold symsA at hA
 rw [List.map_append] at hA
 obtain ⟨h3, h4, hd2, rfl, h5, h6⟩ := (stars_append _ _ _).1 hA
 exact ⟨h3, uni h4 h2, (Dis.join hd2.symm hd.left.symm).symm, uni_assoc _ _ _, h5, h4, h2, hd.right, rfl, h6, hL⟩
theorem Sat.symsOne {rs : List RV} (h : Sat R w0 L w) (s : Swap L (symsA rs) (symsA rs) L') : ∀ x ∈ rs, x.v.oneCell' = true := fun x hx => by
 obtain ⟨k, hk⟩ := List.getElem?_of_mem hx
 obtain ⟨a, c, e, _⟩ := (h.alone s).tform (v := x.v) (l := x.r.right) (enc := encY) ((Hole.sym (L := []) hk).swap _)
 rw [e]; rfl
end
theorem flat_take {α : Type} {enc : α → List Value} {size : Nat} (he : ∀ x, (enc x).length = size) : ∀ (l : List α) (i : Nat), (l.flatMap enc).take (i * size) = (l.take i).flatMap enc
 | [], i => by simp
 | x :: l, 0 => by simp
 | x :: l, i + 1 => by
   rw [List.flatMap_cons, List.take_succ_cons, List.flatMap_cons, Nat.succ_mul, List.take_append, he, Nat.add_sub_cancel, flat_take he l i, List.take_of_length_le (by rw [he]; omega)]
theorem flat_drop {α : Type} {enc : α → List Value} {size : Nat} (he : ∀ x, (enc x).length = size) : ∀ (l : List α) (i : Nat), (l.flatMap enc).drop (i * size) = (l.drop i).flatMap enc
 | [], i => by simp
 | x :: l, 0 => by simp
 | x :: l, i + 1 => by
   rw [List.flatMap_cons, List.drop_succ_cons, Nat.succ_mul, List.drop_append, he, Nat.add_sub_cancel, flat_drop he l i, List.drop_eq_nil_of_le (by rw [he]; omega), List.nil_append]
theorem rep_row {α : Type} {enc : α → List Value} {size : Nat} (he : ∀ x, (enc x).length = size) {e : TypeId} {v : Value} {l ys : List α} {i j : Nat} (hij : i < j) (hj : j ≤ l.length) : row e size v (l.length - (j - i) + ys.length) ((l.flatMap enc).take (i * size) ++ ys.flatMap enc ++ (l.flatMap enc).drop (j * size)) = trow e size enc v (l.take i ++ ys ++ l.drop j) := by
 unfold trow
 rw [flat_take he, flat_drop he, List.flatMap_append, List.flatMap_append]
 congr 1
 simp only [List.length_append, List.length_take, List.length_drop]
 omega
theorem replY_any (v : Value) (l ys : List Sym) (i j vc : Nat) (sa : Option Addr) (R : Nat → Prop) (w0 w : World) (F : HP) (hij : i < j) (hj : j ≤ l.length) (hlm : l.length + ys.length ≤ 1000) (hvi : VIn R w0 F sa (ys.flatMap encY)) (hw : Sat R w0 ([trow 51 2 encY v l] ++ [F]) w) : Calls Try.prog 34 #[v, .int .i64 (i : Int), .int .i64 (j : Int), .slice sa ys.length vc] w (fun e w' => ∃ v' : Value, e = .returned v' ∧ Sat R w0 ([trow 51 2 encY v' (l.take i ++ ys ++ l.drop j)] ++ [F]) w') := by
 refine (replS_any v (l.flatMap encY) (ys.flatMap encY) l.length i j ys.length vc sa R w0 w F hij hj hlm (flat_length (enc := encY) (size := 2) (fun _ => rfl) ys) hvi (encY_one ys) (encY_one l) hw).mono ?_
 rintro e w' ⟨v', h1, h2⟩
 rw [rep_row (enc := encY) (fun _ => rfl) hij hj] at h2
 exact ⟨v', h1, h2⟩
theorem encRV_1 {x : RV} (h : x.v.oneCell' = true) : ∀ u ∈ encRV x, u.oneCell' = true := fun u hu => by
 simp only [List.mem_cons, List.not_mem_nil, or_false] at hu
 rcases hu with rfl | rfl
 · rfl
 · exact h
theorem encRV_one {l : List RV} (h : ∀ x ∈ l, x.v.oneCell' = true) : ∀ u ∈ l.flatMap encRV, u.oneCell' = true := fun u hu => by
 obtain ⟨x, hx, hs⟩ := List.mem_flatMap.1 hu
 simp only [List.mem_cons, List.not_mem_nil, or_false] at hs
 rcases hs with rfl | rfl
 · rfl
 · exact h x hx
theorem replRV_any (v : Value) (l ys : List RV) (i j vc : Nat) (sa : Option Addr) (R : Nat → Prop) (w0 w : World) (F : HP) (hij : i < j) (hj : j ≤ l.length) (hlm : l.length + ys.length ≤ 1000) (h1 : ∀ x ∈ l, x.v.oneCell' = true) (h2 : ∀ x ∈ ys, x.v.oneCell' = true) (hvi : VIn R w0 F sa (ys.flatMap encRV)) (hw : Sat R w0 ([rulesA v l] ++ [F]) w) : Calls Try.prog 35 #[v, .int .i64 (i : Int), .int .i64 (j : Int), .slice sa ys.length vc] w (fun e w' => ∃ v' : Value, e = .returned v' ∧ Sat R w0 ([rulesA v' (l.take i ++ ys ++ l.drop j)] ++ [F]) w') := by
 refine (replR_any v (l.flatMap encRV) (ys.flatMap encRV) l.length i j ys.length vc sa R w0 w F hij hj hlm (flat_length (enc := encRV) (size := 2) (fun _ => rfl) ys) hvi (encRV_one h2) (encRV_one h1) hw).mono ?_
 rintro e w' ⟨v', h1, h2⟩
 rw [rep_row (enc := encRV) (fun _ => rfl) hij hj] at h2
 exact ⟨v', h1, h2⟩
end Go.Sy
