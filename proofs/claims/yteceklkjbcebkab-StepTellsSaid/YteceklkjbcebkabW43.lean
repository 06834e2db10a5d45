/- step.clone, swap, kept. No condition. -/
import Derived.Test.YteceklkjbcebkabW42
import Derived.Test.YteceklkjbcebkabW8
namespace Go.Sy
open Go Go.RowKit Go.Proofs

theorem encY_one (l : List Sym) : ∀ u ∈ l.flatMap encY, u.oneCell' = true := fun u hu => by
  obtain ⟨s, _, hs⟩ := List.mem_flatMap.1 hu
  simp only [List.mem_cons, List.not_mem_nil, or_false] at hs
  rcases hs with rfl | rfl <;> rfl
theorem cloneY_any (v : Value) (l : List Sym) (w : World) (hl : l.length ≤ 1000) (hs : SymsAt (Cl w) v l) : Calls Try.prog 33 #[v] w (fun e w' => ∃ v' : Value, e = .returned v' ∧ Sat (Old w) w [trow 51 2 encY v' l] w') := by
  have hs' := hs.mono old_rd
  obtain ⟨a, c, rfl, _, _, _⟩ := id hs'
  refine (cloneS_any a (l.flatMap encY) l.length c (Old w) w w emp0H hl (flat_length (enc := encY) (size := 2) (fun _ => rfl) l) (VIn.syms hs') (encY_one l) ((Sat.start w).addEmp rfl)).mono ?_
  rintro e w' ⟨v', h1, h2⟩
  exact ⟨v', h1, h2.sub (SubL.cons .head .nil)⟩
theorem flatMap_congr_enc {α : Type} {enc : α → List Value} {l l' : List α} (h : l.map enc = l'.map enc) : l.flatMap enc = l'.flatMap enc := by
  rw [List.flatMap_def, List.flatMap_def, h]
theorem rulesA_right {v : Value} {rs : List RV} {k : Nat} {n : Int} {ys ys' : List Sym} {u : Value} : rulesA v (rs.set k ⟨⟨n, ys⟩, u⟩) = rulesA v (rs.set k ⟨⟨n, ys'⟩, u⟩) := by
  unfold rulesA trow
  rw [List.length_set, List.length_set, flatMap_congr_enc (enc := encRV) (l := rs.set k ⟨⟨n, ys⟩, u⟩) (l' := rs.set k ⟨⟨n, ys'⟩, u⟩) (by rw [List.map_set, List.map_set])]
def swRV (a b : Int) (x : RV) : RV := ⟨swapR a b x.r, x.v⟩
def keptK (g : Gram) (ms cs : List Bool) (k : Nat) : List Nat := (List.range k).filter (fun k => decide (g.rules[k]?.map (keptB ms cs) = some true))
theorem keptK_yes {g : Gram} {ms cs : List Bool} {k : Nat} {r : Rule} (h : g.rules[k]? = some r) (hn : keptB ms cs r = true) : keptK g ms cs (k + 1) = keptK g ms cs k ++ [k] := by
  unfold keptK
  rw [List.range_succ, List.filter_append, List.filter_cons_of_pos (by rw [h]; simp [hn])]
  rfl
theorem keptK_no {g : Gram} {ms cs : List Bool} {k : Nat} {r : Rule} (h : g.rules[k]? = some r) (hn : keptB ms cs r = false) : keptK g ms cs (k + 1) = keptK g ms cs k := by
  unfold keptK
  rw [List.range_succ, List.filter_append, List.filter_cons_of_neg (by rw [h]; simp [hn])]
  simp
theorem keptK_len (g : Gram) (ms cs : List Bool) (k : Nat) : (keptK g ms cs k).length ≤ k := by
  have := List.length_filter_le (fun k => decide (g.rules[k]?.map (keptB ms cs) = some true)) (List.range k)
  rw [List.length_range] at this
  exact this
def MksOk (g : Gram) (ms : List Bool) : Prop := ms.length = g.names.toNat ∧ LeastM g ms ∧ ClosedM g ms
def CmsOk (g : Gram) (cs : List Bool) : Prop := cs.length = g.names.toNat ∧ ∃ m : List Bool, m.length = g.names.toNat ∧ LeastM g m ∧ ClosedM g m ∧ LeastC g m cs ∧ ClosedC g m cs ∧ (atB m 0 = true → atB cs 0 = true)
theorem set_same_of {α : Type} {l : List α} {k : Nat} {x : α} (h : l[k]? = some x) : l.set k x = l := by
  apply List.ext_getElem?
  intro j
  by_cases e : k = j
  · subst e
    rw [List.getElem?_set_self (List.getElem?_eq_some_iff.1 h).1, h]
  · rw [List.getElem?_set_ne e]
set_option maxRecDepth 20000 in
theorem cloneG_any (gv : Value) (g : Gram) (w : World) (hl : g.rules.length ≤ 1000) (hr8 : ∀ r ∈ g.rules, r.right.length ≤ 1000) (hg : GramAt (Cl w) gv g) : Calls Try.prog 30 #[gv] w (fun e w' => ∃ x : Value × List RV, e = .returned (.agg #[.int .i64 g.terms, .int .i64 g.names, x.1]) ∧ plainR x.2 = g.rules ∧ Sat (Old w) w [rulesA x.1 x.2, symsA x.2] w') := by
  have hg0 := hg
  obtain ⟨rv, rfl, hr⟩ := hg.mono old_rd
  obtain ⟨a, c, rfl, hc1, hc2, hrs⟩ := id hr
  clear hg
  refine calls_CW Try.func30 rfl Try.ntmps30 rfl (Sat.start w) ?_
  refine CW_seq ?_
  refine CW_region ?_
  refine OW_e (e_box rfl rfl) rfl (fun b1 => ?_)
  refine OW_e (e_alloc Try.zeroValue24 rfl) rfl (fun b2 => ?_)
  refine OW_nil ?_
  refine EW_then ?_
  refine CW_seq ?_
  refine CW_region ?_
  refine OW_q (q_fieldAddr Try.underlying24 rfl rfl Try.sizeOf3 rfl rfl) rfl ?_
  first | (refine OW_q (q_load1_own Try.isAgg3 rfl rfl (by (repeat (first | exact .head | apply Swap.tail))) (by rfl)) rfl ?_) | (refine OW_q (q_load1_ro Try.isAgg3 rfl (by first | assumption | exact Row.at_ (by assumption) rfl)) rfl ?_)
  refine OW_q (q_fieldAddr Try.underlying24 rfl rfl Try.sizeOf3 rfl rfl) rfl ?_
  first | (refine OW_q (q_load1_own Try.isAgg3 rfl rfl (by (repeat (first | exact .head | apply Swap.tail))) (by rfl)) rfl ?_) | (refine OW_q (q_load1_ro Try.isAgg3 rfl (by first | assumption | exact Row.at_ (by assumption) rfl)) rfl ?_)
  refine OW_q (q_build (ps := #[(0, .int .i64 g.terms), (1, .int .i64 g.names)]) (v := .agg #[.int .i64 g.terms, .int .i64 g.names, .slice none 0 0]) rfl (fun w => by kernel_rfl)) rfl ?_
  refine OW_e (e_alloc Try.zeroValue24 rfl) rfl (fun b3 => ?_)
  refine OW_e0 (e_storeN Try.sizeOf24 rfl rfl rfl rfl (by simp [Value.oneCell']) (by (repeat (first | exact .head | apply Swap.tail))) (by rfl)) (fun _ => ?_)
  refine OW_nil ?_
  refine EW_then ?_
  refine CW_seq ?_
  refine CW_seq ?_
  refine CW_region ?_
  refine OW_q (q_fieldAddr Try.underlying24 rfl rfl Try.sizeOf22 rfl rfl) rfl ?_
  first | (refine OW_q (q_load1_own Try.isAgg22 rfl rfl (by (repeat (first | exact .head | apply Swap.tail))) (by rfl)) rfl ?_) | (refine OW_q (q_load1_ro Try.isAgg22 rfl (by first | assumption | exact Row.at_ (by assumption) rfl)) rfl ?_)
  refine OW_q (q_len Try.underlying22 rfl) rfl ?_
  refine OW_q (q_move rfl) rfl ?_
  refine OW_nil ?_
  refine EW_then ?_
  refine CW_block ?_
  refine CW_weak (S' := Sat (Old w) w [cel b3 24 [.int .i64 g.terms, .int .i64 g.names, .slice none 0 0], rulesA (.slice none 0 0) [], symsA [], cel b2 24 [.int .i64 0, .int .i64 0, .slice none 0 0]]) (fun w hw => by
    have h1 := (hw.tnil 49 2 encRV).addEmp (A := symsA []) rfl
    exact h1.sub (by repeat (first | exact SubL.nil | exact Pick.head | apply Pick.tail | apply SubL.cons))) ?_
  refine CW_loopP (ι := Nat × Value × List RV) (fun i_ => i_.1 ≤ g.rules.length ∧ plainR i_.2.2 = g.rules.take i_.1) (fun i_ => [(2, .pointer (some ⟨b2, 0, none⟩)), (3, .pointer (some ⟨b3, 0, none⟩)), (12, .slice a g.rules.length c), (13, .int .i64 (g.rules.length : Int)), (14, .int .i64 (i_.1 : Int))]) (fun i_ => Sat (Old w) w [cel b3 24 [.int .i64 g.terms, .int .i64 g.names, i_.2.1], rulesA i_.2.1 i_.2.2, symsA i_.2.2, cel b2 24 [.int .i64 0, .int .i64 0, .slice none 0 0]]) (fun i_ => g.rules.length - i_.1) (0, .slice none 0 0, []) ?_ ⟨rfl, rfl, rfl, rfl, rfl, trivial⟩ (fun w hw => hw.sub (by (repeat (first | exact SubL.nil | exact Pick.head | apply Pick.tail | apply SubL.cons)))) ?_
  · exact ⟨Nat.zero_le _, rfl⟩
  intro i_ hpre
  obtain ⟨k, ov, rs⟩ := i_
  replace hpre : k ≤ g.rules.length ∧ plainR rs = g.rules.take k := hpre
  change CW _ _ _ _ [(2, .pointer (some ⟨b2, 0, none⟩)), (3, .pointer (some ⟨b3, 0, none⟩)), (12, .slice a g.rules.length c), (13, .int .i64 (g.rules.length : Int)), (14, .int .i64 (k : Int))] (Sat (Old w) w [cel b3 24 [.int .i64 g.terms, .int .i64 g.names, ov], rulesA ov rs, symsA rs, cel b2 24 [.int .i64 0, .int .i64 0, .slice none 0 0]])
  obtain ⟨hk, hrl⟩ := hpre
  have hrsl : rs.length = k := by have := congrArg List.length hrl; unfold plainR at this; rw [List.length_map, List.length_take] at this; omega
  refine CW_seq ?_
  refine CW_region ?_
  refine OW_q (q_lss rfl rfl) rfl ?_
  refine OW_nil ?_
  refine EW_then ?_
  refine CW_seq ?_
  refine CW_cond rfl (fun h15 => ?_) (fun h15 => ?_)
  · skip
    have hlt : k < g.rules.length := by have := of_decide_eq_true h15; omega
    obtain ⟨q, hq⟩ := get_of_lt hlt
    obtain ⟨p, rfl, rvq, hsy, hrow⟩ := hrs k q hq
    obtain ⟨ya, yc, rfl, hy1, hy2, hys⟩ := id hsy
    refine CW_skip ?_
    refine EW_then ?_
    refine CW_seq ?_
    refine CW_block ?_
    refine CW_seq ?_
    refine CW_region ?_
    refine OW_q (q_indexAddr Try.underlying22 Try.sizeOf49 rfl rfl (by first | omega | assumption)) rfl ?_
    refine OW_q (q_loadN_ro Try.isAgg49 Try.sizeOf49 rfl (by first | exact hrow) (by rfl)) rfl ?_
    refine OW_e (e_alloc Try.zeroValue49 rfl) rfl (fun b5 => ?_)
    refine OW_e0 (e_storeN Try.sizeOf49 rfl rfl rfl rfl (by simp [Value.oneCell']) (by (repeat (first | exact .head | apply Swap.tail))) (by rfl)) (fun _ => ?_)
    refine OW_nil ?_
    refine EW_then ?_
    refine CW_draw (Sat (Old w) w [cel b5 49 [.int .i64 q.left, .slice ya q.right.length yc], cel b3 24 [.int .i64 g.terms, .int .i64 g.names, ov]]) 11 [(0, false), (1, false), (2, false), (3, false), (4, false), (5, false), (6, true), (7, false), (8, true), (9, true), (10, false), (11, true)] (by kernel_rfl) (Blind.block (Blind.then (Blind.again (Blind.block (Blind.then (Blind.body (by intro c w h; simp at h))))))) (by kernel_rfl) (fun w hw => hw.drew) ?_
    refine DW_q rfl (fun w hw => hw.sub (by (repeat (first | exact SubL.nil | exact Pick.head | apply Pick.tail | apply SubL.cons)))) (q_fieldAddr Try.underlying24 rfl rfl Try.sizeOf22 rfl rfl) rfl ?_
    first | (refine DW_q rfl (fun w hw => hw.sub (by (repeat (first | exact SubL.nil | exact Pick.head | apply Pick.tail | apply SubL.cons)))) (q_load1_own Try.isAgg22 rfl rfl (by (repeat (first | exact .head | apply Swap.tail))) (by rfl)) rfl ?_) | (refine DW_q rfl (fun w hw => hw.sub (by (repeat (first | exact SubL.nil | exact Pick.head | apply Pick.tail | apply SubL.cons)))) (q_load1_ro Try.isAgg22 rfl (by first | assumption | exact Row.at_ (by assumption) rfl)) rfl ?_)
    refine DW_q rfl (fun w hw => hw.sub (by (repeat (first | exact SubL.nil | exact Pick.head | apply Pick.tail | apply SubL.cons)))) (q_fieldAddr Try.underlying49 rfl rfl Try.sizeOf3 rfl rfl) rfl ?_
    first | (refine DW_q rfl (fun w hw => hw.sub (by (repeat (first | exact SubL.nil | exact Pick.head | apply Pick.tail | apply SubL.cons)))) (q_load1_own Try.isAgg3 rfl rfl (by (repeat (first | exact .head | apply Swap.tail))) (by rfl)) rfl ?_) | (refine DW_q rfl (fun w hw => hw.sub (by (repeat (first | exact SubL.nil | exact Pick.head | apply Pick.tail | apply SubL.cons)))) (q_load1_ro Try.isAgg3 rfl (by first | assumption | exact Row.at_ (by assumption) rfl)) rfl ?_)
    refine DW_q rfl (fun w hw => hw.sub (by (repeat (first | exact SubL.nil | exact Pick.head | apply Pick.tail | apply SubL.cons)))) (q_fieldAddr Try.underlying49 rfl rfl Try.sizeOf46 rfl rfl) rfl ?_
    first | (refine DW_q rfl (fun w hw => hw.sub (by (repeat (first | exact SubL.nil | exact Pick.head | apply Pick.tail | apply SubL.cons)))) (q_load1_own Try.isAgg46 rfl rfl (by (repeat (first | exact .head | apply Swap.tail))) (by rfl)) rfl ?_) | (refine DW_q rfl (fun w hw => hw.sub (by (repeat (first | exact SubL.nil | exact Pick.head | apply Pick.tail | apply SubL.cons)))) (q_load1_ro Try.isAgg46 rfl (by first | assumption | exact Row.at_ (by assumption) rfl)) rfl ?_)
    refine DW_e rfl (e_call Try.call33 rfl (fun w hw => lift_old (cloneY_any _ q.right w (hr8 q (List.mem_of_getElem? hq)) (hsy.mono fun _ _ h => hw.rd h)) hw)) rfl (fun _ w hw => by first | exact hw.sub (by (repeat (first | exact SubL.nil | exact Pick.head | apply Pick.tail | apply SubL.cons))) | exact hw.2.sub (by (repeat (first | exact SubL.nil | exact Pick.head | apply Pick.tail | apply SubL.cons)))) (fun x24 => ?_)
    refine DW_fact (fun w hw => hw.tform (v := x24) (l := q.right) (enc := encY) (by repeat (first | exact .head | apply Swap.tail))) (fun hf => ?_)
    obtain ⟨a24, c24, rfl, _, _, hb24⟩ := hf
    refine DW_q rfl (fun w hw => hw.sub (by (repeat (first | exact SubL.nil | exact Pick.head | apply Pick.tail | apply SubL.cons)))) (q_build (ps := #[(0, .int .i64 q.left), (1, (.slice a24 q.right.length c24))]) (v := .agg #[.int .i64 q.left, (.slice a24 q.right.length c24)]) rfl (fun w => by kernel_rfl)) rfl ?_
    refine DW_e rfl (e_single Try.underlying22 Try.sizeOf49 Try.zeroValue49 (e := 49) (v := .agg #[.int .i64 q.left, (.slice a24 q.right.length c24)]) (cs := [.int .i64 q.left, (.slice a24 q.right.length c24)]) rfl rfl rfl rfl (by decide) (by decide)) rfl (fun _ w hw => hw.sub (by repeat (first | exact SubL.nil | exact Pick.head | apply Pick.tail | apply SubL.cons))) (fun b26 => ?_)
    refine DW_e rfl (e_append_t (x0 := (⟨q, (.slice a24 q.right.length c24)⟩ : RV)) (enc := encRV) (l := rs) Try.underlying22 Try.typeInfo49 rfl rfl rfl rfl rfl rfl rfl (by repeat (first | exact .head | apply Pick.tail)) rfl (by exact fun w hw => hw.news (by repeat (first | exact .head | apply Swap.tail))) (by simp [Value.oneCell']) (by omega) (by decide)) rfl (fun _ w hw => hw.sub (by repeat (first | exact SubL.nil | exact Pick.head | apply Pick.tail | apply SubL.cons))) (fun v27 => ?_)
    refine DW_fact (fun w hw => hw.tform (v := v27) (l := rs ++ [⟨q, (.slice a24 q.right.length c24)⟩]) (enc := encRV) (by repeat (first | exact .head | apply Swap.tail))) (fun hf => ?_)
    obtain ⟨a27, c27, e27, _, _, hb27⟩ := hf
    refine DW_q rfl (fun w hw => hw.sub (by (repeat (first | exact SubL.nil | exact Pick.head | apply Pick.tail | apply SubL.cons)))) (q_fieldAddr Try.underlying24 rfl rfl Try.sizeOf22 rfl rfl) rfl ?_
    refine DW_z0 rfl (e_store Try.sizeOf22 rfl rfl rfl (by rw [e27]; rfl) (by repeat (first | exact .head | apply Swap.tail)) (by rfl)) (fun _ => ?_)
    refine EW_block_normal ?_
    refine EW_then ?_
    refine CW_region ?_
    first | refine OW_q (q_inc rfl rfl (by omega)) rfl ?_ | refine OW_q (q_add rfl rfl (by omega) (by omega)) rfl ?_
    refine OW_q (q_move rfl) rfl ?_
    refine OW_nil ?_
    refine EW_weak (S' := Sat (Old w) w [cel b3 24 [.int .i64 g.terms, .int .i64 g.names, v27], rulesA v27 (rs ++ [⟨q, (.slice a24 q.right.length c24)⟩]), symsA (rs ++ [⟨q, (.slice a24 q.right.length c24)⟩]), cel b2 24 [.int .i64 0, .int .i64 0, .slice none 0 0]]) (fun w hw => by
      have h1 : Sat _ _ (symsA rs :: symA ⟨q, (.slice a24 q.right.length c24)⟩ :: [cel b3 24 [.int .i64 g.terms, .int .i64 g.names, v27], rulesA v27 (rs ++ [⟨q, (.slice a24 q.right.length c24)⟩]), cel b2 24 [.int .i64 0, .int .i64 0, .slice none 0 0]]) w := hw.sub (by repeat (first | exact SubL.nil | exact Pick.head | apply Pick.tail | apply SubL.cons))
      exact h1.symsPush.sub (by repeat (first | exact SubL.nil | exact Pick.head | apply Pick.tail | apply SubL.cons))) ?_
    refine EW_again ((k + 1, v27, rs ++ [⟨q, (.slice a24 q.right.length c24)⟩])) ⟨?_, ?_⟩ ⟨rfl, rfl, rfl, rfl, rfl, trivial⟩ (fun w hw => hw.sub (by (repeat (first | exact SubL.nil | exact Pick.head | apply Pick.tail | apply SubL.cons))))
    · show g.rules.length - (k + 1) < g.rules.length - k; omega
    · refine ⟨by show k + 1 ≤ _; omega, ?_⟩
      show plainR (rs ++ [_]) = g.rules.take (k + 1)
      unfold plainR at hrl ⊢
      rw [take_next hq, List.map_append, hrl]
      rfl
  · skip
    have hke : k = g.rules.length := by have := of_decide_eq_false h15; omega
    refine CW_fact (fun w hw => hw.tform (v := ov) (l := rs) (enc := encRV) (by repeat (first | exact .head | apply Swap.tail))) (fun hf => ?_)
    obtain ⟨ao, co, eo, _, _, hbo⟩ := hf
    subst eo
    refine CW_exit ?_
    refine EW_then_exit ?_
    refine EW_out ?_
    refine EW_block_exit ?_
    refine EW_then ?_
    refine CW_seq ?_
    refine CW_region ?_
    first | (refine OW_q (q_loadN_own Try.isAgg24 Try.sizeOf24 rfl rfl (by (repeat (first | exact .head | apply Swap.tail))) (by rfl)) rfl ?_) | (refine OW_q (q_loadN_ro Try.isAgg24 Try.sizeOf24 rfl (by first | assumption | exact Row.at_ (by assumption) rfl) (by rfl)) rfl ?_)
    refine OW_e0 (e_storeN Try.sizeOf24 rfl rfl rfl rfl (by simp [Value.oneCell']) (by (repeat (first | exact .head | apply Swap.tail))) (by rfl)) (fun _ => ?_)
    refine OW_nil ?_
    refine EW_then ?_
    refine CW_ret ?_
    refine retc1a (vs := [.int .i64 g.terms, .int .i64 g.names, .slice ao rs.length co]) Try.results30 Try.isAgg24 Try.sizeOf24 rfl rfl (fun w hw j u hj => by rw [Addr.add_lit, hw.cell (t := 24) (cs := [.int .i64 g.terms, .int .i64 g.names, .slice ao rs.length co]) (A' := cel b2 24 [.int .i64 g.terms, .int .i64 g.names, .slice ao rs.length co]) (by repeat (first | exact .head | apply Swap.tail)), Nat.zero_add]; exact hj) (fun w hw => ?_)
    exact ⟨(_, rs), rfl, by rw [hrl, hke, List.take_length], hw.sub (by repeat (first | exact SubL.nil | exact Pick.head | apply Pick.tail | apply SubL.cons))⟩

set_option maxRecDepth 20000 in
theorem other_any (a b n : Int) (b4 b5 : Nat) (w : World) (h1 : w.cell? ⟨b4, 0, none⟩ = some (.int .i64 a)) (h2 : w.cell? ⟨b5, 0, none⟩ = some (.int .i64 b)) : Calls Try.prog 47 #[.int .i64 n, .pointer (some ⟨b4, 0, none⟩), .pointer (some ⟨b5, 0, none⟩)] w (fun e w' => e = .returned (.int .i64 (swapN a b n)) ∧ Sat (Old w) w [] w') := by
  have r1 : Rd (Old w) w ⟨b4, 0, none⟩ (.int .i64 a) := Rd.old h1
  have r2 : Rd (Old w) w ⟨b5, 0, none⟩ (.int .i64 b) := Rd.old h2
  refine calls_CW Try.func47 rfl Try.ntmps47 rfl (Sat.start w) ?_
  refine CW_seq ?_
  refine CW_region ?_
  refine OW_q (q_assign rfl) rfl ?_
  refine OW_nil ?_
  refine EW_then ?_
  refine CW_seq ?_
  refine CW_seq ?_
  refine CW_region ?_
  refine OW_q (q_move rfl) rfl ?_
  refine OW_nil ?_
  refine EW_then ?_
  refine CW_block ?_
  refine CW_seq ?_
  refine CW_region ?_
  first | (refine OW_q (q_load1_own Try.isAgg3 rfl rfl (by (repeat (first | exact .head | apply Swap.tail))) (by rfl)) rfl ?_) | (refine OW_q (q_load1_ro Try.isAgg3 rfl (by first | exact r1)) rfl ?_)
  refine OW_q (q_eqi rfl rfl) rfl ?_
  refine OW_q (q_assign rfl) rfl ?_
  refine OW_nil ?_
  refine EW_then ?_
  refine CW_cond rfl (fun h6 => ?_) (fun h6 => ?_)
  · skip
    refine CW_seq ?_
    refine CW_region ?_
    first | (refine OW_q (q_load1_own Try.isAgg3 rfl rfl (by (repeat (first | exact .head | apply Swap.tail))) (by rfl)) rfl ?_) | (refine OW_q (q_load1_ro Try.isAgg3 rfl (by first | exact r2)) rfl ?_)
    refine OW_q (q_assign rfl) rfl ?_
    refine OW_nil ?_
    refine EW_then ?_
    refine CW_ret ?_
    refine EW_block_ret ?_
    refine EW_then_ret ?_
    refine ret1 Try.results47 rfl (fun w hw => ?_)
    refine ⟨?_, hw.sub .nil⟩
    unfold swapN
    simp_all
  · skip
    refine CW_seq ?_
    refine CW_region ?_
    first | (refine OW_q (q_load1_own Try.isAgg3 rfl rfl (by (repeat (first | exact .head | apply Swap.tail))) (by rfl)) rfl ?_) | (refine OW_q (q_load1_ro Try.isAgg3 rfl (by first | exact r2)) rfl ?_)
    refine OW_q (q_eqi rfl rfl) rfl ?_
    refine OW_q (q_assign rfl) rfl ?_
    refine OW_nil ?_
    refine EW_then ?_
    refine CW_cond rfl (fun h10 => ?_) (fun h10 => ?_)
    · skip
      refine CW_seq ?_
      refine CW_region ?_
      first | (refine OW_q (q_load1_own Try.isAgg3 rfl rfl (by (repeat (first | exact .head | apply Swap.tail))) (by rfl)) rfl ?_) | (refine OW_q (q_load1_ro Try.isAgg3 rfl (by first | exact r1)) rfl ?_)
      refine OW_q (q_assign rfl) rfl ?_
      refine OW_nil ?_
      refine EW_then ?_
      refine CW_ret ?_
      refine EW_block_ret ?_
      refine EW_then_ret ?_
      refine ret1 Try.results47 rfl (fun w hw => ?_)
      refine ⟨?_, hw.sub .nil⟩
      unfold swapN
      simp_all
    · skip
      refine CW_skip ?_
      refine EW_block_normal ?_
      refine EW_then ?_
      refine CW_seq ?_
      refine CW_region ?_
      refine OW_q (q_move rfl) rfl ?_
      refine OW_q (q_assign rfl) rfl ?_
      refine OW_nil ?_
      refine EW_then ?_
      refine CW_ret ?_
      refine ret1 Try.results47 rfl (fun w hw => ?_)
      refine ⟨?_, hw.sub .nil⟩
      unfold swapN
      simp_all

set_option maxRecDepth 20000 in
theorem swapG_any (bg : Nat) (t n a b : Int) (ov : Value) (rs : List RV) (R : Nat → Prop) (w0 w : World) (F : HP) (hl : rs.length ≤ 1000) (hl8 : ∀ x ∈ rs, x.r.right.length ≤ 1000) (hw : Sat R w0 ([cel bg 24 [.int .i64 t, .int .i64 n, ov], rulesA ov rs, symsA rs] ++ [F]) w) : Calls Try.prog 32 #[.pointer (some ⟨bg, 0, none⟩), .int .i64 a, .int .i64 b] w (fun e w' => ∃ _x : Unit, e = .returned (.tuple #[]) ∧ True ∧ Sat R w0 ([cel bg 24 [.int .i64 t, .int .i64 n, ov], rulesA ov (rs.map (swRV a b)), symsA (rs.map (swRV a b))] ++ [F]) w') := by
  obtain ⟨ao, co, rfl, _, _, hbo⟩ := hw.tform (v := ov) (l := rs) (enc := encRV) (by repeat (first | exact .head | apply Swap.tail))
  refine calls_CW (S := Sat R w0 [cel bg 24 [.int .i64 t, .int .i64 n, .slice ao rs.length co], rulesA (.slice ao rs.length co) rs, symsA rs, F]) Try.func32 rfl Try.ntmps32 rfl (hw) ?_
  refine CW_seq ?_
  refine CW_region ?_
  refine OW_e (e_box rfl rfl) rfl (fun b4 => ?_)
  refine OW_e (e_box rfl rfl) rfl (fun b5 => ?_)
  refine OW_nil ?_
  refine EW_then ?_
  refine CW_seq ?_
  refine CW_region ?_
  refine OW_q (q_makeFuncL (us := [.pointer (some ⟨b4, 0, none⟩), .pointer (some ⟨b5, 0, none⟩)]) rfl) rfl ?_
  refine OW_q (q_assign rfl) rfl ?_
  refine OW_nil ?_
  refine EW_then ?_
  refine CW_seq ?_
  refine CW_region ?_
  refine OW_q (q_move rfl) rfl ?_
  refine OW_q (q_nilCheck rfl) rfl ?_
  refine OW_q (q_fieldAddr Try.underlying24 rfl rfl Try.sizeOf22 rfl rfl) rfl ?_
  first | (refine OW_q (q_load1_own Try.isAgg22 rfl rfl (by (repeat (first | exact .head | apply Swap.tail))) (by rfl)) rfl ?_) | (refine OW_q (q_load1_ro Try.isAgg22 rfl (by first | assumption | exact Row.at_ (by assumption) rfl)) rfl ?_)
  refine OW_q (q_len Try.underlying22 rfl) rfl ?_
  refine OW_q (q_move rfl) rfl ?_
  refine OW_nil ?_
  refine EW_then ?_
  refine CW_block ?_
  refine CW_loopP (ι := Nat × List RV) (fun i_ => i_.1 ≤ rs.length ∧ i_.2.length = rs.length ∧ ∀ j, i_.2[j]? = if j < i_.1 then (rs[j]?).map (swRV a b) else rs[j]?) (fun i_ => [(0, .pointer (some ⟨bg, 0, none⟩)), (6, .func (.func 47) #[] #[.pointer (some ⟨b4, 0, none⟩), .pointer (some ⟨b5, 0, none⟩)]), (14, .slice ao rs.length co), (15, .int .i64 (rs.length : Int)), (16, .int .i64 (i_.1 : Int))]) (fun i_ => Sat R w0 [cel bg 24 [.int .i64 t, .int .i64 n, .slice ao rs.length co], rulesA (.slice ao rs.length co) i_.2, symsA i_.2, cel b4 3 [.int .i64 a], cel b5 3 [.int .i64 b], F]) (fun i_ => rs.length - i_.1) (0, rs) ?_ ⟨rfl, rfl, rfl, rfl, rfl, trivial⟩ (fun w hw => hw.sub (by (repeat (first | exact SubL.nil | exact Pick.head | apply Pick.tail | apply SubL.cons)))) ?_
  · exact ⟨Nat.zero_le _, rfl, fun j => by simp⟩
  intro i_ hpre
  obtain ⟨k, rs1⟩ := i_
  replace hpre : k ≤ rs.length ∧ rs1.length = rs.length ∧ ∀ j, rs1[j]? = if j < k then (rs[j]?).map (swRV a b) else rs[j]? := hpre
  change CW _ _ _ _ [(0, .pointer (some ⟨bg, 0, none⟩)), (6, .func (.func 47) #[] #[.pointer (some ⟨b4, 0, none⟩), .pointer (some ⟨b5, 0, none⟩)]), (14, .slice ao rs.length co), (15, .int .i64 (rs.length : Int)), (16, .int .i64 (k : Int))] (Sat R w0 [cel bg 24 [.int .i64 t, .int .i64 n, .slice ao rs.length co], rulesA (.slice ao rs.length co) rs1, symsA rs1, cel b4 3 [.int .i64 a], cel b5 3 [.int .i64 b], F])
  obtain ⟨hk, hrl, hrk⟩ := hpre
  refine CW_seq ?_
  refine CW_region ?_
  refine OW_q (q_lss rfl rfl) rfl ?_
  refine OW_nil ?_
  refine EW_then ?_
  refine CW_seq ?_
  refine CW_cond rfl (fun h17 => ?_) (fun h17 => ?_)
  · skip
    have hlt : k < rs.length := by have := of_decide_eq_true h17; omega
    obtain ⟨bo, rfl⟩ := hbo (by omega)
    obtain ⟨⟨⟨xl, xr⟩, xv⟩, hkx⟩ := get_of_lt (l := rs1) (k := k) (by omega)
    refine CW_fact (fun w hw => hw.tform (v := xv) (l := xr) (enc := encY) ((Hole.tail (Hole.tail (Hole.sym hkx))).swap _)) (fun hf => ?_)
    obtain ⟨ax, cx, rfl, _, _, hbx⟩ := hf
    have hxr8 : xr.length ≤ 1000 := by
      have h1 := hrk k
      rw [if_neg (by omega), hkx] at h1
      exact hl8 _ (List.mem_of_getElem? h1.symm)
    have hkx1 : (rs1.set k ⟨⟨swapN a b xl, xr⟩, (.slice ax xr.length cx)⟩)[k]? = some ⟨⟨swapN a b xl, xr⟩, (.slice ax xr.length cx)⟩ := List.getElem?_set_self (by omega)
    refine CW_skip ?_
    refine EW_then ?_
    refine CW_seq ?_
    refine CW_block ?_
    refine CW_seq ?_
    refine CW_region ?_
    refine OW_q (q_move rfl) rfl ?_
    refine OW_q (q_assign rfl) rfl ?_
    refine OW_nil ?_
    refine EW_then ?_
    refine CW_seq ?_
    refine CW_region ?_
    refine OW_q (q_move rfl) rfl ?_
    refine OW_q (q_nilCheck rfl) rfl ?_
    refine OW_q (q_fieldAddr Try.underlying24 rfl rfl Try.sizeOf22 rfl rfl) rfl ?_
    first | (refine OW_q (q_load1_own Try.isAgg22 rfl rfl (by (repeat (first | exact .head | apply Swap.tail))) (by rfl)) rfl ?_) | (refine OW_q (q_load1_ro Try.isAgg22 rfl (by first | assumption | exact Row.at_ (by assumption) rfl)) rfl ?_)
    refine OW_q (q_move rfl) rfl ?_
    refine OW_q (q_indexAddr Try.underlying22 Try.sizeOf49 rfl rfl (by first | omega | assumption)) rfl ?_
    refine OW_q (q_assign rfl) rfl ?_
    refine OW_nil ?_
    refine EW_then ?_
    refine CW_seq ?_
    refine CW_region ?_
    refine OW_q (q_move rfl) rfl ?_
    refine OW_q (q_move rfl) rfl ?_
    refine OW_q (q_move rfl) rfl ?_
    refine OW_q (q_nilCheck rfl) rfl ?_
    refine OW_q (q_fieldAddr Try.underlying49 rfl rfl Try.sizeOf3 rfl rfl) rfl ?_
    refine OW_q (q_load1_t (enc := encRV) (k := k) (off := 0) (v := (.slice (some ⟨bo, 0, none⟩) rs.length co)) (l := rs1) Try.isAgg3 (fun _ => rfl) rfl (by repeat (first | exact .head | apply Swap.tail)) rfl hkx rfl) rfl ?_
    refine OW_e (e_callv Try.call47 rfl rfl (fun w hw => lift_ro (other_any a b _ b4 b5 w (by rw [hw.cell (t := 3) (cs := [.int .i64 a]) (A' := cel b4 3 [.int .i64 a]) (by repeat (first | exact .head | apply Swap.tail))]; rfl) (by rw [hw.cell (t := 3) (cs := [.int .i64 b]) (A' := cel b5 3 [.int .i64 b]) (by repeat (first | exact .head | apply Swap.tail))]; rfl)) hw)) rfl (fun x31 => ?_)
    refine OW_q (q_nilCheck rfl) rfl ?_
    refine OW_q (q_fieldAddr Try.underlying49 rfl rfl Try.sizeOf3 rfl rfl) rfl ?_
    refine OW_e0 (e_store_t (enc := encRV) (k := k) (off := 0) (v := (.slice (some ⟨bo, 0, none⟩) rs.length co)) (l := rs1) (y := ⟨⟨xl, xr⟩, (.slice ax xr.length cx)⟩) (y' := ⟨⟨swapN a b xl, xr⟩, (.slice ax xr.length cx)⟩) Try.sizeOf3 (fun _ => rfl) rfl rfl rfl rfl hkx rfl (by repeat (first | exact .head | apply Swap.tail))) (fun _ => ?_)
    refine OW_nil ?_
    refine EW_then ?_
    refine CW_seq ?_
    refine CW_region ?_
    refine OW_q (q_move rfl) rfl ?_
    refine OW_q (q_nilCheck rfl) rfl ?_
    refine OW_q (q_fieldAddr Try.underlying49 rfl rfl Try.sizeOf46 rfl rfl) rfl ?_
    refine OW_q (q_load1_t (enc := encRV) (k := k) (off := 1) (v := (.slice (some ⟨bo, 0, none⟩) rs.length co)) (l := rs1.set k ⟨⟨swapN a b xl, xr⟩, (.slice ax xr.length cx)⟩) Try.isAgg46 (fun _ => rfl) rfl (by repeat (first | exact .head | apply Swap.tail)) rfl hkx1 rfl) rfl ?_
    refine OW_q (q_len Try.underlying46 rfl) rfl ?_
    refine OW_q (q_move rfl) rfl ?_
    refine OW_nil ?_
    refine EW_then ?_
    refine CW_block ?_
    refine CW_weak (S' := Sat R w0 [cel bg 24 [.int .i64 t, .int .i64 n, .slice (some ⟨bo, 0, none⟩) rs.length co], rulesA (.slice (some ⟨bo, 0, none⟩) rs.length co) (rs1.set k ⟨⟨swapN a b xl, xr⟩, (.slice ax xr.length cx)⟩), symsA (rs1.set k ⟨⟨swapN a b xl, xr⟩, (.slice ax xr.length cx)⟩), cel b4 3 [.int .i64 a], cel b5 3 [.int .i64 b], F]) (fun w hw => by
      have e : symsA (rs1.set k ⟨⟨swapN a b xl, xr⟩, (.slice ax xr.length cx)⟩) = symsA rs1 := by
        unfold symsA
        congr 1
        rw [List.map_set]
        exact set_same_of (by rw [List.getElem?_map, hkx]; rfl)
      rw [e]
      exact hw) ?_
    refine CW_loopP (ι := Nat × List Sym) (fun i_ => i_.1 ≤ xr.length ∧ i_.2.length = xr.length ∧ ∀ j, i_.2[j]? = if j < i_.1 then (xr[j]?).map (swapY a b) else xr[j]?) (fun i_ => [(0, .pointer (some ⟨bg, 0, none⟩)), (6, .func (.func 47) #[] #[.pointer (some ⟨b4, 0, none⟩), .pointer (some ⟨b5, 0, none⟩)]), (14, (.slice (some ⟨bo, 0, none⟩) rs.length co)), (15, .int .i64 (rs.length : Int)), (16, .int .i64 (k : Int)), (8, .pointer (some ((⟨bo, 0, none⟩ : Addr).add (k * 2)))), (37, (.slice ax xr.length cx)), (38, .int .i64 (xr.length : Int)), (39, .int .i64 (i_.1 : Int))]) (fun i_ => Sat R w0 [cel bg 24 [.int .i64 t, .int .i64 n, .slice (some ⟨bo, 0, none⟩) rs.length co], rulesA (.slice (some ⟨bo, 0, none⟩) rs.length co) (rs1.set k ⟨⟨swapN a b xl, xr⟩, (.slice ax xr.length cx)⟩), symsA (rs1.set k ⟨⟨swapN a b xl, i_.2⟩, (.slice ax xr.length cx)⟩), cel b4 3 [.int .i64 a], cel b5 3 [.int .i64 b], F]) (fun i_ => xr.length - i_.1) (0, xr) ?_ ⟨rfl, rfl, rfl, rfl, rfl, rfl, rfl, rfl, rfl, trivial⟩ (fun w hw => hw.sub (by (repeat (first | exact SubL.nil | exact Pick.head | apply Pick.tail | apply SubL.cons)))) ?_
    · exact ⟨Nat.zero_le _, rfl, fun j => by simp⟩
    intro i_ hpre
    obtain ⟨i, ys⟩ := i_
    replace hpre : i ≤ xr.length ∧ ys.length = xr.length ∧ ∀ j, ys[j]? = if j < i then (xr[j]?).map (swapY a b) else xr[j]? := hpre
    change CW _ _ _ _ [(0, .pointer (some ⟨bg, 0, none⟩)), (6, .func (.func 47) #[] #[.pointer (some ⟨b4, 0, none⟩), .pointer (some ⟨b5, 0, none⟩)]), (14, (.slice (some ⟨bo, 0, none⟩) rs.length co)), (15, .int .i64 (rs.length : Int)), (16, .int .i64 (k : Int)), (8, .pointer (some ((⟨bo, 0, none⟩ : Addr).add (k * 2)))), (37, (.slice ax xr.length cx)), (38, .int .i64 (xr.length : Int)), (39, .int .i64 (i : Int))] (Sat R w0 [cel bg 24 [.int .i64 t, .int .i64 n, .slice (some ⟨bo, 0, none⟩) rs.length co], rulesA (.slice (some ⟨bo, 0, none⟩) rs.length co) (rs1.set k ⟨⟨swapN a b xl, xr⟩, (.slice ax xr.length cx)⟩), symsA (rs1.set k ⟨⟨swapN a b xl, ys⟩, (.slice ax xr.length cx)⟩), cel b4 3 [.int .i64 a], cel b5 3 [.int .i64 b], F])
    obtain ⟨hi, hysl, hyk⟩ := hpre
    have hky : (rs1.set k ⟨⟨swapN a b xl, ys⟩, (.slice ax xr.length cx)⟩)[k]? = some ⟨⟨swapN a b xl, ys⟩, (.slice ax xr.length cx)⟩ := List.getElem?_set_self (by omega)
    refine CW_seq ?_
    refine CW_region ?_
    refine OW_q (q_lss rfl rfl) rfl ?_
    refine OW_nil ?_
    refine EW_then ?_
    refine CW_seq ?_
    refine CW_cond rfl (fun h40 => ?_) (fun h40 => ?_)
    · skip
      have hli : i < xr.length := by have := of_decide_eq_true h40; omega
      obtain ⟨bx, rfl⟩ := hbx (by omega)
      obtain ⟨y, hyi⟩ := get_of_lt (l := ys) (k := i) (by omega)
      have hxi := hyk i
      rw [if_neg (by omega), hyi] at hxi
      refine CW_skip ?_
      refine EW_then ?_
      refine CW_seq ?_
      refine CW_block ?_
      refine CW_seq ?_
      refine CW_region ?_
      refine OW_q (q_move rfl) rfl ?_
      refine OW_q (q_assign rfl) rfl ?_
      refine OW_nil ?_
      refine EW_then ?_
      refine CW_seq ?_
      refine CW_region ?_
      refine OW_q (q_move rfl) rfl ?_
      refine OW_q (q_nilCheck rfl) rfl ?_
      refine OW_q (q_fieldAddr Try.underlying49 rfl rfl Try.sizeOf46 rfl rfl) rfl ?_
      refine OW_q (q_load1_t (enc := encRV) (k := k) (off := 1) (v := (.slice (some ⟨bo, 0, none⟩) rs.length co)) (l := rs1.set k ⟨⟨swapN a b xl, xr⟩, (.slice (some ⟨bx, 0, none⟩) xr.length cx)⟩) Try.isAgg46 (fun _ => rfl) rfl (by repeat (first | exact .head | apply Swap.tail)) rfl hkx1 rfl) rfl ?_
      refine OW_q (q_move rfl) rfl ?_
      refine OW_q (q_indexAddr Try.underlying46 Try.sizeOf51 rfl rfl (by first | omega | assumption)) rfl ?_
      refine OW_q (q_fieldAddr Try.underlying51 rfl rfl Try.sizeOf4 rfl rfl) rfl ?_
      refine OW_q (q_load1_t (enc := encY) (k := i) (off := 0) (v := .slice (some ⟨bx, 0, none⟩) xr.length cx) (l := ys) Try.isAgg4 (fun _ => rfl) rfl ((Hole.tail (Hole.tail (Hole.sym hky))).swap _) rfl hyi rfl) rfl ?_
      refine OW_q (q_not rfl) rfl ?_
      refine OW_nil ?_
      refine EW_then ?_
      refine CW_cond rfl (fun h50 => ?_) (fun h50 => ?_)
      · skip
        refine CW_drawS 17 [(0, false), (1, false), (2, false), (3, false), (4, false), (5, false), (6, false), (7, false), (8, false), (9, false), (10, false), (11, false), (12, false), (13, false), (14, true), (15, false), (16, false), (17, true)] (by kernel_rfl) (Blind.block (Blind.then (Blind.again (Blind.block (Blind.block (Blind.then (Blind.again (Blind.block Blind.bodyP)))))))) (by kernel_rfl) (fun w hw => hw.drew) ?_
        refine DW_q rfl (fun w hw => hw.sub (by (repeat (first | exact SubL.nil | exact Pick.head | apply Pick.tail | apply SubL.cons)))) (q_move rfl) rfl ?_
        refine DW_q rfl (fun w hw => hw.sub (by (repeat (first | exact SubL.nil | exact Pick.head | apply Pick.tail | apply SubL.cons)))) (q_nilCheck rfl) rfl ?_
        refine DW_q rfl (fun w hw => hw.sub (by (repeat (first | exact SubL.nil | exact Pick.head | apply Pick.tail | apply SubL.cons)))) (q_fieldAddr Try.underlying49 rfl rfl Try.sizeOf46 rfl rfl) rfl ?_
        refine DW_q rfl (fun w hw => hw.sub (by repeat (first | exact SubL.nil | exact Pick.head | apply Pick.tail | apply SubL.cons))) (q_load1_t (enc := encRV) (k := k) (off := 1) (v := (.slice (some ⟨bo, 0, none⟩) rs.length co)) (l := rs1.set k ⟨⟨swapN a b xl, xr⟩, (.slice (some ⟨bx, 0, none⟩) xr.length cx)⟩) Try.isAgg46 (fun _ => rfl) rfl (by repeat (first | exact .head | apply Swap.tail)) rfl hkx1 rfl) rfl ?_
        refine DW_q rfl (fun w hw => hw.sub (by (repeat (first | exact SubL.nil | exact Pick.head | apply Pick.tail | apply SubL.cons)))) (q_move rfl) rfl ?_
        refine DW_q rfl (fun w hw => hw.sub (by (repeat (first | exact SubL.nil | exact Pick.head | apply Pick.tail | apply SubL.cons)))) (q_move rfl) rfl ?_
        refine DW_q rfl (fun w hw => hw.sub (by (repeat (first | exact SubL.nil | exact Pick.head | apply Pick.tail | apply SubL.cons)))) (q_move rfl) rfl ?_
        refine DW_q rfl (fun w hw => hw.sub (by (repeat (first | exact SubL.nil | exact Pick.head | apply Pick.tail | apply SubL.cons)))) (q_nilCheck rfl) rfl ?_
        refine DW_q rfl (fun w hw => hw.sub (by (repeat (first | exact SubL.nil | exact Pick.head | apply Pick.tail | apply SubL.cons)))) (q_fieldAddr Try.underlying49 rfl rfl Try.sizeOf46 rfl rfl) rfl ?_
        refine DW_q rfl (fun w hw => hw.sub (by repeat (first | exact SubL.nil | exact Pick.head | apply Pick.tail | apply SubL.cons))) (q_load1_t (enc := encRV) (k := k) (off := 1) (v := (.slice (some ⟨bo, 0, none⟩) rs.length co)) (l := rs1.set k ⟨⟨swapN a b xl, xr⟩, (.slice (some ⟨bx, 0, none⟩) xr.length cx)⟩) Try.isAgg46 (fun _ => rfl) rfl (by repeat (first | exact .head | apply Swap.tail)) rfl hkx1 rfl) rfl ?_
        refine DW_q rfl (fun w hw => hw.sub (by (repeat (first | exact SubL.nil | exact Pick.head | apply Pick.tail | apply SubL.cons)))) (q_move rfl) rfl ?_
        refine DW_q rfl (fun w hw => hw.sub (by (repeat (first | exact SubL.nil | exact Pick.head | apply Pick.tail | apply SubL.cons)))) (q_indexAddr Try.underlying46 Try.sizeOf51 rfl rfl (by first | omega | assumption)) rfl ?_
        refine DW_q rfl (fun w hw => hw.sub (by (repeat (first | exact SubL.nil | exact Pick.head | apply Pick.tail | apply SubL.cons)))) (q_fieldAddr Try.underlying51 rfl rfl Try.sizeOf3 rfl rfl) rfl ?_
        refine DW_q rfl (fun w hw => hw.sub (by repeat (first | exact SubL.nil | exact Pick.head | apply Pick.tail | apply SubL.cons))) (q_load1_t (enc := encY) (k := i) (off := 1) (v := .slice (some ⟨bx, 0, none⟩) xr.length cx) (l := ys) Try.isAgg3 (fun _ => rfl) rfl ((Hole.tail (Hole.tail (Hole.sym hky))).swap _) rfl hyi rfl) rfl ?_
        refine DW_e rfl (e_callv Try.call47 rfl rfl (fun w hw => lift_ro (other_any a b _ b4 b5 w (by rw [hw.cell (t := 3) (cs := [.int .i64 a]) (A' := cel b4 3 [.int .i64 a]) (by repeat (first | exact .head | apply Swap.tail))]; rfl) (by rw [hw.cell (t := 3) (cs := [.int .i64 b]) (A' := cel b5 3 [.int .i64 b]) (by repeat (first | exact .head | apply Swap.tail))]; rfl)) hw)) rfl (fun _ w hw => by first | exact hw.sub (by (repeat (first | exact SubL.nil | exact Pick.head | apply Pick.tail | apply SubL.cons))) | exact hw.2.sub (by (repeat (first | exact SubL.nil | exact Pick.head | apply Pick.tail | apply SubL.cons)))) (fun x65 => ?_)
        refine DW_q rfl (fun w hw => hw.sub (by (repeat (first | exact SubL.nil | exact Pick.head | apply Pick.tail | apply SubL.cons)))) (q_indexAddr Try.underlying46 Try.sizeOf51 rfl rfl (by first | omega | assumption)) rfl ?_
        refine DW_q rfl (fun w hw => hw.sub (by (repeat (first | exact SubL.nil | exact Pick.head | apply Pick.tail | apply SubL.cons)))) (q_fieldAddr Try.underlying51 rfl rfl Try.sizeOf3 rfl rfl) rfl ?_
        refine DW_z0 rfl (e_store_t (enc := encY) (k := i) (off := 1) (v := .slice (some ⟨bx, 0, none⟩) xr.length cx) (l := ys) (y := y) (y' := ⟨y.term, swapN a b y.n⟩) Try.sizeOf3 (fun _ => rfl) rfl rfl rfl rfl hyi rfl ((Hole.tail (Hole.tail (Hole.sym hky))).swap _)) (fun _ => ?_)
        refine EW_block_normal ?_
        refine EW_then ?_
        refine CW_region ?_
        first | refine OW_q (q_inc rfl rfl (by omega)) rfl ?_ | refine OW_q (q_add rfl rfl (by omega) (by omega)) rfl ?_
        refine OW_q (q_move rfl) rfl ?_
        refine OW_nil ?_
        refine EW_weak (S' := Sat R w0 [cel bg 24 [.int .i64 t, .int .i64 n, .slice (some ⟨bo, 0, none⟩) rs.length co], rulesA (.slice (some ⟨bo, 0, none⟩) rs.length co) (rs1.set k ⟨⟨swapN a b xl, xr⟩, (.slice (some ⟨bx, 0, none⟩) xr.length cx)⟩), symsA (rs1.set k ⟨⟨swapN a b xl, (ys.set i ⟨y.term, swapN a b y.n⟩)⟩, (.slice (some ⟨bx, 0, none⟩) xr.length cx)⟩), cel b4 3 [.int .i64 a], cel b5 3 [.int .i64 b], F]) (fun w hw => by
          have h1 := hw
          rw [show stars (((rs1.set k ⟨⟨swapN a b xl, ys⟩, (.slice (some ⟨bx, 0, none⟩) xr.length cx)⟩).map symA).set k (trow 51 2 encY (.slice (some ⟨bx, 0, none⟩) xr.length cx) (ys.set i ⟨y.term, swapN a b y.n⟩))) = symsA (rs1.set k ⟨⟨swapN a b xl, (ys.set i ⟨y.term, swapN a b y.n⟩)⟩, (.slice (some ⟨bx, 0, none⟩) xr.length cx)⟩) from by
            have := symsA_set (rs := rs1.set k ⟨⟨swapN a b xl, ys⟩, (.slice (some ⟨bx, 0, none⟩) xr.length cx)⟩) (k := k) ⟨⟨swapN a b xl, (ys.set i ⟨y.term, swapN a b y.n⟩)⟩, (.slice (some ⟨bx, 0, none⟩) xr.length cx)⟩
            rw [List.set_set] at this
            exact this] at h1
          exact h1) ?_
        refine EW_again ((i + 1, ys.set i ⟨y.term, swapN a b y.n⟩)) ⟨?_, ?_⟩ ⟨rfl, rfl, rfl, rfl, rfl, rfl, rfl, rfl, rfl, trivial⟩ (fun w hw => hw.sub (by (repeat (first | exact SubL.nil | exact Pick.head | apply Pick.tail | apply SubL.cons))))
        · show xr.length - (i + 1) < xr.length - i; omega
        · refine ⟨by show i + 1 ≤ _; omega, by show (ys.set i _).length = _; rw [List.length_set]; exact hysl, fun j => ?_⟩
          show (ys.set i _)[j]? = if j < i + 1 then _ else _
          by_cases e : i = j
          · subst e
            rw [List.getElem?_set_self (by omega), if_pos (by omega), ← hxi]
            show some _ = some (swapY a b y)
            unfold swapY
            have hf : y.term = false := by simpa using h50
            rw [if_neg (by rw [hf]; decide), hf]
          · rw [List.getElem?_set_ne e, hyk j]
            by_cases e2 : j < i
            · rw [if_pos e2, if_pos (by omega)]
            · rw [if_neg e2, if_neg (by omega)]
      · skip
        refine CW_skip ?_
        refine EW_block_normal ?_
        refine EW_then ?_
        refine CW_region ?_
        first | refine OW_q (q_inc rfl rfl (by omega)) rfl ?_ | refine OW_q (q_add rfl rfl (by omega) (by omega)) rfl ?_
        refine OW_q (q_move rfl) rfl ?_
        refine OW_nil ?_
        refine EW_again ((i + 1, ys)) ⟨?_, ?_⟩ ⟨rfl, rfl, rfl, rfl, rfl, rfl, rfl, rfl, rfl, trivial⟩ (fun w hw => hw.sub (by (repeat (first | exact SubL.nil | exact Pick.head | apply Pick.tail | apply SubL.cons))))
        · show xr.length - (i + 1) < xr.length - i; omega
        · refine ⟨by show i + 1 ≤ _; omega, hysl, fun j => ?_⟩
          show ys[j]? = if j < i + 1 then _ else _
          rw [hyk j]
          by_cases e : i = j
          · subst e
            rw [if_neg (by omega), if_pos (by omega), ← hxi]
            show some _ = some (swapY a b y)
            unfold swapY
            have hf : y.term = true := by simpa using h50
            rw [if_pos hf]
          · by_cases e2 : j < i
            · rw [if_pos e2, if_pos (by omega)]
            · rw [if_neg e2, if_neg (by omega)]
    · skip
      refine CW_exit ?_
      refine EW_then_exit ?_
      refine EW_out ?_
      refine EW_block_exit ?_
      refine EW_block_normal ?_
      refine EW_then ?_
      refine CW_region ?_
      first | refine OW_q (q_inc rfl rfl (by omega)) rfl ?_ | refine OW_q (q_add rfl rfl (by omega) (by omega)) rfl ?_
      refine OW_q (q_move rfl) rfl ?_
      refine OW_nil ?_
      refine EW_weak (S' := Sat R w0 [cel bg 24 [.int .i64 t, .int .i64 n, .slice (some ⟨bo, 0, none⟩) rs.length co], rulesA (.slice (some ⟨bo, 0, none⟩) rs.length co) (rs1.set k ⟨⟨swapN a b xl, ys⟩, (.slice ax xr.length cx)⟩), symsA (rs1.set k ⟨⟨swapN a b xl, ys⟩, (.slice ax xr.length cx)⟩), cel b4 3 [.int .i64 a], cel b5 3 [.int .i64 b], F]) (fun w hw => by
        rw [rulesA_right (ys' := ys)] at hw
        exact hw) ?_
      refine EW_again ((k + 1, rs1.set k ⟨⟨swapN a b xl, ys⟩, (.slice ax xr.length cx)⟩)) ⟨?_, ?_⟩ ⟨rfl, rfl, rfl, rfl, rfl, trivial⟩ (fun w hw => hw.sub (by (repeat (first | exact SubL.nil | exact Pick.head | apply Pick.tail | apply SubL.cons))))
      · show rs.length - (k + 1) < rs.length - k; omega
      · refine ⟨by show k + 1 ≤ _; omega, by show (rs1.set k _).length = _; rw [List.length_set]; exact hrl, fun j => ?_⟩
        show (rs1.set k _)[j]? = if j < k + 1 then _ else _
        by_cases e : k = j
        · subst e
          rw [List.getElem?_set_self (by omega), if_pos (by omega)]
          have h1 := hrk k
          rw [if_neg (by omega), hkx] at h1
          rw [← h1]
          show some _ = some (swRV a b _)
          have hys : ys = xr.map (swapY a b) := by
            apply List.ext_getElem?
            intro z
            rw [hyk z, List.getElem?_map]
            split
            · rfl
            · have hie : xr.length ≤ i := by have := of_decide_eq_false h40; omega
              rw [List.getElem?_eq_none (by omega)]; rfl
          rw [hys]; rfl
        · rw [List.getElem?_set_ne e, hrk j]
          by_cases e2 : j < k
          · rw [if_pos e2, if_pos (by omega)]
          · rw [if_neg e2, if_neg (by omega)]
  · skip
    have hke : k = rs.length := by have := of_decide_eq_false h17; omega
    refine CW_exit ?_
    refine EW_then_exit ?_
    refine EW_out ?_
    refine EW_block_exit ?_
    refine end0 Try.results32 (fun w hw => ?_)
    have e : rs1 = rs.map (swRV a b) := by
      apply List.ext_getElem?
      intro j
      rw [hrk j, List.getElem?_map]
      split
      · rfl
      · rw [List.getElem?_eq_none (by omega)]; rfl
    rw [← e]
    exact ⟨(), rfl, trivial, hw.sub (by repeat (first | exact SubL.nil | exact Pick.head | apply Pick.tail | apply SubL.cons))⟩

end Go.Sy
