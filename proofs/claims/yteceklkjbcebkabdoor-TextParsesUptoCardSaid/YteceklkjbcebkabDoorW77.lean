/- How the program reads a grammar. No condition. -/
import Derived.Test.YteceklkjbcebkabDoorW76
namespace Go.Sy
open Go Go.RowKit Go.Proofs

theorem lift_mutD {P : Program} {R : Nat → Prop} {w0 w : World} {L1 : List HP} {f : FuncId} {vs : Array Value} {ι : Type} {V : ι → Value} {p : ι → Prop} {M0 : List HP} {M : ι → List HP} (hS : Sat R w0 (M0 ++ L1) w)
    (h : ∀ F, Sat R w0 (M0 ++ [F]) w → Calls P f vs w (fun e w' => ∃ x, e = .returned (V x) ∧ p x ∧ Sat R w0 (M x ++ [F]) w')) :
    Calls P f vs w (fun e w' => ∃ x, e = .returned (V x) ∧ (p x ∧ Sat R w0 (M x ++ L1) w')) := by
  have hS' : Sat R w0 (M0 ++ [stars L1]) w := hS.imp_ fun y hy => by
    obtain ⟨h1, h2, hd, e, ha, hb⟩ := (stars_append M0 L1 y).1 hy
    exact (stars_append M0 [stars L1] y).2 ⟨h1, h2, hd, e, ha, h2, emp0, dis_emp h2, (uni_emp h2).symm, hb, rfl⟩
  refine (h _ hS').mono fun e w' ⟨x, he, hp, hw⟩ => ⟨x, he, hp, hw.imp_ fun y hy => ?_⟩
  obtain ⟨h1, h2, hd, e, ha, h3, h4, _, e5, hL, e4⟩ := (stars_append (M x) [stars L1] y).1 hy
  have e6 : h4 = emp0 := e4
  subst e6
  rw [uni_emp] at e5
  subst e5
  exact (stars_append (M x) L1 y).2 ⟨h1, h2, hd, e, ha, hL⟩
theorem lineF_head {x : List UInt8} {g : Gram} {k : Nat} (h : k = 0) : lineF k x g = (headF x).map fun y => ⟨y.1, y.2, g.rules⟩ := by unfold lineF; rw [if_pos h]
theorem lineF_rule {x : List UInt8} {g : Gram} {k : Nat} (h : ¬ k = 0) : lineF k x g = (ruleF x).map fun r => ⟨g.terms, g.names, g.rules ++ [r]⟩ := by unfold lineF; rw [if_neg h]
set_option maxRecDepth 20000 in
theorem parse_any (l : List UInt8) (w : World) (hl : l.length ≤ 4000000000) (hG : Globs w) : Calls Tryd.prog 8 #[.string ⟨l.toArray⟩] w (fun e w' => ∃ x : Value × Gram × List RV × Int × Int, e = .returned (.tuple #[.agg #[.int .i64 x.2.1.terms, .int .i64 x.2.1.names, x.1], .agg #[.int .i64 x.2.2.2.1, .int .i64 x.2.2.2.2]]) ∧ (ParseR l x.2.1 x.2.2.2.1 x.2.2.2.2 ∧ plainR x.2.2.1 = x.2.1.rules) ∧ Sat (Old w) w [rulesA x.1 x.2.2.1, symsA x.2.2.1] w') := by
  have hW0 : 0 < (parts 10 l).length := List.length_pos_iff.2 (parts_ne 10 l)
  have hWl := parts_len 10 l
  refine calls_CW Tryd.func8 rfl Tryd.ntmps8 rfl (Sat.start w) ?_
  refine CW_seq ?_
  refine CW_region ?_
  refine OW_e (e_alloc Tryd.zeroValue24 rfl) rfl (fun b2 => ?_)
  refine OW_e (e_alloc Tryd.zeroValue31 rfl) rfl (fun b3 => ?_)
  refine OW_nil ?_
  refine EW_then ?_
  refine CW_seq ?_
  refine CW_region ?_
  refine OW_q (q_move rfl) rfl ?_
  refine OW_e (e_call Tryd.call20 rfl (fun w hw => lift_old (split_any l 10 w hl (hG.of hw)) hw)) rfl (fun x11 => ?_)
  refine OW_q (q_assign rfl) rfl ?_
  refine OW_nil ?_
  refine EW_then ?_
  refine CW_seq ?_
  refine CW_region ?_
  refine OW_q (q_move rfl) rfl ?_
  refine OW_q (q_len Tryd.underlying40 rfl) rfl ?_
  refine OW_q (q_sub rfl rfl (by omega) (by omega)) rfl ?_
  refine OW_spell 14 (.int .i64 ((((parts 10 l).length - 1 : Nat)) : Int)) rfl (congrArg (Value.int .i64) (by omega)) ?_
  refine OW_q (q_assign rfl) rfl ?_
  refine OW_nil ?_
  refine EW_then ?_
  refine CW_seq ?_
  refine CW_region ?_
  refine OW_e (e_alloc Tryd.zeroValue24 rfl) rfl (fun b6 => ?_)
  refine OW_nil ?_
  refine EW_then ?_
  refine CW_seq ?_
  refine CW_seq ?_
  refine CW_region ?_
  refine OW_q (q_move rfl) rfl ?_
  refine OW_q (q_move rfl) rfl ?_
  refine OW_q (q_slice (l := 0) (h := (parts 10 l).length - 1) Tryd.underlying40 Tryd.sizeOf9 rfl (.inl ⟨rfl, rfl⟩) (.inr ⟨_, rfl, rfl⟩) (Nat.zero_le _) (by omega) (Nat.le_refl _)) rfl ?_
  refine OW_spell 17 (.slice (some ⟨x11, 0, none⟩) ((parts 10 l).length - 1) (parts 10 l).length) rfl (by rw [if_neg (by omega)]; rfl) ?_
  refine OW_q (q_len Tryd.underlying40 rfl) rfl ?_
  refine OW_q (q_move rfl) rfl ?_
  refine OW_nil ?_
  refine EW_then ?_
  refine CW_block ?_
  refine CW_weak (S' := Sat (Old w) w [cel b2 24 [.int .i64 0, .int .i64 0, .slice none 0 0], cel b3 31 [.int .i64 0, .int .i64 0], trow 9 1 encS (.slice (some ⟨x11, 0, none⟩) (parts 10 l).length (parts 10 l).length) (parts 10 l), cel b6 24 [.int .i64 0, .int .i64 0, .slice none 0 0], rulesA (.slice none 0 0) [], symsA []]) (fun w hw => ((hw.tnil 50 2 encRV).addEmp (A := symsA []) rfl).sub (by repeat (first | exact SubL.nil | exact Pick.head | apply Pick.tail | apply SubL.cons))) ?_
  refine CW_loopP (ι := Nat × Int × Int × Value × List RV) (fun i_ => i_.1 ≤ (parts 10 l).length - 1 ∧ i_.2.2.2.2.length ≤ i_.1 ∧ linesF (parts 10 l) i_.1 = some ⟨i_.2.1, i_.2.2.1, plainR i_.2.2.2.2⟩) (fun i_ => [(2, .pointer (some ⟨b2, 0, none⟩)), (3, .pointer (some ⟨b3, 0, none⟩)), (4, .slice (some ⟨x11, 0, none⟩) (parts 10 l).length (parts 10 l).length), (5, .int .i64 ((((parts 10 l).length - 1 : Nat)) : Int)), (6, .pointer (some ⟨b6, 0, none⟩)), (17, .slice (some ⟨x11, 0, none⟩) ((parts 10 l).length - 1) (parts 10 l).length), (18, .int .i64 ((((parts 10 l).length - 1 : Nat)) : Int)), (19, .int .i64 (i_.1 : Int))]) (fun i_ => Sat (Old w) w [cel b2 24 [.int .i64 0, .int .i64 0, .slice none 0 0], cel b3 31 [.int .i64 0, .int .i64 0], trow 9 1 encS (.slice (some ⟨x11, 0, none⟩) (parts 10 l).length (parts 10 l).length) (parts 10 l), cel b6 24 [.int .i64 i_.2.1, .int .i64 i_.2.2.1, i_.2.2.2.1], rulesA i_.2.2.2.1 i_.2.2.2.2, symsA i_.2.2.2.2]) (fun i_ => (parts 10 l).length - 1 - i_.1) (0, 0, 0, .slice none 0 0, []) ?_ ⟨rfl, rfl, rfl, rfl, rfl, rfl, rfl, rfl, trivial⟩ (fun w hw => hw.sub (by (repeat (first | exact SubL.nil | exact Pick.head | apply Pick.tail | apply SubL.cons)))) ?_
  · exact ⟨Nat.zero_le _, Nat.le_refl _, rfl⟩
  intro i_ hpre
  obtain ⟨k, tm, nm, ov, rs⟩ := i_
  replace hpre : k ≤ (parts 10 l).length - 1 ∧ rs.length ≤ k ∧ linesF (parts 10 l) k = some ⟨tm, nm, plainR rs⟩ := hpre
  change CW _ _ _ _ [(2, .pointer (some ⟨b2, 0, none⟩)), (3, .pointer (some ⟨b3, 0, none⟩)), (4, .slice (some ⟨x11, 0, none⟩) (parts 10 l).length (parts 10 l).length), (5, .int .i64 ((((parts 10 l).length - 1 : Nat)) : Int)), (6, .pointer (some ⟨b6, 0, none⟩)), (17, .slice (some ⟨x11, 0, none⟩) ((parts 10 l).length - 1) (parts 10 l).length), (18, .int .i64 ((((parts 10 l).length - 1 : Nat)) : Int)), (19, .int .i64 (k : Int))] (Sat (Old w) w [cel b2 24 [.int .i64 0, .int .i64 0, .slice none 0 0], cel b3 31 [.int .i64 0, .int .i64 0], trow 9 1 encS (.slice (some ⟨x11, 0, none⟩) (parts 10 l).length (parts 10 l).length) (parts 10 l), cel b6 24 [.int .i64 tm, .int .i64 nm, ov], rulesA ov rs, symsA rs])
  obtain ⟨hk, hrk, hlf⟩ := hpre
  refine CW_seq ?_
  refine CW_region ?_
  refine OW_q (q_lss rfl rfl) rfl ?_
  refine OW_nil ?_
  refine EW_then ?_
  refine CW_seq ?_
  refine CW_cond rfl (fun h20 => ?_) (fun h20 => ?_)
  · skip
    have hlt : k < (parts 10 l).length - 1 := by have := of_decide_eq_true h20; omega
    obtain ⟨x, hxk⟩ := get_of_lt (show k < (parts 10 l).length by omega)
    have hxl : x.length ≤ l.length := parts_mem (List.mem_of_getElem? hxk)
    refine CW_skip ?_
    refine EW_then ?_
    refine CW_seq ?_
    refine CW_block ?_
    refine CW_seq ?_
    refine CW_region ?_
    refine OW_q (q_move rfl) rfl ?_
    refine OW_q (q_indexAddr Tryd.underlying40 Tryd.sizeOf9 rfl rfl (by first | omega | assumption)) rfl ?_
    refine OW_q (q_load_t1 (enc := encS) (k := k) (v := .slice (some ⟨x11, 0, none⟩) (parts 10 l).length (parts 10 l).length) (l := (parts 10 l)) Tryd.isAgg9 (fun _ => rfl) rfl (by repeat (first | exact .head | apply Swap.tail)) rfl hxk rfl) rfl ?_
    refine OW_q (q_assign rfl) rfl ?_
    refine OW_q (q_assign rfl) rfl ?_
    refine OW_nil ?_
    refine EW_then ?_
    refine CW_seq ?_
    refine CW_region ?_
    refine OW_q (q_assign rfl) rfl ?_
    refine OW_nil ?_
    refine EW_then ?_
    refine CW_seq ?_
    refine CW_seq ?_
    refine CW_region ?_
    refine OW_q (q_move rfl) rfl ?_
    refine OW_q (q_eqi rfl rfl) rfl ?_
    refine OW_nil ?_
    refine EW_then ?_
    refine CW_cond rfl (fun h25 => ?_) (fun h25 => ?_)
    · skip
      have hk0 : k = 0 := by first | (simpa using h25) | (simp at h25; omega)
      refine CW_region ?_
      refine OW_q (q_assign rfl) rfl ?_
      refine OW_nil ?_
      refine EW_then ?_
      refine CW_seq ?_
      refine CW_region ?_
      refine OW_q (q_move rfl) rfl ?_
      refine OW_q (q_move rfl) rfl ?_
      refine OW_e (e_callv (f := 22) (first := []) (cap := []) Tryd.call22 rfl rfl (fun w hw => lift_mutD (M0 := [cel b6 24 [.int .i64 tm, .int .i64 nm, ov]]) (L1 := [cel b2 24 [.int .i64 0, .int .i64 0, .slice none 0 0], cel b3 31 [.int .i64 0, .int .i64 0], trow 9 1 encS (.slice (some ⟨x11, 0, none⟩) (parts 10 l).length (parts 10 l).length) (parts 10 l), rulesA ov rs, symsA rs]) (hw.sub (by repeat (first | exact SubL.nil | exact Pick.head | apply Pick.tail | apply SubL.cons))) (fun F hF => head_any b6 tm nm ov x _ w F (by omega) hG hF))) rfl (fun x28 => ?_)
      refine OW_pure fun hx28 => ?_
      obtain ⟨⟨t1, n1⟩, ok28⟩ := x28
      have hx28 : HeadR x ((t1, n1), ok28) := hx28
      refine OW_q (q_not rfl) rfl ?_
      refine OW_nil ?_
      refine EW_then ?_
      refine CW_cond rfl (fun h29 => ?_) (fun h29 => ?_)
      · skip
        refine CW_seq ?_
        refine CW_region ?_
        refine OW_q (q_build (ps := #[]) (v := .agg #[.int .i64 0, .int .i64 0, .slice none 0 0]) rfl (fun w => by kernel_rfl)) rfl ?_
        refine OW_q (q_move rfl) rfl ?_
        refine OW_q (q_build (ps := #[(0, .int .i64 2), (1, .int .i64 (k : Int))]) (v := .agg #[.int .i64 2, .int .i64 (k : Int)]) rfl (fun w => by kernel_rfl)) rfl ?_
        refine OW_e0 (e_storeN Tryd.sizeOf24 rfl rfl rfl rfl (by simp [Value.oneCell']) (by (repeat (first | exact .head | apply Swap.tail))) (by rfl)) (fun _ => ?_)
        refine OW_e0 (e_storeN Tryd.sizeOf31 rfl rfl rfl rfl (by simp [Value.oneCell']) (by (repeat (first | exact .head | apply Swap.tail))) (by rfl)) (fun _ => ?_)
        refine OW_nil ?_
        refine EW_then ?_
        refine CW_ret ?_
        refine EW_block_ret ?_
        refine EW_then_ret ?_
        refine EW_out_ret ?_
        refine EW_block_ret ?_
        refine EW_then_ret ?_
        refine retcc (vs := [.int .i64 0, .int .i64 0, .slice none 0 0]) (us := [.int .i64 2, .int .i64 (k : Int)]) Tryd.results8 Tryd.isAgg24 Tryd.sizeOf24 Tryd.isAgg31 Tryd.sizeOf31 rfl rfl rfl rfl (fun w hw j u hj => by rw [Addr.add_lit, hw.cell (t := 24) (cs := [.int .i64 0, .int .i64 0, .slice none 0 0]) (A' := cel b2 24 [.int .i64 0, .int .i64 0, .slice none 0 0]) (by repeat (first | exact .head | apply Swap.tail)), Nat.zero_add]; exact hj) (fun w hw j u hj => by rw [Addr.add_lit, hw.cell (t := 31) (cs := [.int .i64 2, .int .i64 (k : Int)]) (A' := cel b3 31 [.int .i64 2, .int .i64 (k : Int)]) (by repeat (first | exact .head | apply Swap.tail)), Nat.zero_add]; exact hj) (fun w hw => ?_)
        refine ⟨(.slice none 0 0, ⟨0, 0, []⟩, [], 2, k), rfl, ⟨.inl ⟨k, _, x, hlt, hlf, hxk, by rw [lineF_head hk0, hx28.2 (by simpa using h29)]; rfl, rfl, rfl, rfl⟩, rfl⟩, ((hw.tnil 50 2 encRV).addEmp (A := symsA []) rfl).sub (by repeat (first | exact SubL.nil | exact Pick.head | apply Pick.tail | apply SubL.cons))⟩
      · skip
        refine CW_skip ?_
        refine EW_block_normal ?_
        refine EW_then ?_
        refine CW_region ?_
        first | refine OW_q (q_inc rfl rfl (by omega)) rfl ?_ | refine OW_q (q_add rfl rfl (by omega) (by omega)) rfl ?_
        refine OW_q (q_move rfl) rfl ?_
        refine OW_nil ?_
        refine EW_again ((k + 1, t1, n1, ov, rs)) ⟨?_, ?_⟩ ⟨rfl, rfl, rfl, rfl, rfl, rfl, rfl, rfl, trivial⟩ (fun w hw => hw.sub (by (repeat (first | exact SubL.nil | exact Pick.head | apply Pick.tail | apply SubL.cons))))
        · show (parts 10 l).length - 1 - (k + 1) < (parts 10 l).length - 1 - k; omega
        · refine ⟨by show k + 1 ≤ _; omega, by show rs.length ≤ _; omega, ?_⟩
          show linesF _ (k + 1) = _
          have hok : ok28 = true := by simpa using h29
          rw [linesF_next hlf hxk, lineF_head hk0, hx28.1 hok]; rfl
    · skip
      have hk0 : ¬ k = 0 := fun e => by subst e; simp at h25
      refine CW_skip ?_
      refine EW_then ?_
      refine CW_seq ?_
      refine CW_region ?_
      refine OW_q (q_move rfl) rfl ?_
      refine OW_q (q_move rfl) rfl ?_
      refine OW_e (e_callv (f := 21) (first := []) (cap := []) Tryd.call21 rfl rfl (fun w hw => lift_mutD (M0 := [cel b6 24 [.int .i64 tm, .int .i64 nm, ov], rulesA ov rs, symsA rs]) (L1 := [cel b2 24 [.int .i64 0, .int .i64 0, .slice none 0 0], cel b3 31 [.int .i64 0, .int .i64 0], trow 9 1 encS (.slice (some ⟨x11, 0, none⟩) (parts 10 l).length (parts 10 l).length) (parts 10 l)]) (hw.sub (by repeat (first | exact SubL.nil | exact Pick.head | apply Pick.tail | apply SubL.cons))) (fun F hF => rule_any b6 tm nm ov rs x _ w F (by omega) (by omega) hG hF))) rfl (fun x28 => ?_)
      refine OW_pure fun hx28 => ?_
      obtain ⟨ok28, ov1, rs1⟩ := x28
      obtain ⟨hx28, hrl1⟩ := hx28
      have hx28 : RuleR x rs (ok28, ov1, rs1) := hx28
      have hrl1 : rs1.length = rs.length + 1 := hrl1
      refine OW_q (q_not rfl) rfl ?_
      refine OW_nil ?_
      refine EW_then ?_
      refine CW_cond rfl (fun h29 => ?_) (fun h29 => ?_)
      · skip
        refine CW_seq ?_
        refine CW_region ?_
        refine OW_q (q_build (ps := #[]) (v := .agg #[.int .i64 0, .int .i64 0, .slice none 0 0]) rfl (fun w => by kernel_rfl)) rfl ?_
        refine OW_q (q_move rfl) rfl ?_
        refine OW_q (q_build (ps := #[(0, .int .i64 2), (1, .int .i64 (k : Int))]) (v := .agg #[.int .i64 2, .int .i64 (k : Int)]) rfl (fun w => by kernel_rfl)) rfl ?_
        refine OW_e0 (e_storeN Tryd.sizeOf24 rfl rfl rfl rfl (by simp [Value.oneCell']) (by (repeat (first | exact .head | apply Swap.tail))) (by rfl)) (fun _ => ?_)
        refine OW_e0 (e_storeN Tryd.sizeOf31 rfl rfl rfl rfl (by simp [Value.oneCell']) (by (repeat (first | exact .head | apply Swap.tail))) (by rfl)) (fun _ => ?_)
        refine OW_nil ?_
        refine EW_then ?_
        refine CW_ret ?_
        refine EW_block_ret ?_
        refine EW_then_ret ?_
        refine EW_out_ret ?_
        refine EW_block_ret ?_
        refine EW_then_ret ?_
        refine retcc (vs := [.int .i64 0, .int .i64 0, .slice none 0 0]) (us := [.int .i64 2, .int .i64 (k : Int)]) Tryd.results8 Tryd.isAgg24 Tryd.sizeOf24 Tryd.isAgg31 Tryd.sizeOf31 rfl rfl rfl rfl (fun w hw j u hj => by rw [Addr.add_lit, hw.cell (t := 24) (cs := [.int .i64 0, .int .i64 0, .slice none 0 0]) (A' := cel b2 24 [.int .i64 0, .int .i64 0, .slice none 0 0]) (by repeat (first | exact .head | apply Swap.tail)), Nat.zero_add]; exact hj) (fun w hw j u hj => by rw [Addr.add_lit, hw.cell (t := 31) (cs := [.int .i64 2, .int .i64 (k : Int)]) (A' := cel b3 31 [.int .i64 2, .int .i64 (k : Int)]) (by repeat (first | exact .head | apply Swap.tail)), Nat.zero_add]; exact hj) (fun w hw => ?_)
        refine ⟨(.slice none 0 0, ⟨0, 0, []⟩, [], 2, k), rfl, ⟨.inl ⟨k, _, x, hlt, hlf, hxk, by rw [lineF_rule hk0, hx28.2 (by simpa using h29)]; rfl, rfl, rfl, rfl⟩, rfl⟩, ((hw.tnil 50 2 encRV).addEmp (A := symsA []) rfl).sub (by repeat (first | exact SubL.nil | exact Pick.head | apply Pick.tail | apply SubL.cons))⟩
      · skip
        refine CW_skip ?_
        refine EW_block_normal ?_
        refine EW_then ?_
        refine CW_region ?_
        first | refine OW_q (q_inc rfl rfl (by omega)) rfl ?_ | refine OW_q (q_add rfl rfl (by omega) (by omega)) rfl ?_
        refine OW_q (q_move rfl) rfl ?_
        refine OW_nil ?_
        refine EW_again ((k + 1, tm, nm, ov1, rs1)) ⟨?_, ?_⟩ ⟨rfl, rfl, rfl, rfl, rfl, rfl, rfl, rfl, trivial⟩ (fun w hw => hw.sub (by (repeat (first | exact SubL.nil | exact Pick.head | apply Pick.tail | apply SubL.cons))))
        · show (parts 10 l).length - 1 - (k + 1) < (parts 10 l).length - 1 - k; omega
        · refine ⟨by show k + 1 ≤ _; omega, by show rs1.length ≤ _; omega, ?_⟩
          show linesF _ (k + 1) = some ⟨tm, nm, plainR rs1⟩
          have hok : ok28 = true := by simpa using h29
          obtain ⟨r, h1, h2⟩ := hx28.1 hok
          rw [linesF_next hlf hxk, lineF_rule hk0, h1, show plainR rs1 = plainR rs ++ [r] from h2]; rfl
  · skip
    have hke : k = (parts 10 l).length - 1 := by have := of_decide_eq_false h20; omega
    subst hke
    obtain ⟨xl, hxl⟩ := get_of_lt (show (parts 10 l).length - 1 < (parts 10 l).length by omega)
    refine CW_fact (fun w hw => hw.tform (v := ov) (l := rs) (enc := encRV) (by repeat (first | exact .head | apply Swap.tail))) (fun hf => ?_)
    obtain ⟨ao, co, rfl, _, _, hbo⟩ := hf
    refine CW_exit ?_
    refine EW_then_exit ?_
    refine EW_out ?_
    refine EW_block_exit ?_
    refine EW_then ?_
    refine CW_seq ?_
    refine CW_seq ?_
    refine CW_region ?_
    refine OW_q (q_move rfl) rfl ?_
    refine OW_q (q_move rfl) rfl ?_
    refine OW_q (q_indexAddr Tryd.underlying40 Tryd.sizeOf9 rfl rfl (by omega)) rfl ?_
    refine OW_q (q_load_t1 (enc := encS) (k := (parts 10 l).length - 1) (v := .slice (some ⟨x11, 0, none⟩) (parts 10 l).length (parts 10 l).length) (l := (parts 10 l)) Tryd.isAgg9 (fun _ => rfl) rfl (by repeat (first | exact .head | apply Swap.tail)) rfl hxl rfl) rfl ?_
    refine OW_q (q_neS (a := xl) (b := []) rfl rfl) rfl ?_
    refine OW_q (q_move rfl) rfl ?_
    refine OW_part (t := 39) rfl (fun hg39 => ?_) (fun hg39 => ?_)
    · skip
      refine OW_skip rfl rfl rfl rfl ?_
      refine OW_skip rfl rfl rfl rfl ?_
      refine OW_q (q_pick_t rfl rfl) rfl ?_
      refine OW_q (q_move rfl) rfl ?_
      refine OW_skip rfl rfl rfl rfl ?_
      refine OW_skip rfl rfl rfl rfl ?_
      refine OW_skip rfl rfl rfl rfl ?_
      refine OW_q (q_pick_t rfl rfl) rfl ?_
      refine OW_nil ?_
      refine EW_then ?_
      refine CW_true rfl rfl ?_
      refine CW_seq ?_
      refine CW_region ?_
      refine OW_q (q_build (ps := #[]) (v := .agg #[.int .i64 0, .int .i64 0, .slice none 0 0]) rfl (fun w => by kernel_rfl)) rfl ?_
      refine OW_q (q_move rfl) rfl ?_
      refine OW_q (q_build (ps := #[(0, .int .i64 2), (1, .int .i64 ((((parts 10 l).length - 1 : Nat)) : Int))]) (v := .agg #[.int .i64 2, .int .i64 ((((parts 10 l).length - 1 : Nat)) : Int)]) rfl (fun w => by kernel_rfl)) rfl ?_
      refine OW_e0 (e_storeN Tryd.sizeOf24 rfl rfl rfl rfl (by simp [Value.oneCell']) (by (repeat (first | exact .head | apply Swap.tail))) (by rfl)) (fun _ => ?_)
      refine OW_e0 (e_storeN Tryd.sizeOf31 rfl rfl rfl rfl (by simp [Value.oneCell']) (by (repeat (first | exact .head | apply Swap.tail))) (by rfl)) (fun _ => ?_)
      refine OW_nil ?_
      refine EW_then ?_
      refine CW_ret ?_
      refine EW_then_ret ?_
      refine retcc (vs := [.int .i64 0, .int .i64 0, .slice none 0 0]) (us := [.int .i64 2, .int .i64 ((((parts 10 l).length - 1 : Nat)) : Int)]) Tryd.results8 Tryd.isAgg24 Tryd.sizeOf24 Tryd.isAgg31 Tryd.sizeOf31 rfl rfl rfl rfl (fun w hw j u hj => by rw [Addr.add_lit, hw.cell (t := 24) (cs := [.int .i64 0, .int .i64 0, .slice none 0 0]) (A' := cel b2 24 [.int .i64 0, .int .i64 0, .slice none 0 0]) (by repeat (first | exact .head | apply Swap.tail)), Nat.zero_add]; exact hj) (fun w hw j u hj => by rw [Addr.add_lit, hw.cell (t := 31) (cs := [.int .i64 2, .int .i64 ((((parts 10 l).length - 1 : Nat)) : Int)]) (A' := cel b3 31 [.int .i64 2, .int .i64 ((((parts 10 l).length - 1 : Nat)) : Int)]) (by repeat (first | exact .head | apply Swap.tail)), Nat.zero_add]; exact hj) (fun w hw => ?_)
      refine ⟨(.slice none 0 0, ⟨0, 0, []⟩, [], 2, ((((parts 10 l).length - 1 : Nat)) : Int)), rfl, ⟨.inr ⟨_, hlf, .inr ⟨(by rintro ⟨e, _⟩; rw [hxl] at e; injection e with e; rw [e] at hg39; simp at hg39), rfl, rfl, rfl⟩⟩, rfl⟩, ((hw.tnil 50 2 encRV).addEmp (A := symsA []) rfl).sub (by repeat (first | exact SubL.nil | exact Pick.head | apply Pick.tail | apply SubL.cons))⟩
    · skip
      refine OW_wanted rfl rfl rfl ?_
      refine OW_q (q_move rfl) rfl ?_
      refine OW_wanted rfl rfl rfl ?_
      refine OW_q (q_eqi rfl rfl) rfl ?_
      refine OW_q (q_pick_f rfl rfl) rfl ?_
      refine OW_q (q_move rfl) rfl ?_
      refine OW_part (t := 43) rfl (fun hg43 => ?_) (fun hg43 => ?_)
      · skip
        refine OW_skip rfl rfl rfl rfl ?_
        refine OW_skip rfl rfl rfl rfl ?_
        refine OW_skip rfl rfl rfl rfl ?_
        refine OW_q (q_pick_t rfl rfl) rfl ?_
        refine OW_nil ?_
        refine EW_then ?_
        refine CW_true rfl rfl ?_
        refine CW_seq ?_
        refine CW_region ?_
        refine OW_q (q_build (ps := #[]) (v := .agg #[.int .i64 0, .int .i64 0, .slice none 0 0]) rfl (fun w => by kernel_rfl)) rfl ?_
        refine OW_q (q_move rfl) rfl ?_
        refine OW_q (q_build (ps := #[(0, .int .i64 2), (1, .int .i64 ((((parts 10 l).length - 1 : Nat)) : Int))]) (v := .agg #[.int .i64 2, .int .i64 ((((parts 10 l).length - 1 : Nat)) : Int)]) rfl (fun w => by kernel_rfl)) rfl ?_
        refine OW_e0 (e_storeN Tryd.sizeOf24 rfl rfl rfl rfl (by simp [Value.oneCell']) (by (repeat (first | exact .head | apply Swap.tail))) (by rfl)) (fun _ => ?_)
        refine OW_e0 (e_storeN Tryd.sizeOf31 rfl rfl rfl rfl (by simp [Value.oneCell']) (by (repeat (first | exact .head | apply Swap.tail))) (by rfl)) (fun _ => ?_)
        refine OW_nil ?_
        refine EW_then ?_
        refine CW_ret ?_
        refine EW_then_ret ?_
        refine retcc (vs := [.int .i64 0, .int .i64 0, .slice none 0 0]) (us := [.int .i64 2, .int .i64 ((((parts 10 l).length - 1 : Nat)) : Int)]) Tryd.results8 Tryd.isAgg24 Tryd.sizeOf24 Tryd.isAgg31 Tryd.sizeOf31 rfl rfl rfl rfl (fun w hw j u hj => by rw [Addr.add_lit, hw.cell (t := 24) (cs := [.int .i64 0, .int .i64 0, .slice none 0 0]) (A' := cel b2 24 [.int .i64 0, .int .i64 0, .slice none 0 0]) (by repeat (first | exact .head | apply Swap.tail)), Nat.zero_add]; exact hj) (fun w hw j u hj => by rw [Addr.add_lit, hw.cell (t := 31) (cs := [.int .i64 2, .int .i64 ((((parts 10 l).length - 1 : Nat)) : Int)]) (A' := cel b3 31 [.int .i64 2, .int .i64 ((((parts 10 l).length - 1 : Nat)) : Int)]) (by repeat (first | exact .head | apply Swap.tail)), Nat.zero_add]; exact hj) (fun w hw => ?_)
        refine ⟨(.slice none 0 0, ⟨0, 0, []⟩, [], 2, ((((parts 10 l).length - 1 : Nat)) : Int)), rfl, ⟨.inr ⟨_, hlf, .inr ⟨(by rintro ⟨_, e, _⟩; exact e (by simpa using hg43)), rfl, rfl, rfl⟩⟩, rfl⟩, ((hw.tnil 50 2 encRV).addEmp (A := symsA []) rfl).sub (by repeat (first | exact SubL.nil | exact Pick.head | apply Pick.tail | apply SubL.cons))⟩
      · skip
        refine OW_wanted rfl rfl rfl ?_
        first | (refine OW_q (q_loadN_own Tryd.isAgg24 Tryd.sizeOf24 rfl rfl (by (repeat (first | exact .head | apply Swap.tail))) (by rfl)) rfl ?_) | (refine OW_q (q_loadN_ro Tryd.isAgg24 Tryd.sizeOf24 rfl (by first | assumption | exact Row.at_ (by assumption) rfl) (by rfl)) rfl ?_)
        refine OW_wanted rfl rfl rfl ?_
        refine OW_e (e_call Tryd.call11 rfl (fun w hw => lift_ro (may_any _ ⟨tm, nm, plainR rs⟩ w (hw.gramIn (by repeat (first | exact .head | apply Swap.tail)) (by repeat (first | exact .head | apply Swap.tail)))) hw)) rfl (fun x45 => ?_)
        refine OW_wanted rfl rfl rfl ?_
        refine OW_q (q_not rfl) rfl ?_
        refine OW_q (q_pick_f rfl rfl) rfl ?_
        refine OW_nil ?_
        refine EW_then ?_
        refine CW_cond rfl (fun h47 => ?_) (fun h47 => ?_)
        · skip
          refine CW_seq ?_
          refine CW_region ?_
          refine OW_q (q_build (ps := #[]) (v := .agg #[.int .i64 0, .int .i64 0, .slice none 0 0]) rfl (fun w => by kernel_rfl)) rfl ?_
          refine OW_q (q_move rfl) rfl ?_
          refine OW_q (q_build (ps := #[(0, .int .i64 2), (1, .int .i64 ((((parts 10 l).length - 1 : Nat)) : Int))]) (v := .agg #[.int .i64 2, .int .i64 ((((parts 10 l).length - 1 : Nat)) : Int)]) rfl (fun w => by kernel_rfl)) rfl ?_
          refine OW_e0 (e_storeN Tryd.sizeOf24 rfl rfl rfl rfl (by simp [Value.oneCell']) (by (repeat (first | exact .head | apply Swap.tail))) (by rfl)) (fun _ => ?_)
          refine OW_e0 (e_storeN Tryd.sizeOf31 rfl rfl rfl rfl (by simp [Value.oneCell']) (by (repeat (first | exact .head | apply Swap.tail))) (by rfl)) (fun _ => ?_)
          refine OW_nil ?_
          refine EW_then ?_
          refine CW_ret ?_
          refine EW_then_ret ?_
          refine retcc (vs := [.int .i64 0, .int .i64 0, .slice none 0 0]) (us := [.int .i64 2, .int .i64 ((((parts 10 l).length - 1 : Nat)) : Int)]) Tryd.results8 Tryd.isAgg24 Tryd.sizeOf24 Tryd.isAgg31 Tryd.sizeOf31 rfl rfl rfl rfl (fun w hw j u hj => by rw [Addr.add_lit, hw.cell (t := 24) (cs := [.int .i64 0, .int .i64 0, .slice none 0 0]) (A' := cel b2 24 [.int .i64 0, .int .i64 0, .slice none 0 0]) (by repeat (first | exact .head | apply Swap.tail)), Nat.zero_add]; exact hj) (fun w hw j u hj => by rw [Addr.add_lit, hw.cell (t := 31) (cs := [.int .i64 2, .int .i64 ((((parts 10 l).length - 1 : Nat)) : Int)]) (A' := cel b3 31 [.int .i64 2, .int .i64 ((((parts 10 l).length - 1 : Nat)) : Int)]) (by repeat (first | exact .head | apply Swap.tail)), Nat.zero_add]; exact hj) (fun w hw => ?_)
          refine ⟨(.slice none 0 0, ⟨0, 0, []⟩, [], 2, ((((parts 10 l).length - 1 : Nat)) : Int)), rfl, ⟨.inr ⟨_, hlf, .inr ⟨(by rintro ⟨_, _, e⟩; rw [e] at h47; simp at h47), rfl, rfl, rfl⟩⟩, rfl⟩, ((hw.tnil 50 2 encRV).addEmp (A := symsA []) rfl).sub (by repeat (first | exact SubL.nil | exact Pick.head | apply Pick.tail | apply SubL.cons))⟩
        · skip
          refine CW_skip ?_
          refine EW_then ?_
          refine CW_seq ?_
          refine CW_region ?_
          first | (refine OW_q (q_loadN_own Tryd.isAgg24 Tryd.sizeOf24 rfl rfl (by (repeat (first | exact .head | apply Swap.tail))) (by rfl)) rfl ?_) | (refine OW_q (q_loadN_ro Tryd.isAgg24 Tryd.sizeOf24 rfl (by first | assumption | exact Row.at_ (by assumption) rfl) (by rfl)) rfl ?_)
          refine OW_q (q_build (ps := #[]) (v := .agg #[.int .i64 0, .int .i64 0]) rfl (fun w => by kernel_rfl)) rfl ?_
          refine OW_e0 (e_storeN Tryd.sizeOf24 rfl rfl rfl rfl (by simp [Value.oneCell']) (by (repeat (first | exact .head | apply Swap.tail))) (by rfl)) (fun _ => ?_)
          refine OW_e0 (e_storeN Tryd.sizeOf31 rfl rfl rfl rfl (by simp [Value.oneCell']) (by (repeat (first | exact .head | apply Swap.tail))) (by rfl)) (fun _ => ?_)
          refine OW_nil ?_
          refine EW_then ?_
          refine CW_ret ?_
          refine retcc (vs := [.int .i64 tm, .int .i64 nm, .slice ao rs.length co]) (us := [.int .i64 0, .int .i64 0]) Tryd.results8 Tryd.isAgg24 Tryd.sizeOf24 Tryd.isAgg31 Tryd.sizeOf31 rfl rfl rfl rfl (fun w hw j u hj => by rw [Addr.add_lit, hw.cell (t := 24) (cs := [.int .i64 tm, .int .i64 nm, .slice ao rs.length co]) (A' := cel b2 24 [.int .i64 tm, .int .i64 nm, .slice ao rs.length co]) (by repeat (first | exact .head | apply Swap.tail)), Nat.zero_add]; exact hj) (fun w hw j u hj => by rw [Addr.add_lit, hw.cell (t := 31) (cs := [.int .i64 0, .int .i64 0]) (A' := cel b3 31 [.int .i64 0, .int .i64 0]) (by repeat (first | exact .head | apply Swap.tail)), Nat.zero_add]; exact hj) (fun w hw => ?_)
          have e1 : xl = [] := by simpa using hg39
          refine ⟨(.slice ao rs.length co, ⟨tm, nm, plainR rs⟩, rs, 0, 0), rfl, ⟨.inr ⟨_, hlf, .inl ⟨⟨by rw [hxl, e1], fun e => ?_, by simpa using h47⟩, rfl, rfl, rfl⟩⟩, rfl⟩, hw.sub (by repeat (first | exact SubL.nil | exact Pick.head | apply Pick.tail | apply SubL.cons))⟩
          simp [e] at hg43

end Go.Sy
