/- How the answer reads a grammar. No condition. -/
import Derived.Test.YteceklkjbcebkabDoorW84
namespace Go.Sy
open Go Go.RowKit Go.Proofs

theorem symsF_bad {x : List UInt8} (h : symF x = none) : ∀ {L : List (List UInt8)}, x ∈ L → symsF L = none
  | y :: L, hm => by
    unfold symsF
    rcases List.mem_cons.1 hm with rfl | hm
    · rw [h]
    · rw [symsF_bad h hm]
      cases symF y <;> rfl
theorem leftF_nil {a : List UInt8} (h : a.length < 1) : leftF a = none := by
  rw [List.eq_nil_of_length_eq_zero (by omega : a.length = 0)]; rfl
theorem last_get {a : List UInt8} {b : UInt8} (h : a[a.length - 1]? = some b) : a.getLast? = some b := by rw [List.getLast?_eq_getElem?]; exact h
theorem leftF_no {a : List UInt8} {b : UInt8} (h : a[a.length - 1]? = some b) (hb : b ≠ 58) : leftF a = none := by
  unfold leftF
  rw [if_neg (by rw [last_get h]; exact fun e => hb (Option.some.inj e))]
theorem leftF_yes {a : List UInt8} (h : a[a.length - 1]? = some 58) : leftF a = match symF (a.take (a.length - 1)) with
    | some y => if y.term then none else some y.n
    | none => none := by
  unfold leftF
  rw [if_pos (last_get h), List.dropLast_eq_take]
  rfl
theorem ruleF_bad {l x : List UInt8} {r : List (List UInt8)} (h : parts 32 l = x :: r) (hx : leftF x = none) : ruleF l = none := by rw [ruleF_eq h, hx]
set_option maxRecDepth 20000 in
theorem parse9_any (l : List UInt8) (w : World) (hl : l.length ≤ 4000000000) : Calls Tryd.prog 9 #[.string ⟨l.toArray⟩] w (fun e w' => ∃ x : Value × Gram × List RV × Int × Int, e = .returned (.tuple #[.agg #[.int .i64 x.2.1.terms, .int .i64 x.2.1.names, x.1], .agg #[.int .i64 x.2.2.2.1, .int .i64 x.2.2.2.2]]) ∧ (ParseR l x.2.1 x.2.2.2.1 x.2.2.2.2 ∧ plainR x.2.2.1 = x.2.1.rules) ∧ Sat (Old w) w [rulesA x.1 x.2.2.1, symsA x.2.2.1] w') := by
  have hW0 : 0 < (parts 10 l).length := List.length_pos_iff.2 (parts_ne 10 l)
  have hWl := parts_len 10 l
  refine calls_CW Tryd.func9 rfl Tryd.ntmps9 rfl (Sat.start w) ?_
  refine CW_seq ?_
  refine CW_region ?_
  refine OW_e (e_alloc Tryd.zeroValue24 rfl) rfl (fun b2 => ?_)
  refine OW_e (e_alloc Tryd.zeroValue31 rfl) rfl (fun b3 => ?_)
  refine OW_nil ?_
  refine EW_then ?_
  refine CW_seq ?_
  refine CW_region ?_
  refine OW_q (q_move rfl) rfl ?_
  refine OW_e (e_call Tryd.call23 rfl (fun w hw => lift_old (split9_any l 10 w hl) hw)) rfl (fun x23 => ?_)
  refine OW_fact (fun w hw => hw.tform (v := x23) (l := (parts 10 l)) (enc := encS) (by repeat (first | exact .head | apply Swap.tail))) (fun hf => ?_)
  obtain ⟨a23, c23, rfl, _, _, hb23⟩ := hf
  obtain ⟨g23, rfl⟩ := hb23 hW0
  refine OW_q (q_assign rfl) rfl ?_
  refine OW_nil ?_
  refine EW_then ?_
  refine CW_seq ?_
  refine CW_region ?_
  refine OW_q (q_move rfl) rfl ?_
  refine OW_q (q_len Tryd.underlying40 rfl) rfl ?_
  refine OW_q (q_sub rfl rfl (by omega) (by omega)) rfl ?_
  refine OW_spell 26 (.int .i64 ((((parts 10 l).length - 1 : Nat)) : Int)) rfl (congrArg (Value.int .i64) (by omega)) ?_
  refine OW_q (q_assign rfl) rfl ?_
  refine OW_nil ?_
  refine EW_then ?_
  refine CW_seq ?_
  refine CW_region ?_
  refine OW_q (q_build (ps := #[]) (v := .agg #[.int .i64 0, .int .i64 0, .slice none 0 0]) rfl (fun w => by kernel_rfl)) rfl ?_
  refine OW_e (e_alloc Tryd.zeroValue24 rfl) rfl (fun b6 => ?_)
  refine OW_e0 (e_storeN Tryd.sizeOf24 rfl rfl rfl rfl (by simp [Value.oneCell']) (by (repeat (first | exact .head | apply Swap.tail))) (by rfl)) (fun _ => ?_)
  refine OW_nil ?_
  refine EW_then ?_
  refine CW_seq ?_
  refine CW_region ?_
  refine OW_q (q_build (ps := #[]) (v := .agg #[.int .i64 0, .int .i64 0, .slice none 0 0]) rfl (fun w => by kernel_rfl)) rfl ?_
  refine OW_e (e_alloc Tryd.zeroValue24 rfl) rfl (fun b7 => ?_)
  refine OW_e0 (e_storeN Tryd.sizeOf24 rfl rfl rfl rfl (by simp [Value.oneCell']) (by (repeat (first | exact .head | apply Swap.tail))) (by rfl)) (fun _ => ?_)
  refine OW_nil ?_
  refine EW_then ?_
  refine CW_seq ?_
  refine CW_seq ?_
  refine CW_region ?_
  refine OW_q (q_assign rfl) rfl ?_
  refine OW_nil ?_
  refine EW_then ?_
  refine CW_block ?_
  refine CW_weak (S' := Sat (Old w) w [cel b2 24 [.int .i64 0, .int .i64 0, .slice none 0 0], cel b3 31 [.int .i64 0, .int .i64 0], trow 9 1 encS (.slice (some ⟨g23, 0, none⟩) (parts 10 l).length c23) (parts 10 l), cel b6 24 [.int .i64 0, .int .i64 0, .slice none 0 0], cel b7 24 [.int .i64 0, .int .i64 0, .slice none 0 0], rulesA (.slice none 0 0) [], symsA []]) (fun w hw => ((hw.tnil 50 2 encRV).addEmp (A := symsA []) rfl).sub (by repeat (first | exact SubL.nil | exact Pick.head | apply Pick.tail | apply SubL.cons))) ?_
  refine CW_loopP (ι := Nat × Int × Int × Value × List RV) (fun i_ => i_.1 ≤ (parts 10 l).length - 1 ∧ i_.2.2.2.2.length ≤ i_.1 ∧ linesF (parts 10 l) i_.1 = some ⟨i_.2.1, i_.2.2.1, plainR i_.2.2.2.2⟩) (fun i_ => [(2, .pointer (some ⟨b2, 0, none⟩)), (3, .pointer (some ⟨b3, 0, none⟩)), (4, .slice (some ⟨g23, 0, none⟩) (parts 10 l).length c23), (5, .int .i64 ((((parts 10 l).length - 1 : Nat)) : Int)), (6, .pointer (some ⟨b6, 0, none⟩)), (7, .pointer (some ⟨b7, 0, none⟩)), (8, .int .i64 (i_.1 : Int))]) (fun i_ => Sat (Old w) w [cel b2 24 [.int .i64 0, .int .i64 0, .slice none 0 0], cel b3 31 [.int .i64 0, .int .i64 0], trow 9 1 encS (.slice (some ⟨g23, 0, none⟩) (parts 10 l).length c23) (parts 10 l), cel b6 24 [.int .i64 i_.2.1, .int .i64 i_.2.2.1, i_.2.2.2.1], cel b7 24 [.int .i64 0, .int .i64 0, .slice none 0 0], rulesA i_.2.2.2.1 i_.2.2.2.2, symsA i_.2.2.2.2]) (fun i_ => (parts 10 l).length - 1 - i_.1) (0, 0, 0, .slice none 0 0, []) ?_ ⟨rfl, rfl, rfl, rfl, rfl, rfl, rfl, trivial⟩ (fun w hw => hw.sub (by (repeat (first | exact SubL.nil | exact Pick.head | apply Pick.tail | apply SubL.cons)))) ?_
  · exact ⟨Nat.zero_le _, Nat.le_refl _, rfl⟩
  intro i_ hpre
  obtain ⟨k, tm, nm, ov, rs⟩ := i_
  replace hpre : k ≤ (parts 10 l).length - 1 ∧ rs.length ≤ k ∧ linesF (parts 10 l) k = some ⟨tm, nm, plainR rs⟩ := hpre
  change CW _ _ _ _ [(2, .pointer (some ⟨b2, 0, none⟩)), (3, .pointer (some ⟨b3, 0, none⟩)), (4, .slice (some ⟨g23, 0, none⟩) (parts 10 l).length c23), (5, .int .i64 ((((parts 10 l).length - 1 : Nat)) : Int)), (6, .pointer (some ⟨b6, 0, none⟩)), (7, .pointer (some ⟨b7, 0, none⟩)), (8, .int .i64 (k : Int))] (Sat (Old w) w [cel b2 24 [.int .i64 0, .int .i64 0, .slice none 0 0], cel b3 31 [.int .i64 0, .int .i64 0], trow 9 1 encS (.slice (some ⟨g23, 0, none⟩) (parts 10 l).length c23) (parts 10 l), cel b6 24 [.int .i64 tm, .int .i64 nm, ov], cel b7 24 [.int .i64 0, .int .i64 0, .slice none 0 0], rulesA ov rs, symsA rs])
  obtain ⟨hk, hrk, hlf⟩ := hpre
  refine CW_seq ?_
  refine CW_seq ?_
  refine CW_region ?_
  refine OW_q (q_move rfl) rfl ?_
  refine OW_q (q_move rfl) rfl ?_
  refine OW_q (q_lss rfl rfl) rfl ?_
  refine OW_nil ?_
  refine EW_then ?_
  refine CW_cond rfl (fun h31 => ?_) (fun h31 => ?_)
  · skip
    have hlt : k < (parts 10 l).length - 1 := by have := of_decide_eq_true h31; omega
    obtain ⟨x, hxk⟩ := get_of_lt (show k < (parts 10 l).length by omega)
    have hxl0 : x.length ≤ l.length := parts_mem (List.mem_of_getElem? hxk)
    refine CW_skip ?_
    refine EW_then ?_
    refine CW_seq ?_
    refine CW_block ?_
    refine CW_seq ?_
    refine CW_region ?_
    refine OW_q (q_move rfl) rfl ?_
    refine OW_q (q_move rfl) rfl ?_
    refine OW_q (q_indexAddr Tryd.underlying40 Tryd.sizeOf9 rfl rfl (by first | omega | assumption)) rfl ?_
    refine OW_q (q_load_t1 (enc := encS) (k := k) (v := .slice (some ⟨g23, 0, none⟩) (parts 10 l).length c23) (l := (parts 10 l)) Tryd.isAgg9 (fun _ => rfl) rfl (by repeat (first | exact .head | apply Swap.tail)) rfl hxk rfl) rfl ?_
    refine OW_e (e_call Tryd.call23 rfl (fun w hw => lift_old (split9_any x 32 w (by omega)) hw)) rfl (fun x38 => ?_)
    refine OW_fact (fun w hw => hw.tform (v := x38) (l := (parts 32 x)) (enc := encS) (by repeat (first | exact .head | apply Swap.tail))) (fun hf => ?_)
    obtain ⟨a38, c38, rfl, _, _, hb38⟩ := hf
    have hX0 : 0 < (parts 32 x).length := List.length_pos_iff.2 (parts_ne 32 x)
    have hXl := parts_len 32 x
    obtain ⟨g38, rfl⟩ := hb38 hX0
    refine OW_q (q_assign rfl) rfl ?_
    refine OW_nil ?_
    refine EW_then ?_
    refine CW_seq ?_
    refine CW_region ?_
    refine OW_q (q_move rfl) rfl ?_
    refine OW_q (q_build (ps := #[(0, .int .i64 2), (1, .int .i64 (k : Int))]) (v := .agg #[.int .i64 2, .int .i64 (k : Int)]) rfl (fun w => by kernel_rfl)) rfl ?_
    refine OW_e (e_alloc Tryd.zeroValue31 rfl) rfl (fun b10 => ?_)
    refine OW_e0 (e_storeN Tryd.sizeOf31 rfl rfl rfl rfl (by simp [Value.oneCell']) (by (repeat (first | exact .head | apply Swap.tail))) (by rfl)) (fun _ => ?_)
    refine OW_nil ?_
    refine EW_then ?_
    refine CW_seq ?_
    refine CW_seq ?_
    refine CW_region ?_
    refine OW_q (q_move rfl) rfl ?_
    refine OW_q (q_eqi rfl rfl) rfl ?_
    refine OW_nil ?_
    refine EW_then ?_
    refine CW_cond rfl (fun h42 => ?_) (fun h42 => ?_)
    · skip
      have hk0 : k = 0 := by first | (simpa using h42) | (simp at h42; omega)
      refine CW_seq ?_
      refine CW_seq ?_
      refine CW_region ?_
      refine OW_q (q_move rfl) rfl ?_
      refine OW_q (q_len Tryd.underlying40 rfl) rfl ?_
      refine OW_q (q_nei rfl rfl) rfl ?_
      refine OW_q (q_move rfl) rfl ?_
      refine OW_part (t := 46) rfl (fun hg46 => ?_) (fun hg46 => ?_)
      · skip
        refine OW_skip rfl rfl rfl rfl ?_
        refine OW_skip rfl rfl rfl rfl ?_
        refine OW_skip rfl rfl rfl rfl ?_
        refine OW_skip rfl rfl rfl rfl ?_
        refine OW_q (q_pick_t rfl rfl) rfl ?_
        refine OW_q (q_move rfl) rfl ?_
        refine OW_skip rfl rfl rfl rfl ?_
        refine OW_skip rfl rfl rfl rfl ?_
        refine OW_skip rfl rfl rfl rfl ?_
        refine OW_skip rfl rfl rfl rfl ?_
        refine OW_q (q_pick_t rfl rfl) rfl ?_
        refine OW_nil ?_
        refine EW_then ?_
        refine CW_true rfl rfl ?_
        refine CW_seq ?_
        refine CW_draw (Sat (Old w) w [cel b7 24 [.int .i64 0, .int .i64 0, .slice none 0 0], cel b10 31 [.int .i64 2, .int .i64 (k : Int)]]) 3 [(0, false), (1, false), (2, true), (3, true)] (by kernel_rfl) (Blind.then (Blind.then (Blind.then (Blind.block (Blind.then (Blind.again (Blind.block (Blind.then (Blind.body (by intro c w h; simp at h)))))))))) (by kernel_rfl) (fun w hw => hw.drew) ?_
        first | (refine DW_q rfl (fun w hw => hw.sub (by (repeat (first | exact SubL.nil | exact Pick.head | apply Pick.tail | apply SubL.cons)))) (q_loadN_own Tryd.isAgg24 Tryd.sizeOf24 rfl rfl (by (repeat (first | exact .head | apply Swap.tail))) (by rfl)) rfl ?_) | (refine DW_q rfl (fun w hw => hw.sub (by (repeat (first | exact SubL.nil | exact Pick.head | apply Pick.tail | apply SubL.cons)))) (q_loadN_ro Tryd.isAgg24 Tryd.sizeOf24 rfl (by first | assumption | exact Row.at_ (by assumption) rfl) (by rfl)) rfl ?_)
        first | (refine DW_q rfl (fun w hw => hw.sub (by (repeat (first | exact SubL.nil | exact Pick.head | apply Pick.tail | apply SubL.cons)))) (q_loadN_own Tryd.isAgg31 Tryd.sizeOf31 rfl rfl (by (repeat (first | exact .head | apply Swap.tail))) (by rfl)) rfl ?_) | (refine DW_q rfl (fun w hw => hw.sub (by (repeat (first | exact SubL.nil | exact Pick.head | apply Pick.tail | apply SubL.cons)))) (q_loadN_ro Tryd.isAgg31 Tryd.sizeOf31 rfl (by first | assumption | exact Row.at_ (by assumption) rfl) (by rfl)) rfl ?_)
        refine DW_e0 rfl (e_storeN Tryd.sizeOf24 rfl rfl rfl rfl (by simp [Value.oneCell']) (by (repeat (first | exact .head | apply Swap.tail))) (by rfl)) (fun _ w hw => by first | exact hw.sub (by (repeat (first | exact SubL.nil | exact Pick.head | apply Pick.tail | apply SubL.cons))) | exact hw.2.sub (by (repeat (first | exact SubL.nil | exact Pick.head | apply Pick.tail | apply SubL.cons)))) (fun _ => ?_)
        refine DW_z0 rfl (e_storeN Tryd.sizeOf31 rfl rfl rfl rfl (by simp [Value.oneCell']) (by (repeat (first | exact .head | apply Swap.tail))) (by rfl)) (fun _ => ?_)
        refine EW_then ?_
        refine CW_ret ?_
        refine EW_then_ret ?_
        refine EW_then_ret ?_
        refine EW_block_ret ?_
        refine EW_then_ret ?_
        refine EW_out_ret ?_
        refine EW_block_ret ?_
        refine EW_then_ret ?_
        refine retcc (vs := [.int .i64 0, .int .i64 0, .slice none 0 0]) (us := [.int .i64 2, .int .i64 (k : Int)]) Tryd.results9 Tryd.isAgg24 Tryd.sizeOf24 Tryd.isAgg31 Tryd.sizeOf31 rfl rfl rfl rfl (fun w hw j u hj => by rw [Addr.add_lit, hw.cell (t := 24) (cs := [.int .i64 0, .int .i64 0, .slice none 0 0]) (A' := cel b2 24 [.int .i64 0, .int .i64 0, .slice none 0 0]) (by repeat (first | exact .head | apply Swap.tail)), Nat.zero_add]; exact hj) (fun w hw j u hj => by rw [Addr.add_lit, hw.cell (t := 31) (cs := [.int .i64 2, .int .i64 (k : Int)]) (A' := cel b3 31 [.int .i64 2, .int .i64 (k : Int)]) (by repeat (first | exact .head | apply Swap.tail)), Nat.zero_add]; exact hj) (fun w hw => ?_)
        refine ⟨(.slice none 0 0, ⟨0, 0, []⟩, [], 2, k), rfl, ⟨.inl ⟨k, _, x, hlt, hlf, hxk, by rw [lineF_head hk0, show headF x = none from by exact headF_len (fun e => by simp [e] at hg46)]; rfl, rfl, rfl, rfl⟩, rfl⟩, ((hw.tnil 50 2 encRV).addEmp (A := symsA []) rfl).sub (by repeat (first | exact SubL.nil | exact Pick.head | apply Pick.tail | apply SubL.cons))⟩
      · skip
        have h46 : (((parts 32 x).length : Nat) : Int) = 4 := by simpa using hg46
        have hl4 : (parts 32 x).length = 4 := by omega
        obtain ⟨a, b, c, d, hws⟩ := four hl4
        have ha : (parts 32 x)[0]? = some a := by rw [hws]; rfl
        have hb : (parts 32 x)[1]? = some b := by rw [hws]; rfl
        have hc : (parts 32 x)[2]? = some c := by rw [hws]; rfl
        have hd : (parts 32 x)[3]? = some d := by rw [hws]; rfl
        refine OW_wanted rfl rfl rfl ?_
        refine OW_q (q_move rfl) rfl ?_
        refine OW_wanted rfl rfl rfl ?_
        refine OW_q (q_indexAddr Tryd.underlying40 Tryd.sizeOf9 rfl rfl (Nat.lt_of_lt_of_eq (by decide) hl4.symm)) rfl ?_
        refine OW_wanted rfl rfl rfl ?_
        refine OW_q (q_load_t1 (enc := encS) (k := 0) (v := .slice (some ⟨g38, 0, none⟩) (parts 32 x).length c38) (l := (parts 32 x)) Tryd.isAgg9 (fun _ => rfl) rfl (by repeat (first | exact .head | apply Swap.tail)) rfl ha rfl) rfl ?_
        refine OW_wanted rfl rfl rfl ?_
        refine OW_q (q_neS (a := a) (b := [116, 101, 114, 109, 115]) rfl rfl) rfl ?_
        refine OW_q (q_pick_f rfl rfl) rfl ?_
        refine OW_q (q_move rfl) rfl ?_
        refine OW_part (t := 52) rfl (fun hg52 => ?_) (fun hg52 => ?_)
        · skip
          refine OW_skip rfl rfl rfl rfl ?_
          refine OW_skip rfl rfl rfl rfl ?_
          refine OW_skip rfl rfl rfl rfl ?_
          refine OW_skip rfl rfl rfl rfl ?_
          refine OW_q (q_pick_t rfl rfl) rfl ?_
          refine OW_nil ?_
          refine EW_then ?_
          refine CW_true rfl rfl ?_
          refine CW_seq ?_
          refine CW_draw (Sat (Old w) w [cel b7 24 [.int .i64 0, .int .i64 0, .slice none 0 0], cel b10 31 [.int .i64 2, .int .i64 (k : Int)]]) 3 [(0, false), (1, false), (2, true), (3, true)] (by kernel_rfl) (Blind.then (Blind.then (Blind.then (Blind.block (Blind.then (Blind.again (Blind.block (Blind.then (Blind.body (by intro c w h; simp at h)))))))))) (by kernel_rfl) (fun w hw => hw.drew) ?_
          first | (refine DW_q rfl (fun w hw => hw.sub (by (repeat (first | exact SubL.nil | exact Pick.head | apply Pick.tail | apply SubL.cons)))) (q_loadN_own Tryd.isAgg24 Tryd.sizeOf24 rfl rfl (by (repeat (first | exact .head | apply Swap.tail))) (by rfl)) rfl ?_) | (refine DW_q rfl (fun w hw => hw.sub (by (repeat (first | exact SubL.nil | exact Pick.head | apply Pick.tail | apply SubL.cons)))) (q_loadN_ro Tryd.isAgg24 Tryd.sizeOf24 rfl (by first | assumption | exact Row.at_ (by assumption) rfl) (by rfl)) rfl ?_)
          first | (refine DW_q rfl (fun w hw => hw.sub (by (repeat (first | exact SubL.nil | exact Pick.head | apply Pick.tail | apply SubL.cons)))) (q_loadN_own Tryd.isAgg31 Tryd.sizeOf31 rfl rfl (by (repeat (first | exact .head | apply Swap.tail))) (by rfl)) rfl ?_) | (refine DW_q rfl (fun w hw => hw.sub (by (repeat (first | exact SubL.nil | exact Pick.head | apply Pick.tail | apply SubL.cons)))) (q_loadN_ro Tryd.isAgg31 Tryd.sizeOf31 rfl (by first | assumption | exact Row.at_ (by assumption) rfl) (by rfl)) rfl ?_)
          refine DW_e0 rfl (e_storeN Tryd.sizeOf24 rfl rfl rfl rfl (by simp [Value.oneCell']) (by (repeat (first | exact .head | apply Swap.tail))) (by rfl)) (fun _ w hw => by first | exact hw.sub (by (repeat (first | exact SubL.nil | exact Pick.head | apply Pick.tail | apply SubL.cons))) | exact hw.2.sub (by (repeat (first | exact SubL.nil | exact Pick.head | apply Pick.tail | apply SubL.cons)))) (fun _ => ?_)
          refine DW_z0 rfl (e_storeN Tryd.sizeOf31 rfl rfl rfl rfl (by simp [Value.oneCell']) (by (repeat (first | exact .head | apply Swap.tail))) (by rfl)) (fun _ => ?_)
          refine EW_then ?_
          refine CW_ret ?_
          refine EW_then_ret ?_
          refine EW_then_ret ?_
          refine EW_block_ret ?_
          refine EW_then_ret ?_
          refine EW_out_ret ?_
          refine EW_block_ret ?_
          refine EW_then_ret ?_
          refine retcc (vs := [.int .i64 0, .int .i64 0, .slice none 0 0]) (us := [.int .i64 2, .int .i64 (k : Int)]) Tryd.results9 Tryd.isAgg24 Tryd.sizeOf24 Tryd.isAgg31 Tryd.sizeOf31 rfl rfl rfl rfl (fun w hw j u hj => by rw [Addr.add_lit, hw.cell (t := 24) (cs := [.int .i64 0, .int .i64 0, .slice none 0 0]) (A' := cel b2 24 [.int .i64 0, .int .i64 0, .slice none 0 0]) (by repeat (first | exact .head | apply Swap.tail)), Nat.zero_add]; exact hj) (fun w hw j u hj => by rw [Addr.add_lit, hw.cell (t := 31) (cs := [.int .i64 2, .int .i64 (k : Int)]) (A' := cel b3 31 [.int .i64 2, .int .i64 (k : Int)]) (by repeat (first | exact .head | apply Swap.tail)), Nat.zero_add]; exact hj) (fun w hw => ?_)
          refine ⟨(.slice none 0 0, ⟨0, 0, []⟩, [], 2, k), rfl, ⟨.inl ⟨k, _, x, hlt, hlf, hxk, by rw [lineF_head hk0, show headF x = none from by rw [headF_eq hws, if_neg (by rintro ⟨e, _⟩; simp [e] at hg52)]]; rfl, rfl, rfl, rfl⟩, rfl⟩, ((hw.tnil 50 2 encRV).addEmp (A := symsA []) rfl).sub (by repeat (first | exact SubL.nil | exact Pick.head | apply Pick.tail | apply SubL.cons))⟩
        · skip
          refine OW_wanted rfl rfl rfl ?_
          refine OW_q (q_move rfl) rfl ?_
          refine OW_wanted rfl rfl rfl ?_
          refine OW_q (q_indexAddr Tryd.underlying40 Tryd.sizeOf9 rfl rfl (Nat.lt_of_lt_of_eq (by decide) hl4.symm)) rfl ?_
          refine OW_wanted rfl rfl rfl ?_
          refine OW_q (q_load_t1 (enc := encS) (k := 2) (v := .slice (some ⟨g38, 0, none⟩) (parts 32 x).length c38) (l := (parts 32 x)) Tryd.isAgg9 (fun _ => rfl) rfl (by repeat (first | exact .head | apply Swap.tail)) rfl hc rfl) rfl ?_
          refine OW_wanted rfl rfl rfl ?_
          refine OW_q (q_neS (a := c) (b := [110, 97, 109, 101, 115]) rfl rfl) rfl ?_
          refine OW_q (q_pick_f rfl rfl) rfl ?_
          refine OW_nil ?_
          refine EW_then ?_
          refine CW_cond rfl (fun h57 => ?_) (fun h57 => ?_)
          · skip
            refine CW_seq ?_
            refine CW_draw (Sat (Old w) w [cel b7 24 [.int .i64 0, .int .i64 0, .slice none 0 0], cel b10 31 [.int .i64 2, .int .i64 (k : Int)]]) 3 [(0, false), (1, false), (2, true), (3, true)] (by kernel_rfl) (Blind.then (Blind.then (Blind.then (Blind.block (Blind.then (Blind.again (Blind.block (Blind.then (Blind.body (by intro c w h; simp at h)))))))))) (by kernel_rfl) (fun w hw => hw.drew) ?_
            first | (refine DW_q rfl (fun w hw => hw.sub (by (repeat (first | exact SubL.nil | exact Pick.head | apply Pick.tail | apply SubL.cons)))) (q_loadN_own Tryd.isAgg24 Tryd.sizeOf24 rfl rfl (by (repeat (first | exact .head | apply Swap.tail))) (by rfl)) rfl ?_) | (refine DW_q rfl (fun w hw => hw.sub (by (repeat (first | exact SubL.nil | exact Pick.head | apply Pick.tail | apply SubL.cons)))) (q_loadN_ro Tryd.isAgg24 Tryd.sizeOf24 rfl (by first | assumption | exact Row.at_ (by assumption) rfl) (by rfl)) rfl ?_)
            first | (refine DW_q rfl (fun w hw => hw.sub (by (repeat (first | exact SubL.nil | exact Pick.head | apply Pick.tail | apply SubL.cons)))) (q_loadN_own Tryd.isAgg31 Tryd.sizeOf31 rfl rfl (by (repeat (first | exact .head | apply Swap.tail))) (by rfl)) rfl ?_) | (refine DW_q rfl (fun w hw => hw.sub (by (repeat (first | exact SubL.nil | exact Pick.head | apply Pick.tail | apply SubL.cons)))) (q_loadN_ro Tryd.isAgg31 Tryd.sizeOf31 rfl (by first | assumption | exact Row.at_ (by assumption) rfl) (by rfl)) rfl ?_)
            refine DW_e0 rfl (e_storeN Tryd.sizeOf24 rfl rfl rfl rfl (by simp [Value.oneCell']) (by (repeat (first | exact .head | apply Swap.tail))) (by rfl)) (fun _ w hw => by first | exact hw.sub (by (repeat (first | exact SubL.nil | exact Pick.head | apply Pick.tail | apply SubL.cons))) | exact hw.2.sub (by (repeat (first | exact SubL.nil | exact Pick.head | apply Pick.tail | apply SubL.cons)))) (fun _ => ?_)
            refine DW_z0 rfl (e_storeN Tryd.sizeOf31 rfl rfl rfl rfl (by simp [Value.oneCell']) (by (repeat (first | exact .head | apply Swap.tail))) (by rfl)) (fun _ => ?_)
            refine EW_then ?_
            refine CW_ret ?_
            refine EW_then_ret ?_
            refine EW_then_ret ?_
            refine EW_block_ret ?_
            refine EW_then_ret ?_
            refine EW_out_ret ?_
            refine EW_block_ret ?_
            refine EW_then_ret ?_
            refine retcc (vs := [.int .i64 0, .int .i64 0, .slice none 0 0]) (us := [.int .i64 2, .int .i64 (k : Int)]) Tryd.results9 Tryd.isAgg24 Tryd.sizeOf24 Tryd.isAgg31 Tryd.sizeOf31 rfl rfl rfl rfl (fun w hw j u hj => by rw [Addr.add_lit, hw.cell (t := 24) (cs := [.int .i64 0, .int .i64 0, .slice none 0 0]) (A' := cel b2 24 [.int .i64 0, .int .i64 0, .slice none 0 0]) (by repeat (first | exact .head | apply Swap.tail)), Nat.zero_add]; exact hj) (fun w hw j u hj => by rw [Addr.add_lit, hw.cell (t := 31) (cs := [.int .i64 2, .int .i64 (k : Int)]) (A' := cel b3 31 [.int .i64 2, .int .i64 (k : Int)]) (by repeat (first | exact .head | apply Swap.tail)), Nat.zero_add]; exact hj) (fun w hw => ?_)
            refine ⟨(.slice none 0 0, ⟨0, 0, []⟩, [], 2, k), rfl, ⟨.inl ⟨k, _, x, hlt, hlf, hxk, by rw [lineF_head hk0, show headF x = none from by rw [headF_eq hws, if_neg (by rintro ⟨_, e⟩; simp [e] at h57)]]; rfl, rfl, rfl, rfl⟩, rfl⟩, ((hw.tnil 50 2 encRV).addEmp (A := symsA []) rfl).sub (by repeat (first | exact SubL.nil | exact Pick.head | apply Pick.tail | apply SubL.cons))⟩
          · skip
            refine CW_skip ?_
            refine EW_then ?_
            refine CW_seq ?_
            refine CW_region ?_
            refine OW_q (q_move rfl) rfl ?_
            refine OW_q (q_indexAddr Tryd.underlying40 Tryd.sizeOf9 rfl rfl (Nat.lt_of_lt_of_eq (by decide) hl4.symm)) rfl ?_
            refine OW_q (q_load_t1 (enc := encS) (k := 1) (v := .slice (some ⟨g38, 0, none⟩) (parts 32 x).length c38) (l := (parts 32 x)) Tryd.isAgg9 (fun _ => rfl) rfl (by repeat (first | exact .head | apply Swap.tail)) rfl hb rfl) rfl ?_
            refine OW_e (e_call Tryd.call24 rfl (fun w hw => lift_oldP (number9_any b w (by have := parts_mem (c := 32) (l := x) (x := b) (by rw [hws]; simp); omega)) hw)) rfl (fun x64 => ?_)
            refine OW_pure fun hx64 => ?_
            obtain ⟨n64, ok64⟩ := x64
            have hx64 : NumR b (n64, ok64) := hx64
            refine OW_q (q_move rfl) rfl ?_
            refine OW_q (q_extract rfl rfl) rfl ?_
            refine OW_q (q_extract rfl rfl) rfl ?_
            refine OW_q (q_assign rfl) rfl ?_
            refine OW_q (q_assign rfl) rfl ?_
            refine OW_nil ?_
            refine EW_then ?_
            refine CW_seq ?_
            refine CW_region ?_
            refine OW_q (q_move rfl) rfl ?_
            refine OW_q (q_indexAddr Tryd.underlying40 Tryd.sizeOf9 rfl rfl (Nat.lt_of_lt_of_eq (by decide) hl4.symm)) rfl ?_
            refine OW_q (q_load_t1 (enc := encS) (k := 3) (v := .slice (some ⟨g38, 0, none⟩) (parts 32 x).length c38) (l := (parts 32 x)) Tryd.isAgg9 (fun _ => rfl) rfl (by repeat (first | exact .head | apply Swap.tail)) rfl hd rfl) rfl ?_
            refine OW_e (e_call Tryd.call24 rfl (fun w hw => lift_oldP (number9_any d w (by have := parts_mem (c := 32) (l := x) (x := d) (by rw [hws]; simp); omega)) hw)) rfl (fun x71 => ?_)
            refine OW_pure fun hx71 => ?_
            obtain ⟨n71, ok71⟩ := x71
            have hx71 : NumR d (n71, ok71) := hx71
            refine OW_q (q_move rfl) rfl ?_
            refine OW_q (q_extract rfl rfl) rfl ?_
            refine OW_q (q_extract rfl rfl) rfl ?_
            refine OW_q (q_assign rfl) rfl ?_
            refine OW_q (q_assign rfl) rfl ?_
            refine OW_nil ?_
            refine EW_then ?_
            refine CW_seq ?_
            refine CW_seq ?_
            refine CW_region ?_
            refine OW_q (q_move rfl) rfl ?_
            refine OW_q (q_not rfl) rfl ?_
            refine OW_q (q_move rfl) rfl ?_
            refine OW_part (t := 76) rfl (fun hg76 => ?_) (fun hg76 => ?_)
            · skip
              refine OW_skip rfl rfl rfl rfl ?_
              refine OW_skip rfl rfl rfl rfl ?_
              refine OW_q (q_pick_t rfl rfl) rfl ?_
              refine OW_nil ?_
              refine EW_then ?_
              refine CW_true rfl rfl ?_
              refine CW_seq ?_
              refine CW_draw (Sat (Old w) w [cel b7 24 [.int .i64 0, .int .i64 0, .slice none 0 0], cel b10 31 [.int .i64 2, .int .i64 (k : Int)]]) 3 [(0, false), (1, false), (2, true), (3, true)] (by kernel_rfl) (Blind.then (Blind.then (Blind.then (Blind.block (Blind.then (Blind.again (Blind.block (Blind.then (Blind.body (by intro c w h; simp at h)))))))))) (by kernel_rfl) (fun w hw => hw.drew) ?_
              first | (refine DW_q rfl (fun w hw => hw.sub (by (repeat (first | exact SubL.nil | exact Pick.head | apply Pick.tail | apply SubL.cons)))) (q_loadN_own Tryd.isAgg24 Tryd.sizeOf24 rfl rfl (by (repeat (first | exact .head | apply Swap.tail))) (by rfl)) rfl ?_) | (refine DW_q rfl (fun w hw => hw.sub (by (repeat (first | exact SubL.nil | exact Pick.head | apply Pick.tail | apply SubL.cons)))) (q_loadN_ro Tryd.isAgg24 Tryd.sizeOf24 rfl (by first | assumption | exact Row.at_ (by assumption) rfl) (by rfl)) rfl ?_)
              first | (refine DW_q rfl (fun w hw => hw.sub (by (repeat (first | exact SubL.nil | exact Pick.head | apply Pick.tail | apply SubL.cons)))) (q_loadN_own Tryd.isAgg31 Tryd.sizeOf31 rfl rfl (by (repeat (first | exact .head | apply Swap.tail))) (by rfl)) rfl ?_) | (refine DW_q rfl (fun w hw => hw.sub (by (repeat (first | exact SubL.nil | exact Pick.head | apply Pick.tail | apply SubL.cons)))) (q_loadN_ro Tryd.isAgg31 Tryd.sizeOf31 rfl (by first | assumption | exact Row.at_ (by assumption) rfl) (by rfl)) rfl ?_)
              refine DW_e0 rfl (e_storeN Tryd.sizeOf24 rfl rfl rfl rfl (by simp [Value.oneCell']) (by (repeat (first | exact .head | apply Swap.tail))) (by rfl)) (fun _ w hw => by first | exact hw.sub (by (repeat (first | exact SubL.nil | exact Pick.head | apply Pick.tail | apply SubL.cons))) | exact hw.2.sub (by (repeat (first | exact SubL.nil | exact Pick.head | apply Pick.tail | apply SubL.cons)))) (fun _ => ?_)
              refine DW_z0 rfl (e_storeN Tryd.sizeOf31 rfl rfl rfl rfl (by simp [Value.oneCell']) (by (repeat (first | exact .head | apply Swap.tail))) (by rfl)) (fun _ => ?_)
              refine EW_then ?_
              refine CW_ret ?_
              refine EW_then_ret ?_
              refine EW_then_ret ?_
              refine EW_block_ret ?_
              refine EW_then_ret ?_
              refine EW_out_ret ?_
              refine EW_block_ret ?_
              refine EW_then_ret ?_
              refine retcc (vs := [.int .i64 0, .int .i64 0, .slice none 0 0]) (us := [.int .i64 2, .int .i64 (k : Int)]) Tryd.results9 Tryd.isAgg24 Tryd.sizeOf24 Tryd.isAgg31 Tryd.sizeOf31 rfl rfl rfl rfl (fun w hw j u hj => by rw [Addr.add_lit, hw.cell (t := 24) (cs := [.int .i64 0, .int .i64 0, .slice none 0 0]) (A' := cel b2 24 [.int .i64 0, .int .i64 0, .slice none 0 0]) (by repeat (first | exact .head | apply Swap.tail)), Nat.zero_add]; exact hj) (fun w hw j u hj => by rw [Addr.add_lit, hw.cell (t := 31) (cs := [.int .i64 2, .int .i64 (k : Int)]) (A' := cel b3 31 [.int .i64 2, .int .i64 (k : Int)]) (by repeat (first | exact .head | apply Swap.tail)), Nat.zero_add]; exact hj) (fun w hw => ?_)
              have e1 : a = [116, 101, 114, 109, 115] := by simpa using hg52
              have e2 : c = [110, 97, 109, 101, 115] := by simpa using h57
              refine ⟨(.slice none 0 0, ⟨0, 0, []⟩, [], 2, k), rfl, ⟨.inl ⟨k, _, x, hlt, hlf, hxk, by rw [lineF_head hk0, show headF x = none from by rw [headF_eq hws, if_pos ⟨e1, e2⟩, hx64.2 (by simpa using hg76)]]; rfl, rfl, rfl, rfl⟩, rfl⟩, ((hw.tnil 50 2 encRV).addEmp (A := symsA []) rfl).sub (by repeat (first | exact SubL.nil | exact Pick.head | apply Pick.tail | apply SubL.cons))⟩
            · skip
              refine OW_wanted rfl rfl rfl ?_
              refine OW_q (q_move rfl) rfl ?_
              refine OW_wanted rfl rfl rfl ?_
              refine OW_q (q_not rfl) rfl ?_
              refine OW_q (q_pick_f rfl rfl) rfl ?_
              refine OW_nil ?_
              refine EW_then ?_
              refine CW_cond rfl (fun h79 => ?_) (fun h79 => ?_)
              · skip
                refine CW_seq ?_
                refine CW_draw (Sat (Old w) w [cel b7 24 [.int .i64 0, .int .i64 0, .slice none 0 0], cel b10 31 [.int .i64 2, .int .i64 (k : Int)]]) 3 [(0, false), (1, false), (2, true), (3, true)] (by kernel_rfl) (Blind.then (Blind.then (Blind.then (Blind.block (Blind.then (Blind.again (Blind.block (Blind.then (Blind.body (by intro c w h; simp at h)))))))))) (by kernel_rfl) (fun w hw => hw.drew) ?_
                first | (refine DW_q rfl (fun w hw => hw.sub (by (repeat (first | exact SubL.nil | exact Pick.head | apply Pick.tail | apply SubL.cons)))) (q_loadN_own Tryd.isAgg24 Tryd.sizeOf24 rfl rfl (by (repeat (first | exact .head | apply Swap.tail))) (by rfl)) rfl ?_) | (refine DW_q rfl (fun w hw => hw.sub (by (repeat (first | exact SubL.nil | exact Pick.head | apply Pick.tail | apply SubL.cons)))) (q_loadN_ro Tryd.isAgg24 Tryd.sizeOf24 rfl (by first | assumption | exact Row.at_ (by assumption) rfl) (by rfl)) rfl ?_)
                first | (refine DW_q rfl (fun w hw => hw.sub (by (repeat (first | exact SubL.nil | exact Pick.head | apply Pick.tail | apply SubL.cons)))) (q_loadN_own Tryd.isAgg31 Tryd.sizeOf31 rfl rfl (by (repeat (first | exact .head | apply Swap.tail))) (by rfl)) rfl ?_) | (refine DW_q rfl (fun w hw => hw.sub (by (repeat (first | exact SubL.nil | exact Pick.head | apply Pick.tail | apply SubL.cons)))) (q_loadN_ro Tryd.isAgg31 Tryd.sizeOf31 rfl (by first | assumption | exact Row.at_ (by assumption) rfl) (by rfl)) rfl ?_)
                refine DW_e0 rfl (e_storeN Tryd.sizeOf24 rfl rfl rfl rfl (by simp [Value.oneCell']) (by (repeat (first | exact .head | apply Swap.tail))) (by rfl)) (fun _ w hw => by first | exact hw.sub (by (repeat (first | exact SubL.nil | exact Pick.head | apply Pick.tail | apply SubL.cons))) | exact hw.2.sub (by (repeat (first | exact SubL.nil | exact Pick.head | apply Pick.tail | apply SubL.cons)))) (fun _ => ?_)
                refine DW_z0 rfl (e_storeN Tryd.sizeOf31 rfl rfl rfl rfl (by simp [Value.oneCell']) (by (repeat (first | exact .head | apply Swap.tail))) (by rfl)) (fun _ => ?_)
                refine EW_then ?_
                refine CW_ret ?_
                refine EW_then_ret ?_
                refine EW_then_ret ?_
                refine EW_block_ret ?_
                refine EW_then_ret ?_
                refine EW_out_ret ?_
                refine EW_block_ret ?_
                refine EW_then_ret ?_
                refine retcc (vs := [.int .i64 0, .int .i64 0, .slice none 0 0]) (us := [.int .i64 2, .int .i64 (k : Int)]) Tryd.results9 Tryd.isAgg24 Tryd.sizeOf24 Tryd.isAgg31 Tryd.sizeOf31 rfl rfl rfl rfl (fun w hw j u hj => by rw [Addr.add_lit, hw.cell (t := 24) (cs := [.int .i64 0, .int .i64 0, .slice none 0 0]) (A' := cel b2 24 [.int .i64 0, .int .i64 0, .slice none 0 0]) (by repeat (first | exact .head | apply Swap.tail)), Nat.zero_add]; exact hj) (fun w hw j u hj => by rw [Addr.add_lit, hw.cell (t := 31) (cs := [.int .i64 2, .int .i64 (k : Int)]) (A' := cel b3 31 [.int .i64 2, .int .i64 (k : Int)]) (by repeat (first | exact .head | apply Swap.tail)), Nat.zero_add]; exact hj) (fun w hw => ?_)
                have e1 : a = [116, 101, 114, 109, 115] := by simpa using hg52
                have e2 : c = [110, 97, 109, 101, 115] := by simpa using h57
                obtain ⟨m1, k1, k2⟩ := hx64.1 (by simpa using hg76)
                refine ⟨(.slice none 0 0, ⟨0, 0, []⟩, [], 2, k), rfl, ⟨.inl ⟨k, _, x, hlt, hlf, hxk, by rw [lineF_head hk0, show headF x = none from by rw [headF_eq hws, if_pos ⟨e1, e2⟩, k1, hx71.2 (by simpa using h79)]]; rfl, rfl, rfl, rfl⟩, rfl⟩, ((hw.tnil 50 2 encRV).addEmp (A := symsA []) rfl).sub (by repeat (first | exact SubL.nil | exact Pick.head | apply Pick.tail | apply SubL.cons))⟩
              · skip
                refine CW_skip ?_
                refine EW_then ?_
                refine CW_seq ?_
                refine CW_region ?_
                refine OW_q (q_move rfl) rfl ?_
                refine OW_q (q_fieldAddr Tryd.underlying24 rfl rfl Tryd.sizeOf3 rfl rfl) rfl ?_
                refine OW_e0 (e_store Tryd.sizeOf3 rfl rfl rfl rfl (by (repeat (first | exact .head | apply Swap.tail))) (by rfl)) (fun _ => ?_)
                refine OW_nil ?_
                refine EW_then ?_
                refine CW_seq ?_
                refine CW_region ?_
                refine OW_q (q_move rfl) rfl ?_
                refine OW_q (q_fieldAddr Tryd.underlying24 rfl rfl Tryd.sizeOf3 rfl rfl) rfl ?_
                refine OW_e0 (e_store Tryd.sizeOf3 rfl rfl rfl rfl (by (repeat (first | exact .head | apply Swap.tail))) (by rfl)) (fun _ => ?_)
                refine OW_nil ?_
                refine EW_then ?_
                refine CW_exit ?_
                refine EW_then_exit ?_
                refine EW_block_exit ?_
                refine EW_then ?_
                refine CW_region ?_
                refine OW_q (q_move rfl) rfl ?_
                first | refine OW_q (q_inc rfl rfl (by omega)) rfl ?_ | refine OW_q (q_add rfl rfl (by omega) (by omega)) rfl ?_
                refine OW_q (q_assign rfl) rfl ?_
                refine OW_nil ?_
                refine EW_again ((k + 1, n64, n71, ov, rs)) ⟨?_, ?_⟩ ⟨rfl, rfl, rfl, rfl, rfl, rfl, rfl, trivial⟩ (fun w hw => hw.sub (by (repeat (first | exact SubL.nil | exact Pick.head | apply Pick.tail | apply SubL.cons))))
                · show (parts 10 l).length - 1 - (k + 1) < (parts 10 l).length - 1 - k; omega
                · refine ⟨by show k + 1 ≤ _; omega, by show rs.length ≤ _; omega, ?_⟩
                  show linesF _ (k + 1) = some ⟨n64, n71, plainR rs⟩
                  have e1 : a = [116, 101, 114, 109, 115] := by simpa using hg52
                  have e2 : c = [110, 97, 109, 101, 115] := by simpa using h57
                  obtain ⟨m1, k1, k2⟩ := hx64.1 (by simpa using hg76)
                  obtain ⟨m2, k3, k4⟩ := hx71.1 (by simpa using h79)
                  rw [linesF_next hlf hxk, lineF_head hk0, headF_eq hws, if_pos ⟨e1, e2⟩, k1, k3, show n64 = m1 from k2, show n71 = m2 from k4]; rfl
    · skip
      have hk0 : ¬ k = 0 := fun e => by subst e; simp at h42
      obtain ⟨a, ws, hws⟩ : ∃ a ws, (parts 32 x) = a :: ws := by
        cases h : (parts 32 x) with
        | nil => exact absurd h (parts_ne 32 x)
        | cons a ws => exact ⟨a, ws, rfl⟩
      have ha : (parts 32 x)[0]? = some a := by rw [hws]; rfl
      have hal : a.length ≤ x.length := parts_mem (c := 32) (by rw [hws]; exact .head _)
      have hwd : (parts 32 x).drop 1 = ws := by rw [hws]; rfl
      refine CW_skip ?_
      refine EW_then ?_
      refine CW_seq ?_
      refine CW_region ?_
      refine OW_q (q_move rfl) rfl ?_
      refine OW_q (q_indexAddr Tryd.underlying40 Tryd.sizeOf9 rfl rfl (hX0)) rfl ?_
      refine OW_q (q_load_t1 (enc := encS) (k := 0) (v := .slice (some ⟨g38, 0, none⟩) (parts 32 x).length c38) (l := (parts 32 x)) Tryd.isAgg9 (fun _ => rfl) rfl (by repeat (first | exact .head | apply Swap.tail)) rfl ha rfl) rfl ?_
      refine OW_q (q_lenS Tryd.underlying9 rfl) rfl ?_
      refine OW_q (q_assign rfl) rfl ?_
      refine OW_nil ?_
      refine EW_then ?_
      refine CW_seq ?_
      refine CW_seq ?_
      refine CW_region ?_
      refine OW_q (q_move rfl) rfl ?_
      refine OW_q (q_lss rfl rfl) rfl ?_
      refine OW_q (q_move rfl) rfl ?_
      refine OW_part (t := 92) rfl (fun hg92 => ?_) (fun hg92 => ?_)
      · skip
        have hal1 : a.length < 1 := by have := of_decide_eq_true hg92; omega
        refine OW_skip rfl rfl rfl rfl ?_
        refine OW_skip rfl rfl rfl rfl ?_
        refine OW_skip rfl rfl rfl rfl ?_
        refine OW_skip rfl rfl rfl rfl ?_
        refine OW_skip rfl rfl rfl rfl ?_
        refine OW_skip rfl rfl rfl rfl ?_
        refine OW_skip rfl rfl rfl rfl ?_
        refine OW_q (q_pick_t rfl rfl) rfl ?_
        refine OW_nil ?_
        refine EW_then ?_
        refine CW_true rfl rfl ?_
        refine CW_seq ?_
        refine CW_draw (Sat (Old w) w [cel b7 24 [.int .i64 0, .int .i64 0, .slice none 0 0], cel b10 31 [.int .i64 2, .int .i64 (k : Int)]]) 3 [(0, false), (1, false), (2, true), (3, true)] (by kernel_rfl) (Blind.then (Blind.then (Blind.block (Blind.then (Blind.again (Blind.block (Blind.then (Blind.body (by intro c w h; simp at h))))))))) (by kernel_rfl) (fun w hw => hw.drew) ?_
        first | (refine DW_q rfl (fun w hw => hw.sub (by (repeat (first | exact SubL.nil | exact Pick.head | apply Pick.tail | apply SubL.cons)))) (q_loadN_own Tryd.isAgg24 Tryd.sizeOf24 rfl rfl (by (repeat (first | exact .head | apply Swap.tail))) (by rfl)) rfl ?_) | (refine DW_q rfl (fun w hw => hw.sub (by (repeat (first | exact SubL.nil | exact Pick.head | apply Pick.tail | apply SubL.cons)))) (q_loadN_ro Tryd.isAgg24 Tryd.sizeOf24 rfl (by first | assumption | exact Row.at_ (by assumption) rfl) (by rfl)) rfl ?_)
        first | (refine DW_q rfl (fun w hw => hw.sub (by (repeat (first | exact SubL.nil | exact Pick.head | apply Pick.tail | apply SubL.cons)))) (q_loadN_own Tryd.isAgg31 Tryd.sizeOf31 rfl rfl (by (repeat (first | exact .head | apply Swap.tail))) (by rfl)) rfl ?_) | (refine DW_q rfl (fun w hw => hw.sub (by (repeat (first | exact SubL.nil | exact Pick.head | apply Pick.tail | apply SubL.cons)))) (q_loadN_ro Tryd.isAgg31 Tryd.sizeOf31 rfl (by first | assumption | exact Row.at_ (by assumption) rfl) (by rfl)) rfl ?_)
        refine DW_e0 rfl (e_storeN Tryd.sizeOf24 rfl rfl rfl rfl (by simp [Value.oneCell']) (by (repeat (first | exact .head | apply Swap.tail))) (by rfl)) (fun _ w hw => by first | exact hw.sub (by (repeat (first | exact SubL.nil | exact Pick.head | apply Pick.tail | apply SubL.cons))) | exact hw.2.sub (by (repeat (first | exact SubL.nil | exact Pick.head | apply Pick.tail | apply SubL.cons)))) (fun _ => ?_)
        refine DW_z0 rfl (e_storeN Tryd.sizeOf31 rfl rfl rfl rfl (by simp [Value.oneCell']) (by (repeat (first | exact .head | apply Swap.tail))) (by rfl)) (fun _ => ?_)
        refine EW_then ?_
        refine CW_ret ?_
        refine EW_then_ret ?_
        refine EW_block_ret ?_
        refine EW_then_ret ?_
        refine EW_out_ret ?_
        refine EW_block_ret ?_
        refine EW_then_ret ?_
        refine retcc (vs := [.int .i64 0, .int .i64 0, .slice none 0 0]) (us := [.int .i64 2, .int .i64 (k : Int)]) Tryd.results9 Tryd.isAgg24 Tryd.sizeOf24 Tryd.isAgg31 Tryd.sizeOf31 rfl rfl rfl rfl (fun w hw j u hj => by rw [Addr.add_lit, hw.cell (t := 24) (cs := [.int .i64 0, .int .i64 0, .slice none 0 0]) (A' := cel b2 24 [.int .i64 0, .int .i64 0, .slice none 0 0]) (by repeat (first | exact .head | apply Swap.tail)), Nat.zero_add]; exact hj) (fun w hw j u hj => by rw [Addr.add_lit, hw.cell (t := 31) (cs := [.int .i64 2, .int .i64 (k : Int)]) (A' := cel b3 31 [.int .i64 2, .int .i64 (k : Int)]) (by repeat (first | exact .head | apply Swap.tail)), Nat.zero_add]; exact hj) (fun w hw => ?_)
        refine ⟨(.slice none 0 0, ⟨0, 0, []⟩, [], 2, k), rfl, ⟨.inl ⟨k, _, x, hlt, hlf, hxk, by rw [lineF_rule hk0, show ruleF x = none from ruleF_bad hws (leftF_nil hal1)]; rfl, rfl, rfl, rfl⟩, rfl⟩, ((hw.tnil 50 2 encRV).addEmp (A := symsA []) rfl).sub (by repeat (first | exact SubL.nil | exact Pick.head | apply Pick.tail | apply SubL.cons))⟩
      · skip
        have hal1 : ¬ a.length < 1 := by have := of_decide_eq_false hg92; omega
        obtain ⟨bl, hbl⟩ := get_of_lt (show a.length - 1 < a.length by omega)
        refine OW_wanted rfl rfl rfl ?_
        refine OW_q (q_move rfl) rfl ?_
        refine OW_wanted rfl rfl rfl ?_
        refine OW_q (q_indexAddr Tryd.underlying40 Tryd.sizeOf9 rfl rfl (hX0)) rfl ?_
        refine OW_wanted rfl rfl rfl ?_
        refine OW_q (q_load_t1 (enc := encS) (k := 0) (v := .slice (some ⟨g38, 0, none⟩) (parts 32 x).length c38) (l := (parts 32 x)) Tryd.isAgg9 (fun _ => rfl) rfl (by repeat (first | exact .head | apply Swap.tail)) rfl ha rfl) rfl ?_
        refine OW_wanted rfl rfl rfl ?_
        refine OW_q (q_move rfl) rfl ?_
        refine OW_wanted rfl rfl rfl ?_
        refine OW_q (q_sub rfl rfl (by omega) (by omega)) rfl ?_
        refine OW_spell 97 (.int .i64 ((a.length - 1 : Nat) : Int)) rfl (congrArg (Value.int .i64) (by omega)) ?_
        refine OW_wanted rfl rfl rfl ?_
        refine OW_q (q_idxS Tryd.underlying9 rfl rfl (hbl)) rfl ?_
        refine OW_wanted rfl rfl rfl ?_
        refine OW_q (q_nei rfl rfl) rfl ?_
        refine OW_q (q_pick_f rfl rfl) rfl ?_
        refine OW_nil ?_
        refine EW_then ?_
        refine CW_cond rfl (fun h100 => ?_) (fun h100 => ?_)
        · skip
          have hbn : bl ≠ 58 := by have e := byte_eq bl 58; rw [show (((58 : UInt8).toNat : Nat) : Int) = 58 from rfl] at e; simp only [bne, e] at h100; simpa using h100
          refine CW_seq ?_
          refine CW_draw (Sat (Old w) w [cel b7 24 [.int .i64 0, .int .i64 0, .slice none 0 0], cel b10 31 [.int .i64 2, .int .i64 (k : Int)]]) 3 [(0, false), (1, false), (2, true), (3, true)] (by kernel_rfl) (Blind.then (Blind.then (Blind.block (Blind.then (Blind.again (Blind.block (Blind.then (Blind.body (by intro c w h; simp at h))))))))) (by kernel_rfl) (fun w hw => hw.drew) ?_
          first | (refine DW_q rfl (fun w hw => hw.sub (by (repeat (first | exact SubL.nil | exact Pick.head | apply Pick.tail | apply SubL.cons)))) (q_loadN_own Tryd.isAgg24 Tryd.sizeOf24 rfl rfl (by (repeat (first | exact .head | apply Swap.tail))) (by rfl)) rfl ?_) | (refine DW_q rfl (fun w hw => hw.sub (by (repeat (first | exact SubL.nil | exact Pick.head | apply Pick.tail | apply SubL.cons)))) (q_loadN_ro Tryd.isAgg24 Tryd.sizeOf24 rfl (by first | assumption | exact Row.at_ (by assumption) rfl) (by rfl)) rfl ?_)
          first | (refine DW_q rfl (fun w hw => hw.sub (by (repeat (first | exact SubL.nil | exact Pick.head | apply Pick.tail | apply SubL.cons)))) (q_loadN_own Tryd.isAgg31 Tryd.sizeOf31 rfl rfl (by (repeat (first | exact .head | apply Swap.tail))) (by rfl)) rfl ?_) | (refine DW_q rfl (fun w hw => hw.sub (by (repeat (first | exact SubL.nil | exact Pick.head | apply Pick.tail | apply SubL.cons)))) (q_loadN_ro Tryd.isAgg31 Tryd.sizeOf31 rfl (by first | assumption | exact Row.at_ (by assumption) rfl) (by rfl)) rfl ?_)
          refine DW_e0 rfl (e_storeN Tryd.sizeOf24 rfl rfl rfl rfl (by simp [Value.oneCell']) (by (repeat (first | exact .head | apply Swap.tail))) (by rfl)) (fun _ w hw => by first | exact hw.sub (by (repeat (first | exact SubL.nil | exact Pick.head | apply Pick.tail | apply SubL.cons))) | exact hw.2.sub (by (repeat (first | exact SubL.nil | exact Pick.head | apply Pick.tail | apply SubL.cons)))) (fun _ => ?_)
          refine DW_z0 rfl (e_storeN Tryd.sizeOf31 rfl rfl rfl rfl (by simp [Value.oneCell']) (by (repeat (first | exact .head | apply Swap.tail))) (by rfl)) (fun _ => ?_)
          refine EW_then ?_
          refine CW_ret ?_
          refine EW_then_ret ?_
          refine EW_block_ret ?_
          refine EW_then_ret ?_
          refine EW_out_ret ?_
          refine EW_block_ret ?_
          refine EW_then_ret ?_
          refine retcc (vs := [.int .i64 0, .int .i64 0, .slice none 0 0]) (us := [.int .i64 2, .int .i64 (k : Int)]) Tryd.results9 Tryd.isAgg24 Tryd.sizeOf24 Tryd.isAgg31 Tryd.sizeOf31 rfl rfl rfl rfl (fun w hw j u hj => by rw [Addr.add_lit, hw.cell (t := 24) (cs := [.int .i64 0, .int .i64 0, .slice none 0 0]) (A' := cel b2 24 [.int .i64 0, .int .i64 0, .slice none 0 0]) (by repeat (first | exact .head | apply Swap.tail)), Nat.zero_add]; exact hj) (fun w hw j u hj => by rw [Addr.add_lit, hw.cell (t := 31) (cs := [.int .i64 2, .int .i64 (k : Int)]) (A' := cel b3 31 [.int .i64 2, .int .i64 (k : Int)]) (by repeat (first | exact .head | apply Swap.tail)), Nat.zero_add]; exact hj) (fun w hw => ?_)
          refine ⟨(.slice none 0 0, ⟨0, 0, []⟩, [], 2, k), rfl, ⟨.inl ⟨k, _, x, hlt, hlf, hxk, by rw [lineF_rule hk0, show ruleF x = none from ruleF_bad hws (leftF_no hbl hbn)]; rfl, rfl, rfl, rfl⟩, rfl⟩, ((hw.tnil 50 2 encRV).addEmp (A := symsA []) rfl).sub (by repeat (first | exact SubL.nil | exact Pick.head | apply Pick.tail | apply SubL.cons))⟩
        · skip
          have hby : bl = 58 := by have e := byte_eq bl 58; rw [show (((58 : UInt8).toNat : Nat) : Int) = 58 from rfl] at e; simp only [bne, e] at h100; simpa using h100
          have hbl : a[a.length - 1]? = some 58 := by rw [hbl, hby]
          refine CW_skip ?_
          refine EW_then ?_
          refine CW_seq ?_
          refine CW_region ?_
          refine OW_q (q_move rfl) rfl ?_
          refine OW_q (q_indexAddr Tryd.underlying40 Tryd.sizeOf9 rfl rfl (hX0)) rfl ?_
          refine OW_q (q_load_t1 (enc := encS) (k := 0) (v := .slice (some ⟨g38, 0, none⟩) (parts 32 x).length c38) (l := (parts 32 x)) Tryd.isAgg9 (fun _ => rfl) rfl (by repeat (first | exact .head | apply Swap.tail)) rfl ha rfl) rfl ?_
          refine OW_q (q_move rfl) rfl ?_
          refine OW_q (q_sub rfl rfl (by omega) (by omega)) rfl ?_
          refine OW_spell 108 (.int .i64 ((a.length - 1 : Nat) : Int)) rfl (congrArg (Value.int .i64) (by omega)) ?_
          refine OW_q (q_sliceS (s := a) (l := 0) (h := a.length - 1) Tryd.underlying9 rfl (.inl ⟨rfl, rfl⟩) (.inr ⟨_, rfl, rfl⟩) (by omega) (by omega)) rfl ?_
          refine OW_spell 109 (.string ⟨(a.take (a.length - 1)).toArray⟩) rfl (by rw [List.drop_zero]) ?_
          refine OW_e (e_call Tryd.call25 rfl (fun w hw => lift_oldP (reads9_any (a.take (a.length - 1)) w (by rw [List.length_take]; omega)) hw)) rfl (fun x110 => ?_)
          refine OW_pure fun hx110 => ?_
          obtain ⟨y110, ok110⟩ := x110
          have hx110 : SymR (a.take (a.length - 1)) (y110, ok110) := hx110
          refine OW_q (q_move rfl) rfl ?_
          refine OW_q (q_extract rfl rfl) rfl ?_
          refine OW_q (q_extract rfl rfl) rfl ?_
          refine OW_e (e_alloc Tryd.zeroValue53 rfl) rfl (fun b16 => ?_)
          refine OW_e0 (e_storeN Tryd.sizeOf53 rfl rfl rfl rfl (by simp [Value.oneCell']) (by (repeat (first | exact .head | apply Swap.tail))) (by rfl)) (fun _ => ?_)
          refine OW_q (q_assign rfl) rfl ?_
          refine OW_nil ?_
          refine EW_then ?_
          refine CW_seq ?_
          refine CW_seq ?_
          refine CW_region ?_
          refine OW_q (q_move rfl) rfl ?_
          refine OW_q (q_not rfl) rfl ?_
          refine OW_q (q_move rfl) rfl ?_
          refine OW_part (t := 115) rfl (fun hg115 => ?_) (fun hg115 => ?_)
          · skip
            refine OW_skip rfl rfl rfl rfl ?_
            refine OW_skip rfl rfl rfl rfl ?_
            refine OW_q (q_pick_t rfl rfl) rfl ?_
            refine OW_nil ?_
            refine EW_then ?_
            refine CW_true rfl rfl ?_
            refine CW_seq ?_
            refine CW_draw (Sat (Old w) w [cel b7 24 [.int .i64 0, .int .i64 0, .slice none 0 0], cel b10 31 [.int .i64 2, .int .i64 (k : Int)]]) 3 [(0, false), (1, false), (2, true), (3, true)] (by kernel_rfl) (Blind.then (Blind.then (Blind.block (Blind.then (Blind.again (Blind.block (Blind.then (Blind.body (by intro c w h; simp at h))))))))) (by kernel_rfl) (fun w hw => hw.drew) ?_
            first | (refine DW_q rfl (fun w hw => hw.sub (by (repeat (first | exact SubL.nil | exact Pick.head | apply Pick.tail | apply SubL.cons)))) (q_loadN_own Tryd.isAgg24 Tryd.sizeOf24 rfl rfl (by (repeat (first | exact .head | apply Swap.tail))) (by rfl)) rfl ?_) | (refine DW_q rfl (fun w hw => hw.sub (by (repeat (first | exact SubL.nil | exact Pick.head | apply Pick.tail | apply SubL.cons)))) (q_loadN_ro Tryd.isAgg24 Tryd.sizeOf24 rfl (by first | assumption | exact Row.at_ (by assumption) rfl) (by rfl)) rfl ?_)
            first | (refine DW_q rfl (fun w hw => hw.sub (by (repeat (first | exact SubL.nil | exact Pick.head | apply Pick.tail | apply SubL.cons)))) (q_loadN_own Tryd.isAgg31 Tryd.sizeOf31 rfl rfl (by (repeat (first | exact .head | apply Swap.tail))) (by rfl)) rfl ?_) | (refine DW_q rfl (fun w hw => hw.sub (by (repeat (first | exact SubL.nil | exact Pick.head | apply Pick.tail | apply SubL.cons)))) (q_loadN_ro Tryd.isAgg31 Tryd.sizeOf31 rfl (by first | assumption | exact Row.at_ (by assumption) rfl) (by rfl)) rfl ?_)
            refine DW_e0 rfl (e_storeN Tryd.sizeOf24 rfl rfl rfl rfl (by simp [Value.oneCell']) (by (repeat (first | exact .head | apply Swap.tail))) (by rfl)) (fun _ w hw => by first | exact hw.sub (by (repeat (first | exact SubL.nil | exact Pick.head | apply Pick.tail | apply SubL.cons))) | exact hw.2.sub (by (repeat (first | exact SubL.nil | exact Pick.head | apply Pick.tail | apply SubL.cons)))) (fun _ => ?_)
            refine DW_z0 rfl (e_storeN Tryd.sizeOf31 rfl rfl rfl rfl (by simp [Value.oneCell']) (by (repeat (first | exact .head | apply Swap.tail))) (by rfl)) (fun _ => ?_)
            refine EW_then ?_
            refine CW_ret ?_
            refine EW_then_ret ?_
            refine EW_block_ret ?_
            refine EW_then_ret ?_
            refine EW_out_ret ?_
            refine EW_block_ret ?_
            refine EW_then_ret ?_
            refine retcc (vs := [.int .i64 0, .int .i64 0, .slice none 0 0]) (us := [.int .i64 2, .int .i64 (k : Int)]) Tryd.results9 Tryd.isAgg24 Tryd.sizeOf24 Tryd.isAgg31 Tryd.sizeOf31 rfl rfl rfl rfl (fun w hw j u hj => by rw [Addr.add_lit, hw.cell (t := 24) (cs := [.int .i64 0, .int .i64 0, .slice none 0 0]) (A' := cel b2 24 [.int .i64 0, .int .i64 0, .slice none 0 0]) (by repeat (first | exact .head | apply Swap.tail)), Nat.zero_add]; exact hj) (fun w hw j u hj => by rw [Addr.add_lit, hw.cell (t := 31) (cs := [.int .i64 2, .int .i64 (k : Int)]) (A' := cel b3 31 [.int .i64 2, .int .i64 (k : Int)]) (by repeat (first | exact .head | apply Swap.tail)), Nat.zero_add]; exact hj) (fun w hw => ?_)
            refine ⟨(.slice none 0 0, ⟨0, 0, []⟩, [], 2, k), rfl, ⟨.inl ⟨k, _, x, hlt, hlf, hxk, by rw [lineF_rule hk0, show ruleF x = none from ruleF_bad hws (by rw [leftF_yes hbl, hx110.2 (by simpa using hg115)])]; rfl, rfl, rfl, rfl⟩, rfl⟩, ((hw.tnil 50 2 encRV).addEmp (A := symsA []) rfl).sub (by repeat (first | exact SubL.nil | exact Pick.head | apply Pick.tail | apply SubL.cons))⟩
          · skip
            refine OW_wanted rfl rfl rfl ?_
            refine OW_q (q_fieldAddr Tryd.underlying53 rfl rfl Tryd.sizeOf4 rfl rfl) rfl ?_
            refine OW_wanted rfl rfl rfl ?_
            first | (refine OW_q (q_load1_own Tryd.isAgg4 rfl rfl (by (repeat (first | exact .head | apply Swap.tail))) (by rfl)) rfl ?_) | (refine OW_q (q_load1_ro Tryd.isAgg4 rfl (by first | assumption | exact Row.at_ (by assumption) rfl)) rfl ?_)
            refine OW_q (q_pick_f rfl rfl) rfl ?_
            refine OW_nil ?_
            refine EW_then ?_
            refine CW_cond rfl (fun h118 => ?_) (fun h118 => ?_)
            · skip
              refine CW_seq ?_
              refine CW_draw (Sat (Old w) w [cel b7 24 [.int .i64 0, .int .i64 0, .slice none 0 0], cel b10 31 [.int .i64 2, .int .i64 (k : Int)]]) 3 [(0, false), (1, false), (2, true), (3, true)] (by kernel_rfl) (Blind.then (Blind.then (Blind.block (Blind.then (Blind.again (Blind.block (Blind.then (Blind.body (by intro c w h; simp at h))))))))) (by kernel_rfl) (fun w hw => hw.drew) ?_
              first | (refine DW_q rfl (fun w hw => hw.sub (by (repeat (first | exact SubL.nil | exact Pick.head | apply Pick.tail | apply SubL.cons)))) (q_loadN_own Tryd.isAgg24 Tryd.sizeOf24 rfl rfl (by (repeat (first | exact .head | apply Swap.tail))) (by rfl)) rfl ?_) | (refine DW_q rfl (fun w hw => hw.sub (by (repeat (first | exact SubL.nil | exact Pick.head | apply Pick.tail | apply SubL.cons)))) (q_loadN_ro Tryd.isAgg24 Tryd.sizeOf24 rfl (by first | assumption | exact Row.at_ (by assumption) rfl) (by rfl)) rfl ?_)
              first | (refine DW_q rfl (fun w hw => hw.sub (by (repeat (first | exact SubL.nil | exact Pick.head | apply Pick.tail | apply SubL.cons)))) (q_loadN_own Tryd.isAgg31 Tryd.sizeOf31 rfl rfl (by (repeat (first | exact .head | apply Swap.tail))) (by rfl)) rfl ?_) | (refine DW_q rfl (fun w hw => hw.sub (by (repeat (first | exact SubL.nil | exact Pick.head | apply Pick.tail | apply SubL.cons)))) (q_loadN_ro Tryd.isAgg31 Tryd.sizeOf31 rfl (by first | assumption | exact Row.at_ (by assumption) rfl) (by rfl)) rfl ?_)
              refine DW_e0 rfl (e_storeN Tryd.sizeOf24 rfl rfl rfl rfl (by simp [Value.oneCell']) (by (repeat (first | exact .head | apply Swap.tail))) (by rfl)) (fun _ w hw => by first | exact hw.sub (by (repeat (first | exact SubL.nil | exact Pick.head | apply Pick.tail | apply SubL.cons))) | exact hw.2.sub (by (repeat (first | exact SubL.nil | exact Pick.head | apply Pick.tail | apply SubL.cons)))) (fun _ => ?_)
              refine DW_z0 rfl (e_storeN Tryd.sizeOf31 rfl rfl rfl rfl (by simp [Value.oneCell']) (by (repeat (first | exact .head | apply Swap.tail))) (by rfl)) (fun _ => ?_)
              refine EW_then ?_
              refine CW_ret ?_
              refine EW_then_ret ?_
              refine EW_block_ret ?_
              refine EW_then_ret ?_
              refine EW_out_ret ?_
              refine EW_block_ret ?_
              refine EW_then_ret ?_
              refine retcc (vs := [.int .i64 0, .int .i64 0, .slice none 0 0]) (us := [.int .i64 2, .int .i64 (k : Int)]) Tryd.results9 Tryd.isAgg24 Tryd.sizeOf24 Tryd.isAgg31 Tryd.sizeOf31 rfl rfl rfl rfl (fun w hw j u hj => by rw [Addr.add_lit, hw.cell (t := 24) (cs := [.int .i64 0, .int .i64 0, .slice none 0 0]) (A' := cel b2 24 [.int .i64 0, .int .i64 0, .slice none 0 0]) (by repeat (first | exact .head | apply Swap.tail)), Nat.zero_add]; exact hj) (fun w hw j u hj => by rw [Addr.add_lit, hw.cell (t := 31) (cs := [.int .i64 2, .int .i64 (k : Int)]) (A' := cel b3 31 [.int .i64 2, .int .i64 (k : Int)]) (by repeat (first | exact .head | apply Swap.tail)), Nat.zero_add]; exact hj) (fun w hw => ?_)
              refine ⟨(.slice none 0 0, ⟨0, 0, []⟩, [], 2, k), rfl, ⟨.inl ⟨k, _, x, hlt, hlf, hxk, by rw [lineF_rule hk0, show ruleF x = none from ruleF_bad hws (by rw [leftF_yes hbl, hx110.1 (by simpa using hg115)]; show (if y110.term = true then _ else _) = _; rw [if_pos h118])]; rfl, rfl, rfl, rfl⟩, rfl⟩, ((hw.tnil 50 2 encRV).addEmp (A := symsA []) rfl).sub (by repeat (first | exact SubL.nil | exact Pick.head | apply Pick.tail | apply SubL.cons))⟩
            · skip
              have hleft : leftF a = some y110.n := by
                rw [leftF_yes hbl, hx110.1 (by simpa using hg115)]
                show (if y110.term = true then _ else _) = _
                rw [if_neg (by rw [h118]; decide)]
              refine CW_skip ?_
              refine EW_then ?_
              refine CW_seq ?_
              refine CW_region ?_
              refine OW_q (q_fieldAddr Tryd.underlying53 rfl rfl Tryd.sizeOf3 rfl rfl) rfl ?_
              first | (refine OW_q (q_load1_own Tryd.isAgg3 rfl rfl (by (repeat (first | exact .head | apply Swap.tail))) (by rfl)) rfl ?_) | (refine OW_q (q_load1_ro Tryd.isAgg3 rfl (by first | assumption | exact Row.at_ (by assumption) rfl)) rfl ?_)
              refine OW_q (q_build (ps := #[(0, .int .i64 y110.n)]) (v := .agg #[.int .i64 y110.n, .slice none 0 0]) rfl (fun w => by kernel_rfl)) rfl ?_
              refine OW_e (e_alloc Tryd.zeroValue50 rfl) rfl (fun b18 => ?_)
              refine OW_e0 (e_storeN Tryd.sizeOf50 rfl rfl rfl rfl (by simp [Value.oneCell']) (by (repeat (first | exact .head | apply Swap.tail))) (by rfl)) (fun _ => ?_)
              refine OW_nil ?_
              refine EW_then ?_
              refine CW_seq ?_
              refine CW_seq ?_
              refine CW_region ?_
              refine OW_q (q_assign rfl) rfl ?_
              refine OW_nil ?_
              refine EW_then ?_
              refine CW_block ?_
              refine CW_weak (S' := Sat (Old w) w [cel b18 50 [.int .i64 y110.n, .slice none 0 0], trow 53 2 encY (.slice none 0 0) [], trow 9 1 encS (.slice (some ⟨g38, 0, none⟩) (parts 32 x).length c38) (parts 32 x), cel b10 31 [.int .i64 2, .int .i64 (k : Int)], cel b2 24 [.int .i64 0, .int .i64 0, .slice none 0 0], cel b3 31 [.int .i64 0, .int .i64 0], trow 9 1 encS (.slice (some ⟨g23, 0, none⟩) (parts 10 l).length c23) (parts 10 l), cel b6 24 [.int .i64 tm, .int .i64 nm, ov], cel b7 24 [.int .i64 0, .int .i64 0, .slice none 0 0], rulesA ov rs, symsA rs]) (fun w hw => (hw.tnil 53 2 encY).sub (by repeat (first | exact SubL.nil | exact Pick.head | apply Pick.tail | apply SubL.cons))) ?_
              refine CW_loopP (ι := Nat × Value × List Sym) (fun i_ => i_.1 ≤ (parts 32 x).length - 1 ∧ i_.2.2.length = i_.1 ∧ symsF (((parts 32 x).drop 1).take i_.1) = some i_.2.2) (fun i_ => [(2, .pointer (some ⟨b2, 0, none⟩)), (3, .pointer (some ⟨b3, 0, none⟩)), (4, .slice (some ⟨g23, 0, none⟩) (parts 10 l).length c23), (5, .int .i64 ((((parts 10 l).length - 1 : Nat)) : Int)), (6, .pointer (some ⟨b6, 0, none⟩)), (7, .pointer (some ⟨b7, 0, none⟩)), (8, .int .i64 (k : Int)), (9, .slice (some ⟨g38, 0, none⟩) (parts 32 x).length c38), (10, .pointer (some ⟨b10, 0, none⟩)), (18, .pointer (some ⟨b18, 0, none⟩)), (19, .int .i64 ((i_.1 + 1 : Nat) : Int))]) (fun i_ => Sat (Old w) w [cel b18 50 [.int .i64 y110.n, i_.2.1], trow 53 2 encY i_.2.1 i_.2.2, trow 9 1 encS (.slice (some ⟨g38, 0, none⟩) (parts 32 x).length c38) (parts 32 x), cel b10 31 [.int .i64 2, .int .i64 (k : Int)], cel b2 24 [.int .i64 0, .int .i64 0, .slice none 0 0], cel b3 31 [.int .i64 0, .int .i64 0], trow 9 1 encS (.slice (some ⟨g23, 0, none⟩) (parts 10 l).length c23) (parts 10 l), cel b6 24 [.int .i64 tm, .int .i64 nm, ov], cel b7 24 [.int .i64 0, .int .i64 0, .slice none 0 0], rulesA ov rs, symsA rs]) (fun i_ => (parts 32 x).length - 1 - i_.1) (0, .slice none 0 0, []) ?_ ⟨rfl, rfl, rfl, rfl, rfl, rfl, rfl, rfl, rfl, rfl, rfl, trivial⟩ (fun w hw => hw.sub (by (repeat (first | exact SubL.nil | exact Pick.head | apply Pick.tail | apply SubL.cons)))) ?_
              · exact ⟨Nat.zero_le _, rfl, rfl⟩
              intro i_ hpre
              obtain ⟨j, yv, ys⟩ := i_
              replace hpre : j ≤ (parts 32 x).length - 1 ∧ ys.length = j ∧ symsF (((parts 32 x).drop 1).take j) = some ys := hpre
              change CW _ _ _ _ [(2, .pointer (some ⟨b2, 0, none⟩)), (3, .pointer (some ⟨b3, 0, none⟩)), (4, .slice (some ⟨g23, 0, none⟩) (parts 10 l).length c23), (5, .int .i64 ((((parts 10 l).length - 1 : Nat)) : Int)), (6, .pointer (some ⟨b6, 0, none⟩)), (7, .pointer (some ⟨b7, 0, none⟩)), (8, .int .i64 (k : Int)), (9, .slice (some ⟨g38, 0, none⟩) (parts 32 x).length c38), (10, .pointer (some ⟨b10, 0, none⟩)), (18, .pointer (some ⟨b18, 0, none⟩)), (19, .int .i64 ((j + 1 : Nat) : Int))] (Sat (Old w) w [cel b18 50 [.int .i64 y110.n, yv], trow 53 2 encY yv ys, trow 9 1 encS (.slice (some ⟨g38, 0, none⟩) (parts 32 x).length c38) (parts 32 x), cel b10 31 [.int .i64 2, .int .i64 (k : Int)], cel b2 24 [.int .i64 0, .int .i64 0, .slice none 0 0], cel b3 31 [.int .i64 0, .int .i64 0], trow 9 1 encS (.slice (some ⟨g23, 0, none⟩) (parts 10 l).length c23) (parts 10 l), cel b6 24 [.int .i64 tm, .int .i64 nm, ov], cel b7 24 [.int .i64 0, .int .i64 0, .slice none 0 0], rulesA ov rs, symsA rs])
              obtain ⟨hj, hyl, hys⟩ := hpre
              refine CW_seq ?_
              refine CW_seq ?_
              refine CW_region ?_
              refine OW_q (q_move rfl) rfl ?_
              refine OW_q (q_move rfl) rfl ?_
              refine OW_q (q_len Tryd.underlying40 rfl) rfl ?_
              refine OW_q (q_lss rfl rfl) rfl ?_
              refine OW_nil ?_
              refine EW_then ?_
              refine CW_cond rfl (fun h127 => ?_) (fun h127 => ?_)
              · skip
                have hltj : j < (parts 32 x).length - 1 := by have := of_decide_eq_true h127; omega
                obtain ⟨z, hzk⟩ := get_of_lt (show j + 1 < (parts 32 x).length by omega)
                have hzl : z.length ≤ x.length := parts_mem (List.mem_of_getElem? hzk)
                refine CW_skip ?_
                refine EW_then ?_
                refine CW_seq ?_
                refine CW_block ?_
                refine CW_seq ?_
                refine CW_region ?_
                refine OW_q (q_move rfl) rfl ?_
                refine OW_q (q_move rfl) rfl ?_
                refine OW_q (q_indexAddr Tryd.underlying40 Tryd.sizeOf9 rfl rfl (by omega)) rfl ?_
                refine OW_q (q_load_t1 (enc := encS) (k := j + 1) (v := .slice (some ⟨g38, 0, none⟩) (parts 32 x).length c38) (l := (parts 32 x)) Tryd.isAgg9 (fun _ => rfl) rfl (by repeat (first | exact .head | apply Swap.tail)) rfl hzk rfl) rfl ?_
                refine OW_e (e_call Tryd.call25 rfl (fun w hw => lift_oldP (reads9_any z w (by omega)) hw)) rfl (fun x135 => ?_)
                refine OW_pure fun hx135 => ?_
                obtain ⟨y135, ok135⟩ := x135
                have hx135 : SymR z (y135, ok135) := hx135
                refine OW_q (q_move rfl) rfl ?_
                refine OW_q (q_extract rfl rfl) rfl ?_
                refine OW_q (q_extract rfl rfl) rfl ?_
                refine OW_e (e_alloc Tryd.zeroValue53 rfl) rfl (fun b20 => ?_)
                refine OW_e0 (e_storeN Tryd.sizeOf53 rfl rfl rfl rfl (by simp [Value.oneCell']) (by (repeat (first | exact .head | apply Swap.tail))) (by rfl)) (fun _ => ?_)
                refine OW_q (q_assign rfl) rfl ?_
                refine OW_nil ?_
                refine EW_then ?_
                refine CW_seq ?_
                refine CW_seq ?_
                refine CW_region ?_
                refine OW_q (q_move rfl) rfl ?_
                refine OW_q (q_not rfl) rfl ?_
                refine OW_nil ?_
                refine EW_then ?_
                refine CW_cond rfl (fun h139 => ?_) (fun h139 => ?_)
                · skip
                  refine CW_seq ?_
                  refine CW_draw (Sat (Old w) w [cel b7 24 [.int .i64 0, .int .i64 0, .slice none 0 0], cel b10 31 [.int .i64 2, .int .i64 (k : Int)]]) 3 [(0, false), (1, false), (2, true), (3, true)] (by kernel_rfl) (Blind.then (Blind.then (Blind.block (Blind.then (Blind.again (Blind.block (Blind.then (Blind.block (Blind.then (Blind.again (Blind.block (Blind.then (Blind.body (by intro c w h; simp at h)))))))))))))) (by kernel_rfl) (fun w hw => hw.drew) ?_
                  first | (refine DW_q rfl (fun w hw => hw.sub (by (repeat (first | exact SubL.nil | exact Pick.head | apply Pick.tail | apply SubL.cons)))) (q_loadN_own Tryd.isAgg24 Tryd.sizeOf24 rfl rfl (by (repeat (first | exact .head | apply Swap.tail))) (by rfl)) rfl ?_) | (refine DW_q rfl (fun w hw => hw.sub (by (repeat (first | exact SubL.nil | exact Pick.head | apply Pick.tail | apply SubL.cons)))) (q_loadN_ro Tryd.isAgg24 Tryd.sizeOf24 rfl (by first | assumption | exact Row.at_ (by assumption) rfl) (by rfl)) rfl ?_)
                  first | (refine DW_q rfl (fun w hw => hw.sub (by (repeat (first | exact SubL.nil | exact Pick.head | apply Pick.tail | apply SubL.cons)))) (q_loadN_own Tryd.isAgg31 Tryd.sizeOf31 rfl rfl (by (repeat (first | exact .head | apply Swap.tail))) (by rfl)) rfl ?_) | (refine DW_q rfl (fun w hw => hw.sub (by (repeat (first | exact SubL.nil | exact Pick.head | apply Pick.tail | apply SubL.cons)))) (q_loadN_ro Tryd.isAgg31 Tryd.sizeOf31 rfl (by first | assumption | exact Row.at_ (by assumption) rfl) (by rfl)) rfl ?_)
                  refine DW_e0 rfl (e_storeN Tryd.sizeOf24 rfl rfl rfl rfl (by simp [Value.oneCell']) (by (repeat (first | exact .head | apply Swap.tail))) (by rfl)) (fun _ w hw => by first | exact hw.sub (by (repeat (first | exact SubL.nil | exact Pick.head | apply Pick.tail | apply SubL.cons))) | exact hw.2.sub (by (repeat (first | exact SubL.nil | exact Pick.head | apply Pick.tail | apply SubL.cons)))) (fun _ => ?_)
                  refine DW_z0 rfl (e_storeN Tryd.sizeOf31 rfl rfl rfl rfl (by simp [Value.oneCell']) (by (repeat (first | exact .head | apply Swap.tail))) (by rfl)) (fun _ => ?_)
                  refine EW_then ?_
                  refine CW_ret ?_
                  refine EW_then_ret ?_
                  refine EW_block_ret ?_
                  refine EW_then_ret ?_
                  refine EW_out_ret ?_
                  refine EW_block_ret ?_
                  refine EW_then_ret ?_
                  refine EW_block_ret ?_
                  refine EW_then_ret ?_
                  refine EW_out_ret ?_
                  refine EW_block_ret ?_
                  refine EW_then_ret ?_
                  refine retcc (vs := [.int .i64 0, .int .i64 0, .slice none 0 0]) (us := [.int .i64 2, .int .i64 (k : Int)]) Tryd.results9 Tryd.isAgg24 Tryd.sizeOf24 Tryd.isAgg31 Tryd.sizeOf31 rfl rfl rfl rfl (fun w hw j u hj => by rw [Addr.add_lit, hw.cell (t := 24) (cs := [.int .i64 0, .int .i64 0, .slice none 0 0]) (A' := cel b2 24 [.int .i64 0, .int .i64 0, .slice none 0 0]) (by repeat (first | exact .head | apply Swap.tail)), Nat.zero_add]; exact hj) (fun w hw j u hj => by rw [Addr.add_lit, hw.cell (t := 31) (cs := [.int .i64 2, .int .i64 (k : Int)]) (A' := cel b3 31 [.int .i64 2, .int .i64 (k : Int)]) (by repeat (first | exact .head | apply Swap.tail)), Nat.zero_add]; exact hj) (fun w hw => ?_)
                  refine ⟨(.slice none 0 0, ⟨0, 0, []⟩, [], 2, k), rfl, ⟨.inl ⟨k, _, x, hlt, hlf, hxk, by rw [lineF_rule hk0, show ruleF x = none from (by rw [ruleF_eq hws, hleft, symsF_bad (hx135.2 (by simpa using h139)) (by rw [← hwd]; exact List.mem_of_getElem? (by rw [List.getElem?_drop, Nat.add_comm 1 j]; exact hzk))])]; rfl, rfl, rfl, rfl⟩, rfl⟩, ((hw.tnil 50 2 encRV).addEmp (A := symsA []) rfl).sub (by repeat (first | exact SubL.nil | exact Pick.head | apply Pick.tail | apply SubL.cons))⟩
                · skip
                  refine CW_skip ?_
                  refine EW_then ?_
                  refine CW_region ?_
                  refine OW_q (q_fieldAddr Tryd.underlying50 rfl rfl Tryd.sizeOf48 rfl rfl) rfl ?_
                  first | (refine OW_q (q_load1_own Tryd.isAgg48 rfl rfl (by (repeat (first | exact .head | apply Swap.tail))) (by rfl)) rfl ?_) | (refine OW_q (q_load1_ro Tryd.isAgg48 rfl (by first | assumption | exact Row.at_ (by assumption) rfl)) rfl ?_)
                  first | (refine OW_q (q_loadN_own Tryd.isAgg53 Tryd.sizeOf53 rfl rfl (by (repeat (first | exact .head | apply Swap.tail))) (by rfl)) rfl ?_) | (refine OW_q (q_loadN_ro Tryd.isAgg53 Tryd.sizeOf53 rfl (by first | assumption | exact Row.at_ (by assumption) rfl) (by rfl)) rfl ?_)
                  refine OW_e (e_single Tryd.underlying48 Tryd.sizeOf53 Tryd.zeroValue53 (e := 53) (v := .agg #[.bool y135.term, .int .i64 y135.n]) (cs := [.bool y135.term, .int .i64 y135.n]) rfl rfl rfl rfl (by decide) (by decide)) rfl (fun b145 => ?_)
                  refine OW_e (e_append_t (x0 := y135) (enc := encY) (v := yv) (l := ys) Tryd.underlying48 Tryd.typeInfo53 rfl rfl rfl rfl rfl rfl rfl (by repeat (first | exact .head | apply Pick.tail)) rfl (by exact fun w hw => hw.news (by repeat (first | exact .head | apply Swap.tail))) (by simp [Value.oneCell']) (by omega) (by decide)) rfl (fun v146 => ?_)
                  refine OW_fact (fun w hw => hw.tform (v := v146) (l := (ys ++ [y135])) (enc := encY) (by repeat (first | exact .head | apply Swap.tail))) (fun hf => ?_)
                  obtain ⟨a146, c146, rfl, _, _, hb146⟩ := hf
                  refine OW_q (q_fieldAddr Tryd.underlying50 rfl rfl Tryd.sizeOf48 rfl rfl) rfl ?_
                  refine OW_e0 (e_store Tryd.sizeOf48 rfl rfl rfl rfl (by (repeat (first | exact .head | apply Swap.tail))) (by rfl)) (fun _ => ?_)
                  refine OW_nil ?_
                  refine EW_block_normal ?_
                  refine EW_then ?_
                  refine CW_region ?_
                  refine OW_q (q_move rfl) rfl ?_
                  first | refine OW_q (q_inc rfl rfl (by omega)) rfl ?_ | refine OW_q (q_add rfl rfl (by omega) (by omega)) rfl ?_
                  refine OW_q (q_assign rfl) rfl ?_
                  refine OW_nil ?_
                  refine EW_again ((j + 1, .slice a146 (ys ++ [y135]).length c146, ys ++ [y135])) ⟨?_, ?_⟩ ⟨rfl, rfl, rfl, rfl, rfl, rfl, rfl, rfl, rfl, rfl, rfl, trivial⟩ (fun w hw => hw.sub (by (repeat (first | exact SubL.nil | exact Pick.head | apply Pick.tail | apply SubL.cons))))
                  · show (parts 32 x).length - 1 - (j + 1) < (parts 32 x).length - 1 - j; omega
                  · refine ⟨by show j + 1 ≤ _; omega, by show (ys ++ [_]).length = _; rw [List.length_append, List.length_singleton]; omega, ?_⟩
                    show symsF (((parts 32 x).drop 1).take (j + 1)) = some (ys ++ [y135])
                    (rw [take_nx2 hzk, symsF_snoc, hys, hx135.1 (by simpa using h139)]) <;> rfl
              · skip
                have hje : j = (parts 32 x).length - 1 := by have := of_decide_eq_false h127; omega
                refine CW_fact (fun w hw => hw.tform (v := yv) (l := ys) (enc := encY) (by repeat (first | exact .head | apply Swap.tail))) (fun hf => ?_)
                obtain ⟨ay, cy, rfl, _, _, hby⟩ := hf
                have hsy : symsF ws = some ys := by
                  have h1 : ((parts 32 x).drop 1).take j = ws := by rw [hwd]; exact List.take_of_length_le (by rw [← hwd, List.length_drop]; omega)
                  rw [h1] at hys
                  exact hys
                refine CW_exit ?_
                refine EW_then_exit ?_
                refine EW_out ?_
                refine EW_block_exit ?_
                refine EW_then ?_
                refine CW_region ?_
                refine OW_q (q_fieldAddr Tryd.underlying24 rfl rfl Tryd.sizeOf22 rfl rfl) rfl ?_
                first | (refine OW_q (q_load1_own Tryd.isAgg22 rfl rfl (by (repeat (first | exact .head | apply Swap.tail))) (by rfl)) rfl ?_) | (refine OW_q (q_load1_ro Tryd.isAgg22 rfl (by first | assumption | exact Row.at_ (by assumption) rfl)) rfl ?_)
                first | (refine OW_q (q_loadN_own Tryd.isAgg50 Tryd.sizeOf50 rfl rfl (by (repeat (first | exact .head | apply Swap.tail))) (by rfl)) rfl ?_) | (refine OW_q (q_loadN_ro Tryd.isAgg50 Tryd.sizeOf50 rfl (by first | assumption | exact Row.at_ (by assumption) rfl) (by rfl)) rfl ?_)
                refine OW_e (e_single Tryd.underlying22 Tryd.sizeOf50 Tryd.zeroValue50 (e := 50) (v := .agg #[.int .i64 y110.n, .slice ay ys.length cy]) (cs := [.int .i64 y110.n, .slice ay ys.length cy]) rfl rfl rfl rfl (by decide) (by decide)) rfl (fun b151 => ?_)
                refine OW_e (e_append_t (x0 := (⟨⟨y110.n, ys⟩, .slice ay ys.length cy⟩ : RV)) (enc := encRV) (v := ov) (l := rs) Tryd.underlying22 Tryd.typeInfo50 rfl rfl rfl rfl rfl rfl rfl (by repeat (first | exact .head | apply Pick.tail)) rfl (by exact fun w hw => hw.news (by repeat (first | exact .head | apply Swap.tail))) (by simp [Value.oneCell']) (by omega) (by decide)) rfl (fun v152 => ?_)
                refine OW_fact (fun w hw => hw.tform (v := v152) (l := (rs ++ [(⟨⟨y110.n, ys⟩, .slice ay ys.length cy⟩ : RV)])) (enc := encRV) (by repeat (first | exact .head | apply Swap.tail))) (fun hf => ?_)
                obtain ⟨a152, c152, rfl, _, _, hb152⟩ := hf
                refine OW_q (q_fieldAddr Tryd.underlying24 rfl rfl Tryd.sizeOf22 rfl rfl) rfl ?_
                refine OW_e0 (e_store Tryd.sizeOf22 rfl rfl rfl rfl (by (repeat (first | exact .head | apply Swap.tail))) (by rfl)) (fun _ => ?_)
                refine OW_nil ?_
                refine EW_block_normal ?_
                refine EW_then ?_
                refine CW_region ?_
                refine OW_q (q_move rfl) rfl ?_
                first | refine OW_q (q_inc rfl rfl (by omega)) rfl ?_ | refine OW_q (q_add rfl rfl (by omega) (by omega)) rfl ?_
                refine OW_q (q_assign rfl) rfl ?_
                refine OW_nil ?_
                refine EW_weak (S' := Sat (Old _) _ [cel b2 24 [.int .i64 0, .int .i64 0, .slice none 0 0], cel b3 31 [.int .i64 0, .int .i64 0], trow 9 1 encS (.slice (some ⟨g23, 0, none⟩) (parts 10 l).length c23) (parts 10 l), cel b6 24 [.int .i64 tm, .int .i64 nm, .slice a152 (rs ++ [(⟨⟨y110.n, ys⟩, .slice ay ys.length cy⟩ : RV)]).length c152], cel b7 24 [.int .i64 0, .int .i64 0, .slice none 0 0], rulesA (.slice a152 (rs ++ [(⟨⟨y110.n, ys⟩, .slice ay ys.length cy⟩ : RV)]).length c152) (rs ++ [(⟨⟨y110.n, ys⟩, .slice ay ys.length cy⟩ : RV)]), symsA (rs ++ [(⟨⟨y110.n, ys⟩, .slice ay ys.length cy⟩ : RV)])]) (fun w hw => by
                  have h1 : Sat _ _ (symsA rs :: symA (⟨⟨y110.n, ys⟩, .slice ay ys.length cy⟩ : RV) :: [cel b2 24 [.int .i64 0, .int .i64 0, .slice none 0 0], cel b3 31 [.int .i64 0, .int .i64 0], trow 9 1 encS (.slice (some ⟨g23, 0, none⟩) (parts 10 l).length c23) (parts 10 l), cel b6 24 [.int .i64 tm, .int .i64 nm, .slice a152 (rs ++ [(⟨⟨y110.n, ys⟩, .slice ay ys.length cy⟩ : RV)]).length c152], cel b7 24 [.int .i64 0, .int .i64 0, .slice none 0 0], rulesA (.slice a152 (rs ++ [(⟨⟨y110.n, ys⟩, .slice ay ys.length cy⟩ : RV)]).length c152) (rs ++ [(⟨⟨y110.n, ys⟩, .slice ay ys.length cy⟩ : RV)])]) w := hw.sub (by repeat (first | exact SubL.nil | exact Pick.head | apply Pick.tail | apply SubL.cons))
                  exact h1.symsPush.sub (by repeat (first | exact SubL.nil | exact Pick.head | apply Pick.tail | apply SubL.cons))) ?_
                refine EW_again ((k + 1, tm, nm, .slice a152 (rs ++ [(⟨⟨y110.n, ys⟩, .slice ay ys.length cy⟩ : RV)]).length c152, rs ++ [(⟨⟨y110.n, ys⟩, .slice ay ys.length cy⟩ : RV)])) ⟨?_, ?_⟩ ⟨rfl, rfl, rfl, rfl, rfl, rfl, rfl, trivial⟩ (fun w hw => hw.sub (by (repeat (first | exact SubL.nil | exact Pick.head | apply Pick.tail | apply SubL.cons))))
                · show (parts 10 l).length - 1 - (k + 1) < (parts 10 l).length - 1 - k; omega
                · refine ⟨by show k + 1 ≤ _; omega, by show (rs ++ [_]).length ≤ _; rw [List.length_append, List.length_singleton]; omega, ?_⟩
                  show linesF _ (k + 1) = some ⟨tm, nm, plainR (rs ++ [(⟨⟨y110.n, ys⟩, .slice ay ys.length cy⟩ : RV)])⟩
                  rw [linesF_next hlf hxk, lineF_rule hk0, ruleF_eq hws, hleft, hsy]
                  simp [plainR]
  · skip
    have hke : k = (parts 10 l).length - 1 := by have := of_decide_eq_false h31; omega
    subst hke
    obtain ⟨xl, hxl⟩ := get_of_lt (show (parts 10 l).length - 1 < (parts 10 l).length by omega)
    refine CW_fact (fun w hw => hw.tform (v := ov) (l := rs) (enc := encRV) (by repeat (first | exact .head | apply Swap.tail))) (fun hf => ?_)
    obtain ⟨ao, co, rfl, _, _, hbo⟩ := hf
    refine CW_exit ?_
    refine EW_then_exit ?_
    refine EW_out ?_
    refine EW_block_exit ?_
    refine EW_then ?_
    refine CW_seq ?_
    refine CW_seq ?_
    refine CW_region ?_
    refine OW_q (q_move rfl) rfl ?_
    refine OW_q (q_move rfl) rfl ?_
    refine OW_q (q_indexAddr Tryd.underlying40 Tryd.sizeOf9 rfl rfl (by omega)) rfl ?_
    refine OW_q (q_load_t1 (enc := encS) (k := (parts 10 l).length - 1) (v := .slice (some ⟨g23, 0, none⟩) (parts 10 l).length c23) (l := (parts 10 l)) Tryd.isAgg9 (fun _ => rfl) rfl (by repeat (first | exact .head | apply Swap.tail)) rfl hxl rfl) rfl ?_
    refine OW_q (q_neS (a := xl) (b := []) rfl rfl) rfl ?_
    refine OW_q (q_move rfl) rfl ?_
    refine OW_part (t := 159) rfl (fun hg159 => ?_) (fun hg159 => ?_)
    · skip
      refine OW_skip rfl rfl rfl rfl ?_
      refine OW_skip rfl rfl rfl rfl ?_
      refine OW_q (q_pick_t rfl rfl) rfl ?_
      refine OW_q (q_move rfl) rfl ?_
      refine OW_skip rfl rfl rfl rfl ?_
      refine OW_skip rfl rfl rfl rfl ?_
      refine OW_skip rfl rfl rfl rfl ?_
      refine OW_q (q_pick_t rfl rfl) rfl ?_
      refine OW_nil ?_
      refine EW_then ?_
      refine CW_true rfl rfl ?_
      refine CW_seq ?_
      refine CW_region ?_
      first | (refine OW_q (q_loadN_own Tryd.isAgg24 Tryd.sizeOf24 rfl rfl (by (repeat (first | exact .head | apply Swap.tail))) (by rfl)) rfl ?_) | (refine OW_q (q_loadN_ro Tryd.isAgg24 Tryd.sizeOf24 rfl (by first | assumption | exact Row.at_ (by assumption) rfl) (by rfl)) rfl ?_)
      refine OW_q (q_move rfl) rfl ?_
      refine OW_q (q_build (ps := #[(0, .int .i64 2), (1, .int .i64 ((((parts 10 l).length - 1 : Nat)) : Int))]) (v := .agg #[.int .i64 2, .int .i64 ((((parts 10 l).length - 1 : Nat)) : Int)]) rfl (fun w => by kernel_rfl)) rfl ?_
      refine OW_e0 (e_storeN Tryd.sizeOf24 rfl rfl rfl rfl (by simp [Value.oneCell']) (by (repeat (first | exact .head | apply Swap.tail))) (by rfl)) (fun _ => ?_)
      refine OW_e0 (e_storeN Tryd.sizeOf31 rfl rfl rfl rfl (by simp [Value.oneCell']) (by (repeat (first | exact .head | apply Swap.tail))) (by rfl)) (fun _ => ?_)
      refine OW_nil ?_
      refine EW_then ?_
      refine CW_ret ?_
      refine EW_then_ret ?_
      refine retcc (vs := [.int .i64 0, .int .i64 0, .slice none 0 0]) (us := [.int .i64 2, .int .i64 ((((parts 10 l).length - 1 : Nat)) : Int)]) Tryd.results9 Tryd.isAgg24 Tryd.sizeOf24 Tryd.isAgg31 Tryd.sizeOf31 rfl rfl rfl rfl (fun w hw j u hj => by rw [Addr.add_lit, hw.cell (t := 24) (cs := [.int .i64 0, .int .i64 0, .slice none 0 0]) (A' := cel b2 24 [.int .i64 0, .int .i64 0, .slice none 0 0]) (by repeat (first | exact .head | apply Swap.tail)), Nat.zero_add]; exact hj) (fun w hw j u hj => by rw [Addr.add_lit, hw.cell (t := 31) (cs := [.int .i64 2, .int .i64 ((((parts 10 l).length - 1 : Nat)) : Int)]) (A' := cel b3 31 [.int .i64 2, .int .i64 ((((parts 10 l).length - 1 : Nat)) : Int)]) (by repeat (first | exact .head | apply Swap.tail)), Nat.zero_add]; exact hj) (fun w hw => ?_)
      refine ⟨(.slice none 0 0, ⟨0, 0, []⟩, [], 2, ((((parts 10 l).length - 1 : Nat)) : Int)), rfl, ⟨.inr ⟨_, hlf, .inr ⟨(by rintro ⟨e, _⟩; rw [hxl] at e; injection e with e; rw [e] at hg159; simp at hg159), rfl, rfl, rfl⟩⟩, rfl⟩, ((hw.tnil 50 2 encRV).addEmp (A := symsA []) rfl).sub (by repeat (first | exact SubL.nil | exact Pick.head | apply Pick.tail | apply SubL.cons))⟩
    · skip
      refine OW_wanted rfl rfl rfl ?_
      refine OW_q (q_move rfl) rfl ?_
      refine OW_wanted rfl rfl rfl ?_
      refine OW_q (q_eqi rfl rfl) rfl ?_
      refine OW_q (q_pick_f rfl rfl) rfl ?_
      refine OW_q (q_move rfl) rfl ?_
      refine OW_part (t := 163) rfl (fun hg163 => ?_) (fun hg163 => ?_)
      · skip
        refine OW_skip rfl rfl rfl rfl ?_
        refine OW_skip rfl rfl rfl rfl ?_
        refine OW_skip rfl rfl rfl rfl ?_
        refine OW_q (q_pick_t rfl rfl) rfl ?_
        refine OW_nil ?_
        refine EW_then ?_
        refine CW_true rfl rfl ?_
        refine CW_seq ?_
        refine CW_region ?_
        first | (refine OW_q (q_loadN_own Tryd.isAgg24 Tryd.sizeOf24 rfl rfl (by (repeat (first | exact .head | apply Swap.tail))) (by rfl)) rfl ?_) | (refine OW_q (q_loadN_ro Tryd.isAgg24 Tryd.sizeOf24 rfl (by first | assumption | exact Row.at_ (by assumption) rfl) (by rfl)) rfl ?_)
        refine OW_q (q_move rfl) rfl ?_
        refine OW_q (q_build (ps := #[(0, .int .i64 2), (1, .int .i64 ((((parts 10 l).length - 1 : Nat)) : Int))]) (v := .agg #[.int .i64 2, .int .i64 ((((parts 10 l).length - 1 : Nat)) : Int)]) rfl (fun w => by kernel_rfl)) rfl ?_
        refine OW_e0 (e_storeN Tryd.sizeOf24 rfl rfl rfl rfl (by simp [Value.oneCell']) (by (repeat (first | exact .head | apply Swap.tail))) (by rfl)) (fun _ => ?_)
        refine OW_e0 (e_storeN Tryd.sizeOf31 rfl rfl rfl rfl (by simp [Value.oneCell']) (by (repeat (first | exact .head | apply Swap.tail))) (by rfl)) (fun _ => ?_)
        refine OW_nil ?_
        refine EW_then ?_
        refine CW_ret ?_
        refine EW_then_ret ?_
        refine retcc (vs := [.int .i64 0, .int .i64 0, .slice none 0 0]) (us := [.int .i64 2, .int .i64 ((((parts 10 l).length - 1 : Nat)) : Int)]) Tryd.results9 Tryd.isAgg24 Tryd.sizeOf24 Tryd.isAgg31 Tryd.sizeOf31 rfl rfl rfl rfl (fun w hw j u hj => by rw [Addr.add_lit, hw.cell (t := 24) (cs := [.int .i64 0, .int .i64 0, .slice none 0 0]) (A' := cel b2 24 [.int .i64 0, .int .i64 0, .slice none 0 0]) (by repeat (first | exact .head | apply Swap.tail)), Nat.zero_add]; exact hj) (fun w hw j u hj => by rw [Addr.add_lit, hw.cell (t := 31) (cs := [.int .i64 2, .int .i64 ((((parts 10 l).length - 1 : Nat)) : Int)]) (A' := cel b3 31 [.int .i64 2, .int .i64 ((((parts 10 l).length - 1 : Nat)) : Int)]) (by repeat (first | exact .head | apply Swap.tail)), Nat.zero_add]; exact hj) (fun w hw => ?_)
        refine ⟨(.slice none 0 0, ⟨0, 0, []⟩, [], 2, ((((parts 10 l).length - 1 : Nat)) : Int)), rfl, ⟨.inr ⟨_, hlf, .inr ⟨(by rintro ⟨_, e, _⟩; exact e (by simpa using hg163)), rfl, rfl, rfl⟩⟩, rfl⟩, ((hw.tnil 50 2 encRV).addEmp (A := symsA []) rfl).sub (by repeat (first | exact SubL.nil | exact Pick.head | apply Pick.tail | apply SubL.cons))⟩
      · skip
        refine OW_wanted rfl rfl rfl ?_
        first | (refine OW_q (q_loadN_own Tryd.isAgg24 Tryd.sizeOf24 rfl rfl (by (repeat (first | exact .head | apply Swap.tail))) (by rfl)) rfl ?_) | (refine OW_q (q_loadN_ro Tryd.isAgg24 Tryd.sizeOf24 rfl (by first | assumption | exact Row.at_ (by assumption) rfl) (by rfl)) rfl ?_)
        refine OW_wanted rfl rfl rfl ?_
        refine OW_e (e_call Tryd.call6 rfl (fun w hw => lift_ro (may1_any _ ⟨tm, nm, plainR rs⟩ w (hw.gramIn (by repeat (first | exact .head | apply Swap.tail)) (by repeat (first | exact .head | apply Swap.tail)))) hw)) rfl (fun x165 => ?_)
        refine OW_wanted rfl rfl rfl ?_
        refine OW_q (q_not rfl) rfl ?_
        refine OW_q (q_pick_f rfl rfl) rfl ?_
        refine OW_nil ?_
        refine EW_then ?_
        refine CW_cond rfl (fun h167 => ?_) (fun h167 => ?_)
        · skip
          refine CW_seq ?_
          refine CW_region ?_
          first | (refine OW_q (q_loadN_own Tryd.isAgg24 Tryd.sizeOf24 rfl rfl (by (repeat (first | exact .head | apply Swap.tail))) (by rfl)) rfl ?_) | (refine OW_q (q_loadN_ro Tryd.isAgg24 Tryd.sizeOf24 rfl (by first | assumption | exact Row.at_ (by assumption) rfl) (by rfl)) rfl ?_)
          refine OW_q (q_move rfl) rfl ?_
          refine OW_q (q_build (ps := #[(0, .int .i64 2), (1, .int .i64 ((((parts 10 l).length - 1 : Nat)) : Int))]) (v := .agg #[.int .i64 2, .int .i64 ((((parts 10 l).length - 1 : Nat)) : Int)]) rfl (fun w => by kernel_rfl)) rfl ?_
          refine OW_e0 (e_storeN Tryd.sizeOf24 rfl rfl rfl rfl (by simp [Value.oneCell']) (by (repeat (first | exact .head | apply Swap.tail))) (by rfl)) (fun _ => ?_)
          refine OW_e0 (e_storeN Tryd.sizeOf31 rfl rfl rfl rfl (by simp [Value.oneCell']) (by (repeat (first | exact .head | apply Swap.tail))) (by rfl)) (fun _ => ?_)
          refine OW_nil ?_
          refine EW_then ?_
          refine CW_ret ?_
          refine EW_then_ret ?_
          refine retcc (vs := [.int .i64 0, .int .i64 0, .slice none 0 0]) (us := [.int .i64 2, .int .i64 ((((parts 10 l).length - 1 : Nat)) : Int)]) Tryd.results9 Tryd.isAgg24 Tryd.sizeOf24 Tryd.isAgg31 Tryd.sizeOf31 rfl rfl rfl rfl (fun w hw j u hj => by rw [Addr.add_lit, hw.cell (t := 24) (cs := [.int .i64 0, .int .i64 0, .slice none 0 0]) (A' := cel b2 24 [.int .i64 0, .int .i64 0, .slice none 0 0]) (by repeat (first | exact .head | apply Swap.tail)), Nat.zero_add]; exact hj) (fun w hw j u hj => by rw [Addr.add_lit, hw.cell (t := 31) (cs := [.int .i64 2, .int .i64 ((((parts 10 l).length - 1 : Nat)) : Int)]) (A' := cel b3 31 [.int .i64 2, .int .i64 ((((parts 10 l).length - 1 : Nat)) : Int)]) (by repeat (first | exact .head | apply Swap.tail)), Nat.zero_add]; exact hj) (fun w hw => ?_)
          refine ⟨(.slice none 0 0, ⟨0, 0, []⟩, [], 2, ((((parts 10 l).length - 1 : Nat)) : Int)), rfl, ⟨.inr ⟨_, hlf, .inr ⟨(by rintro ⟨_, _, e⟩; rw [e] at h167; simp at h167), rfl, rfl, rfl⟩⟩, rfl⟩, ((hw.tnil 50 2 encRV).addEmp (A := symsA []) rfl).sub (by repeat (first | exact SubL.nil | exact Pick.head | apply Pick.tail | apply SubL.cons))⟩
        · skip
          refine CW_skip ?_
          refine EW_then ?_
          refine CW_seq ?_
          refine CW_region ?_
          first | (refine OW_q (q_loadN_own Tryd.isAgg24 Tryd.sizeOf24 rfl rfl (by (repeat (first | exact .head | apply Swap.tail))) (by rfl)) rfl ?_) | (refine OW_q (q_loadN_ro Tryd.isAgg24 Tryd.sizeOf24 rfl (by first | assumption | exact Row.at_ (by assumption) rfl) (by rfl)) rfl ?_)
          refine OW_q (q_build (ps := #[]) (v := .agg #[.int .i64 0, .int .i64 0]) rfl (fun w => by kernel_rfl)) rfl ?_
          refine OW_e0 (e_storeN Tryd.sizeOf24 rfl rfl rfl rfl (by simp [Value.oneCell']) (by (repeat (first | exact .head | apply Swap.tail))) (by rfl)) (fun _ => ?_)
          refine OW_e0 (e_storeN Tryd.sizeOf31 rfl rfl rfl rfl (by simp [Value.oneCell']) (by (repeat (first | exact .head | apply Swap.tail))) (by rfl)) (fun _ => ?_)
          refine OW_nil ?_
          refine EW_then ?_
          refine CW_ret ?_
          refine retcc (vs := [.int .i64 tm, .int .i64 nm, .slice ao rs.length co]) (us := [.int .i64 0, .int .i64 0]) Tryd.results9 Tryd.isAgg24 Tryd.sizeOf24 Tryd.isAgg31 Tryd.sizeOf31 rfl rfl rfl rfl (fun w hw j u hj => by rw [Addr.add_lit, hw.cell (t := 24) (cs := [.int .i64 tm, .int .i64 nm, .slice ao rs.length co]) (A' := cel b2 24 [.int .i64 tm, .int .i64 nm, .slice ao rs.length co]) (by repeat (first | exact .head | apply Swap.tail)), Nat.zero_add]; exact hj) (fun w hw j u hj => by rw [Addr.add_lit, hw.cell (t := 31) (cs := [.int .i64 0, .int .i64 0]) (A' := cel b3 31 [.int .i64 0, .int .i64 0]) (by repeat (first | exact .head | apply Swap.tail)), Nat.zero_add]; exact hj) (fun w hw => ?_)
          have e1 : xl = [] := by simpa using hg159
          refine ⟨(.slice ao rs.length co, ⟨tm, nm, plainR rs⟩, rs, 0, 0), rfl, ⟨.inr ⟨_, hlf, .inl ⟨⟨by rw [hxl, e1], fun e => ?_, by simpa using h167⟩, rfl, rfl, rfl⟩⟩, rfl⟩, hw.sub (by repeat (first | exact SubL.nil | exact Pick.head | apply Pick.tail | apply SubL.cons))⟩
          simp [e] at hg163

end Go.Sy
