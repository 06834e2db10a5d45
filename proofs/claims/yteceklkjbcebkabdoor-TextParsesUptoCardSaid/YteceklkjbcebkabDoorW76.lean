/- How the program reads a rule's line. No condition. -/
import Derived.Test.YteceklkjbcebkabDoorW75
namespace Go.Sy
open Go Go.RowKit Go.Proofs
set_option maxRecDepth 20000 in
theorem rule_any (bg : Nat) (t n : Int) (ov : Value) (rs : List RV) (l : List UInt8) (w0 w : World) (F : HP) (hl : l.length ≤ 4000000000) (hrl : rs.length ≤ 5000000000) (hG : Globs w0) (hw : Sat (Old w0) w0 ([cel bg 24 [.int .i64 t, .int .i64 n, ov], rulesA ov rs, symsA rs] ++ [F]) w) : Calls Tryd.prog 21 #[.pointer (some ⟨bg, 0, none⟩), .string ⟨l.toArray⟩] w (fun e w' => ∃ x : Bool × Value × List RV, e = .returned (.bool x.1) ∧ (RuleR l rs x ∧ x.2.2.length = rs.length + 1) ∧ Sat (Old w0) w0 ([cel bg 24 [.int .i64 t, .int .i64 n, x.2.1], rulesA x.2.1 x.2.2, symsA x.2.2] ++ [F]) w') := by
  obtain ⟨a, ws, hws⟩ : ∃ a ws, parts 32 l = a :: ws := by
    cases h : parts 32 l with
    | nil => exact absurd h (parts_ne 32 l)
    | cons a ws => exact ⟨a, ws, rfl⟩
  have ha : (parts 32 l)[0]? = some a := by rw [hws]; rfl
  have hW0 : 0 < (parts 32 l).length := by rw [hws]; exact Nat.succ_pos _
  have hWl := parts_len 32 l
  have hal : a.length ≤ l.length := parts_mem (c := 32) (by rw [hws]; exact .head _)
  have hwd : (parts 32 l).drop 1 = ws := by rw [hws]; rfl
  refine calls_CW (S := Sat (Old w0) w0 [cel bg 24 [.int .i64 t, .int .i64 n, ov], rulesA ov rs, symsA rs, F]) Tryd.func21 rfl Tryd.ntmps21 rfl (hw) ?_
  refine CW_seq ?_
  refine CW_region ?_
  refine OW_q (q_assign rfl) rfl ?_
  refine OW_nil ?_
  refine EW_then ?_
  refine CW_seq ?_
  refine CW_region ?_
  refine OW_q (q_move rfl) rfl ?_
  refine OW_e (e_call Tryd.call20 rfl (fun w hw => lift_old (split_any l 32 w hl (hG.of hw)) hw)) rfl (fun x16 => ?_)
  refine OW_q (q_assign rfl) rfl ?_
  refine OW_nil ?_
  refine EW_then ?_
  refine CW_seq ?_
  refine CW_region ?_
  refine OW_q (q_move rfl) rfl ?_
  refine OW_q (q_indexAddr Tryd.underlying40 Tryd.sizeOf9 rfl rfl (hW0)) rfl ?_
  refine OW_q (q_load_t1 (enc := encS) (k := 0) (v := .slice (some ⟨x16, 0, none⟩) (parts 32 l).length (parts 32 l).length) (l := (parts 32 l)) Tryd.isAgg9 (fun _ => rfl) rfl (by repeat (first | exact .head | apply Swap.tail)) rfl ha rfl) rfl ?_
  refine OW_e (e_call Tryd.call31 rfl (fun w hw => lift_ro (cutS_any a 58 w (by omega)) hw)) rfl (fun x21 => ?_)
  refine OW_q (q_move rfl) rfl ?_
  refine OW_q (q_extract rfl rfl) rfl ?_
  refine OW_q (q_extract rfl rfl) rfl ?_
  refine OW_q (q_assign rfl) rfl ?_
  refine OW_q (q_assign rfl) rfl ?_
  refine OW_nil ?_
  refine EW_then ?_
  refine CW_seq ?_
  refine CW_region ?_
  refine OW_q (q_move rfl) rfl ?_
  refine OW_e (e_call Tryd.call32 rfl (fun w hw => lift_oldP (reads_any (if a.getLast? = some 58 then a.dropLast else a) (by split <;> first | (rw [List.length_dropLast]; omega) | omega) w (hG.of hw)) hw)) rfl (fun x26 => ?_)
  refine OW_pure fun hx26 => ?_
  obtain ⟨y26, ok26⟩ := x26
  have hx26 : SymR (if a.getLast? = some 58 then a.dropLast else a) (y26, ok26) := hx26
  refine OW_q (q_move rfl) rfl ?_
  refine OW_q (q_extract rfl rfl) rfl ?_
  refine OW_q (q_extract rfl rfl) rfl ?_
  refine OW_e (e_alloc Tryd.zeroValue53 rfl) rfl (fun b8 => ?_)
  refine OW_e0 (e_storeN Tryd.sizeOf53 rfl rfl rfl rfl (by simp [Value.oneCell']) (by (repeat (first | exact .head | apply Swap.tail))) (by rfl)) (fun _ => ?_)
  refine OW_q (q_assign rfl) rfl ?_
  refine OW_nil ?_
  refine EW_then ?_
  refine CW_seq ?_
  refine CW_region ?_
  refine OW_q (q_fieldAddr Tryd.underlying53 rfl rfl Tryd.sizeOf3 rfl rfl) rfl ?_
  first | (refine OW_q (q_load1_own Tryd.isAgg3 rfl rfl (by (repeat (first | exact .head | apply Swap.tail))) (by rfl)) rfl ?_) | (refine OW_q (q_load1_ro Tryd.isAgg3 rfl (by first | assumption | exact Row.at_ (by assumption) rfl)) rfl ?_)
  refine OW_q (q_build (ps := #[(0, .int .i64 y26.n)]) (v := .agg #[.int .i64 y26.n, .slice none 0 0]) rfl (fun w => by kernel_rfl)) rfl ?_
  refine OW_e (e_alloc Tryd.zeroValue50 rfl) rfl (fun b10 => ?_)
  refine OW_e0 (e_storeN Tryd.sizeOf50 rfl rfl rfl rfl (by simp [Value.oneCell']) (by (repeat (first | exact .head | apply Swap.tail))) (by rfl)) (fun _ => ?_)
  refine OW_nil ?_
  refine EW_then ?_
  refine CW_seqJ (ι := Bool) (fun ok1 => ok1 = (decide (a.getLast? = some 58) && ok26 && !y26.term)) (fun ok1 => [(0, .pointer (some ⟨bg, 0, none⟩)), (5, .slice (some ⟨x16, 0, none⟩) (parts 32 l).length (parts 32 l).length), (10, .pointer (some ⟨b10, 0, none⟩)), (7, .bool ok1)]) (fun ok1 => Sat (Old w0) w0 [cel b10 50 [.int .i64 y26.n, .slice none 0 0], trow 9 1 encS (.slice (some ⟨x16, 0, none⟩) (parts 32 l).length (parts 32 l).length) (parts 32 l), cel b8 53 [.bool y26.term, .int .i64 y26.n], cel bg 24 [.int .i64 t, .int .i64 n, ov], rulesA ov rs, symsA rs, F]) ?_ ?_
  · skip
    refine CW_region ?_
    refine OW_q (q_move rfl) rfl ?_
    refine OW_q (q_move rfl) rfl ?_
    refine OW_part (t := 33) rfl (fun hg33 => ?_) (fun hg33 => ?_)
    · skip
      refine OW_wanted rfl rfl rfl ?_
      refine OW_q (q_move rfl) rfl ?_
      refine OW_q (q_pick_t rfl rfl) rfl ?_
      refine OW_q (q_move rfl) rfl ?_
      refine OW_part (t := 36) rfl (fun hg36 => ?_) (fun hg36 => ?_)
      · skip
        refine OW_wanted rfl rfl rfl ?_
        refine OW_q (q_fieldAddr Tryd.underlying53 rfl rfl Tryd.sizeOf4 rfl rfl) rfl ?_
        refine OW_wanted rfl rfl rfl ?_
        first | (refine OW_q (q_load1_own Tryd.isAgg4 rfl rfl (by (repeat (first | exact .head | apply Swap.tail))) (by rfl)) rfl ?_) | (refine OW_q (q_load1_ro Tryd.isAgg4 rfl (by first | assumption | exact Row.at_ (by assumption) rfl)) rfl ?_)
        refine OW_wanted rfl rfl rfl ?_
        refine OW_q (q_not rfl) rfl ?_
        refine OW_q (q_pick_t rfl rfl) rfl ?_
        refine OW_q (q_assign rfl) rfl ?_
        refine OW_nil ?_
        refine EW_again (!y26.term) ?_ ⟨rfl, rfl, rfl, rfl, trivial⟩ (fun w hw => hw.sub (by (repeat (first | exact SubL.nil | exact Pick.head | apply Pick.tail | apply SubL.cons))))
        · show _ = _; rw [hg33, show ok26 = true from hg36]; rfl
      · skip
        refine OW_skip rfl rfl rfl rfl ?_
        refine OW_skip rfl rfl rfl rfl ?_
        refine OW_skip rfl rfl rfl rfl ?_
        refine OW_q (q_pick_f rfl rfl) rfl ?_
        refine OW_q (q_assign rfl) rfl ?_
        refine OW_nil ?_
        refine EW_again (false) ?_ ⟨rfl, rfl, rfl, rfl, trivial⟩ (fun w hw => hw.sub (by (repeat (first | exact SubL.nil | exact Pick.head | apply Pick.tail | apply SubL.cons))))
        · show _ = _; rw [hg33, show ok26 = false from hg36]; rfl
    · skip
      refine OW_skip rfl rfl rfl rfl ?_
      refine OW_q (q_pick_f rfl rfl) rfl ?_
      refine OW_q (q_move rfl) rfl ?_
      refine OW_skip rfl rfl rfl rfl ?_
      refine OW_skip rfl rfl rfl rfl ?_
      refine OW_skip rfl rfl rfl rfl ?_
      refine OW_q (q_pick_f rfl rfl) rfl ?_
      refine OW_q (q_assign rfl) rfl ?_
      refine OW_nil ?_
      refine EW_again (false) ?_ ⟨rfl, rfl, rfl, rfl, trivial⟩ (fun w hw => hw.sub (by (repeat (first | exact SubL.nil | exact Pick.head | apply Pick.tail | apply SubL.cons))))
      · show _ = _; rw [hg33]; rfl
  intro ok1 hpre
  change CW _ _ _ _ [(0, .pointer (some ⟨bg, 0, none⟩)), (5, .slice (some ⟨x16, 0, none⟩) (parts 32 l).length (parts 32 l).length), (10, .pointer (some ⟨b10, 0, none⟩)), (7, .bool ok1)] (Sat (Old w0) w0 [cel b10 50 [.int .i64 y26.n, .slice none 0 0], trow 9 1 encS (.slice (some ⟨x16, 0, none⟩) (parts 32 l).length (parts 32 l).length) (parts 32 l), cel b8 53 [.bool y26.term, .int .i64 y26.n], cel bg 24 [.int .i64 t, .int .i64 n, ov], rulesA ov rs, symsA rs, F])
  have hok1 : ok1 = (decide (a.getLast? = some 58) && ok26 && !y26.term) := hpre
  have hlo := left_ok hx26 hok1
  refine CW_seq ?_
  refine CW_seq ?_
  refine CW_region ?_
  refine OW_q (q_move rfl) rfl ?_
  refine OW_q (q_slice (l := 1) (h := (parts 32 l).length) Tryd.underlying40 Tryd.sizeOf9 rfl (.inr ⟨_, rfl, rfl⟩) (.inl ⟨rfl, rfl⟩) hW0 (Nat.le_refl _) (Nat.le_refl _)) rfl ?_
  obtain ⟨pa, hpa⟩ : ∃ pa, pa = (if (parts 32 l).length = 1 then some (⟨x16, 0, none⟩ : Addr) else (some (⟨x16, 0, none⟩ : Addr)).map (·.add (1 * 1))) := ⟨_, rfl⟩
  refine OW_spell 42 (.slice pa ((parts 32 l).length - 1) ((parts 32 l).length - 1)) rfl (by rw [hpa]) ?_
  refine OW_q (q_len Tryd.underlying40 rfl) rfl ?_
  refine OW_q (q_move rfl) rfl ?_
  refine OW_nil ?_
  refine EW_then ?_
  refine CW_block ?_
  refine CW_weak (S' := Sat (Old w0) w0 [cel b10 50 [.int .i64 y26.n, .slice none 0 0], trow 53 2 encY (.slice none 0 0) [], trow 9 1 encS (.slice (some ⟨x16, 0, none⟩) (parts 32 l).length (parts 32 l).length) (parts 32 l), cel b8 53 [.bool y26.term, .int .i64 y26.n], cel bg 24 [.int .i64 t, .int .i64 n, ov], rulesA ov rs, symsA rs, F]) (fun w hw => (hw.tnil 53 2 encY).sub (by repeat (first | exact SubL.nil | exact Pick.head | apply Pick.tail | apply SubL.cons))) ?_
  refine CW_loopP (ι := Nat × Bool × Value × List Sym) (fun i_ => i_.1 ≤ (parts 32 l).length - 1 ∧ i_.2.2.2.length = i_.1 ∧ (i_.2.1 = true → ok1 = true ∧ symsF (((parts 32 l).drop 1).take i_.1) = some i_.2.2.2) ∧ (i_.2.1 = false → ok1 = false ∨ symsF (((parts 32 l).drop 1).take i_.1) = none)) (fun i_ => [(0, .pointer (some ⟨bg, 0, none⟩)), (5, .slice (some ⟨x16, 0, none⟩) (parts 32 l).length (parts 32 l).length), (10, .pointer (some ⟨b10, 0, none⟩)), (7, .bool i_.2.1), (42, .slice pa ((parts 32 l).length - 1) ((parts 32 l).length - 1)), (43, .int .i64 (((parts 32 l).length - 1 : Nat) : Int)), (44, .int .i64 (i_.1 : Int))]) (fun i_ => Sat (Old w0) w0 [cel b10 50 [.int .i64 y26.n, i_.2.2.1], trow 53 2 encY i_.2.2.1 i_.2.2.2, trow 9 1 encS (.slice (some ⟨x16, 0, none⟩) (parts 32 l).length (parts 32 l).length) (parts 32 l), cel b8 53 [.bool y26.term, .int .i64 y26.n], cel bg 24 [.int .i64 t, .int .i64 n, ov], rulesA ov rs, symsA rs, F]) (fun i_ => (parts 32 l).length - 1 - i_.1) (0, ok1, .slice none 0 0, []) ?_ ⟨rfl, rfl, rfl, rfl, rfl, rfl, rfl, trivial⟩ (fun w hw => hw.sub (by (repeat (first | exact SubL.nil | exact Pick.head | apply Pick.tail | apply SubL.cons)))) ?_
  · exact ⟨Nat.zero_le _, rfl, fun h => ⟨h, rfl⟩, fun h => .inl h⟩
  intro i_ hpre
  obtain ⟨k, ok, yv, ys⟩ := i_
  replace hpre : k ≤ (parts 32 l).length - 1 ∧ ys.length = k ∧ (ok = true → ok1 = true ∧ symsF (((parts 32 l).drop 1).take k) = some ys) ∧ (ok = false → ok1 = false ∨ symsF (((parts 32 l).drop 1).take k) = none) := hpre
  change CW _ _ _ _ [(0, .pointer (some ⟨bg, 0, none⟩)), (5, .slice (some ⟨x16, 0, none⟩) (parts 32 l).length (parts 32 l).length), (10, .pointer (some ⟨b10, 0, none⟩)), (7, .bool ok), (42, .slice pa ((parts 32 l).length - 1) ((parts 32 l).length - 1)), (43, .int .i64 (((parts 32 l).length - 1 : Nat) : Int)), (44, .int .i64 (k : Int))] (Sat (Old w0) w0 [cel b10 50 [.int .i64 y26.n, yv], trow 53 2 encY yv ys, trow 9 1 encS (.slice (some ⟨x16, 0, none⟩) (parts 32 l).length (parts 32 l).length) (parts 32 l), cel b8 53 [.bool y26.term, .int .i64 y26.n], cel bg 24 [.int .i64 t, .int .i64 n, ov], rulesA ov rs, symsA rs, F])
  obtain ⟨hk, hyl, hk1, hk2⟩ := hpre
  refine CW_seq ?_
  refine CW_region ?_
  refine OW_q (q_lss rfl rfl) rfl ?_
  refine OW_nil ?_
  refine EW_then ?_
  refine CW_seq ?_
  refine CW_cond rfl (fun h45 => ?_) (fun h45 => ?_)
  · skip
    have hlt : k < (parts 32 l).length - 1 := by have := of_decide_eq_true h45; omega
    obtain ⟨x, hxk⟩ := get_of_lt (show k + 1 < (parts 32 l).length by omega)
    have hxl : x.length ≤ l.length := parts_mem (List.mem_of_getElem? hxk)
    have hpa1 : pa = some ⟨x16, 1, none⟩ := by rw [hpa, if_neg (by omega)]; rfl
    subst hpa1
    refine CW_skip ?_
    refine EW_then ?_
    refine CW_seq ?_
    refine CW_block ?_
    refine CW_seq ?_
    refine CW_region ?_
    refine OW_q (q_indexAddr Tryd.underlying40 Tryd.sizeOf9 rfl rfl (by first | omega | assumption)) rfl ?_
    refine OW_q (q_load1 (p := (⟨x16, 1, none⟩ : Addr).add (k * 1)) (v := .string ⟨x.toArray⟩) Tryd.isAgg9 rfl (fun w hw => by
      have h1 := hw.tget (e := 9) (size := 1) (v := .slice (some ⟨x16, 0, none⟩) (parts 32 l).length (parts 32 l).length) (l := (parts 32 l)) (enc := encS) (A' := trow 9 1 encS (.slice (some ⟨x16, 0, none⟩) (parts 32 l).length (parts 32 l).length) (parts 32 l)) (fun _ => rfl) (by repeat (first | exact .head | apply Swap.tail)) rfl hxk 0 _ rfl
      rw [Addr.add_lit, Addr.add_lit] at h1
      rw [Addr.add_lit, show 1 + k * 1 = 0 + (k + 1) * 1 + 0 by omega]
      exact h1)) rfl ?_
    refine OW_q (q_assign rfl) rfl ?_
    refine OW_nil ?_
    refine EW_then ?_
    refine CW_seq ?_
    refine CW_region ?_
    refine OW_q (q_move rfl) rfl ?_
    refine OW_e (e_call Tryd.call32 rfl (fun w hw => lift_oldP (reads_any x (by omega) w (hG.of hw)) hw)) rfl (fun x50 => ?_)
    refine OW_pure fun hx50 => ?_
    obtain ⟨y50, ok50⟩ := x50
    have hx50 : SymR x (y50, ok50) := hx50
    refine OW_q (q_move rfl) rfl ?_
    refine OW_q (q_extract rfl rfl) rfl ?_
    refine OW_q (q_extract rfl rfl) rfl ?_
    refine OW_e (e_alloc Tryd.zeroValue53 rfl) rfl (fun b13 => ?_)
    refine OW_e0 (e_storeN Tryd.sizeOf53 rfl rfl rfl rfl (by simp [Value.oneCell']) (by (repeat (first | exact .head | apply Swap.tail))) (by rfl)) (fun _ => ?_)
    refine OW_q (q_assign rfl) rfl ?_
    refine OW_nil ?_
    refine EW_then ?_
    refine CW_seq ?_
    refine CW_region ?_
    refine OW_q (q_fieldAddr Tryd.underlying50 rfl rfl Tryd.sizeOf48 rfl rfl) rfl ?_
    first | (refine OW_q (q_load1_own Tryd.isAgg48 rfl rfl (by (repeat (first | exact .head | apply Swap.tail))) (by rfl)) rfl ?_) | (refine OW_q (q_load1_ro Tryd.isAgg48 rfl (by first | assumption | exact Row.at_ (by assumption) rfl)) rfl ?_)
    first | (refine OW_q (q_loadN_own Tryd.isAgg53 Tryd.sizeOf53 rfl rfl (by (repeat (first | exact .head | apply Swap.tail))) (by rfl)) rfl ?_) | (refine OW_q (q_loadN_ro Tryd.isAgg53 Tryd.sizeOf53 rfl (by first | assumption | exact Row.at_ (by assumption) rfl) (by rfl)) rfl ?_)
    refine OW_e (e_single Tryd.underlying48 Tryd.sizeOf53 Tryd.zeroValue53 (e := 53) (v := .agg #[.bool y50.term, .int .i64 y50.n]) (cs := [.bool y50.term, .int .i64 y50.n]) rfl rfl rfl rfl (by decide) (by decide)) rfl (fun b56 => ?_)
    refine OW_e (e_append_t (x0 := y50) (enc := encY) (v := yv) (l := ys) Tryd.underlying48 Tryd.typeInfo53 rfl rfl rfl rfl rfl rfl rfl (by repeat (first | exact .head | apply Pick.tail)) rfl (by exact fun w hw => hw.news (by repeat (first | exact .head | apply Swap.tail))) (by simp [Value.oneCell']) (by omega) (by decide)) rfl (fun v57 => ?_)
    refine OW_fact (fun w hw => hw.tform (v := v57) (l := (ys ++ [y50])) (enc := encY) (by repeat (first | exact .head | apply Swap.tail))) (fun hf => ?_)
    obtain ⟨a57, c57, rfl, _, _, hb57⟩ := hf
    refine OW_q (q_fieldAddr Tryd.underlying50 rfl rfl Tryd.sizeOf48 rfl rfl) rfl ?_
    refine OW_e0 (e_store Tryd.sizeOf48 rfl rfl rfl rfl (by (repeat (first | exact .head | apply Swap.tail))) (by rfl)) (fun _ => ?_)
    refine OW_nil ?_
    refine EW_then ?_
    refine CW_region ?_
    refine OW_q (q_move rfl) rfl ?_
    refine OW_q (q_move rfl) rfl ?_
    refine OW_part (t := 60) rfl (fun hg60 => ?_) (fun hg60 => ?_)
    · skip
      refine OW_wanted rfl rfl rfl ?_
      refine OW_q (q_move rfl) rfl ?_
      refine OW_q (q_pick_t rfl rfl) rfl ?_
      refine OW_q (q_assign rfl) rfl ?_
      refine OW_nil ?_
      refine EW_block_normal ?_
      refine EW_then ?_
      refine CW_region ?_
      first | refine OW_q (q_inc rfl rfl (by omega)) rfl ?_ | refine OW_q (q_add rfl rfl (by omega) (by omega)) rfl ?_
      refine OW_q (q_move rfl) rfl ?_
      refine OW_nil ?_
      refine EW_again ((k + 1, ok50, .slice a57 (ys ++ [y50]).length c57, ys ++ [y50])) ⟨?_, ?_⟩ ⟨rfl, rfl, rfl, rfl, rfl, rfl, rfl, trivial⟩ (fun w hw => hw.sub (by (repeat (first | exact SubL.nil | exact Pick.head | apply Pick.tail | apply SubL.cons))))
      · show (parts 32 l).length - 1 - (k + 1) < (parts 32 l).length - 1 - k; omega
      · refine ⟨by show k + 1 ≤ _; omega, by show (ys ++ [y50]).length = _; rw [List.length_append, List.length_singleton]; omega, fun h => ⟨(hk1 hg60).1, by (rw [take_nx2 hxk, symsF_snoc, (hk1 hg60).2, hx50.1 h]) <;> rfl⟩, fun h => .inr (by (rw [take_nx2 hxk, symsF_snoc, (hk1 hg60).2, hx50.2 h]) <;> rfl)⟩
    · skip
      refine OW_skip rfl rfl rfl rfl ?_
      refine OW_q (q_pick_f rfl rfl) rfl ?_
      refine OW_q (q_assign rfl) rfl ?_
      refine OW_nil ?_
      refine EW_block_normal ?_
      refine EW_then ?_
      refine CW_region ?_
      first | refine OW_q (q_inc rfl rfl (by omega)) rfl ?_ | refine OW_q (q_add rfl rfl (by omega) (by omega)) rfl ?_
      refine OW_q (q_move rfl) rfl ?_
      refine OW_nil ?_
      refine EW_again ((k + 1, false, .slice a57 (ys ++ [y50]).length c57, ys ++ [y50])) ⟨?_, ?_⟩ ⟨rfl, rfl, rfl, rfl, rfl, rfl, rfl, trivial⟩ (fun w hw => hw.sub (by (repeat (first | exact SubL.nil | exact Pick.head | apply Pick.tail | apply SubL.cons))))
      · show (parts 32 l).length - 1 - (k + 1) < (parts 32 l).length - 1 - k; omega
      · refine ⟨by show k + 1 ≤ _; omega, by show (ys ++ [y50]).length = _; rw [List.length_append, List.length_singleton]; omega, (fun h => by cases h), fun _ => (hk2 hg60).imp id (fun e => by (rw [take_nx2 hxk, symsF_snoc, e]) <;> rfl)⟩
  · skip
    have hke : k = (parts 32 l).length - 1 := by have := of_decide_eq_false h45; omega
    refine CW_fact (fun w hw => hw.tform (v := yv) (l := ys) (enc := encY) (by repeat (first | exact .head | apply Swap.tail))) (fun hf => ?_)
    obtain ⟨ay, cy, rfl, _, _, hby⟩ := hf
    have hfull : (ok = true → ok1 = true ∧ symsF ws = some ys) ∧ (ok = false → ok1 = false ∨ symsF ws = none) := by
      have h1 : ((parts 32 l).drop 1).take k = ws := by rw [hwd]; exact List.take_of_length_le (by rw [← hwd, List.length_drop]; omega)
      rw [h1] at hk1 hk2
      exact ⟨hk1, hk2⟩
    refine CW_exit ?_
    refine EW_then_exit ?_
    refine EW_out ?_
    refine EW_block_exit ?_
    refine EW_then ?_
    refine CW_seq ?_
    refine CW_draw (Sat (Old w0) w0 [cel b10 50 [.int .i64 y26.n, .slice ay ys.length cy], cel bg 24 [.int .i64 t, .int .i64 n, ov]]) 10 [(0, false), (1, false), (2, false), (3, false), (4, false), (5, false), (6, true), (7, true), (8, false), (9, false), (10, true)] (by kernel_rfl) (Blind.then Blind.bodyP) (by kernel_rfl) (fun w hw => hw.drew) ?_
    refine DW_q rfl (fun w hw => hw.sub (by (repeat (first | exact SubL.nil | exact Pick.head | apply Pick.tail | apply SubL.cons)))) (q_move rfl) rfl ?_
    refine DW_q rfl (fun w hw => hw.sub (by (repeat (first | exact SubL.nil | exact Pick.head | apply Pick.tail | apply SubL.cons)))) (q_move rfl) rfl ?_
    refine DW_q rfl (fun w hw => hw.sub (by (repeat (first | exact SubL.nil | exact Pick.head | apply Pick.tail | apply SubL.cons)))) (q_nilCheck rfl) rfl ?_
    refine DW_q rfl (fun w hw => hw.sub (by (repeat (first | exact SubL.nil | exact Pick.head | apply Pick.tail | apply SubL.cons)))) (q_fieldAddr Tryd.underlying24 rfl rfl Tryd.sizeOf22 rfl rfl) rfl ?_
    first | (refine DW_q rfl (fun w hw => hw.sub (by (repeat (first | exact SubL.nil | exact Pick.head | apply Pick.tail | apply SubL.cons)))) (q_load1_own Tryd.isAgg22 rfl rfl (by (repeat (first | exact .head | apply Swap.tail))) (by rfl)) rfl ?_) | (refine DW_q rfl (fun w hw => hw.sub (by (repeat (first | exact SubL.nil | exact Pick.head | apply Pick.tail | apply SubL.cons)))) (q_load1_ro Tryd.isAgg22 rfl (by first | assumption | exact Row.at_ (by assumption) rfl)) rfl ?_)
    first | (refine DW_q rfl (fun w hw => hw.sub (by (repeat (first | exact SubL.nil | exact Pick.head | apply Pick.tail | apply SubL.cons)))) (q_loadN_own Tryd.isAgg50 Tryd.sizeOf50 rfl rfl (by (repeat (first | exact .head | apply Swap.tail))) (by rfl)) rfl ?_) | (refine DW_q rfl (fun w hw => hw.sub (by (repeat (first | exact SubL.nil | exact Pick.head | apply Pick.tail | apply SubL.cons)))) (q_loadN_ro Tryd.isAgg50 Tryd.sizeOf50 rfl (by first | assumption | exact Row.at_ (by assumption) rfl) (by rfl)) rfl ?_)
    refine DW_e rfl (e_single Tryd.underlying22 Tryd.sizeOf50 Tryd.zeroValue50 (e := 50) (v := .agg #[.int .i64 y26.n, .slice ay ys.length cy]) (cs := [.int .i64 y26.n, .slice ay ys.length cy]) rfl rfl rfl rfl (by decide) (by decide)) rfl (fun _ w hw => hw.sub (by repeat (first | exact SubL.nil | exact Pick.head | apply Pick.tail | apply SubL.cons))) (fun b70 => ?_)
    refine DW_e rfl (e_append_t (x0 := (⟨⟨y26.n, ys⟩, .slice ay ys.length cy⟩ : RV)) (enc := encRV) (v := ov) (l := rs) Tryd.underlying22 Tryd.typeInfo50 rfl rfl rfl rfl rfl rfl rfl (by repeat (first | exact .head | apply Pick.tail)) rfl (by exact fun w hw => hw.news (by repeat (first | exact .head | apply Swap.tail))) (by simp [Value.oneCell']) (by omega) (by decide)) rfl (fun _ w hw => hw.sub (by repeat (first | exact SubL.nil | exact Pick.head | apply Pick.tail | apply SubL.cons))) (fun v71 => ?_)
    refine DW_fact (fun w hw => hw.tform (v := v71) (l := (rs ++ [(⟨⟨y26.n, ys⟩, .slice ay ys.length cy⟩ : RV)])) (enc := encRV) (by repeat (first | exact .head | apply Swap.tail))) (fun hf => ?_)
    obtain ⟨a71, c71, rfl, _, _, hb71⟩ := hf
    refine DW_q rfl (fun w hw => hw.sub (by (repeat (first | exact SubL.nil | exact Pick.head | apply Pick.tail | apply SubL.cons)))) (q_nilCheck rfl) rfl ?_
    refine DW_q rfl (fun w hw => hw.sub (by (repeat (first | exact SubL.nil | exact Pick.head | apply Pick.tail | apply SubL.cons)))) (q_fieldAddr Tryd.underlying24 rfl rfl Tryd.sizeOf22 rfl rfl) rfl ?_
    refine DW_z0 rfl (e_store Tryd.sizeOf22 rfl rfl rfl rfl (by (repeat (first | exact .head | apply Swap.tail))) (by rfl)) (fun _ => ?_)
    refine EW_then ?_
    refine CW_seq ?_
    refine CW_region ?_
    refine OW_q (q_move rfl) rfl ?_
    refine OW_q (q_assign rfl) rfl ?_
    refine OW_nil ?_
    refine EW_then ?_
    refine CW_ret ?_
    refine ret1 Tryd.results21 rfl (fun w hw => ?_)
    refine ⟨(ok, .slice a71 (rs ++ [(⟨⟨y26.n, ys⟩, .slice ay ys.length cy⟩ : RV)]).length c71, rs ++ [(⟨⟨y26.n, ys⟩, .slice ay ys.length cy⟩ : RV)]), rfl, ⟨⟨fun h => ?_, fun h => ?_⟩, by rw [List.length_append]; rfl⟩, ?_⟩
    · obtain ⟨h1, h2⟩ := hfull.1 h
      refine ⟨⟨y26.n, ys⟩, ?_, by simp [plainR]⟩
      (rw [ruleF_eq hws, hlo.1 h1, h2]) <;> rfl
    · rw [ruleF_eq hws]
      rcases hfull.2 h with h1 | h1
      · (rw [hlo.2 h1]) <;> rfl
      · rw [h1]
        cases leftF a <;> rfl
    · have h1 : Sat (Old _) _ (symsA rs :: symA (⟨⟨y26.n, ys⟩, .slice ay ys.length cy⟩ : RV) :: [cel bg 24 [.int .i64 t, .int .i64 n, .slice a71 (rs ++ [(⟨⟨y26.n, ys⟩, .slice ay ys.length cy⟩ : RV)]).length c71], rulesA (.slice a71 (rs ++ [(⟨⟨y26.n, ys⟩, .slice ay ys.length cy⟩ : RV)]).length c71) (rs ++ [(⟨⟨y26.n, ys⟩, .slice ay ys.length cy⟩ : RV)]), F]) w := hw.sub (by repeat (first | exact SubL.nil | exact Pick.head | apply Pick.tail | apply SubL.cons))
      exact h1.symsPush.sub (by repeat (first | exact SubL.nil | exact Pick.head | apply Pick.tail | apply SubL.cons))

end Go.Sy
