/- Walks and plain laws, part 9. No condition. -/
import Derived.Test.YteceklkjbcebkabM4
import Derived.Test.YteceklkjbcebkabM7
import Derived.Test.YteceklkjbcebkabM8
/- slices.Clone, slices.Replace, slices.Index of trees and numbers. No condition. -/
namespace Go.Sy
open Go Go.RowKit Go.Proofs

theorem idx_first {n : Nat} : ∀ {l : List Nat} {k : Nat}, l[k]? = some n → n ∉ l.take k → idx n l = k
 | x :: l, 0, h, _ => by
   injection h with h
   unfold idx
   rw [if_pos h]
 | x :: l, k + 1, h, hn => by
   have h : l[k]? = some n := h
   have hx : x ≠ n := fun e => hn (by rw [e]; exact .head _)
   unfold idx
   rw [if_neg hx, idx_first h fun hm => hn (.tail _ hm)]
set_option maxRecDepth 20000 in
theorem replN1_any (v : Value) (xs vs : List Value) (len i j m vc : Nat) (sa : Option Addr) (R : Nat → Prop) (w0 w : World) (F : HP) (him : i + m ≤ j) (hij : i < j) (hj : j ≤ len) (hlm : len + m ≤ 1000) (hvs : vs.length = m * 1) (hvi : VIn R w0 F sa vs) (h1v : ∀ u ∈ vs, u.oneCell' = true) (h1x : ∀ u ∈ xs, u.oneCell' = true) (hw : Sat R w0 ([row 80 1 v len xs] ++ [F]) w) : Calls Try.prog 62 #[v, .int .i64 (i : Int), .int .i64 (j : Int), .slice sa m vc] w (fun e w' => ∃ v' : Value, e = .returned v' ∧ Sat R w0 ([row 80 1 v' (len - (j - i) + m) (xs.take (i * 1) ++ vs ++ xs.drop (j * 1))] ++ [F]) w') := by
 have hw : Sat R w0 [row 80 1 v len xs, F] w := hw
 obtain ⟨_, h0, _⟩ | ⟨b, cap, rfl, _, _, _, _⟩ := hw.rowForm (A' := row 80 1 v len xs) .head
 · omega
 obtain ⟨rest, ⟨hfull, hlc, hcm, hxl⟩, hw'⟩ := hw.openRow
 obtain ⟨A, M, B, rfl, hA, hM, hB⟩ : ∃ A M B : List Value, xs = A ++ (M ++ B) ∧ A.length = i * 1 ∧ M.length = (j - i) * 1 ∧ B.length = (len - j) * 1 := by
   refine ⟨xs.take (i * 1), (xs.drop (i * 1)).take ((j - i) * 1), xs.drop (j * 1), ?_, ?_, ?_, ?_⟩
   · have e : xs.drop (j * 1) = (xs.drop (i * 1)).drop ((j - i) * 1) := by rw [List.drop_drop]; congr 1; omega
     rw [e, List.take_append_drop, List.take_append_drop]
   · rw [List.length_take]; omega
   · rw [List.length_take, List.length_drop]; omega
   · rw [List.length_drop]; omega
 have ht : (A ++ (M ++ B)).take (i * 1) = A := by rw [← hA, List.take_left]
 have hdr : (A ++ (M ++ B)).drop (j * 1) = B := by
   have e : j * 1 = A.length + M.length := by omega
   rw [e, ← List.append_assoc, ← List.length_append, List.drop_left]
 rw [ht, hdr]
 have h1B : ∀ u ∈ B, u.oneCell' = true := fun u hu => h1x u (by simp [hu])
 rw [List.length_append, List.length_append, List.length_append] at hfull
 rw [List.append_assoc, List.append_assoc] at hw'
 refine calls_CW (S := Sat R w0 [cel b 80 (A ++ (M ++ (B ++ rest))), F]) Try.func62 rfl Try.ntmps62 rfl (hw') ?_
 refine nx3 ?_
 refine aO ?_
 refine nx4 ?_
 refine mO ?_
 refine mO ?_
 refine mO ?_
 refine OW_q (q_slice Try.underlying97 Try.sizeOf80 rfl (.inr ⟨_, rfl, rfl⟩) (.inr ⟨_, rfl, rfl⟩) (by omega) (by omega) (by omega)) rfl ?_
 refine nx2 ?_
 refine CW_seq ?_
 refine nx3 ?_
 refine mO ?_
 refine mO ?_
 refine OW_q (q_eqi rfl rfl) rfl ?_
 refine nx2 ?_
 refine CW_false rfl (by simp; omega) ?_
 refine CW_skip ?_
 refine EW_then ?_
 refine CW_seq ?_
 refine nx3 ?_
 refine mO ?_
 refine mO ?_
 refine OW_q (q_len Try.underlying97 rfl) rfl ?_
 refine OW_q (q_eqi rfl rfl) rfl ?_
 refine nx2 ?_
 refine CW_cond rfl (fun h29 => ?_) (fun h29 => ?_)
 · skip
   have hjl : j = len := by simp at h29; omega
   have hBn : B = [] := List.eq_nil_of_length_eq_zero (by omega)
   subst hBn
   refine nx3 ?_
   refine mO ?_
   refine mO ?_
   refine OW_q (q_slice Try.underlying97 Try.sizeOf80 rfl (.inl ⟨rfl, rfl⟩) (.inr ⟨_, rfl, rfl⟩) (by omega) (by omega) (by omega)) rfl ?_
   refine OW_spell 32 (.slice (some ⟨b, 0, none⟩) i cap) rfl sl_zero ?_
   refine mO ?_
   refine OW_e (e_appendV (size := 1) (b := b) (len := i) (cap := cap) (xs := A) (rest := M ++ ([] ++ rest)) (news := vs) (sa := sa) Try.underlying97 Try.typeInfo80 rfl rfl rfl rfl rfl rfl rfl pkt hvs hA (by simp only [List.length_append, List.length_drop, List.length_take, List.length_nil]; omega) (by omega) hcm (fun w hw => hw.vin (F := F) swt hvi) h1v (by omega) (by decide)) rfl (fun v34 => ?_)
   refine OW_pure fun hv34 => ?_
   refine aO ?_
   refine nx2 ?_
   refine CW_seq ?_
   refine CW_seq ?_
   refine CW_fact (fun w hw => hw.rowSl (A' := row 80 1 v34 (i + m) (A ++ vs)) .head) (fun hf => ?_)
   obtain ⟨p34, c34, rfl, _, _⟩ := hf
   refine CW_region ?_
   refine mO ?_
   refine OW_q (q_len Try.underlying97 rfl) rfl ?_
   refine mO ?_
   refine OW_q (q_len Try.underlying97 rfl) rfl ?_
   refine OW_q (q_lss rfl rfl) rfl ?_
   refine nx2 ?_
   refine CW_cond rfl (fun h39 => ?_) (fun h39 => ?_)
   · skip
     have himl : i + m < len := by have := of_decide_eq_true h39; omega
     have e34 := hv34 (by have := of_decide_eq_true h39; omega)
     injection e34 with e1 e2 e3
     subst e1
     subst e3
     refine CW_ex (fun w hw => hw.openRow) (fun rest2 => ?_)
     refine CW_pure fun hr2 => ?_
     obtain ⟨hr2, _, _, hr3⟩ := hr2
     rw [List.length_append] at hr2
     refine CW_weak (S' := Sat R w0 [cel b 80 ((A ++ vs) ++ rest2), F]) (fun w hw => hw) ?_
     refine CW_region ?_
     refine mO ?_
     refine mO ?_
     refine OW_q (q_len Try.underlying97 rfl) rfl ?_
     refine OW_q (q_slice Try.underlying97 Try.sizeOf80 rfl (.inr ⟨_, rfl, rfl⟩) (.inl ⟨rfl, rfl⟩) (by omega) (by omega) (by omega)) rfl ?_
     refine OW_e0 (e_clear (size := 1) (b := b) (o := (i + m) * 1) (m := len - (i + m)) (Pre := A ++ vs) (Q0 := rest2) Try.underlying97 Try.zeroValue80 rfl rfl (fun _ => sl_at (by omega)) (by omega) (by omega) (by simp [Value.cells, Value.oneCell']) swt) (fun _ => ?_)
     refine nx4 ?_
     refine mO ?_
     refine aO ?_
     refine nx2 ?_
     refine CW_ret ?_
     refine EW_then_ret ?_
     refine ret1 Try.results62 rfl (fun w hw => ?_)
     have hn : len - (j - i) + m = i + m := by omega
     refine ⟨_, rfl, ?_⟩
     rw [hn, List.append_nil]
     exact Sat.sub (Sat.closeRow (size := 1) (cap := c34) (n := i + m) (hw) (by simp only [List.length_append, List.length_drop, List.length_take, List.length_nil, Array.length_toList, size_zeroCells, Value.cells, List.size_toArray, List.length_cons]; omega) (by omega) (by omega) (by omega)) sbt
   refine CW_skip ?_
   refine EW_then ?_
   refine nx3 ?_
   refine mO ?_
   refine aO ?_
   refine nx2 ?_
   refine CW_ret ?_
   refine EW_then_ret ?_
   refine ret1 Try.results62 rfl (fun w hw => ?_)
   have hn : len - (j - i) + m = i + m := by omega
   refine ⟨_, rfl, ?_⟩
   rw [hn, List.append_nil]
   exact hw
 have hjl : j < len := by simp at h29; omega
 refine CW_skip ?_
 refine EW_then ?_
 refine CW_seq ?_
 refine CW_drawS 13 [(0, false), (1, false), (2, false), (3, false), (4, false), (5, false), (6, false), (7, false), (8, false), (9, false), (10, false), (11, false), (12, false)] (by kernel_rfl) (Blind.then Blind.bodyP) (by kernel_rfl) (fun w hw => hw.drew) ?_
 refine mD ?_
 refine mD ?_
 refine DW_q rfl sft (q_slice Try.underlying97 Try.sizeOf80 rfl (.inl ⟨rfl, rfl⟩) (.inr ⟨_, rfl, rfl⟩) (by omega) (by omega) (by omega)) rfl ?_
 refine DW_q rfl sft (q_len Try.underlying97 rfl) rfl ?_
 refine mD ?_
 refine DW_q rfl sft (q_len Try.underlying97 rfl) rfl ?_
 refine DW_q rfl sft (q_inc rfl rfl (by omega)) rfl ?_
 refine mD ?_
 refine mD ?_
 refine DW_q rfl sft (q_slice Try.underlying97 Try.sizeOf80 rfl (.inr ⟨_, rfl, rfl⟩) (.inl ⟨rfl, rfl⟩) (by omega) (by omega) (by omega)) rfl ?_
 refine DW_q rfl sft (q_len Try.underlying97 rfl) rfl ?_
 refine DW_q rfl sft (q_inc rfl rfl (by omega)) rfl ?_
 refine DW_q rfl sft (q_assign rfl) rfl ?_
 refine DW_nil ?_
 refine EW_then ?_
 refine CW_seq ?_
 refine CW_seq ?_
 refine CW_spell 10 (.int .i64 (((i + m + (len - j)) : Nat) : Int)) rfl rfl ?_
 refine CW_region ?_
 refine mO ?_
 refine mO ?_
 refine OW_q (q_cap Try.underlying97 rfl) rfl ?_
 refine OW_q (q_gtr rfl rfl) rfl ?_
 refine nx2 ?_
 refine CW_cond rfl (fun h60 => ?_) (fun h60 => ?_)
 · skip
   have htc : cap < (i + m + (len - j)) := by have := of_decide_eq_true h60; omega
   refine nx3 ?_
   refine mO ?_
   refine mO ?_
   refine OW_q (q_slice Try.underlying97 Try.sizeOf80 rfl (.inl ⟨rfl, rfl⟩) (.inr ⟨_, rfl, rfl⟩) (by omega) (by omega) (by omega)) rfl ?_
   refine OW_spell 63 (.slice (some ⟨b, 0, none⟩) i cap) rfl sl_zero ?_
   refine mO ?_
   refine mO ?_
   refine OW_q (q_sub rfl rfl (by omega) (by omega)) rfl ?_
   refine OW_spell 66 (.int .i64 ((m + (len - j) : Nat) : Int)) rfl (congrArg (Value.int .i64) (by omega)) ?_
   refine OW_e (e_appendZ (size := 1) (b := b) (len := i) (cap := cap) (m := m + (len - j)) (xs := A) (rest := M ++ (B ++ rest)) Try.underlying97 Try.underlying3 Try.typeInfo80 rfl rfl rfl rfl rfl rfl rfl swt hA (by omega) (by omega) (by decide)) rfl (fun y67 => ?_)
   refine OW_pure fun hy => ?_
   obtain ⟨hy1, hy2, hy3⟩ := hy
   rw [List.length_append] at hy1
   refine aO ?_
   refine nx4 ?_
   refine mO ?_
   refine mO ?_
   refine OW_q (q_slice Try.underlying97 Try.sizeOf80 rfl (.inr ⟨_, rfl, rfl⟩) (.inl ⟨rfl, rfl⟩) (by omega) (by omega) (by omega)) rfl ?_
   refine mO ?_
   refine OW_e (e_copy (size := 1) (b := y67.1) (o := (i) * 1) (Pre := A) (Q0 := y67.2.2) (vs := vs) Try.underlying97 Try.typeInfo80 rfl rfl rfl rfl (fun _ => sl_at (by omega)) (by rw [hvs]; congr 1; omega) ((fun w hw => hw.vin (F := F) swt hvi)) (by omega) (by omega) h1v swt) rfl (fun _ => ?_)
   refine nx2 ?_
   refine CW_seq ?_
   refine CW_weak (S' := Sat R w0 [cel y67.1 80 ((A ++ vs) ++ y67.2.2.drop vs.length), cel b 80 (A ++ (M ++ (B ++ rest))), F]) (fun w hw => by rw [List.append_assoc]; exact hw) ?_
   refine CW_drawS 9 [(0, false), (1, false), (2, false), (3, false), (4, false), (5, false), (6, false), (7, false), (8, false), (9, true)] (by kernel_rfl) (Blind.then (Blind.then Blind.bodyP)) (by kernel_rfl) (fun w hw => hw.drew) ?_
   refine mD ?_
   refine mD ?_
   refine mD ?_
   refine DW_q rfl sft (q_len Try.underlying97 rfl) rfl ?_
   refine DW_q rfl sft (q_inc rfl rfl (by omega)) rfl ?_
   refine DW_q rfl sft (q_slice Try.underlying97 Try.sizeOf80 rfl (.inr ⟨_, rfl, rfl⟩) (.inl ⟨rfl, rfl⟩) (by omega) (by omega) (by omega)) rfl ?_
   refine mD ?_
   refine mD ?_
   refine DW_q rfl sft (q_slice Try.underlying97 Try.sizeOf80 rfl (.inr ⟨_, rfl, rfl⟩) (.inl ⟨rfl, rfl⟩) (by omega) (by omega) (by omega)) rfl ?_
   refine DW_z rfl (e_copy (size := 1) (b := y67.1) (o := (i + m) * 1) (Pre := A ++ vs) (Q0 := y67.2.2.drop vs.length) (vs := B) Try.underlying97 Try.typeInfo80 rfl rfl rfl rfl (fun _ => sl_at (by omega)) (by rw [hB]; congr 1; omega) (fun w hw k u hk => ⟨_, sl_at (by omega), by rw [Addr.add_lit, hw.cell (t := 80) (cs := A ++ (M ++ (B ++ rest))) (A' := cel b 80 (A ++ (M ++ (B ++ rest)))) swt]; exact cells_at (by omega) hk⟩) (by omega) (by omega) h1B swt) rfl (fun _ => ?_)
   refine EW_then ?_
   refine nx3 ?_
   refine mO ?_
   refine aO ?_
   refine nx2 ?_
   refine CW_ret ?_
   refine EW_then_ret ?_
   refine ret1 Try.results62 rfl (fun w hw => ?_)
   have hn : len - (j - i) + m = (i + (m + (len - j))) := by omega
   refine ⟨_, rfl, ?_⟩
   rw [hn]
   exact Sat.sub (Sat.closeRow (size := 1) (cap := y67.2.1) (n := (i + (m + (len - j)))) ((by rw [← List.append_assoc] at hw; exact hw)) (by omega) (by omega) (by omega) (by omega)) sbt
 have htc : (i + m + (len - j)) ≤ cap := by have := of_decide_eq_false h60; omega
 refine CW_skip ?_
 refine EW_then ?_
 refine nx3 ?_
 refine mO ?_
 refine mO ?_
 refine OW_q (q_slice Try.underlying97 Try.sizeOf80 rfl (.inl ⟨rfl, rfl⟩) (.inr ⟨_, rfl, rfl⟩) (by omega) (by omega) (by omega)) rfl ?_
 refine aO ?_
 refine nx2 ?_
 refine CW_seq ?_
 refine CW_seq ?_
 refine CW_spell 12 (.slice (some ⟨b, 0, none⟩) (i + m + (len - j)) cap) rfl sl_zero ?_
 refine CW_region ?_
 refine mO ?_
 refine mO ?_
 refine OW_q (q_len Try.underlying97 rfl) rfl ?_
 refine OW_q (q_inc rfl rfl (by omega)) rfl ?_
 refine mO ?_
 refine OW_q (q_leq rfl rfl) rfl ?_
 refine nx2 ?_
 refine CW_true rfl (by simp; omega) ?_
 refine nx3 ?_
 refine mO ?_
 refine mO ?_
 refine OW_q (q_slice Try.underlying97 Try.sizeOf80 rfl (.inr ⟨_, rfl, rfl⟩) (.inl ⟨rfl, rfl⟩) (by omega) (by omega) (by omega)) rfl ?_
 refine mO ?_
 refine OW_e (e_copy (size := 1) (b := b) (o := (i) * 1) (Pre := A) (Q0 := M ++ (B ++ rest)) (vs := vs) Try.underlying97 Try.typeInfo80 rfl rfl rfl rfl (fun _ => sl_at (by omega)) (by rw [hvs]; congr 1; omega) ((fun w hw => hw.vin (F := F) swt hvi)) (by omega) (by simp only [List.length_append, List.length_drop, List.length_take, List.length_nil]; omega) h1v swt) rfl (fun _ => ?_)
 refine nx2 ?_
 refine CW_seq ?_
 refine CW_weak (S' := Sat R w0 [cel b 80 ((A ++ vs) ++ (M.drop vs.length ++ (B ++ rest))), F]) (fun w hw => by
   rw [List.drop_append_of_le_length (by omega)] at hw
   rw [List.append_assoc]; exact hw) ?_
 refine CW_drawS 9 [(0, false), (1, false), (2, false), (3, false), (4, false), (5, false), (6, false), (7, false), (8, false), (9, true)] (by kernel_rfl) (Blind.then (Blind.then Blind.bodyP)) (by kernel_rfl) (fun w hw => hw.drew) ?_
 refine mD ?_
 refine mD ?_
 refine mD ?_
 refine DW_q rfl sft (q_len Try.underlying97 rfl) rfl ?_
 refine DW_q rfl sft (q_inc rfl rfl (by omega)) rfl ?_
 refine DW_q rfl sft (q_slice Try.underlying97 Try.sizeOf80 rfl (.inr ⟨_, rfl, rfl⟩) (.inl ⟨rfl, rfl⟩) (by omega) (by omega) (by omega)) rfl ?_
 refine mD ?_
 refine mD ?_
 refine DW_q rfl sft (q_slice Try.underlying97 Try.sizeOf80 rfl (.inr ⟨_, rfl, rfl⟩) (.inl ⟨rfl, rfl⟩) (by omega) (by omega) (by omega)) rfl ?_
 refine DW_z rfl (e_copy (size := 1) (b := b) (o := (i + m) * 1) (Pre := A ++ vs) (Q0 := M.drop vs.length ++ (B ++ rest)) (vs := B) Try.underlying97 Try.typeInfo80 rfl rfl rfl rfl (fun _ => sl_at (by omega)) (by rw [hB]; congr 1; omega) (fun w hw k u hk => ⟨_, sl_at (by omega), by rw [Addr.add_lit, hw.cell (t := 80) (cs := (A ++ vs) ++ (M.drop vs.length ++ (B ++ rest))) (A' := cel b 80 ((A ++ vs) ++ (M.drop vs.length ++ (B ++ rest)))) swt]; exact cells_at (by simp only [List.length_append, List.length_drop]; omega) hk⟩) (by simp only [List.length_append, List.length_drop, List.length_take, List.length_nil]; omega) (by simp only [List.length_append, List.length_drop, List.length_take, List.length_nil]; omega) h1B swt) rfl (fun _ => ?_)
 refine EW_then ?_
 refine CW_seq ?_
 refine CW_weak (S' := Sat R w0 [cel b 80 (((A ++ vs) ++ B) ++ (M.drop vs.length ++ (B ++ rest)).drop B.length), F]) (fun w hw => by rw [List.append_assoc]; exact hw) ?_
 refine CW_region ?_
 refine mO ?_
 refine mO ?_
 refine OW_q (q_slice Try.underlying97 Try.sizeOf80 rfl (.inr ⟨_, rfl, rfl⟩) (.inl ⟨rfl, rfl⟩) (by omega) (by omega) (by omega)) rfl ?_
 refine OW_e0 (e_clear (size := 1) (b := b) (o := (i + m + (len - j)) * 1) (m := len - (i + m + (len - j))) (Pre := (A ++ vs) ++ B) (Q0 := (M.drop vs.length ++ (B ++ rest)).drop B.length) Try.underlying97 Try.zeroValue80 rfl rfl (fun hne => sl_at (by omega)) (by simp only [List.length_append, List.length_drop, List.length_take, List.length_nil]; omega) (by simp only [List.length_append, List.length_drop, List.length_take, List.length_nil]; omega) (by simp [Value.cells, Value.oneCell']) swt) (fun _ => ?_)
 refine nx4 ?_
 refine mO ?_
 refine aO ?_
 refine nx2 ?_
 refine CW_ret ?_
 refine EW_then_ret ?_
 refine ret1 Try.results62 rfl (fun w hw => ?_)
 have hn : len - (j - i) + m = (i + m + (len - j)) := by omega
 refine ⟨_, rfl, ?_⟩
 rw [hn]
 exact Sat.sub (Sat.closeRow (size := 1) (cap := cap) (n := (i + m + (len - j))) (hw) (by simp only [List.length_append, List.length_drop, List.length_take, List.length_nil, Array.length_toList, size_zeroCells, Value.cells, List.size_toArray, List.length_cons]; omega) (by omega) (by omega) (by simp only [List.length_append]; omega)) sbt

set_option maxRecDepth 20000 in
theorem replN2_any (v : Value) (xs vs : List Value) (len i j m vc : Nat) (sa : Option Addr) (R : Nat → Prop) (w0 w : World) (F : HP) (him : j < i + m) (hij : i < j) (hj : j ≤ len) (hlm : len + m ≤ 1000) (hvs : vs.length = m * 1) (hvi : VIn R w0 F sa vs) (h1v : ∀ u ∈ vs, u.oneCell' = true) (h1x : ∀ u ∈ xs, u.oneCell' = true) (hw : Sat R w0 ([row 80 1 v len xs] ++ [F]) w) : Calls Try.prog 62 #[v, .int .i64 (i : Int), .int .i64 (j : Int), .slice sa m vc] w (fun e w' => ∃ v' : Value, e = .returned v' ∧ Sat R w0 ([row 80 1 v' (len - (j - i) + m) (xs.take (i * 1) ++ vs ++ xs.drop (j * 1))] ++ [F]) w') := by
 have hw : Sat R w0 [row 80 1 v len xs, F] w := hw
 obtain ⟨_, h0, _⟩ | ⟨b, cap, rfl, _, _, _, _⟩ := hw.rowForm (A' := row 80 1 v len xs) .head
 · omega
 obtain ⟨rest, ⟨hfull, hlc, hcm, hxl⟩, hw'⟩ := hw.openRow
 obtain ⟨A, M, B, rfl, hA, hM, hB⟩ : ∃ A M B : List Value, xs = A ++ (M ++ B) ∧ A.length = i * 1 ∧ M.length = (j - i) * 1 ∧ B.length = (len - j) * 1 := by
   refine ⟨xs.take (i * 1), (xs.drop (i * 1)).take ((j - i) * 1), xs.drop (j * 1), ?_, ?_, ?_, ?_⟩
   · have e : xs.drop (j * 1) = (xs.drop (i * 1)).drop ((j - i) * 1) := by rw [List.drop_drop]; congr 1; omega
     rw [e, List.take_append_drop, List.take_append_drop]
   · rw [List.length_take]; omega
   · rw [List.length_take, List.length_drop]; omega
   · rw [List.length_drop]; omega
 have ht : (A ++ (M ++ B)).take (i * 1) = A := by rw [← hA, List.take_left]
 have hdr : (A ++ (M ++ B)).drop (j * 1) = B := by
   have e : j * 1 = A.length + M.length := by omega
   rw [e, ← List.append_assoc, ← List.length_append, List.drop_left]
 rw [ht, hdr]
 have h1B : ∀ u ∈ B, u.oneCell' = true := fun u hu => h1x u (by simp [hu])
 rw [List.length_append, List.length_append, List.length_append] at hfull
 rw [List.append_assoc, List.append_assoc] at hw'
 obtain ⟨u0, us, hvc⟩ : ∃ u us, vs = u :: us := by
   cases hv : vs with
   | nil => rw [hv] at hvs; simp at hvs; omega
   | cons u us => exact ⟨u, us, rfl⟩
 refine calls_CW (S := Sat R w0 [cel b 80 (A ++ (M ++ (B ++ rest))), F]) Try.func62 rfl Try.ntmps62 rfl (hw') ?_
 refine nx3 ?_
 refine aO ?_
 refine nx4 ?_
 refine mO ?_
 refine mO ?_
 refine mO ?_
 refine OW_q (q_slice Try.underlying97 Try.sizeOf80 rfl (.inr ⟨_, rfl, rfl⟩) (.inr ⟨_, rfl, rfl⟩) (by omega) (by omega) (by omega)) rfl ?_
 refine nx2 ?_
 refine CW_seq ?_
 refine nx3 ?_
 refine mO ?_
 refine mO ?_
 refine OW_q (q_eqi rfl rfl) rfl ?_
 refine nx2 ?_
 refine CW_false rfl (by simp; omega) ?_
 refine CW_skip ?_
 refine EW_then ?_
 refine CW_seq ?_
 refine nx3 ?_
 refine mO ?_
 refine mO ?_
 refine OW_q (q_len Try.underlying97 rfl) rfl ?_
 refine OW_q (q_eqi rfl rfl) rfl ?_
 refine nx2 ?_
 refine CW_cond rfl (fun h29 => ?_) (fun h29 => ?_)
 · skip
   have hjl : j = len := by simp at h29; omega
   have hBn : B = [] := List.eq_nil_of_length_eq_zero (by omega)
   subst hBn
   refine nx3 ?_
   refine mO ?_
   refine mO ?_
   refine OW_q (q_slice Try.underlying97 Try.sizeOf80 rfl (.inl ⟨rfl, rfl⟩) (.inr ⟨_, rfl, rfl⟩) (by omega) (by omega) (by omega)) rfl ?_
   refine OW_spell 32 (.slice (some ⟨b, 0, none⟩) i cap) rfl sl_zero ?_
   refine mO ?_
   refine OW_e (e_appendV (size := 1) (b := b) (len := i) (cap := cap) (xs := A) (rest := M ++ ([] ++ rest)) (news := vs) (sa := sa) Try.underlying97 Try.typeInfo80 rfl rfl rfl rfl rfl rfl rfl pkt hvs hA (by simp only [List.length_append, List.length_drop, List.length_take, List.length_nil]; omega) (by omega) hcm (fun w hw => hw.vin (F := F) swt hvi) h1v (by omega) (by decide)) rfl (fun v34 => ?_)
   refine OW_pure fun hv34 => ?_
   refine aO ?_
   refine nx2 ?_
   refine CW_seq ?_
   refine CW_seq ?_
   refine CW_fact (fun w hw => hw.rowSl (A' := row 80 1 v34 (i + m) (A ++ vs)) .head) (fun hf => ?_)
   obtain ⟨p34, c34, rfl, _, _⟩ := hf
   refine CW_region ?_
   refine mO ?_
   refine OW_q (q_len Try.underlying97 rfl) rfl ?_
   refine mO ?_
   refine OW_q (q_len Try.underlying97 rfl) rfl ?_
   refine OW_q (q_lss rfl rfl) rfl ?_
   refine nx2 ?_
   refine CW_cond rfl (fun h39 => ?_) (fun h39 => ?_)
   · skip
     have himl : i + m < len := by have := of_decide_eq_true h39; omega
     have e34 := hv34 (by have := of_decide_eq_true h39; omega)
     injection e34 with e1 e2 e3
     subst e1
     subst e3
     refine CW_ex (fun w hw => hw.openRow) (fun rest2 => ?_)
     refine CW_pure fun hr2 => ?_
     obtain ⟨hr2, _, _, hr3⟩ := hr2
     rw [List.length_append] at hr2
     refine CW_weak (S' := Sat R w0 [cel b 80 ((A ++ vs) ++ rest2), F]) (fun w hw => hw) ?_
     refine CW_region ?_
     refine mO ?_
     refine mO ?_
     refine OW_q (q_len Try.underlying97 rfl) rfl ?_
     refine OW_q (q_slice Try.underlying97 Try.sizeOf80 rfl (.inr ⟨_, rfl, rfl⟩) (.inl ⟨rfl, rfl⟩) (by omega) (by omega) (by omega)) rfl ?_
     refine OW_e0 (e_clear (size := 1) (b := b) (o := (i + m) * 1) (m := len - (i + m)) (Pre := A ++ vs) (Q0 := rest2) Try.underlying97 Try.zeroValue80 rfl rfl (fun _ => sl_at (by omega)) (by omega) (by omega) (by simp [Value.cells, Value.oneCell']) swt) (fun _ => ?_)
     refine nx4 ?_
     refine mO ?_
     refine aO ?_
     refine nx2 ?_
     refine CW_ret ?_
     refine EW_then_ret ?_
     refine ret1 Try.results62 rfl (fun w hw => ?_)
     have hn : len - (j - i) + m = i + m := by omega
     refine ⟨_, rfl, ?_⟩
     rw [hn, List.append_nil]
     exact Sat.sub (Sat.closeRow (size := 1) (cap := c34) (n := i + m) (hw) (by omega) (by omega) (by omega) (by omega)) sbt
   refine CW_skip ?_
   refine EW_then ?_
   refine nx3 ?_
   refine mO ?_
   refine aO ?_
   refine nx2 ?_
   refine CW_ret ?_
   refine EW_then_ret ?_
   refine ret1 Try.results62 rfl (fun w hw => ?_)
   have hn : len - (j - i) + m = i + m := by omega
   refine ⟨_, rfl, ?_⟩
   rw [hn, List.append_nil]
   exact hw
 have hjl : j < len := by simp at h29; omega
 refine CW_skip ?_
 refine EW_then ?_
 refine CW_seq ?_
 refine CW_drawS 13 [(0, false), (1, false), (2, false), (3, false), (4, false), (5, false), (6, false), (7, false), (8, false), (9, false), (10, false), (11, false), (12, false)] (by kernel_rfl) (Blind.then Blind.bodyP) (by kernel_rfl) (fun w hw => hw.drew) ?_
 refine mD ?_
 refine mD ?_
 refine DW_q rfl sft (q_slice Try.underlying97 Try.sizeOf80 rfl (.inl ⟨rfl, rfl⟩) (.inr ⟨_, rfl, rfl⟩) (by omega) (by omega) (by omega)) rfl ?_
 refine DW_q rfl sft (q_len Try.underlying97 rfl) rfl ?_
 refine mD ?_
 refine DW_q rfl sft (q_len Try.underlying97 rfl) rfl ?_
 refine DW_q rfl sft (q_inc rfl rfl (by omega)) rfl ?_
 refine mD ?_
 refine mD ?_
 refine DW_q rfl sft (q_slice Try.underlying97 Try.sizeOf80 rfl (.inr ⟨_, rfl, rfl⟩) (.inl ⟨rfl, rfl⟩) (by omega) (by omega) (by omega)) rfl ?_
 refine DW_q rfl sft (q_len Try.underlying97 rfl) rfl ?_
 refine DW_q rfl sft (q_inc rfl rfl (by omega)) rfl ?_
 refine DW_q rfl sft (q_assign rfl) rfl ?_
 refine DW_nil ?_
 refine EW_then ?_
 refine CW_seq ?_
 refine CW_seq ?_
 refine CW_spell 10 (.int .i64 (((i + m + (len - j)) : Nat) : Int)) rfl rfl ?_
 refine CW_region ?_
 refine mO ?_
 refine mO ?_
 refine OW_q (q_cap Try.underlying97 rfl) rfl ?_
 refine OW_q (q_gtr rfl rfl) rfl ?_
 refine nx2 ?_
 refine CW_cond rfl (fun h60 => ?_) (fun h60 => ?_)
 · skip
   have htc : cap < (i + m + (len - j)) := by have := of_decide_eq_true h60; omega
   refine nx3 ?_
   refine mO ?_
   refine mO ?_
   refine OW_q (q_slice Try.underlying97 Try.sizeOf80 rfl (.inl ⟨rfl, rfl⟩) (.inr ⟨_, rfl, rfl⟩) (by omega) (by omega) (by omega)) rfl ?_
   refine OW_spell 63 (.slice (some ⟨b, 0, none⟩) i cap) rfl sl_zero ?_
   refine mO ?_
   refine mO ?_
   refine OW_q (q_sub rfl rfl (by omega) (by omega)) rfl ?_
   refine OW_spell 66 (.int .i64 ((m + (len - j) : Nat) : Int)) rfl (congrArg (Value.int .i64) (by omega)) ?_
   refine OW_e (e_appendZ (size := 1) (b := b) (len := i) (cap := cap) (m := m + (len - j)) (xs := A) (rest := M ++ (B ++ rest)) Try.underlying97 Try.underlying3 Try.typeInfo80 rfl rfl rfl rfl rfl rfl rfl swt hA (by omega) (by omega) (by decide)) rfl (fun y67 => ?_)
   refine OW_pure fun hy => ?_
   obtain ⟨hy1, hy2, hy3⟩ := hy
   rw [List.length_append] at hy1
   refine aO ?_
   refine nx4 ?_
   refine mO ?_
   refine mO ?_
   refine OW_q (q_slice Try.underlying97 Try.sizeOf80 rfl (.inr ⟨_, rfl, rfl⟩) (.inl ⟨rfl, rfl⟩) (by omega) (by omega) (by omega)) rfl ?_
   refine mO ?_
   refine OW_e (e_copy (size := 1) (b := y67.1) (o := (i) * 1) (Pre := A) (Q0 := y67.2.2) (vs := vs) Try.underlying97 Try.typeInfo80 rfl rfl rfl rfl (fun _ => sl_at (by omega)) (by rw [hvs]; congr 1; omega) ((fun w hw => hw.vin (F := F) swt hvi)) (by omega) (by omega) h1v swt) rfl (fun _ => ?_)
   refine nx2 ?_
   refine CW_seq ?_
   refine CW_weak (S' := Sat R w0 [cel y67.1 80 ((A ++ vs) ++ y67.2.2.drop vs.length), cel b 80 (A ++ (M ++ (B ++ rest))), F]) (fun w hw => by rw [List.append_assoc]; exact hw) ?_
   refine CW_drawS 9 [(0, false), (1, false), (2, false), (3, false), (4, false), (5, false), (6, false), (7, false), (8, false), (9, true)] (by kernel_rfl) (Blind.then (Blind.then Blind.bodyP)) (by kernel_rfl) (fun w hw => hw.drew) ?_
   refine mD ?_
   refine mD ?_
   refine mD ?_
   refine DW_q rfl sft (q_len Try.underlying97 rfl) rfl ?_
   refine DW_q rfl sft (q_inc rfl rfl (by omega)) rfl ?_
   refine DW_q rfl sft (q_slice Try.underlying97 Try.sizeOf80 rfl (.inr ⟨_, rfl, rfl⟩) (.inl ⟨rfl, rfl⟩) (by omega) (by omega) (by omega)) rfl ?_
   refine mD ?_
   refine mD ?_
   refine DW_q rfl sft (q_slice Try.underlying97 Try.sizeOf80 rfl (.inr ⟨_, rfl, rfl⟩) (.inl ⟨rfl, rfl⟩) (by omega) (by omega) (by omega)) rfl ?_
   refine DW_z rfl (e_copy (size := 1) (b := y67.1) (o := (i + m) * 1) (Pre := A ++ vs) (Q0 := y67.2.2.drop vs.length) (vs := B) Try.underlying97 Try.typeInfo80 rfl rfl rfl rfl (fun _ => sl_at (by omega)) (by rw [hB]; congr 1; omega) (fun w hw k u hk => ⟨_, sl_at (by omega), by rw [Addr.add_lit, hw.cell (t := 80) (cs := A ++ (M ++ (B ++ rest))) (A' := cel b 80 (A ++ (M ++ (B ++ rest)))) swt]; exact cells_at (by omega) hk⟩) (by simp only [List.length_append, List.length_drop, List.length_take, List.length_nil]; omega) (by simp only [List.length_append, List.length_drop, List.length_take, List.length_nil]; omega) h1B swt) rfl (fun _ => ?_)
   refine EW_then ?_
   refine nx3 ?_
   refine mO ?_
   refine aO ?_
   refine nx2 ?_
   refine CW_ret ?_
   refine EW_then_ret ?_
   refine ret1 Try.results62 rfl (fun w hw => ?_)
   have hn : len - (j - i) + m = (i + (m + (len - j))) := by omega
   refine ⟨_, rfl, ?_⟩
   rw [hn]
   exact Sat.sub (Sat.closeRow (size := 1) (cap := y67.2.1) (n := (i + (m + (len - j)))) ((by rw [← List.append_assoc] at hw; exact hw)) (by simp only [List.length_append, List.length_drop, List.length_take, List.length_nil, Array.length_toList, size_zeroCells, Value.cells, List.size_toArray, List.length_cons]; omega) (by omega) (by omega) (by simp only [List.length_append]; omega)) sbt
 have htc : (i + m + (len - j)) ≤ cap := by have := of_decide_eq_false h60; omega
 refine CW_skip ?_
 refine EW_then ?_
 refine nx3 ?_
 refine mO ?_
 refine mO ?_
 refine OW_q (q_slice Try.underlying97 Try.sizeOf80 rfl (.inl ⟨rfl, rfl⟩) (.inr ⟨_, rfl, rfl⟩) (by omega) (by omega) (by omega)) rfl ?_
 refine aO ?_
 refine nx2 ?_
 refine CW_seq ?_
 refine CW_seq ?_
 refine CW_spell 12 (.slice (some ⟨b, 0, none⟩) (i + m + (len - j)) cap) rfl sl_zero ?_
 refine CW_region ?_
 refine mO ?_
 refine mO ?_
 refine OW_q (q_len Try.underlying97 rfl) rfl ?_
 refine OW_q (q_inc rfl rfl (by omega)) rfl ?_
 refine mO ?_
 refine OW_q (q_leq rfl rfl) rfl ?_
 refine nx2 ?_
 refine CW_false rfl (by simp; omega) ?_
 refine CW_skip ?_
 refine EW_then ?_
 refine CW_seq ?_
 refine nx3 ?_
 refine mO ?_
 refine mO ?_
 refine mO ?_
 refine OW_q (q_len Try.underlying97 rfl) rfl ?_
 refine OW_q (q_inc rfl rfl (by omega)) rfl ?_
 refine OW_q (q_slice Try.underlying97 Try.sizeOf80 rfl (.inr ⟨_, rfl, rfl⟩) (.inl ⟨rfl, rfl⟩) (by omega) (by omega) (by omega)) rfl ?_
 refine mO ?_
 refine OW_e (e_overlaps (tS := 97) (tR := 4) Try.func75 (by kernel_rfl) (by kernel_rfl) (by kernel_rfl) (by kernel_rfl) rfl rfl (fun w hw => by
   obtain ⟨a2, ha2, hne, T2, k2, hs2, hk2⟩ := hw.vapart hvi 0 u0 (by rw [hvc]; rfl)
   have hb := (hw.block (A' := emp0H) .head (fun x hx => by rw [hx]; exact one_same _ _)).1
   rw [ha2, sl_at (by omega)]
   exact Lib.run_overlaps_apart w 97 4 80 Try.underlying97 1 Try.sizeOf80 _ _ _ _ _ _ hne 80 T2 _ k2 (by simp only [World.shape?, hb]; rfl) hs2 hk2 (hw.unfrozen (A' := emp0H) .head _) (hw.unfrozen (A' := emp0H) .head _))) rfl (fun _ => ?_)
 refine OW_q (q_not rfl) rfl ?_
 refine nx2 ?_
 refine CW_true rfl (rfl) ?_
 refine CW_seq ?_
 refine CW_weak (S' := Sat R w0 [cel b 80 ((A ++ (M ++ (B ++ rest)).take vs.length) ++ (M ++ (B ++ rest)).drop vs.length), F]) (fun w hw => by rw [List.append_assoc, List.take_append_drop]; exact hw) ?_
 refine CW_drawS 9 [(0, false), (1, false), (2, false), (3, false), (4, false), (5, false), (6, false), (7, false), (8, false), (9, true)] (by kernel_rfl) (Blind.then (Blind.then Blind.bodyP)) (by kernel_rfl) (fun w hw => hw.drew) ?_
 refine mD ?_
 refine mD ?_
 refine mD ?_
 refine DW_q rfl sft (q_len Try.underlying97 rfl) rfl ?_
 refine DW_q rfl sft (q_inc rfl rfl (by omega)) rfl ?_
 refine DW_q rfl sft (q_slice Try.underlying97 Try.sizeOf80 rfl (.inr ⟨_, rfl, rfl⟩) (.inl ⟨rfl, rfl⟩) (by omega) (by omega) (by omega)) rfl ?_
 refine mD ?_
 refine mD ?_
 refine DW_q rfl sft (q_slice Try.underlying97 Try.sizeOf80 rfl (.inr ⟨_, rfl, rfl⟩) (.inl ⟨rfl, rfl⟩) (by omega) (by omega) (by omega)) rfl ?_
 refine DW_z rfl (e_copy (size := 1) (b := b) (o := (i + m) * 1) (Pre := A ++ (M ++ (B ++ rest)).take vs.length) (Q0 := (M ++ (B ++ rest)).drop vs.length) (vs := B) Try.underlying97 Try.typeInfo80 rfl rfl rfl rfl (fun _ => sl_at (by omega)) (by rw [hB]; congr 1; omega) (fun w hw k u hk => ⟨_, sl_at (by omega), by rw [Addr.add_lit, hw.cell (t := 80) (cs := (A ++ (M ++ (B ++ rest)).take vs.length) ++ (M ++ (B ++ rest)).drop vs.length) (A' := cel b 80 ((A ++ (M ++ (B ++ rest)).take vs.length) ++ (M ++ (B ++ rest)).drop vs.length)) swt]; rw [List.append_assoc, List.take_append_drop]; exact cells_at (by omega) hk⟩) (by simp only [List.length_append, List.length_drop, List.length_take, List.length_nil]; omega) (by simp only [List.length_append, List.length_drop, List.length_take, List.length_nil]; omega) h1B swt) rfl (fun _ => ?_)
 refine EW_then ?_
 refine CW_seq ?_
 refine CW_weak (S' := Sat R w0 [cel b 80 (A ++ ((M ++ (B ++ rest)).take vs.length ++ (B ++ ((M ++ (B ++ rest)).drop vs.length).drop B.length))), F]) (fun w hw => by rw [← List.append_assoc]; exact hw) ?_
 refine CW_region ?_
 refine mO ?_
 refine mO ?_
 refine OW_q (q_slice Try.underlying97 Try.sizeOf80 rfl (.inr ⟨_, rfl, rfl⟩) (.inl ⟨rfl, rfl⟩) (by omega) (by omega) (by omega)) rfl ?_
 refine mO ?_
 refine OW_e (e_copy (size := 1) (b := b) (o := (i) * 1) (Pre := A) (Q0 := (M ++ (B ++ rest)).take vs.length ++ (B ++ ((M ++ (B ++ rest)).drop vs.length).drop B.length)) (vs := vs) Try.underlying97 Try.typeInfo80 rfl rfl rfl rfl (fun _ => sl_at (by omega)) (by rw [hvs]; congr 1; omega) ((fun w hw => hw.vin (F := F) swt hvi)) (by omega) (by simp only [List.length_append, List.length_drop, List.length_take, List.length_nil]; omega) h1v swt) rfl (fun _ => ?_)
 refine nx4 ?_
 refine mO ?_
 refine aO ?_
 refine nx2 ?_
 refine CW_ret ?_
 refine EW_then_ret ?_
 refine ret1 Try.results62 rfl (fun w hw => ?_)
 have hX : ((M ++ (B ++ rest)).take vs.length).length = vs.length := by rw [List.length_take, List.length_append, List.length_append]; omega
 rw [List.drop_append_of_le_length (Nat.le_of_eq hX.symm), List.drop_eq_nil_of_le (Nat.le_of_eq hX), List.nil_append, ← List.append_assoc, ← List.append_assoc] at hw
 have hn : len - (j - i) + m = (i + m + (len - j)) := by omega
 refine ⟨_, rfl, ?_⟩
 rw [hn]
 exact Sat.sub (Sat.closeRow (size := 1) (cap := cap) (n := (i + m + (len - j))) (hw) (by simp only [List.length_append, List.length_drop, List.length_take, List.length_nil, Array.length_toList, size_zeroCells, Value.cells, List.size_toArray, List.length_cons]; omega) (by omega) (by omega) (by simp only [List.length_append]; omega)) sbt

theorem replN_any (v : Value) (xs vs : List Value) (len i j m vc : Nat) (sa : Option Addr) (R : Nat → Prop) (w0 w : World) (F : HP) (hij : i < j) (hj : j ≤ len) (hlm : len + m ≤ 1000) (hvs : vs.length = m * 1) (hvi : VIn R w0 F sa vs) (h1v : ∀ u ∈ vs, u.oneCell' = true) (h1x : ∀ u ∈ xs, u.oneCell' = true) (hw : Sat R w0 ([row 80 1 v len xs] ++ [F]) w) : Calls Try.prog 62 #[v, .int .i64 (i : Int), .int .i64 (j : Int), .slice sa m vc] w (fun e w' => ∃ v' : Value, e = .returned v' ∧ Sat R w0 ([row 80 1 v' (len - (j - i) + m) (xs.take (i * 1) ++ vs ++ xs.drop (j * 1))] ++ [F]) w') := by
 by_cases him : i + m ≤ j
 · exact replN1_any v xs vs len i j m vc sa R w0 w F him hij hj hlm hvs hvi h1v h1x hw
 · exact replN2_any v xs vs len i j m vc sa R w0 w F (by omega) hij hj hlm hvs hvi h1v h1x hw

set_option maxRecDepth 20000 in
theorem cloneN_any (sa : Option Addr) (vs : List Value) (m vc : Nat) (R : Nat → Prop) (w0 w : World) (F : HP) (hm : m ≤ 1000) (hvs : vs.length = m * 1) (hvi : VIn R w0 F sa vs) (h1v : ∀ u ∈ vs, u.oneCell' = true) (hw : Sat R w0 [F] w) : Calls Try.prog 61 #[.slice sa m vc] w (fun e w' => ∃ v' : Value, e = .returned v' ∧ Sat R w0 ([row 80 1 v' m vs] ++ [F]) w') := by
 refine calls_CW (S := Sat R w0 [F]) Try.func61 rfl Try.ntmps61 rfl (hw) ?_
 refine nx3 ?_
 refine aO ?_
 refine nx2 ?_
 refine CW_seq ?_
 refine nx3 ?_
 refine mO ?_
 refine OW_q (q_eqNilSlice Try.underlying97 rfl rfl) rfl ?_
 refine nx2 ?_
 refine CW_cond rfl (fun h4 => ?_) (fun h4 => ?_)
 · skip
   have hv0 : vs = [] := by
     cases sa with
     | some a => cases h4
     | none =>
       cases hv : vs with
       | nil => rfl
       | cons u us =>
         obtain ⟨y, hy, hz⟩ := hw.own
         obtain ⟨g1, g2, hd, rfl, hA, _⟩ := hy
         obtain ⟨a, ha, _⟩ := hvi g1 hA w (fun b hb => (hw.ro b hb).2) (fun b o hb => (hz b o (by simp [uni, hb])).2) 0 u (by rw [hv]; rfl)
         cases ha
   subst hv0
   have hm0 : m = 0 := by simp at hvs; omega
   subst hm0
   refine nx3 ?_
   refine aO ?_
   refine nx2 ?_
   refine CW_ret ?_
   refine EW_then_ret ?_
   refine ret1 Try.results61 rfl (fun w hw => ?_)
   exact ⟨_, rfl, hw.rowNil 80 1⟩
 refine CW_skip ?_
 refine EW_then ?_
 refine nx3 ?_
 refine OW_e (e_none Try.underlying97 Try.sizeOf80 Try.zeroValue80) rfl (fun b5 => ?_)
 refine mO ?_
 refine OW_e (e_appendV (size := 1) (b := b5) (len := 0) (cap := 0) (xs := []) (rest := []) (news := vs) (sa := sa) Try.underlying97 Try.typeInfo80 rfl rfl rfl rfl rfl rfl rfl pkt hvs rfl rfl (Nat.le_refl _) (Nat.zero_le _) (fun w hw => hw.vin (F := F) swt hvi) h1v (by omega) (by decide)) rfl (fun v7 => ?_)
 refine OW_pure fun _ => ?_
 refine aO ?_
 refine nx2 ?_
 refine CW_ret ?_
 refine ret1 Try.results61 rfl (fun w hw => ?_)
 rw [List.nil_append, Nat.zero_add] at hw
 exact ⟨v7, rfl, hw⟩

set_option maxRecDepth 20000 in
theorem indexI_any (v : Value) (ls : List Nat) (n : Nat) (w : World) (hm : n ∈ ls) (h : IntsAt (Cl w) v (ls.map fun (z : Nat) => (z : Int))) : Calls Try.prog 63 #[v, .int .i64 (n : Int)] w (fun e w' => e = .returned (.int .i64 (idx n ls : Nat)) ∧ Sat (Old w) w [] w') := by
 obtain ⟨a, c, rfl, hc1, hc2, hys⟩ := h.mono old_rd
 rw [List.length_map] at hc1
 refine calls_CW Try.func63 rfl Try.ntmps63 rfl (Sat.start w) ?_
 refine nx3 ?_
 refine aO ?_
 refine nx2 ?_
 refine CW_seq ?_
 refine nx3 ?_
 refine mO ?_
 refine OW_q (q_len Try.underlying32 rfl) rfl ?_
 refine mO ?_
 refine nx2 ?_
 refine CW_block ?_
 refine CW_spell 7 (.int .i64 (ls.length : Int)) rfl (by rw [List.length_map]) ?_
 refine CW_loopP (ι := Nat) (fun k => k ≤ ls.length ∧ n ∉ ls.take k) (fun k => [(0, .slice a (ls.map fun (z : Nat) => (z : Int)).length c), (1, .int .i64 (n : Int)), (7, .int .i64 (ls.length : Int)), (8, .int .i64 (k : Int))]) (fun k => Sat (Old w) w []) (fun k => ls.length - k) 0 ?_ ⟨rfl, rfl, rfl, rfl, trivial⟩ sft ?_
 · exact ⟨Nat.zero_le _, by simp⟩
 intro k hpre
 change CW _ _ _ _ [(0, .slice a (ls.map fun (z : Nat) => (z : Int)).length c), (1, .int .i64 (n : Int)), (7, .int .i64 (ls.length : Int)), (8, .int .i64 (k : Int))] (Sat (Old w) w [])
 obtain ⟨hk, hno⟩ := hpre
 refine nx3 ?_
 refine OW_q (q_lss rfl rfl) rfl ?_
 refine nx2 ?_
 refine CW_seq ?_
 refine CW_cond rfl (fun h9 => ?_) (fun h9 => ?_)
 · skip
   have hlt : k < ls.length := by have := of_decide_eq_true h9; omega
   obtain ⟨z, hz⟩ := get_of_lt hlt
   obtain ⟨p, rfl, hx⟩ := hys k z (by rw [List.getElem?_map, hz]; rfl)
   refine CW_skip ?_
   refine EW_then ?_
   refine CW_seq ?_
   refine CW_block ?_
   refine nx3 ?_
   refine mO ?_
   refine aO ?_
   refine nx4 ?_
   refine mO ?_
   refine mO ?_
   refine mO ?_
   refine OW_q (q_indexAddr Try.underlying32 Try.sizeOf3 rfl rfl (by rw [List.length_map]; omega)) rfl ?_
   refine OW_q (q_load1_ro Try.isAgg3 rfl (by exact hx)) rfl ?_
   refine OW_q (q_eqi rfl rfl) rfl ?_
   refine nx2 ?_
   refine CW_cond rfl (fun h16 => ?_) (fun h16 => ?_)
   · skip
     refine nx3 ?_
     refine mO ?_
     refine aO ?_
     refine nx2 ?_
     refine CW_ret ?_
     refine EW_block_ret ?_
     refine EW_then_ret ?_
     refine EW_out_ret ?_
     refine EW_block_ret ?_
     refine EW_then_ret ?_
     refine ret1 Try.results63 rfl (fun w hw => ?_)
     have hzn : z = n := by simp at h16; omega
     subst hzn
     refine ⟨?_, hw.sub .nil⟩
     rw [idx_first hz hno]
   refine CW_skip ?_
   refine EW_block_normal ?_
   refine EW_then ?_
   refine CW_region ?_
   refine OW_q (q_add rfl rfl (by omega) (by omega)) rfl ?_
   refine mO ?_
   refine OW_nil ?_
   refine EW_again (k + 1) ⟨?_, ?_⟩ ⟨rfl, rfl, rfl, rfl, trivial⟩ sft
   · show ls.length - (k + 1) < ls.length - k; omega
   · refine ⟨by show k + 1 ≤ _; omega, ?_⟩
     show n ∉ ls.take (k + 1)
     rw [take_next hz]
     intro hmm
     rcases List.mem_append.1 hmm with h1 | h1
     · exact hno h1
     · have := List.mem_singleton.1 h1; subst this; simp at h16
 exfalso
 have hke : k = ls.length := by have := of_decide_eq_false h9; omega
 subst hke
 rw [List.take_length] at hno
 exact hno hm --stop

end Go.Sy
/- step.change: a name that begins with itself. No condition. -/
namespace Go.Sy
open Go Go.RowKit Go.Proofs

theorem ofL_nodup (rs : List Rule) (n : Int) : (ofL rs n).Nodup := List.filter_sublist.nodup List.nodup_range
theorem nodup_take {l : List Nat} (h : l.Nodup) {k j : Nat} (hj : l[k]? = some j) : j ∉ l.take k := fun hm => by
 obtain ⟨i, hi⟩ := List.getElem?_of_mem hm
 have hik := (List.getElem?_eq_some_iff.1 hi).1
 rw [List.length_take] at hik
 rw [List.getElem?_take, if_pos (by omega)] at hi
 have := (List.getElem?_inj (by omega) h).1 (hi.trans hj.symm)
 omega
theorem leftR_other {g : Gram} {a : Int} {q : Rule} (h : q.left ≠ a) : leftR g a q = q := by unfold leftR; rw [if_neg h]
set_option maxRecDepth 20000 in
theorem change4_any (gv : Value) (g : Gram) (s : SStep) (w : World) (hm : mayB g = true) (hs : mayS g s = true) (hop : s.op = 4) (hg : GramAt (Cl w) gv g) : Calls Try.prog 20 #[gv, stepV s] w (fun e w' => ∃ x : Value × List RV × List Bool × List Bool, e = .returned (.agg #[.int .i64 g.terms, .int .i64 (stepG g s x.2.2.1 x.2.2.2).names, x.1]) ∧ ((s.op = 5 → MksOk g x.2.2.1 ∧ CmsOk g x.2.2.2) ∧ plainR x.2.1 = (stepG g s x.2.2.1 x.2.2.2).rules) ∧ Sat (Old w) w [rulesA x.1 x.2.1, symsA x.2.1] w') := by
 have hg0 := hg
 obtain ⟨rv, rfl, hr⟩ := hg.mono old_rd
 obtain ⟨a, c, rfl, hc1, hc2, hrs⟩ := id hr
 clear hg
 have hM := mayB_true.1 hm
 have hr8 : ∀ r ∈ g.rules, r.right.length ≤ 1000 := fun r hr => by
   obtain ⟨k, hk⟩ := List.getElem?_of_mem hr
   have := (may_rule hm hk).2.2
   omega
 have hs2 := hs
 unfold mayS at hs2
 rw [if_neg (by omega), if_neg (by omega), if_neg (by omega), if_pos hop] at hs2
 simp only [Bool.and_eq_true, decide_eq_true_eq] at hs2
 obtain ⟨kl, hkl⟩ : ∃ kl, kl = ofL g.rules s.a := ⟨_, rfl⟩
 have hkll : kl.length ≤ g.rules.length := by rw [hkl]; exact ofLk_len _ _ _
 have hknd : kl.Nodup := by rw [hkl]; exact ofL_nodup _ _
 refine calls_CW Try.func20 rfl Try.ntmps20 rfl (Sat.start w) ?_
 refine nx3 ?_
 refine OW_e (e_box rfl rfl) rfl (fun b2 => ?_)
 refine OW_e (e_box rfl rfl) rfl (fun b3 => ?_)
 refine OW_e (e_alloc Try.zeroValue24 rfl) rfl (fun b4 => ?_)
 refine nx4 ?_
 refine OW_q (q_loadN_own Try.isAgg24 Try.sizeOf24 rfl rfl swt (by rfl)) rfl ?_
 refine OW_e (e_call Try.call30 rfl (fun w hw => lift_oldP (cloneG_any _ g w (by omega) hr8 (hg0.mono (fun _ _ h => hw.rd (Rd.old h)))) hw)) rfl (fun x20 => ?_)
 refine OW_pure fun hx20 => ?_
 obtain ⟨ov, rs⟩ := x20
 have hrl : plainR rs = g.rules := hx20
 have hrsl : rs.length = g.rules.length := by rw [← hrl]; simp [plainR]
 refine OW_fact (fun w hw => hw.tform (v := ov) (l := rs) (enc := encRV) swt) (fun hf => ?_)
 obtain ⟨ao, co, rfl, _, _, hbo⟩ := hf
 refine OW_spell 20 (.agg #[.int .i64 g.terms, .int .i64 g.names, .slice ao rs.length co]) rfl rfl ?_
 refine OW_weak (S' := Sat (Old w) w [rulesA (.slice ao rs.length co) rs, symsA rs, cel b4 24 [.int .i64 0, .int .i64 0, .slice none 0 0], cel b3 26 [.int .i64 s.op, .int .i64 s.a, .int .i64 s.b, .int .i64 s.c], cel b2 24 [.int .i64 g.terms, .int .i64 g.names, .slice a g.rules.length c]]) (fun w hw => hw) ?_
 refine OW_fact (fun w hw => hw.symsOne swt) (fun hone => ?_)
 refine OW_e (e_alloc Try.zeroValue24 rfl) rfl (fun b5 => ?_)
 refine OW_e0 (e_storeN Try.sizeOf24 rfl rfl rfl rfl (by simp [Value.oneCell']) swt (by rfl)) (fun _ => ?_)
 refine nx4 ?_
 refine OW_q (q_fieldAddr Try.underlying24 rfl rfl Try.sizeOf3 rfl rfl) rfl ?_
 refine OW_q (q_load1_own Try.isAgg3 rfl rfl swt (by rfl)) rfl ?_
 refine OW_e (e_call Try.call31 rfl (fun w hw => lift_ro (name_any g.names w) hw)) rfl (fun x23 => ?_)
 refine OW_e (e_alloc Try.zeroValue51 rfl) rfl (fun b6 => ?_)
 refine OW_e0 (e_storeN Try.sizeOf51 rfl rfl rfl rfl (by simp [Value.oneCell']) swt (by rfl)) (fun _ => ?_)
 refine nx2 ?_
 refine CW_seq ?_
 refine nx3 ?_
 refine OW_q (q_fieldAddr Try.underlying26 rfl rfl Try.sizeOf3 rfl rfl) rfl ?_
 refine OW_q (q_load1_own Try.isAgg3 rfl rfl swt (by rfl)) rfl ?_
 refine nx2 ?_
 refine CW_block ?_
 refine nx3 ?_
 refine OW_q (q_eqi rfl rfl) rfl ?_
 refine aO ?_
 refine nx2 ?_
 refine CW_false rfl (by simp [hop]) ?_
 refine nx3 ?_
 refine OW_q (q_eqi rfl rfl) rfl ?_
 refine aO ?_
 refine nx2 ?_
 refine CW_false rfl (by simp [hop]) ?_
 refine nx3 ?_
 refine OW_q (q_eqi rfl rfl) rfl ?_
 refine aO ?_
 refine nx2 ?_
 refine CW_false rfl (by simp [hop]) ?_
 refine nx3 ?_
 refine OW_q (q_eqi rfl rfl) rfl ?_
 refine aO ?_
 refine nx2 ?_
 refine CW_true rfl (by simp [hop]) ?_
 refine CW_seq ?_
 refine nx3 ?_
 refine OW_q (q_loadN_own Try.isAgg24 Try.sizeOf24 rfl rfl swt (by rfl)) rfl ?_
 refine OW_q (q_fieldAddr Try.underlying26 rfl rfl Try.sizeOf3 rfl rfl) rfl ?_
 refine OW_q (q_load1_own Try.isAgg3 rfl rfl swt (by rfl)) rfl ?_
 refine OW_e (e_call Try.call28 rfl (fun w hw => lift_old (ofS_any _ g s.a w (by omega) (hg0.mono (fun _ _ h => hw.rd (Rd.old h)))) hw)) rfl (fun x136 => ?_)
 refine OW_fact (fun w hw => hw.tform (v := x136) (l := (ofL g.rules s.a).map (fun (z : Nat) => (z : Int))) (enc := encN) swt) (fun hf => ?_)
 obtain ⟨aq, cq, rfl, _, _, hbq⟩ := hf
 rw [← hkl, List.length_map] at hbq
 refine OW_spell 136 (.slice aq kl.length cq) rfl (by rw [← hkl, List.length_map]) ?_
 refine OW_weak (S' := Sat (Old w) w [trow 3 1 encN (.slice aq kl.length cq) (kl.map (fun (z : Nat) => (z : Int))), rulesA (.slice ao rs.length co) rs, symsA rs, cel b6 51 [.bool false, .int .i64 g.names], cel b5 24 [.int .i64 g.terms, .int .i64 g.names, (.slice ao rs.length co)], cel b4 24 [.int .i64 0, .int .i64 0, .slice none 0 0], cel b3 26 [.int .i64 s.op, .int .i64 s.a, .int .i64 s.b, .int .i64 s.c], cel b2 24 [.int .i64 g.terms, .int .i64 g.names, .slice a g.rules.length c]]) (fun w hw => by rw [← hkl, List.length_map] at hw; exact hw.sub sbt) ?_
 refine OW_q (q_len Try.underlying32 rfl) rfl ?_
 refine mO ?_
 refine nx2 ?_
 refine CW_block ?_
 refine CW_loopP (ι := Nat × List RV) (fun i_ => i_.1 ≤ kl.length ∧ i_.2.length = rs.length ∧ ∀ j' q', g.rules[j']? = some q' → ∃ v, i_.2[j']? = some (⟨if j' ∈ kl.take i_.1 then leftR g s.a q' else q', v⟩ : RV)) (fun i_ => [(2, .pointer (some ⟨b2, 0, none⟩)), (3, .pointer (some ⟨b3, 0, none⟩)), (4, .pointer (some ⟨b4, 0, none⟩)), (5, .pointer (some ⟨b5, 0, none⟩)), (6, .pointer (some ⟨b6, 0, none⟩)), (136, .slice aq kl.length cq), (137, .int .i64 (kl.length : Int)), (138, .int .i64 (i_.1 : Int))]) (fun i_ => Sat (Old w) w [trow 3 1 encN (.slice aq kl.length cq) (kl.map (fun (z : Nat) => (z : Int))), rulesA (.slice ao rs.length co) i_.2, symsA i_.2, cel b6 51 [.bool false, .int .i64 g.names], cel b5 24 [.int .i64 g.terms, .int .i64 g.names, (.slice ao rs.length co)], cel b4 24 [.int .i64 0, .int .i64 0, .slice none 0 0], cel b3 26 [.int .i64 s.op, .int .i64 s.a, .int .i64 s.b, .int .i64 s.c], cel b2 24 [.int .i64 g.terms, .int .i64 g.names, .slice a g.rules.length c]]) (fun i_ => kl.length - i_.1) (0, rs) ?_ ⟨rfl, rfl, rfl, rfl, rfl, rfl, rfl, rfl, trivial⟩ sft ?_
 · refine ⟨Nat.zero_le _, rfl, fun j' q' h => ?_⟩
   obtain ⟨v, hv⟩ := plain_get hrl h
   exact ⟨v, by rw [hv, if_neg (by simp)]⟩
 intro i_ hpre
 obtain ⟨k, rs1⟩ := i_
 replace hpre : k ≤ kl.length ∧ rs1.length = rs.length ∧ ∀ j' q', g.rules[j']? = some q' → ∃ v, rs1[j']? = some (⟨if j' ∈ kl.take k then leftR g s.a q' else q', v⟩ : RV) := hpre
 change CW _ _ _ _ [(2, .pointer (some ⟨b2, 0, none⟩)), (3, .pointer (some ⟨b3, 0, none⟩)), (4, .pointer (some ⟨b4, 0, none⟩)), (5, .pointer (some ⟨b5, 0, none⟩)), (6, .pointer (some ⟨b6, 0, none⟩)), (136, .slice aq kl.length cq), (137, .int .i64 (kl.length : Int)), (138, .int .i64 (k : Int))] (Sat (Old w) w [trow 3 1 encN (.slice aq kl.length cq) (kl.map (fun (z : Nat) => (z : Int))), rulesA (.slice ao rs.length co) rs1, symsA rs1, cel b6 51 [.bool false, .int .i64 g.names], cel b5 24 [.int .i64 g.terms, .int .i64 g.names, (.slice ao rs.length co)], cel b4 24 [.int .i64 0, .int .i64 0, .slice none 0 0], cel b3 26 [.int .i64 s.op, .int .i64 s.a, .int .i64 s.b, .int .i64 s.c], cel b2 24 [.int .i64 g.terms, .int .i64 g.names, .slice a g.rules.length c]])
 obtain ⟨hk, hrl1, hrk⟩ := hpre
 refine nx3 ?_
 refine OW_q (q_lss rfl rfl) rfl ?_
 refine nx2 ?_
 refine CW_seq ?_
 refine CW_cond rfl (fun h139 => ?_) (fun h139 => ?_)
 · skip
   have hlk : k < kl.length := by have := of_decide_eq_true h139; omega
   obtain ⟨j, hj⟩ := get_of_lt hlk
   have hjm : (kl.map (fun (z : Nat) => (z : Int)))[k]? = some ((j : Nat) : Int) := by rw [List.getElem?_map, hj]; rfl
   obtain ⟨bq, rfl⟩ := hbq (by omega)
   obtain ⟨q, hq, hql⟩ := ofL_mem (rs := g.rules) (n := s.a) (by rw [← hkl]; exact List.mem_of_getElem? hj)
   have hjr := (List.getElem?_eq_some_iff.1 hq).1
   have hq8 := (may_rule hm hq).2.2
   obtain ⟨bo, rfl⟩ := hbo (by omega)
   obtain ⟨p, rfl, rvq, hsy, hrow⟩ := hrs j q hq
   obtain ⟨ya, yc, rfl, _, _, _⟩ := id hsy
   obtain ⟨xv, hx⟩ := hrk j q hq
   rw [if_neg (nodup_take hknd hj)] at hx
   refine CW_fact (fun w hw => hw.tform (v := xv) (l := q.right) (enc := encY) ((Hole.tail (Hole.tail (Hole.sym hx))).swap _)) (fun hf => ?_)
   obtain ⟨ax, cx, rfl, _, _, hbx⟩ := hf
   refine CW_skip ?_
   refine EW_then ?_
   refine CW_seq ?_
   refine CW_block ?_
   refine nx3 ?_
   refine OW_q (q_indexAddr Try.underlying32 Try.sizeOf3 rfl rfl (by omega)) rfl ?_
   refine OW_q (q_load_t1 (enc := encN) (k := k) (v := .slice (some ⟨bq, 0, none⟩) kl.length cq) (l := kl.map (fun (z : Nat) => (z : Int))) Try.isAgg3 (fun _ => rfl) rfl swt rfl hjm rfl) rfl ?_
   refine aO ?_
   refine nx4 ?_
   refine OW_q (q_fieldAddr Try.underlying24 rfl rfl Try.sizeOf22 rfl rfl) rfl ?_
   refine OW_q (q_load1_own Try.isAgg22 rfl rfl swt (by rfl)) rfl ?_
   refine mO ?_
   refine OW_q (q_indexAddr Try.underlying22 Try.sizeOf49 rfl rfl (by omega)) rfl ?_
   refine aO ?_
   refine nx2 ?_
   refine CW_seq ?_
   refine nx3 ?_
   refine OW_q (q_fieldAddr Try.underlying24 rfl rfl Try.sizeOf22 rfl rfl) rfl ?_
   refine OW_q (q_load1_own Try.isAgg22 rfl rfl swt (by rfl)) rfl ?_
   refine mO ?_
   refine OW_q (q_indexAddr Try.underlying22 Try.sizeOf49 rfl rfl (by omega)) rfl ?_
   refine OW_q (q_loadN_ro Try.isAgg49 Try.sizeOf49 rfl (by exact hrow) (by rfl)) rfl ?_
   refine OW_e (e_call Try.call29 rfl (fun w hw => lift_ro (loops_any q _ w (hsy.mono fun _ _ h => hw.rd h)) hw)) rfl (fun x151 => ?_)
   refine nx2 ?_
   refine CW_cond rfl (fun h151 => ?_) (fun h151 => ?_)
   · skip
     have hlen1 : 1 ≤ q.right.length := by
       have h1 : loopsB q = true := h151
       unfold loopsB at h1
       cases hr : q.right with
       | nil => rw [hr] at h1; cases h1
       | cons z l => simp
     refine CW_drawT (Sat (Old w) w [rulesA (.slice (some ⟨bo, 0, none⟩) rs.length co) rs1, cel b2 24 [.int .i64 g.terms, .int .i64 g.names, .slice (some p) g.rules.length c]]) [11] (.q 0 false (.q 1 false (.q 2 false (.q 3 true (.q 4 false (.q 5 false (.q 6 false (.q 7 true (.q 8 false (.q 9 false (.q 10 false (.e 11 (.q 12 false (.q 13 false (.e 14 .nil))))))))))))))) (by kernel_rfl) (Blind.then (Blind.block (Blind.then (Blind.again (Blind.block (Blind.then (Blind.block (Blind.then (Blind.body (by intro c w h; simp at h)))))))))) (by kernel_rfl) (fun w hw => hw.drew) ?_
     refine DT_p rfl (.inr (fun w hw => (by exact hw.sub sbt))) (q_move rfl) rfl ?_
     refine DT_p rfl (.inr (fun w hw => (by exact hw.sub sbt))) (q_move rfl) rfl ?_
     refine DT_p rfl (.inr (fun w hw => (by exact hw.sub sbt))) (q_fieldAddr Try.underlying24 rfl rfl Try.sizeOf3 rfl rfl) rfl ?_
     refine DT_q rfl (fun w hw => (by exact hw.sub sbt)) (q_load1_own Try.isAgg3 rfl rfl swt (by rfl)) rfl ?_
     refine DT_p rfl (.inr (fun w hw => (by exact hw.sub sbt))) (q_move rfl) rfl ?_
     refine DT_p rfl (.inr (fun w hw => (by exact hw.sub sbt))) (q_nilCheck rfl) rfl ?_
     refine DT_p rfl (.inr (fun w hw => (by exact hw.sub sbt))) (q_fieldAddr Try.underlying49 rfl rfl Try.sizeOf46 rfl rfl) rfl ?_
     refine DT_q rfl (fun w hw => (by exact hw.sub sbt)) (q_load1_t (enc := encRV) (k := j) (off := 1) (v := .slice (some ⟨bo, 0, none⟩) rs.length co) (l := rs1) Try.isAgg46 (fun _ => rfl) rfl swt rfl hx rfl) rfl ?_
     refine DT_p rfl (.inr (fun w hw => (by exact hw.sub sbt))) (q_slice (l := 1) Try.underlying46 Try.sizeOf51 rfl (.inr ⟨_, rfl, rfl⟩) (.inl ⟨rfl, rfl⟩) (by omega) (by omega) (by omega)) rfl ?_
     refine DT_p rfl (.inr (fun w hw => (by exact hw.sub sbt))) (q_nilCheck rfl) rfl ?_
     refine DT_p rfl (.inr (fun w hw => (by exact hw.sub sbt))) (q_fieldAddr Try.underlying49 rfl rfl Try.sizeOf3 rfl rfl) rfl ?_
     refine DT_e0 rfl (e_store_t (enc := encRV) (k := j) (off := 0) (v := .slice (some ⟨bo, 0, none⟩) rs.length co) (l := rs1) (y := ⟨q, .slice ax q.right.length cx⟩) (y' := ⟨⟨g.names, q.right⟩, .slice ax q.right.length cx⟩) Try.sizeOf3 (fun _ => rfl) rfl rfl rfl rfl hx rfl swt) (.inl rfl) (fun _ => ?_)
     refine DT_p rfl (.inl rfl) (q_nilCheck rfl) rfl ?_
     refine DT_p rfl (.inl rfl) (q_fieldAddr Try.underlying49 rfl rfl Try.sizeOf46 rfl rfl) rfl ?_
     refine DT_e0 rfl (e_store_t (enc := encRV) (k := j) (off := 1) (v := .slice (some ⟨bo, 0, none⟩) rs.length co) (l := (rs1.set j ⟨⟨g.names, q.right⟩, .slice ax q.right.length cx⟩)) (y := ⟨⟨g.names, q.right⟩, .slice ax q.right.length cx⟩) (y' := ⟨⟨g.names, q.right⟩, .slice (if cx = 1 then ax else ax.map (·.add (1 * 2))) (q.right.length - 1) (cx - 1)⟩) Try.sizeOf46 (fun _ => rfl) rfl rfl rfl rfl (List.getElem?_set_self (List.getElem?_eq_some_iff.1 hx).1) rfl swt) (.inl rfl) (fun _ => ?_)
     refine DT_nil ?_
     refine EW_then ?_
     first
       | (replace h151 : loopsB q = true := h151
          obtain ⟨nl, ys, vv, hY, hysl, hsv, e1, e2⟩ : ∃ (nl : Int) (ys : List Sym) (vv : Value), (⟨nl, ys ++ [nameS g.names]⟩ : Rule) = leftR g s.a q ∧ ys.length ≤ 8 ∧ (∀ w', SymsAt (Cl w') (.slice ax q.right.length cx) q.right → SymsAt (Cl w') vv ys) ∧ nl = g.names ∧ vv = (.slice (if cx = 1 then ax else ax.map (·.add (1 * 2))) (q.right.length - 1) (cx - 1)) := by
            refine ⟨g.names, q.right.tail, _, by unfold leftR; rw [if_pos hql, if_pos h151], by rw [List.length_tail]; omega, fun w' h => ?_, rfl, rfl⟩
            have h2 := SlAt.sub h (lo := 1) (hi := q.right.length) hlen1 (Nat.le_refl _)
            rw [List.take_length, List.drop_one] at h2
            exact h2
          refine CW_weak (S' := Sat (Old w) w [trow 3 1 encN (.slice (some ⟨bq, 0, none⟩) kl.length cq) (kl.map (fun (z : Nat) => (z : Int))), rulesA (.slice (some ⟨bo, 0, none⟩) rs.length co) (rs1.set j ⟨⟨nl, q.right⟩, vv⟩), symsA rs1, cel b6 51 [.bool false, .int .i64 g.names], cel b5 24 [.int .i64 g.terms, .int .i64 g.names, (.slice (some ⟨bo, 0, none⟩) rs.length co)], cel b4 24 [.int .i64 0, .int .i64 0, .slice none 0 0], cel b3 26 [.int .i64 s.op, .int .i64 s.a, .int .i64 s.b, .int .i64 s.c], cel b2 24 [.int .i64 g.terms, .int .i64 g.names, .slice (some p) g.rules.length c]]) (fun w hw => by rw [e1, e2]; rw [List.set_set] at hw; exact hw) ?_)
       | (replace h151 : loopsB q = false := h151
          obtain ⟨nl, ys, vv, hY, hysl, hsv, e1, e2⟩ : ∃ (nl : Int) (ys : List Sym) (vv : Value), (⟨nl, ys ++ [nameS g.names]⟩ : Rule) = leftR g s.a q ∧ ys.length ≤ 8 ∧ (∀ w', SymsAt (Cl w') (.slice ax q.right.length cx) q.right → SymsAt (Cl w') vv ys) ∧ nl = q.left ∧ vv = .slice ax q.right.length cx :=
            ⟨q.left, q.right, _, by unfold leftR; rw [if_pos hql, if_neg (by rw [h151]; decide)], hq8, fun w' h => h, rfl, rfl⟩
          refine CW_weak (S' := Sat (Old w) w [trow 3 1 encN (.slice (some ⟨bq, 0, none⟩) kl.length cq) (kl.map (fun (z : Nat) => (z : Int))), rulesA (.slice (some ⟨bo, 0, none⟩) rs.length co) (rs1.set j ⟨⟨nl, q.right⟩, vv⟩), symsA rs1, cel b6 51 [.bool false, .int .i64 g.names], cel b5 24 [.int .i64 g.terms, .int .i64 g.names, (.slice (some ⟨bo, 0, none⟩) rs.length co)], cel b4 24 [.int .i64 0, .int .i64 0, .slice none 0 0], cel b3 26 [.int .i64 s.op, .int .i64 s.a, .int .i64 s.b, .int .i64 s.c], cel b2 24 [.int .i64 g.terms, .int .i64 g.names, .slice (some p) g.rules.length c]]) (fun w hw => by
            have e3 : rs1.set j ⟨⟨q.left, q.right⟩, .slice ax q.right.length cx⟩ = rs1 := set_same_of hx
            rw [e1, e2, e3]; exact hw.sub sbt) ?_)
     have hx1 : ((rs1.set j ⟨⟨nl, q.right⟩, vv⟩))[j]? = some ⟨⟨nl, q.right⟩, vv⟩ := List.getElem?_set_self (List.getElem?_eq_some_iff.1 hx).1
     refine CW_drawT (Sat (Old w) w [rulesA (.slice (some ⟨bo, 0, none⟩) rs.length co) (rs1.set j ⟨⟨nl, q.right⟩, vv⟩), symsA rs1, cel b6 51 [.bool false, .int .i64 g.names]]) [11] (.q 0 false (.q 1 false (.q 2 false (.q 3 false (.q 4 true (.q 6 true (.alt 5 (.e 7 (.e 8 (.q 9 false (.q 10 false (.e 11 .nil))))) 7 (.e 5 (.e 8 (.q 9 false (.q 10 false (.e 11 .nil)))))))))))) (by kernel_rfl) (Blind.block (Blind.then (Blind.again (Blind.block (Blind.then (Blind.block (Blind.then (Blind.body (by intro c w h; simp at h))))))))) (by kernel_rfl) (fun w hw => hw.drew) ?_
     refine DT_p rfl (.inr (fun w hw => (by exact hw.sub sbt))) (q_move rfl) rfl ?_
     refine DT_p rfl (.inr (fun w hw => (by exact hw.sub sbt))) (q_move rfl) rfl ?_
     refine DT_p rfl (.inr (fun w hw => (by exact hw.sub sbt))) (q_nilCheck rfl) rfl ?_
     refine DT_p rfl (.inr (fun w hw => (by exact hw.sub sbt))) (q_fieldAddr Try.underlying49 rfl rfl Try.sizeOf46 rfl rfl) rfl ?_
     refine DT_q rfl (fun w hw => (by exact hw.sub sbt)) (q_load1_t (enc := encRV) (k := j) (off := 1) (v := .slice (some ⟨bo, 0, none⟩) rs.length co) (l := (rs1.set j ⟨⟨nl, q.right⟩, vv⟩)) Try.isAgg46 (fun _ => rfl) rfl swt rfl hx1 rfl) rfl ?_
     refine DT_q rfl (fun w hw => (by exact hw.sub sbt)) (q_loadN_own Try.isAgg51 Try.sizeOf51 rfl rfl swt (by rfl)) rfl ?_
     refine DT_alt ?_ ?_
     · skip
       refine DT_e rfl (e_call Try.call33 rfl (fun w hw => lift_old (cloneY_any vv ys w (by omega) (hsv w (hw.symsIn (v := .slice ax q.right.length cx) (l := q.right) (by repeat (first | exact (Hole.sym hx).swap _ | apply Swap.tail))))) hw)) rfl (.inr (fun _ w hw => (by exact hw.sub sbt))) (fun x170 => ?_)
       refine DT_e rfl (e_single Try.underlying46 Try.sizeOf51 Try.zeroValue51 (e := 51) (v := .agg #[.bool false, .int .i64 g.names]) (cs := [.bool false, .int .i64 g.names]) rfl rfl rfl rfl (by decide) (by decide)) rfl (.inr (fun _ w hw => (by exact hw.sub sbt))) (fun b172 => ?_)
       refine DT_e rfl (e_append_t (x0 := nameS g.names) (enc := encY) (l := ys) Try.underlying46 Try.typeInfo51 rfl rfl rfl rfl rfl rfl rfl pkt rfl (by exact fun w hw => hw.news swt) (by simp [Value.oneCell']) (by omega) (by decide)) rfl (.inr (fun _ w hw => (by exact hw.sub sbt))) (fun v173 => ?_)
       refine DT_fact (fun w hw => hw.tform (v := v173) (l := (ys ++ [nameS g.names])) (enc := encY) swt) (fun hf => ?_)
       obtain ⟨a173, c173, e173, _, _, hb173⟩ := hf
       refine DT_p rfl (.inr (fun w hw => (by exact hw.sub sbt))) (q_nilCheck rfl) rfl ?_
       refine DT_p rfl (.inr (fun w hw => (by exact hw.sub sbt))) (q_fieldAddr Try.underlying49 rfl rfl Try.sizeOf46 rfl rfl) rfl ?_
       refine DT_e0 rfl (e_store_t (enc := encRV) (k := j) (off := 1) (v := .slice (some ⟨bo, 0, none⟩) rs.length co) (l := (rs1.set j ⟨⟨nl, q.right⟩, vv⟩)) (y := ⟨⟨nl, q.right⟩, vv⟩) (y' := (⟨⟨nl, ys ++ [nameS g.names]⟩, v173⟩ : RV)) Try.sizeOf46 (fun _ => rfl) rfl rfl (by rw [e173]; rfl) rfl hx1 rfl swt) (.inl rfl) (fun _ => ?_)
       refine DT_nil ?_
       refine EW_block_normal ?_
       refine EW_then ?_
       refine CW_region ?_
       refine OW_q (q_add rfl rfl (by omega) (by omega)) rfl ?_
       refine mO ?_
       refine OW_nil ?_
       refine EW_weak (S' := Sat (Old _) _ [trow 3 1 encN (.slice (some ⟨bq, 0, none⟩) kl.length cq) (kl.map (fun (z : Nat) => (z : Int))), rulesA (.slice (some ⟨bo, 0, none⟩) rs.length co) (rs1.set j (⟨⟨nl, ys ++ [nameS g.names]⟩, v173⟩ : RV)), symsA (rs1.set j (⟨⟨nl, ys ++ [nameS g.names]⟩, v173⟩ : RV)), cel b6 51 [.bool false, .int .i64 g.names], cel b5 24 [.int .i64 g.terms, .int .i64 g.names, (.slice (some ⟨bo, 0, none⟩) rs.length co)], cel b4 24 [.int .i64 0, .int .i64 0, .slice none 0 0], cel b3 26 [.int .i64 s.op, .int .i64 s.a, .int .i64 s.b, .int .i64 s.c], cel b2 24 [.int .i64 g.terms, .int .i64 g.names, .slice (some p) g.rules.length c]]) (fun w hw => by
         rw [List.set_set] at hw
         have h1 : Sat _ _ (symA (⟨⟨nl, ys ++ [nameS g.names]⟩, v173⟩ : RV) :: symsA rs1 :: [trow 3 1 encN (.slice (some ⟨bq, 0, none⟩) kl.length cq) (kl.map (fun (z : Nat) => (z : Int))), rulesA (.slice (some ⟨bo, 0, none⟩) rs.length co) (rs1.set j (⟨⟨nl, ys ++ [nameS g.names]⟩, v173⟩ : RV)), cel b6 51 [.bool false, .int .i64 g.names], cel b5 24 [.int .i64 g.terms, .int .i64 g.names, (.slice (some ⟨bo, 0, none⟩) rs.length co)], cel b4 24 [.int .i64 0, .int .i64 0, .slice none 0 0], cel b3 26 [.int .i64 s.op, .int .i64 s.a, .int .i64 s.b, .int .i64 s.c], cel b2 24 [.int .i64 g.terms, .int .i64 g.names, .slice (some p) g.rules.length c]]) w := hw.sub sbt
         exact (h1.symsPut hx).sub sbt) ?_
       refine EW_again ((k + 1, rs1.set j (⟨⟨nl, ys ++ [nameS g.names]⟩, v173⟩ : RV))) ⟨?_, ?_⟩ ⟨rfl, rfl, rfl, rfl, rfl, rfl, rfl, rfl, trivial⟩ sft
       · show kl.length - (k + 1) < kl.length - k; omega
       · refine ⟨by show k + 1 ≤ _; omega, by show (rs1.set j _).length = _; rw [List.length_set]; exact hrl1, fun j' q' hq' => ?_⟩
         show ∃ v, (rs1.set j _)[j']? = some (⟨if j' ∈ kl.take (k + 1) then _ else _, v⟩ : RV)
         by_cases e : j = j'
         · subst e
           rw [hq] at hq'
           cases hq'
           refine ⟨v173, ?_⟩
           rw [List.getElem?_set_self (List.getElem?_eq_some_iff.1 hx).1, if_pos (by rw [take_next hj]; simp), ← hY]
         · obtain ⟨v, hv⟩ := hrk j' q' hq'
           refine ⟨v, ?_⟩
           rw [List.getElem?_set_ne e, hv]
           have e2 : (j' ∈ kl.take (k + 1)) ↔ j' ∈ kl.take k := by
             rw [take_next hj, List.mem_append, List.mem_singleton]
             constructor
             · rintro (h | h)
               · exact h
               · exact absurd h.symm e
             · exact .inl
           simp only [e2]
     refine DT_e rfl (e_single Try.underlying46 Try.sizeOf51 Try.zeroValue51 (e := 51) (v := .agg #[.bool false, .int .i64 g.names]) (cs := [.bool false, .int .i64 g.names]) rfl rfl rfl rfl (by decide) (by decide)) rfl (.inr (fun _ w hw => (by exact hw.sub sbt))) (fun b172 => ?_)
     refine DT_e rfl (e_call Try.call33 rfl (fun w hw => lift_old (cloneY_any vv ys w (by omega) (hsv w (hw.symsIn (v := .slice ax q.right.length cx) (l := q.right) (by repeat (first | exact (Hole.sym hx).swap _ | apply Swap.tail))))) hw)) rfl (.inr (fun _ w hw => (by exact hw.sub sbt))) (fun x170 => ?_)
     refine DT_e rfl (e_append_t (x0 := nameS g.names) (enc := encY) (l := ys) Try.underlying46 Try.typeInfo51 rfl rfl rfl rfl rfl rfl rfl pkt rfl (by exact fun w hw => hw.news swt) (by simp [Value.oneCell']) (by omega) (by decide)) rfl (.inr (fun _ w hw => (by exact hw.sub sbt))) (fun v173 => ?_)
     refine DT_fact (fun w hw => hw.tform (v := v173) (l := (ys ++ [nameS g.names])) (enc := encY) swt) (fun hf => ?_)
     obtain ⟨a173, c173, e173, _, _, hb173⟩ := hf
     refine DT_p rfl (.inr (fun w hw => (by exact hw.sub sbt))) (q_nilCheck rfl) rfl ?_
     refine DT_p rfl (.inr (fun w hw => (by exact hw.sub sbt))) (q_fieldAddr Try.underlying49 rfl rfl Try.sizeOf46 rfl rfl) rfl ?_
     refine DT_e0 rfl (e_store_t (enc := encRV) (k := j) (off := 1) (v := .slice (some ⟨bo, 0, none⟩) rs.length co) (l := (rs1.set j ⟨⟨nl, q.right⟩, vv⟩)) (y := ⟨⟨nl, q.right⟩, vv⟩) (y' := (⟨⟨nl, ys ++ [nameS g.names]⟩, v173⟩ : RV)) Try.sizeOf46 (fun _ => rfl) rfl rfl (by rw [e173]; rfl) rfl hx1 rfl swt) (.inl rfl) (fun _ => ?_)
     refine DT_nil ?_
     refine EW_block_normal ?_
     refine EW_then ?_
     refine CW_region ?_
     refine OW_q (q_add rfl rfl (by omega) (by omega)) rfl ?_
     refine mO ?_
     refine OW_nil ?_
     refine EW_weak (S' := Sat (Old _) _ [trow 3 1 encN (.slice (some ⟨bq, 0, none⟩) kl.length cq) (kl.map (fun (z : Nat) => (z : Int))), rulesA (.slice (some ⟨bo, 0, none⟩) rs.length co) (rs1.set j (⟨⟨nl, ys ++ [nameS g.names]⟩, v173⟩ : RV)), symsA (rs1.set j (⟨⟨nl, ys ++ [nameS g.names]⟩, v173⟩ : RV)), cel b6 51 [.bool false, .int .i64 g.names], cel b5 24 [.int .i64 g.terms, .int .i64 g.names, (.slice (some ⟨bo, 0, none⟩) rs.length co)], cel b4 24 [.int .i64 0, .int .i64 0, .slice none 0 0], cel b3 26 [.int .i64 s.op, .int .i64 s.a, .int .i64 s.b, .int .i64 s.c], cel b2 24 [.int .i64 g.terms, .int .i64 g.names, .slice (some p) g.rules.length c]]) (fun w hw => by
       rw [List.set_set] at hw
       have h1 : Sat _ _ (symA (⟨⟨nl, ys ++ [nameS g.names]⟩, v173⟩ : RV) :: symsA rs1 :: [trow 3 1 encN (.slice (some ⟨bq, 0, none⟩) kl.length cq) (kl.map (fun (z : Nat) => (z : Int))), rulesA (.slice (some ⟨bo, 0, none⟩) rs.length co) (rs1.set j (⟨⟨nl, ys ++ [nameS g.names]⟩, v173⟩ : RV)), cel b6 51 [.bool false, .int .i64 g.names], cel b5 24 [.int .i64 g.terms, .int .i64 g.names, (.slice (some ⟨bo, 0, none⟩) rs.length co)], cel b4 24 [.int .i64 0, .int .i64 0, .slice none 0 0], cel b3 26 [.int .i64 s.op, .int .i64 s.a, .int .i64 s.b, .int .i64 s.c], cel b2 24 [.int .i64 g.terms, .int .i64 g.names, .slice (some p) g.rules.length c]]) w := hw.sub sbt
       exact (h1.symsPut hx).sub sbt) ?_
     refine EW_again ((k + 1, rs1.set j (⟨⟨nl, ys ++ [nameS g.names]⟩, v173⟩ : RV))) ⟨?_, ?_⟩ ⟨rfl, rfl, rfl, rfl, rfl, rfl, rfl, rfl, trivial⟩ sft
     · show kl.length - (k + 1) < kl.length - k; omega
     · refine ⟨by show k + 1 ≤ _; omega, by show (rs1.set j _).length = _; rw [List.length_set]; exact hrl1, fun j' q' hq' => ?_⟩
       show ∃ v, (rs1.set j _)[j']? = some (⟨if j' ∈ kl.take (k + 1) then _ else _, v⟩ : RV)
       by_cases e : j = j'
       · subst e
         rw [hq] at hq'
         cases hq'
         refine ⟨v173, ?_⟩
         rw [List.getElem?_set_self (List.getElem?_eq_some_iff.1 hx).1, if_pos (by rw [take_next hj]; simp), ← hY]
       · obtain ⟨v, hv⟩ := hrk j' q' hq'
         refine ⟨v, ?_⟩
         rw [List.getElem?_set_ne e, hv]
         have e2 : (j' ∈ kl.take (k + 1)) ↔ j' ∈ kl.take k := by
           rw [take_next hj, List.mem_append, List.mem_singleton]
           constructor
           · rintro (h | h)
             · exact h
             · exact absurd h.symm e
           · exact .inl
         simp only [e2]
   refine CW_skip ?_
   refine EW_then ?_
   first
     | (replace h151 : loopsB q = true := h151
        obtain ⟨nl, ys, vv, hY, hysl, hsv, e1, e2⟩ : ∃ (nl : Int) (ys : List Sym) (vv : Value), (⟨nl, ys ++ [nameS g.names]⟩ : Rule) = leftR g s.a q ∧ ys.length ≤ 8 ∧ (∀ w', SymsAt (Cl w') (.slice ax q.right.length cx) q.right → SymsAt (Cl w') vv ys) ∧ nl = g.names ∧ vv = (.slice (if cx = 1 then ax else ax.map (·.add (1 * 2))) (q.right.length - 1) (cx - 1)) := by
          refine ⟨g.names, q.right.tail, _, by unfold leftR; rw [if_pos hql, if_pos h151], by rw [List.length_tail]; omega, fun w' h => ?_, rfl, rfl⟩
          have h2 := SlAt.sub h (lo := 1) (hi := q.right.length) hlen1 (Nat.le_refl _)
          rw [List.take_length, List.drop_one] at h2
          exact h2
        refine CW_weak (S' := Sat (Old w) w [trow 3 1 encN (.slice (some ⟨bq, 0, none⟩) kl.length cq) (kl.map (fun (z : Nat) => (z : Int))), rulesA (.slice (some ⟨bo, 0, none⟩) rs.length co) (rs1.set j ⟨⟨nl, q.right⟩, vv⟩), symsA rs1, cel b6 51 [.bool false, .int .i64 g.names], cel b5 24 [.int .i64 g.terms, .int .i64 g.names, (.slice (some ⟨bo, 0, none⟩) rs.length co)], cel b4 24 [.int .i64 0, .int .i64 0, .slice none 0 0], cel b3 26 [.int .i64 s.op, .int .i64 s.a, .int .i64 s.b, .int .i64 s.c], cel b2 24 [.int .i64 g.terms, .int .i64 g.names, .slice (some p) g.rules.length c]]) (fun w hw => by rw [e1, e2]; rw [List.set_set] at hw; exact hw) ?_)
     | (replace h151 : loopsB q = false := h151
        obtain ⟨nl, ys, vv, hY, hysl, hsv, e1, e2⟩ : ∃ (nl : Int) (ys : List Sym) (vv : Value), (⟨nl, ys ++ [nameS g.names]⟩ : Rule) = leftR g s.a q ∧ ys.length ≤ 8 ∧ (∀ w', SymsAt (Cl w') (.slice ax q.right.length cx) q.right → SymsAt (Cl w') vv ys) ∧ nl = q.left ∧ vv = .slice ax q.right.length cx :=
          ⟨q.left, q.right, _, by unfold leftR; rw [if_pos hql, if_neg (by rw [h151]; decide)], hq8, fun w' h => h, rfl, rfl⟩
        refine CW_weak (S' := Sat (Old w) w [trow 3 1 encN (.slice (some ⟨bq, 0, none⟩) kl.length cq) (kl.map (fun (z : Nat) => (z : Int))), rulesA (.slice (some ⟨bo, 0, none⟩) rs.length co) (rs1.set j ⟨⟨nl, q.right⟩, vv⟩), symsA rs1, cel b6 51 [.bool false, .int .i64 g.names], cel b5 24 [.int .i64 g.terms, .int .i64 g.names, (.slice (some ⟨bo, 0, none⟩) rs.length co)], cel b4 24 [.int .i64 0, .int .i64 0, .slice none 0 0], cel b3 26 [.int .i64 s.op, .int .i64 s.a, .int .i64 s.b, .int .i64 s.c], cel b2 24 [.int .i64 g.terms, .int .i64 g.names, .slice (some p) g.rules.length c]]) (fun w hw => by
          have e3 : rs1.set j ⟨⟨q.left, q.right⟩, .slice ax q.right.length cx⟩ = rs1 := set_same_of hx
          rw [e1, e2, e3]; exact hw.sub sbt) ?_)
   have hx1 : ((rs1.set j ⟨⟨nl, q.right⟩, vv⟩))[j]? = some ⟨⟨nl, q.right⟩, vv⟩ := List.getElem?_set_self (List.getElem?_eq_some_iff.1 hx).1
   refine CW_drawT (Sat (Old w) w [rulesA (.slice (some ⟨bo, 0, none⟩) rs.length co) (rs1.set j ⟨⟨nl, q.right⟩, vv⟩), symsA rs1, cel b6 51 [.bool false, .int .i64 g.names]]) [11] (.q 0 false (.q 1 false (.q 2 false (.q 3 false (.q 4 true (.q 6 true (.alt 5 (.e 7 (.e 8 (.q 9 false (.q 10 false (.e 11 .nil))))) 7 (.e 5 (.e 8 (.q 9 false (.q 10 false (.e 11 .nil)))))))))))) (by kernel_rfl) (Blind.block (Blind.then (Blind.again (Blind.block (Blind.then (Blind.block (Blind.then (Blind.body (by intro c w h; simp at h))))))))) (by kernel_rfl) (fun w hw => hw.drew) ?_
   refine DT_p rfl (.inr (fun w hw => (by exact hw.sub sbt))) (q_move rfl) rfl ?_
   refine DT_p rfl (.inr (fun w hw => (by exact hw.sub sbt))) (q_move rfl) rfl ?_
   refine DT_p rfl (.inr (fun w hw => (by exact hw.sub sbt))) (q_nilCheck rfl) rfl ?_
   refine DT_p rfl (.inr (fun w hw => (by exact hw.sub sbt))) (q_fieldAddr Try.underlying49 rfl rfl Try.sizeOf46 rfl rfl) rfl ?_
   refine DT_q rfl (fun w hw => (by exact hw.sub sbt)) (q_load1_t (enc := encRV) (k := j) (off := 1) (v := .slice (some ⟨bo, 0, none⟩) rs.length co) (l := (rs1.set j ⟨⟨nl, q.right⟩, vv⟩)) Try.isAgg46 (fun _ => rfl) rfl swt rfl hx1 rfl) rfl ?_
   refine DT_q rfl (fun w hw => (by exact hw.sub sbt)) (q_loadN_own Try.isAgg51 Try.sizeOf51 rfl rfl swt (by rfl)) rfl ?_
   refine DT_alt ?_ ?_
   · skip
     refine DT_e rfl (e_call Try.call33 rfl (fun w hw => lift_old (cloneY_any vv ys w (by omega) (hsv w (hw.symsIn (v := .slice ax q.right.length cx) (l := q.right) (by repeat (first | exact (Hole.sym hx).swap _ | apply Swap.tail))))) hw)) rfl (.inr (fun _ w hw => (by exact hw.sub sbt))) (fun x170 => ?_)
     refine DT_e rfl (e_single Try.underlying46 Try.sizeOf51 Try.zeroValue51 (e := 51) (v := .agg #[.bool false, .int .i64 g.names]) (cs := [.bool false, .int .i64 g.names]) rfl rfl rfl rfl (by decide) (by decide)) rfl (.inr (fun _ w hw => (by exact hw.sub sbt))) (fun b172 => ?_)
     refine DT_e rfl (e_append_t (x0 := nameS g.names) (enc := encY) (l := ys) Try.underlying46 Try.typeInfo51 rfl rfl rfl rfl rfl rfl rfl pkt rfl (by exact fun w hw => hw.news swt) (by simp [Value.oneCell']) (by omega) (by decide)) rfl (.inr (fun _ w hw => (by exact hw.sub sbt))) (fun v173 => ?_)
     refine DT_fact (fun w hw => hw.tform (v := v173) (l := (ys ++ [nameS g.names])) (enc := encY) swt) (fun hf => ?_)
     obtain ⟨a173, c173, e173, _, _, hb173⟩ := hf
     refine DT_p rfl (.inr (fun w hw => (by exact hw.sub sbt))) (q_nilCheck rfl) rfl ?_
     refine DT_p rfl (.inr (fun w hw => (by exact hw.sub sbt))) (q_fieldAddr Try.underlying49 rfl rfl Try.sizeOf46 rfl rfl) rfl ?_
     refine DT_e0 rfl (e_store_t (enc := encRV) (k := j) (off := 1) (v := .slice (some ⟨bo, 0, none⟩) rs.length co) (l := (rs1.set j ⟨⟨nl, q.right⟩, vv⟩)) (y := ⟨⟨nl, q.right⟩, vv⟩) (y' := (⟨⟨nl, ys ++ [nameS g.names]⟩, v173⟩ : RV)) Try.sizeOf46 (fun _ => rfl) rfl rfl (by rw [e173]; rfl) rfl hx1 rfl swt) (.inl rfl) (fun _ => ?_)
     refine DT_nil ?_
     refine EW_block_normal ?_
     refine EW_then ?_
     refine CW_region ?_
     refine OW_q (q_add rfl rfl (by omega) (by omega)) rfl ?_
     refine mO ?_
     refine OW_nil ?_
     refine EW_weak (S' := Sat (Old _) _ [trow 3 1 encN (.slice (some ⟨bq, 0, none⟩) kl.length cq) (kl.map (fun (z : Nat) => (z : Int))), rulesA (.slice (some ⟨bo, 0, none⟩) rs.length co) (rs1.set j (⟨⟨nl, ys ++ [nameS g.names]⟩, v173⟩ : RV)), symsA (rs1.set j (⟨⟨nl, ys ++ [nameS g.names]⟩, v173⟩ : RV)), cel b6 51 [.bool false, .int .i64 g.names], cel b5 24 [.int .i64 g.terms, .int .i64 g.names, (.slice (some ⟨bo, 0, none⟩) rs.length co)], cel b4 24 [.int .i64 0, .int .i64 0, .slice none 0 0], cel b3 26 [.int .i64 s.op, .int .i64 s.a, .int .i64 s.b, .int .i64 s.c], cel b2 24 [.int .i64 g.terms, .int .i64 g.names, .slice (some p) g.rules.length c]]) (fun w hw => by
       rw [List.set_set] at hw
       have h1 : Sat _ _ (symA (⟨⟨nl, ys ++ [nameS g.names]⟩, v173⟩ : RV) :: symsA rs1 :: [trow 3 1 encN (.slice (some ⟨bq, 0, none⟩) kl.length cq) (kl.map (fun (z : Nat) => (z : Int))), rulesA (.slice (some ⟨bo, 0, none⟩) rs.length co) (rs1.set j (⟨⟨nl, ys ++ [nameS g.names]⟩, v173⟩ : RV)), cel b6 51 [.bool false, .int .i64 g.names], cel b5 24 [.int .i64 g.terms, .int .i64 g.names, (.slice (some ⟨bo, 0, none⟩) rs.length co)], cel b4 24 [.int .i64 0, .int .i64 0, .slice none 0 0], cel b3 26 [.int .i64 s.op, .int .i64 s.a, .int .i64 s.b, .int .i64 s.c], cel b2 24 [.int .i64 g.terms, .int .i64 g.names, .slice (some p) g.rules.length c]]) w := hw.sub sbt
       exact (h1.symsPut hx).sub sbt) ?_
     refine EW_again ((k + 1, rs1.set j (⟨⟨nl, ys ++ [nameS g.names]⟩, v173⟩ : RV))) ⟨?_, ?_⟩ ⟨rfl, rfl, rfl, rfl, rfl, rfl, rfl, rfl, trivial⟩ sft
     · show kl.length - (k + 1) < kl.length - k; omega
     · refine ⟨by show k + 1 ≤ _; omega, by show (rs1.set j _).length = _; rw [List.length_set]; exact hrl1, fun j' q' hq' => ?_⟩
       show ∃ v, (rs1.set j _)[j']? = some (⟨if j' ∈ kl.take (k + 1) then _ else _, v⟩ : RV)
       by_cases e : j = j'
       · subst e
         rw [hq] at hq'
         cases hq'
         refine ⟨v173, ?_⟩
         rw [List.getElem?_set_self (List.getElem?_eq_some_iff.1 hx).1, if_pos (by rw [take_next hj]; simp), ← hY]
       · obtain ⟨v, hv⟩ := hrk j' q' hq'
         refine ⟨v, ?_⟩
         rw [List.getElem?_set_ne e, hv]
         have e2 : (j' ∈ kl.take (k + 1)) ↔ j' ∈ kl.take k := by
           rw [take_next hj, List.mem_append, List.mem_singleton]
           constructor
           · rintro (h | h)
             · exact h
             · exact absurd h.symm e
           · exact .inl
         simp only [e2]
   refine DT_e rfl (e_single Try.underlying46 Try.sizeOf51 Try.zeroValue51 (e := 51) (v := .agg #[.bool false, .int .i64 g.names]) (cs := [.bool false, .int .i64 g.names]) rfl rfl rfl rfl (by decide) (by decide)) rfl (.inr (fun _ w hw => (by exact hw.sub sbt))) (fun b172 => ?_)
   refine DT_e rfl (e_call Try.call33 rfl (fun w hw => lift_old (cloneY_any vv ys w (by omega) (hsv w (hw.symsIn (v := .slice ax q.right.length cx) (l := q.right) (by repeat (first | exact (Hole.sym hx).swap _ | apply Swap.tail))))) hw)) rfl (.inr (fun _ w hw => (by exact hw.sub sbt))) (fun x170 => ?_)
   refine DT_e rfl (e_append_t (x0 := nameS g.names) (enc := encY) (l := ys) Try.underlying46 Try.typeInfo51 rfl rfl rfl rfl rfl rfl rfl pkt rfl (by exact fun w hw => hw.news swt) (by simp [Value.oneCell']) (by omega) (by decide)) rfl (.inr (fun _ w hw => (by exact hw.sub sbt))) (fun v173 => ?_)
   refine DT_fact (fun w hw => hw.tform (v := v173) (l := (ys ++ [nameS g.names])) (enc := encY) swt) (fun hf => ?_)
   obtain ⟨a173, c173, e173, _, _, hb173⟩ := hf
   refine DT_p rfl (.inr (fun w hw => (by exact hw.sub sbt))) (q_nilCheck rfl) rfl ?_
   refine DT_p rfl (.inr (fun w hw => (by exact hw.sub sbt))) (q_fieldAddr Try.underlying49 rfl rfl Try.sizeOf46 rfl rfl) rfl ?_
   refine DT_e0 rfl (e_store_t (enc := encRV) (k := j) (off := 1) (v := .slice (some ⟨bo, 0, none⟩) rs.length co) (l := (rs1.set j ⟨⟨nl, q.right⟩, vv⟩)) (y := ⟨⟨nl, q.right⟩, vv⟩) (y' := (⟨⟨nl, ys ++ [nameS g.names]⟩, v173⟩ : RV)) Try.sizeOf46 (fun _ => rfl) rfl rfl (by rw [e173]; rfl) rfl hx1 rfl swt) (.inl rfl) (fun _ => ?_)
   refine DT_nil ?_
   refine EW_block_normal ?_
   refine EW_then ?_
   refine CW_region ?_
   refine OW_q (q_add rfl rfl (by omega) (by omega)) rfl ?_
   refine mO ?_
   refine OW_nil ?_
   refine EW_weak (S' := Sat (Old _) _ [trow 3 1 encN (.slice (some ⟨bq, 0, none⟩) kl.length cq) (kl.map (fun (z : Nat) => (z : Int))), rulesA (.slice (some ⟨bo, 0, none⟩) rs.length co) (rs1.set j (⟨⟨nl, ys ++ [nameS g.names]⟩, v173⟩ : RV)), symsA (rs1.set j (⟨⟨nl, ys ++ [nameS g.names]⟩, v173⟩ : RV)), cel b6 51 [.bool false, .int .i64 g.names], cel b5 24 [.int .i64 g.terms, .int .i64 g.names, (.slice (some ⟨bo, 0, none⟩) rs.length co)], cel b4 24 [.int .i64 0, .int .i64 0, .slice none 0 0], cel b3 26 [.int .i64 s.op, .int .i64 s.a, .int .i64 s.b, .int .i64 s.c], cel b2 24 [.int .i64 g.terms, .int .i64 g.names, .slice (some p) g.rules.length c]]) (fun w hw => by
     rw [List.set_set] at hw
     have h1 : Sat _ _ (symA (⟨⟨nl, ys ++ [nameS g.names]⟩, v173⟩ : RV) :: symsA rs1 :: [trow 3 1 encN (.slice (some ⟨bq, 0, none⟩) kl.length cq) (kl.map (fun (z : Nat) => (z : Int))), rulesA (.slice (some ⟨bo, 0, none⟩) rs.length co) (rs1.set j (⟨⟨nl, ys ++ [nameS g.names]⟩, v173⟩ : RV)), cel b6 51 [.bool false, .int .i64 g.names], cel b5 24 [.int .i64 g.terms, .int .i64 g.names, (.slice (some ⟨bo, 0, none⟩) rs.length co)], cel b4 24 [.int .i64 0, .int .i64 0, .slice none 0 0], cel b3 26 [.int .i64 s.op, .int .i64 s.a, .int .i64 s.b, .int .i64 s.c], cel b2 24 [.int .i64 g.terms, .int .i64 g.names, .slice (some p) g.rules.length c]]) w := hw.sub sbt
     exact (h1.symsPut hx).sub sbt) ?_
   refine EW_again ((k + 1, rs1.set j (⟨⟨nl, ys ++ [nameS g.names]⟩, v173⟩ : RV))) ⟨?_, ?_⟩ ⟨rfl, rfl, rfl, rfl, rfl, rfl, rfl, rfl, trivial⟩ sft
   · show kl.length - (k + 1) < kl.length - k; omega
   · refine ⟨by show k + 1 ≤ _; omega, by show (rs1.set j _).length = _; rw [List.length_set]; exact hrl1, fun j' q' hq' => ?_⟩
     show ∃ v, (rs1.set j _)[j']? = some (⟨if j' ∈ kl.take (k + 1) then _ else _, v⟩ : RV)
     by_cases e : j = j'
     · subst e
       rw [hq] at hq'
       cases hq'
       refine ⟨v173, ?_⟩
       rw [List.getElem?_set_self (List.getElem?_eq_some_iff.1 hx).1, if_pos (by rw [take_next hj]; simp), ← hY]
     · obtain ⟨v, hv⟩ := hrk j' q' hq'
       refine ⟨v, ?_⟩
       rw [List.getElem?_set_ne e, hv]
       have e2 : (j' ∈ kl.take (k + 1)) ↔ j' ∈ kl.take k := by
         rw [take_next hj, List.mem_append, List.mem_singleton]
         constructor
         · rintro (h | h)
           · exact h
           · exact absurd h.symm e
         · exact .inl
       simp only [e2]
 have hke : k = kl.length := by have := of_decide_eq_false h139; omega
 refine CW_exit ?_
 refine EW_then_exit ?_
 refine EW_out ?_
 refine EW_block_exit ?_
 refine EW_then ?_
 refine nx3 ?_
 refine OW_q (q_fieldAddr Try.underlying24 rfl rfl Try.sizeOf3 rfl rfl) rfl ?_
 refine OW_q (q_load1_own Try.isAgg3 rfl rfl swt (by rfl)) rfl ?_
 refine OW_q (q_add rfl rfl (by omega) (by omega)) rfl ?_
 refine OW_q (q_fieldAddr Try.underlying24 rfl rfl Try.sizeOf3 rfl rfl) rfl ?_
 refine OW_e0 (e_store Try.sizeOf3 rfl rfl rfl rfl swt (by rfl)) (fun _ => ?_)
 refine nx2 ?_
 refine CW_region ?_
 refine OW_q (q_fieldAddr Try.underlying24 rfl rfl Try.sizeOf22 rfl rfl) rfl ?_
 refine OW_q (q_load1_own Try.isAgg22 rfl rfl swt (by rfl)) rfl ?_
 refine OW_q (q_fieldAddr Try.underlying24 rfl rfl Try.sizeOf3 rfl rfl) rfl ?_
 refine OW_q (q_load1_own Try.isAgg3 rfl rfl swt (by rfl)) rfl ?_
 refine OW_q (q_build (ps := #[(0, .int .i64 g.names)]) (v := .agg #[.int .i64 g.names, .slice none 0 0]) rfl (fun w => by kernel_rfl)) rfl ?_
 refine OW_e (e_single Try.underlying22 Try.sizeOf49 Try.zeroValue49 (e := 49) (v := .agg #[.int .i64 g.names, .slice none 0 0]) (cs := [.int .i64 g.names, .slice none 0 0]) rfl rfl rfl rfl (by decide) (by decide)) rfl (fun b186 => ?_)
 refine OW_e (e_append_t (x0 := (⟨⟨g.names, []⟩, .slice none 0 0⟩ : RV)) (enc := encRV) (v := .slice ao rs.length co) (l := rs1) Try.underlying22 Try.typeInfo49 rfl rfl rfl rfl rfl rfl rfl pkt rfl (by exact fun w hw => hw.news swt) (by simp [Value.oneCell']) (by omega) (by decide)) rfl (fun v187 => ?_)
 refine OW_fact (fun w hw => hw.tform (v := v187) (l := rs1 ++ [(⟨⟨g.names, []⟩, .slice none 0 0⟩ : RV)]) (enc := encRV) swt) (fun hf => ?_)
 obtain ⟨a187, c187, rfl, _, _, hb187⟩ := hf
 refine OW_q (q_fieldAddr Try.underlying24 rfl rfl Try.sizeOf22 rfl rfl) rfl ?_
 refine OW_e0 (e_store Try.sizeOf22 rfl rfl rfl rfl swt (by rfl)) (fun _ => ?_)
 refine OW_nil ?_
 refine EW_block_normal ?_
 refine EW_then ?_
 refine nx3 ?_
 refine OW_q (q_loadN_own Try.isAgg24 Try.sizeOf24 rfl rfl swt (by rfl)) rfl ?_
 refine OW_e0 (e_storeN Try.sizeOf24 rfl rfl rfl rfl (by simp [Value.oneCell']) swt (by rfl)) (fun _ => ?_)
 refine nx2 ?_
 refine CW_ret ?_
 refine retc1a (vs := [.int .i64 g.terms, .int .i64 (g.names + 1), .slice a187 (rs1 ++ [(⟨⟨g.names, []⟩, .slice none 0 0⟩ : RV)]).length c187]) Try.results20 Try.isAgg24 Try.sizeOf24 rfl rfl (fun w hw j u hj => by rw [Addr.add_lit, hw.cell (t := 24) (cs := [.int .i64 g.terms, .int .i64 (g.names + 1), .slice a187 (rs1 ++ [(⟨⟨g.names, []⟩, .slice none 0 0⟩ : RV)]).length c187]) (A' := cel b4 24 [.int .i64 g.terms, .int .i64 (g.names + 1), .slice a187 (rs1 ++ [(⟨⟨g.names, []⟩, .slice none 0 0⟩ : RV)]).length c187]) swt, Nat.zero_add]; exact hj) (fun w hw => ?_)
 have hst : ∀ ms cs, stepG g s ms cs = ⟨g.terms, g.names + 1, g.rules.map (leftR g s.a) ++ [⟨g.names, []⟩]⟩ := fun ms cs => by unfold stepG; rw [if_neg (by omega), if_neg (by omega), if_neg (by omega), if_pos hop]
 have hpl : plainR rs1 = g.rules.map (leftR g s.a) := by
   apply List.ext_getElem?
   intro j
   unfold plainR
   rw [List.getElem?_map, List.getElem?_map]
   cases hq : g.rules[j]? with
   | none =>
     have := List.getElem?_eq_none_iff.1 hq
     rw [List.getElem?_eq_none (by omega)]; rfl
   | some q =>
     obtain ⟨v, hv⟩ := hrk j q hq
     rw [hv]
     show some _ = some _
     congr 1
     rw [hke, List.take_length]
     split
     · rfl
     · rename_i hn
       exact (leftR_other fun e => hn (by rw [hkl]; exact ofL_get hq e)).symm
 refine ⟨(.slice a187 (rs1 ++ [(⟨⟨g.names, []⟩, .slice none 0 0⟩ : RV)]).length c187, rs1 ++ [(⟨⟨g.names, []⟩, .slice none 0 0⟩ : RV)], [], []), by simp only [hst], ⟨fun h => by omega, ?_⟩, ?_⟩
 · simp only [hst]
   rw [← hpl]
   simp [plainR]
 · have h1 : Sat (Old _) _ (symsA rs1 :: symA (⟨⟨g.names, []⟩, .slice none 0 0⟩ : RV) :: [rulesA (.slice a187 (rs1 ++ [(⟨⟨g.names, []⟩, .slice none 0 0⟩ : RV)]).length c187) (rs1 ++ [(⟨⟨g.names, []⟩, .slice none 0 0⟩ : RV)])]) w := (hw.tnil 51 2 encY).sub sbt
   exact h1.symsPush.sub sbt

end Go.Sy
/- What may be nothing, what begins, what follows, in plain terms. No condition. -/
namespace Go.Sy
open Go

def nullB (nl : List Bool) (l : List Sym) : Bool := l.all (fun s => !s.term && atB nl s.n)
def row2 (tab : List (List Bool)) (n : Int) : List Bool := tab.getD n.toNat []
def at2 (tab : List (List Bool)) (n t : Int) : Bool := atB (row2 tab n) t
/-- May symbols begin with a term? -/
def begB (nl : List Bool) (fs : List (List Bool)) : List Sym → Int → Bool
  | [], _ => false
  | s :: l, t => if s.term = true then decide (s.n = t) else at2 fs s.n t || (atB nl s.n && begB nl fs l t)

inductive NullI (g : Gram) : List Sym → Prop
  | nil : NullI g []
  | cons {r : Rule} {l : List Sym} : r ∈ g.rules → NullI g r.right → NullI g l → NullI g (⟨false, r.left⟩ :: l)
inductive FirstI (g : Gram) : List Sym → Int → Prop
  | term {t : Int} {l : List Sym} : FirstI g (⟨true, t⟩ :: l) t
  | name {r : Rule} {l : List Sym} {t : Int} : r ∈ g.rules → FirstI g r.right t → FirstI g (⟨false, r.left⟩ :: l) t
  | skip {n t : Int} {l : List Sym} : NullI g [⟨false, n⟩] → FirstI g l t → FirstI g (⟨false, n⟩ :: l) t
inductive FollowI (g : Gram) : Int → Int → Prop
  | top : FollowI g 0 g.terms
  | fst {r : Rule} {k : Nat} {s : Sym} {t : Int} : r ∈ g.rules → r.right[k]? = some s → s.term = false → FirstI g (r.right.drop (k + 1)) t → FollowI g s.n t
  | fol {r : Rule} {k : Nat} {s : Sym} {t : Int} : r ∈ g.rules → r.right[k]? = some s → s.term = false → NullI g (r.right.drop (k + 1)) → FollowI g r.left t → FollowI g s.n t

def NS (g : Gram) (nl : List Bool) : Prop := ∀ n : Int, 0 ≤ n → atB nl n = true → NullI g [⟨false, n⟩]
def FS (g : Gram) (fs : List (List Bool)) : Prop := ∀ n t : Int, 0 ≤ n → 0 ≤ t → at2 fs n t = true → FirstI g [⟨false, n⟩] t
def OS (g : Gram) (fo : List (List Bool)) : Prop := ∀ n t : Int, 0 ≤ n → 0 ≤ t → at2 fo n t = true → FollowI g n t
def NC (g : Gram) (nl : List Bool) : Prop := ∀ r ∈ g.rules, nullB nl r.right = true → atB nl r.left = true
def FC (g : Gram) (nl : List Bool) (fs : List (List Bool)) : Prop := ∀ r ∈ g.rules, ∀ t : Int, 0 ≤ t → t < g.terms → begB nl fs r.right t = true → at2 fs r.left t = true
def OC1 (g : Gram) (nl : List Bool) (fs fo : List (List Bool)) (r : Rule) (k : Nat) (s : Sym) : Prop :=
  ∀ t : Int, 0 ≤ t → ((t < g.terms → begB nl fs (r.right.drop (k + 1)) t = true → at2 fo s.n t = true) ∧ (t ≤ g.terms → nullB nl (r.right.drop (k + 1)) = true → at2 fo r.left t = true → at2 fo s.n t = true))
def OC (g : Gram) (nl : List Bool) (fs fo : List (List Bool)) : Prop := ∀ r ∈ g.rules, ∀ k s, r.right[k]? = some s → s.term = false → OC1 g nl fs fo r k s

/-- All of a list's names lie from 0 on. -/
abbrev Pos (l : List Sym) : Prop := ∀ s ∈ l, s.term = false → 0 ≤ s.n
/-! ### Cells -/
theorem row2_get {tab : List (List Bool)} {n : Int} (h0 : 0 ≤ n) (h1 : n < tab.length) : tab[n.toNat]? = some (row2 tab n) := by
  unfold row2
  have : n.toNat < tab.length := by omega
  rw [List.getD_eq_getElem?_getD, List.getElem?_eq_getElem this]; rfl
theorem atB_set' {l : List Bool} {t u : Int} (h0 : 0 ≤ t) (h1 : t < l.length) (hu : 0 ≤ u) (b : Bool) : atB (l.set t.toNat b) u = if u = t then b else atB l u := by
  unfold atB
  rw [List.getD_eq_getElem?_getD, List.getD_eq_getElem?_getD]
  split
  · rename_i e
    rw [e, List.getElem?_set_self (by omega)]; rfl
  · rename_i e
    rw [List.getElem?_set_ne (by omega)]
/-- One cell of a table is set. -/
def put2 (tab : List (List Bool)) (n t : Int) : List (List Bool) := tab.set n.toNat ((row2 tab n).set t.toNat true)
def fls2 : List (List Bool) → Nat
  | [] => 0
  | l :: tab => fls l + fls2 tab
/-- A table's shape. -/
def Dim (tab : List (List Bool)) (a b : Nat) : Prop := tab.length = a ∧ ∀ l ∈ tab, l.length = b
theorem Dim.row {tab : List (List Bool)} {a b : Nat} (h : Dim tab a b) {n : Int} (h0 : 0 ≤ n) (h1 : n < (a : Int)) : (row2 tab n).length = b :=
  h.2 _ (List.mem_of_getElem? (row2_get h0 (by rw [h.1]; exact h1)))
theorem Dim.put {tab : List (List Bool)} {a b : Nat} (h : Dim tab a b) {n t : Int} (h0 : 0 ≤ n) (h1 : n < (a : Int)) : Dim (put2 tab n t) a b := by
  refine ⟨by unfold put2; rw [List.length_set]; exact h.1, fun l hl => ?_⟩
  rcases List.mem_or_eq_of_mem_set hl with hl | rfl
  · exact h.2 l hl
  · rw [List.length_set]; exact h.row h0 h1
end Go.Sy
/- Rounds over constraints: so many rounds as there are cells close a column. No condition. -/
namespace Go.Sy
open Go

structure Con where
  cond : List Bool → Bool
  tgt : Int
def ClosedK (ks : List Con) (c : List Bool) : Prop := ∀ k ∈ ks, k.cond c = true → atB c k.tgt = true
structure RI (all done : List Con) (c0 c1 : List Bool) : Prop where
  len : c1.length = c0.length
  le : fls c1 ≤ fls c0
  keep : ClosedK all c0 → c1 = c0
  same : fls c1 = fls c0 → c1 = c0 ∧ ClosedK done c0

theorem RI.start (all : List Con) (c : List Bool) : RI all [] c c := ⟨rfl, Nat.le_refl _, fun _ => rfl, fun _ => ⟨rfl, fun k hk => by cases hk⟩⟩
theorem RI.step {all done : List Con} {c0 c1 : List Bool} (h : RI all done c0 c1) {k : Con} (hk : k ∈ all) (h0 : 0 ≤ k.tgt) (h1 : k.tgt < c0.length) : RI all (done ++ [k]) c0 (if k.cond c1 = true then c1.set k.tgt.toNat true else c1) := by
  have hl : k.tgt < (c1.length : Int) := by rw [h.len]; exact h1
  split
  · rename_i hc
    cases hb : atB c1 k.tgt with
    | true =>
      rw [show c1.set k.tgt.toNat true = c1 by
        have hg := atB_get h0 hl
        rw [hb] at hg
        apply List.ext_getElem?
        intro i
        rw [List.getElem?_set]
        split
        · rename_i e; subst e; rw [if_pos (by omega), hg]
        · rfl]
      refine ⟨h.len, h.le, h.keep, fun e => ⟨(h.same e).1, fun q hq hqc => ?_⟩⟩
      rcases List.mem_append.1 hq with hq | hq
      · exact (h.same e).2 q hq hqc
      · rw [List.mem_singleton.1 hq, ← (h.same e).1]; exact hb
    | false =>
      have hlt := fls_set (is := c1) (m := k.tgt.toNat) (by rw [atB_get h0 hl, hb])
      have hle := h.le
      refine ⟨by rw [List.length_set]; exact h.len, by omega, fun hcl => ?_, fun e => by omega⟩
      have e := h.keep hcl
      rw [e] at hc hb
      rw [hcl k hk hc] at hb
      cases hb
  · rename_i hc
    refine ⟨h.len, h.le, h.keep, fun e => ⟨(h.same e).1, fun q hq hqc => ?_⟩⟩
    rcases List.mem_append.1 hq with hq | hq
    · exact (h.same e).2 q hq hqc
    · rw [List.mem_singleton.1 hq, ← (h.same e).1] at hqc; exact absurd hqc hc
theorem RI.skip {all done : List Con} {c0 c1 : List Bool} (h : RI all done c0 c1) : RI all (done ++ []) c0 c1 := by rw [List.append_nil]; exact h
/-- A round's end. -/
theorem RI.round {all : List Con} {c0 c1 : List Bool} {j N : Nat} (h : RI all all c0 c1) (hj : ClosedK all c0 ∨ fls c0 + j ≤ N) : ClosedK all c1 ∨ fls c1 + (j + 1) ≤ N := by
  rcases hj with hj | hj
  · rw [h.keep hj]; exact .inl hj
  · by_cases e : fls c1 = fls c0
    · have := h.same e
      rw [this.1]; exact .inl this.2
    · have := h.le
      exact .inr (by omega)
theorem fls_le : ∀ c : List Bool, fls c ≤ c.length
  | [] => Nat.le_refl _
  | b :: c => by
    have := fls_le c
    simp only [fls, List.length_cons]
    split <;> omega

/-- A table's column. -/
def colL (f : List (List Bool)) (t : Int) : List Bool := f.map (fun l => atB l t)
/-! ### The constraints of a grammar -/
def nullK (r : Rule) : Con := ⟨fun c => nullB c r.right, r.left⟩
def begC (nl c : List Bool) : List Sym → Int → Bool
  | [], _ => false
  | s :: l, t => if s.term = true then decide (s.n = t) else atB c s.n || (atB nl s.n && begC nl c l t)
def firstK (nl : List Bool) (t : Int) (r : Rule) : Con := ⟨fun c => begC nl c r.right t, r.left⟩
def followK (g : Gram) (nl : List Bool) (fs : List (List Bool)) (t : Int) (r : Rule) (k : Nat) (s : Sym) : Con :=
  ⟨fun c => (decide (t < g.terms) && begB nl fs (r.right.drop (k + 1)) t) || (nullB nl (r.right.drop (k + 1)) && atB c r.left), s.n⟩
/-- Of a rule's first symbols. -/
def folKs (g : Gram) (nl : List Bool) (fs : List (List Bool)) (t : Int) (r : Rule) : Nat → List Con
  | 0 => []
  | m + 1 => folKs g nl fs t r m ++ (match r.right[m]? with | some s => if s.term = true then [] else [followK g nl fs t r m s] | none => [])
def KN (g : Gram) : List Con := g.rules.map nullK
def KF (g : Gram) (nl : List Bool) (t : Int) : List Con := g.rules.map (firstK nl t)
def KO (g : Gram) (nl : List Bool) (fs : List (List Bool)) (t : Int) : List Con := g.rules.flatMap fun r => folKs g nl fs t r r.right.length

end Go.Sy
