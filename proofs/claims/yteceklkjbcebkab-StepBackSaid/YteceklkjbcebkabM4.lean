/- Walks and plain laws, part 4. No condition. -/
import Derived.Test.YteceklkjbcebkabProg
import Derived.Test.YteceklkjbcebkabM2
import Derived.Test.YteceklkjbcebkabM3
/- slices.Clone, slices.Replace. No condition. -/
namespace Go.Sy
open Go Go.RowKit Go.Proofs

abbrev emp0H : HP := fun h => h = emp0
theorem cells_at {A M B Q : List Value} {o k : Nat} {u : Value} (ho : A.length + M.length = o) (hk : B[k]? = some u) : (A ++ (M ++ (B ++ Q)))[o + k]? = some u := by
 have hlt := (List.getElem?_eq_some_iff.1 hk).1
 rw [← List.append_assoc, List.getElem?_append_right (by rw [List.length_append]; omega), List.length_append, ho, Nat.add_sub_cancel_left, List.getElem?_append_left hlt, hk]

set_option maxRecDepth 20000 in
theorem replS_any (v : Value) (xs vs : List Value) (len i j m vc : Nat) (sa : Option Addr) (R : Nat → Prop) (w0 w : World) (F : HP) (hij : i < j) (hj : j ≤ len) (hlm : len + m ≤ 1000) (hvs : vs.length = m * 2) (hvi : VIn R w0 F sa vs) (h1v : ∀ u ∈ vs, u.oneCell' = true) (h1x : ∀ u ∈ xs, u.oneCell' = true) (hw : Sat R w0 ([row 51 2 v len xs] ++ [F]) w) : Calls Try.prog 34 #[v, .int .i64 (i : Int), .int .i64 (j : Int), .slice sa m vc] w (fun e w' => ∃ v' : Value, e = .returned v' ∧ Sat R w0 ([row 51 2 v' (len - (j - i) + m) (xs.take (i * 2) ++ vs ++ xs.drop (j * 2))] ++ [F]) w') := by
 have hw : Sat R w0 [row 51 2 v len xs, F] w := hw
 obtain ⟨_, h0, _⟩ | ⟨b, cap, rfl, _, _, _, _⟩ := hw.rowForm (A' := row 51 2 v len xs) .head
 · omega
 obtain ⟨rest, ⟨hfull, hlc, hcm, hxl⟩, hw'⟩ := hw.openRow
 obtain ⟨A, M, B, rfl, hA, hM, hB⟩ : ∃ A M B : List Value, xs = A ++ (M ++ B) ∧ A.length = i * 2 ∧ M.length = (j - i) * 2 ∧ B.length = (len - j) * 2 := by
   refine ⟨xs.take (i * 2), (xs.drop (i * 2)).take ((j - i) * 2), xs.drop (j * 2), ?_, ?_, ?_, ?_⟩
   · have e : xs.drop (j * 2) = (xs.drop (i * 2)).drop ((j - i) * 2) := by rw [List.drop_drop]; congr 1; omega
     rw [e, List.take_append_drop, List.take_append_drop]
   · rw [List.length_take]; omega
   · rw [List.length_take, List.length_drop]; omega
   · rw [List.length_drop]; omega
 have ht : (A ++ (M ++ B)).take (i * 2) = A := by rw [← hA, List.take_left]
 have hdr : (A ++ (M ++ B)).drop (j * 2) = B := by
   have e : j * 2 = A.length + M.length := by omega
   rw [e, ← List.append_assoc, ← List.length_append, List.drop_left]
 rw [ht, hdr]
 have h1B : ∀ u ∈ B, u.oneCell' = true := fun u hu => h1x u (by simp [hu])
 rw [List.length_append, List.length_append, List.length_append] at hfull
 rw [List.append_assoc, List.append_assoc] at hw'
 refine calls_CW (S := Sat R w0 [cel b 51 (A ++ (M ++ (B ++ rest))), F]) Try.func34 rfl Try.ntmps34 rfl (hw') ?_
 refine nx3 ?_
 refine aO ?_
 refine nx4 ?_
 refine mO ?_
 refine mO ?_
 refine mO ?_
 refine OW_q (q_slice Try.underlying46 Try.sizeOf51 rfl (.inr ⟨_, rfl, rfl⟩) (.inr ⟨_, rfl, rfl⟩) (by omega) (by omega) (by omega)) rfl ?_
 refine nx2 ?_
 refine CW_seq ?_
 refine nx3 ?_
 refine mO ?_
 refine mO ?_
 refine OW_q (q_eqi rfl rfl) rfl ?_
 refine nx2 ?_
 refine CW_false rfl (by simp; omega) ?_
 refine CW_skip ?_
 refine EW_then ?_
 refine CW_seq ?_
 refine nx3 ?_
 refine mO ?_
 refine mO ?_
 refine OW_q (q_len Try.underlying46 rfl) rfl ?_
 refine OW_q (q_eqi rfl rfl) rfl ?_
 refine nx2 ?_
 refine CW_cond rfl (fun h29 => ?_) (fun h29 => ?_)
 · skip
   have hjl : j = len := by simp at h29; omega
   have hBn : B = [] := List.eq_nil_of_length_eq_zero (by omega)
   subst hBn
   refine nx3 ?_
   refine mO ?_
   refine mO ?_
   refine OW_q (q_slice Try.underlying46 Try.sizeOf51 rfl (.inl ⟨rfl, rfl⟩) (.inr ⟨_, rfl, rfl⟩) (by omega) (by omega) (by omega)) rfl ?_
   refine OW_spell 32 (.slice (some ⟨b, 0, none⟩) i cap) rfl sl_zero ?_
   refine mO ?_
   refine OW_e (e_appendV (size := 2) (b := b) (len := i) (cap := cap) (xs := A) (rest := M ++ ([] ++ rest)) (news := vs) (sa := sa) Try.underlying46 Try.typeInfo51 rfl rfl rfl rfl rfl rfl rfl pkt hvs hA (by simp only [List.length_append, List.length_nil]; omega) (by omega) hcm (fun w hw => hw.vin (F := F) swt hvi) h1v (by omega) (by decide)) rfl (fun v34 => ?_)
   refine OW_pure fun hv34 => ?_
   refine aO ?_
   refine nx2 ?_
   refine CW_seq ?_
   refine CW_seq ?_
   refine CW_fact (fun w hw => hw.rowSl (A' := row 51 2 v34 (i + m) (A ++ vs)) .head) (fun hf => ?_)
   obtain ⟨p34, c34, rfl, _, _⟩ := hf
   refine CW_region ?_
   refine mO ?_
   refine OW_q (q_len Try.underlying46 rfl) rfl ?_
   refine mO ?_
   refine OW_q (q_len Try.underlying46 rfl) rfl ?_
   refine OW_q (q_lss rfl rfl) rfl ?_
   refine nx2 ?_
   refine CW_cond rfl (fun h39 => ?_) (fun h39 => ?_)
   · skip
     have himl : i + m < len := by have := of_decide_eq_true h39; omega
     have e34 := hv34 (by have := of_decide_eq_true h39; omega)
     injection e34 with e1 e2 e3
     subst e1
     subst e3
     refine CW_ex (fun w hw => hw.openRow) (fun rest2 => ?_)
     refine CW_pure fun hr2 => ?_
     obtain ⟨hr2, _, _, hr3⟩ := hr2
     rw [List.length_append] at hr2
     refine CW_weak (S' := Sat R w0 [cel b 51 ((A ++ vs) ++ rest2), F]) (fun w hw => hw) ?_
     refine CW_region ?_
     refine mO ?_
     refine mO ?_
     refine OW_q (q_len Try.underlying46 rfl) rfl ?_
     refine OW_q (q_slice Try.underlying46 Try.sizeOf51 rfl (.inr ⟨_, rfl, rfl⟩) (.inl ⟨rfl, rfl⟩) (by omega) (by omega) (by omega)) rfl ?_
     refine OW_e0 (e_clear (size := 2) (b := b) (o := (i + m) * 2) (m := len - (i + m)) (Pre := A ++ vs) (Q0 := rest2) Try.underlying46 Try.zeroValue51 rfl rfl (fun _ => sl_at (by omega)) (by omega) (by omega) (by simp [Value.cells, Value.oneCell']) swt) (fun _ => ?_)
     refine nx4 ?_
     refine mO ?_
     refine aO ?_
     refine nx2 ?_
     refine CW_ret ?_
     refine EW_then_ret ?_
     refine ret1 Try.results34 rfl (fun w hw => ?_)
     have hn : len - (j - i) + m = i + m := by omega
     refine ⟨_, rfl, ?_⟩
     rw [hn, List.append_nil]
     exact Sat.sub (Sat.closeRow (size := 2) (cap := c34) (n := i + m) (hw) (by simp only [List.length_append, List.length_drop, List.length_nil, Array.length_toList, size_zeroCells, Value.cells, List.size_toArray, List.length_cons]; omega) (by omega) (by omega) (by omega)) sbt
   refine CW_skip ?_
   refine EW_then ?_
   refine nx3 ?_
   refine mO ?_
   refine aO ?_
   refine nx2 ?_
   refine CW_ret ?_
   refine EW_then_ret ?_
   refine ret1 Try.results34 rfl (fun w hw => ?_)
   have hn : len - (j - i) + m = i + m := by omega
   refine ⟨_, rfl, ?_⟩
   rw [hn, List.append_nil]
   exact hw
 have hjl : j < len := by simp at h29; omega
 refine CW_skip ?_
 refine EW_then ?_
 refine CW_seq ?_
 refine CW_drawS 13 [(0, false), (1, false), (2, false), (3, false), (4, false), (5, false), (6, false), (7, false), (8, false), (9, false), (10, false), (11, false), (12, false)] (by kernel_rfl) (Blind.then Blind.bodyP) (by kernel_rfl) (fun w hw => hw.drew) ?_
 refine mD ?_
 refine mD ?_
 refine DW_q rfl sft (q_slice Try.underlying46 Try.sizeOf51 rfl (.inl ⟨rfl, rfl⟩) (.inr ⟨_, rfl, rfl⟩) (by omega) (by omega) (by omega)) rfl ?_
 refine DW_q rfl sft (q_len Try.underlying46 rfl) rfl ?_
 refine mD ?_
 refine DW_q rfl sft (q_len Try.underlying46 rfl) rfl ?_
 refine DW_q rfl sft (q_inc rfl rfl (by omega)) rfl ?_
 refine mD ?_
 refine mD ?_
 refine DW_q rfl sft (q_slice Try.underlying46 Try.sizeOf51 rfl (.inr ⟨_, rfl, rfl⟩) (.inl ⟨rfl, rfl⟩) (by omega) (by omega) (by omega)) rfl ?_
 refine DW_q rfl sft (q_len Try.underlying46 rfl) rfl ?_
 refine DW_q rfl sft (q_inc rfl rfl (by omega)) rfl ?_
 refine DW_q rfl sft (q_assign rfl) rfl ?_
 refine DW_nil ?_
 refine EW_then ?_
 refine CW_seq ?_
 refine CW_seq ?_
 refine CW_spell 10 (.int .i64 (((i + m + (len - j)) : Nat) : Int)) rfl rfl ?_
 refine CW_region ?_
 refine mO ?_
 refine mO ?_
 refine OW_q (q_cap Try.underlying46 rfl) rfl ?_
 refine OW_q (q_gtr rfl rfl) rfl ?_
 refine nx2 ?_
 refine CW_cond rfl (fun h60 => ?_) (fun h60 => ?_)
 · skip
   have htc : cap < (i + m + (len - j)) := by have := of_decide_eq_true h60; omega
   refine nx3 ?_
   refine mO ?_
   refine mO ?_
   refine OW_q (q_slice Try.underlying46 Try.sizeOf51 rfl (.inl ⟨rfl, rfl⟩) (.inr ⟨_, rfl, rfl⟩) (by omega) (by omega) (by omega)) rfl ?_
   refine OW_spell 63 (.slice (some ⟨b, 0, none⟩) i cap) rfl sl_zero ?_
   refine mO ?_
   refine mO ?_
   refine OW_q (q_sub rfl rfl (by omega) (by omega)) rfl ?_
   refine OW_spell 66 (.int .i64 ((m + (len - j) : Nat) : Int)) rfl (congrArg (Value.int .i64) (by omega)) ?_
   refine OW_e (e_appendZ (size := 2) (b := b) (len := i) (cap := cap) (m := m + (len - j)) (xs := A) (rest := M ++ (B ++ rest)) Try.underlying46 Try.underlying3 Try.typeInfo51 rfl rfl rfl rfl rfl rfl rfl swt hA (by omega) (by omega) (by decide)) rfl (fun y67 => ?_)
   refine OW_pure fun hy => ?_
   obtain ⟨hy1, hy2, hy3⟩ := hy
   rw [List.length_append] at hy1
   refine aO ?_
   refine nx4 ?_
   refine mO ?_
   refine mO ?_
   refine OW_q (q_slice Try.underlying46 Try.sizeOf51 rfl (.inr ⟨_, rfl, rfl⟩) (.inl ⟨rfl, rfl⟩) (by omega) (by omega) (by omega)) rfl ?_
   refine mO ?_
   refine OW_e (e_copy (size := 2) (b := y67.1) (o := (i) * 2) (Pre := A) (Q0 := y67.2.2) (vs := vs) Try.underlying46 Try.typeInfo51 rfl rfl rfl rfl (fun _ => sl_at (by omega)) (by rw [hvs]; congr 1; omega) ((fun w hw => hw.vin (F := F) swt hvi)) (by omega) (by omega) h1v swt) rfl (fun _ => ?_)
   refine nx2 ?_
   refine CW_seq ?_
   refine CW_weak (S' := Sat R w0 [cel y67.1 51 ((A ++ vs) ++ y67.2.2.drop vs.length), cel b 51 (A ++ (M ++ (B ++ rest))), F]) (fun w hw => by rw [List.append_assoc]; exact hw) ?_
   refine CW_drawS 9 [(0, false), (1, false), (2, false), (3, false), (4, false), (5, false), (6, false), (7, false), (8, false), (9, true)] (by kernel_rfl) (Blind.then (Blind.then Blind.bodyP)) (by kernel_rfl) (fun w hw => hw.drew) ?_
   refine mD ?_
   refine mD ?_
   refine mD ?_
   refine DW_q rfl sft (q_len Try.underlying46 rfl) rfl ?_
   refine DW_q rfl sft (q_inc rfl rfl (by omega)) rfl ?_
   refine DW_q rfl sft (q_slice Try.underlying46 Try.sizeOf51 rfl (.inr ⟨_, rfl, rfl⟩) (.inl ⟨rfl, rfl⟩) (by omega) (by omega) (by omega)) rfl ?_
   refine mD ?_
   refine mD ?_
   refine DW_q rfl sft (q_slice Try.underlying46 Try.sizeOf51 rfl (.inr ⟨_, rfl, rfl⟩) (.inl ⟨rfl, rfl⟩) (by omega) (by omega) (by omega)) rfl ?_
   refine DW_z rfl (e_copy (size := 2) (b := y67.1) (o := (i + m) * 2) (Pre := A ++ vs) (Q0 := y67.2.2.drop vs.length) (vs := B) Try.underlying46 Try.typeInfo51 rfl rfl rfl rfl (fun _ => sl_at (by omega)) (by rw [hB]; congr 1; omega) (fun w hw k u hk => ⟨_, sl_at (by omega), by rw [Addr.add_lit, hw.cell (t := 51) (cs := A ++ (M ++ (B ++ rest))) (A' := cel b 51 (A ++ (M ++ (B ++ rest)))) swt]; exact cells_at (by omega) hk⟩) (by simp only [List.length_append]; omega) (by simp only [List.length_drop]; omega) h1B swt) rfl (fun _ => ?_)
   refine EW_then ?_
   refine nx3 ?_
   refine mO ?_
   refine aO ?_
   refine nx2 ?_
   refine CW_ret ?_
   refine EW_then_ret ?_
   refine ret1 Try.results34 rfl (fun w hw => ?_)
   have hn : len - (j - i) + m = (i + (m + (len - j))) := by omega
   refine ⟨_, rfl, ?_⟩
   rw [hn]
   exact Sat.sub (Sat.closeRow (size := 2) (cap := y67.2.1) (n := (i + (m + (len - j)))) ((by rw [← List.append_assoc] at hw; exact hw)) (by simp only [List.length_append, List.length_drop]; omega) (by omega) (by omega) (by simp only [List.length_append]; omega)) sbt
 have htc : (i + m + (len - j)) ≤ cap := by have := of_decide_eq_false h60; omega
 refine CW_skip ?_
 refine EW_then ?_
 refine nx3 ?_
 refine mO ?_
 refine mO ?_
 refine OW_q (q_slice Try.underlying46 Try.sizeOf51 rfl (.inl ⟨rfl, rfl⟩) (.inr ⟨_, rfl, rfl⟩) (by omega) (by omega) (by omega)) rfl ?_
 refine aO ?_
 refine nx2 ?_
 refine CW_seq ?_
 refine CW_seq ?_
 refine CW_spell 12 (.slice (some ⟨b, 0, none⟩) (i + m + (len - j)) cap) rfl sl_zero ?_
 refine CW_region ?_
 refine mO ?_
 refine mO ?_
 refine OW_q (q_len Try.underlying46 rfl) rfl ?_
 refine OW_q (q_inc rfl rfl (by omega)) rfl ?_
 refine mO ?_
 refine OW_q (q_leq rfl rfl) rfl ?_
 refine nx2 ?_
 refine CW_cond rfl (fun h92 => ?_) (fun h92 => ?_)
 · skip
   have him : i + m ≤ j := by have := of_decide_eq_true h92; omega
   refine nx3 ?_
   refine mO ?_
   refine mO ?_
   refine OW_q (q_slice Try.underlying46 Try.sizeOf51 rfl (.inr ⟨_, rfl, rfl⟩) (.inl ⟨rfl, rfl⟩) (by omega) (by omega) (by omega)) rfl ?_
   refine mO ?_
   refine OW_e (e_copy (size := 2) (b := b) (o := (i) * 2) (Pre := A) (Q0 := M ++ (B ++ rest)) (vs := vs) Try.underlying46 Try.typeInfo51 rfl rfl rfl rfl (fun _ => sl_at (by omega)) (by rw [hvs]; congr 1; omega) ((fun w hw => hw.vin (F := F) swt hvi)) (by omega) (by simp only [List.length_append]; omega) h1v swt) rfl (fun _ => ?_)
   refine nx2 ?_
   refine CW_seq ?_
   refine CW_weak (S' := Sat R w0 [cel b 51 ((A ++ vs) ++ (M.drop vs.length ++ (B ++ rest))), F]) (fun w hw => by
     rw [List.drop_append_of_le_length (by omega)] at hw
     rw [List.append_assoc]; exact hw) ?_
   refine CW_drawS 9 [(0, false), (1, false), (2, false), (3, false), (4, false), (5, false), (6, false), (7, false), (8, false), (9, true)] (by kernel_rfl) (Blind.then (Blind.then Blind.bodyP)) (by kernel_rfl) (fun w hw => hw.drew) ?_
   refine mD ?_
   refine mD ?_
   refine mD ?_
   refine DW_q rfl sft (q_len Try.underlying46 rfl) rfl ?_
   refine DW_q rfl sft (q_inc rfl rfl (by omega)) rfl ?_
   refine DW_q rfl sft (q_slice Try.underlying46 Try.sizeOf51 rfl (.inr ⟨_, rfl, rfl⟩) (.inl ⟨rfl, rfl⟩) (by omega) (by omega) (by omega)) rfl ?_
   refine mD ?_
   refine mD ?_
   refine DW_q rfl sft (q_slice Try.underlying46 Try.sizeOf51 rfl (.inr ⟨_, rfl, rfl⟩) (.inl ⟨rfl, rfl⟩) (by omega) (by omega) (by omega)) rfl ?_
   refine DW_z rfl (e_copy (size := 2) (b := b) (o := (i + m) * 2) (Pre := A ++ vs) (Q0 := M.drop vs.length ++ (B ++ rest)) (vs := B) Try.underlying46 Try.typeInfo51 rfl rfl rfl rfl (fun _ => sl_at (by omega)) (by rw [hB]; congr 1; omega) (fun w hw k u hk => ⟨_, sl_at (by omega), by rw [Addr.add_lit, hw.cell (t := 51) (cs := (A ++ vs) ++ (M.drop vs.length ++ (B ++ rest))) (A' := cel b 51 ((A ++ vs) ++ (M.drop vs.length ++ (B ++ rest)))) swt]; exact cells_at (by simp only [List.length_append, List.length_drop]; omega) hk⟩) (by simp only [List.length_append]; omega) (by simp only [List.length_append, List.length_drop]; omega) h1B swt) rfl (fun _ => ?_)
   refine EW_then ?_
   refine CW_seq ?_
   refine CW_weak (S' := Sat R w0 [cel b 51 (((A ++ vs) ++ B) ++ (M.drop vs.length ++ (B ++ rest)).drop B.length), F]) (fun w hw => by rw [List.append_assoc]; exact hw) ?_
   refine CW_region ?_
   refine mO ?_
   refine mO ?_
   refine OW_q (q_slice Try.underlying46 Try.sizeOf51 rfl (.inr ⟨_, rfl, rfl⟩) (.inl ⟨rfl, rfl⟩) (by omega) (by omega) (by omega)) rfl ?_
   refine OW_e0 (e_clear (size := 2) (b := b) (o := (i + m + (len - j)) * 2) (m := len - (i + m + (len - j))) (Pre := (A ++ vs) ++ B) (Q0 := (M.drop vs.length ++ (B ++ rest)).drop B.length) Try.underlying46 Try.zeroValue51 rfl rfl (fun hne => sl_at (by omega)) (by simp only [List.length_append]; omega) (by simp only [List.length_append, List.length_drop]; omega) (by simp [Value.cells, Value.oneCell']) swt) (fun _ => ?_)
   refine nx4 ?_
   refine mO ?_
   refine aO ?_
   refine nx2 ?_
   refine CW_ret ?_
   refine EW_then_ret ?_
   refine ret1 Try.results34 rfl (fun w hw => ?_)
   have hn : len - (j - i) + m = (i + m + (len - j)) := by omega
   refine ⟨_, rfl, ?_⟩
   rw [hn]
   exact Sat.sub (Sat.closeRow (size := 2) (cap := cap) (n := (i + m + (len - j))) (hw) (by simp only [List.length_append, List.length_drop, List.length_nil, Array.length_toList, size_zeroCells, Value.cells, List.size_toArray, List.length_cons]; omega) (by omega) (by omega) (by simp only [List.length_append]; omega)) sbt
 have him : j < i + m := by have := of_decide_eq_false h92; omega
 obtain ⟨u0, us, hvc⟩ : ∃ u us, vs = u :: us := by
   cases hv : vs with
   | nil => rw [hv] at hvs; simp at hvs; omega
   | cons u us => exact ⟨u, us, rfl⟩
 refine CW_skip ?_
 refine EW_then ?_
 refine CW_seq ?_
 refine nx3 ?_
 refine mO ?_
 refine mO ?_
 refine mO ?_
 refine OW_q (q_len Try.underlying46 rfl) rfl ?_
 refine OW_q (q_inc rfl rfl (by omega)) rfl ?_
 refine OW_q (q_slice Try.underlying46 Try.sizeOf51 rfl (.inr ⟨_, rfl, rfl⟩) (.inl ⟨rfl, rfl⟩) (by omega) (by omega) (by omega)) rfl ?_
 refine mO ?_
 refine OW_e (e_overlaps (tS := 46) (tR := 4) Try.func49 (by kernel_rfl) (by kernel_rfl) (by kernel_rfl) (by kernel_rfl) rfl rfl (fun w hw => by
   obtain ⟨a2, ha2, hne, T2, k2, hs2, hk2⟩ := hw.vapart hvi 0 u0 (by rw [hvc]; rfl)
   have hb := (hw.block (A' := emp0H) .head (fun x hx => by rw [hx]; exact one_same _ _)).1
   rw [ha2, sl_at (by omega)]
   exact Lib.run_overlaps_apart w 46 4 51 Try.underlying46 2 Try.sizeOf51 _ _ _ _ _ _ hne 51 T2 _ k2 (by simp only [World.shape?, hb]; rfl) hs2 hk2 (hw.unfrozen (A' := emp0H) .head _) (hw.unfrozen (A' := emp0H) .head _))) rfl (fun _ => ?_)
 refine OW_q (q_not rfl) rfl ?_
 refine nx2 ?_
 refine CW_true rfl (rfl) ?_
 refine CW_seq ?_
 refine CW_weak (S' := Sat R w0 [cel b 51 ((A ++ (M ++ (B ++ rest)).take vs.length) ++ (M ++ (B ++ rest)).drop vs.length), F]) (fun w hw => by rw [List.append_assoc, List.take_append_drop]; exact hw) ?_
 refine CW_drawS 9 [(0, false), (1, false), (2, false), (3, false), (4, false), (5, false), (6, false), (7, false), (8, false), (9, true)] (by kernel_rfl) (Blind.then (Blind.then Blind.bodyP)) (by kernel_rfl) (fun w hw => hw.drew) ?_
 refine mD ?_
 refine mD ?_
 refine mD ?_
 refine DW_q rfl sft (q_len Try.underlying46 rfl) rfl ?_
 refine DW_q rfl sft (q_inc rfl rfl (by omega)) rfl ?_
 refine DW_q rfl sft (q_slice Try.underlying46 Try.sizeOf51 rfl (.inr ⟨_, rfl, rfl⟩) (.inl ⟨rfl, rfl⟩) (by omega) (by omega) (by omega)) rfl ?_
 refine mD ?_
 refine mD ?_
 refine DW_q rfl sft (q_slice Try.underlying46 Try.sizeOf51 rfl (.inr ⟨_, rfl, rfl⟩) (.inl ⟨rfl, rfl⟩) (by omega) (by omega) (by omega)) rfl ?_
 refine DW_z rfl (e_copy (size := 2) (b := b) (o := (i + m) * 2) (Pre := A ++ (M ++ (B ++ rest)).take vs.length) (Q0 := (M ++ (B ++ rest)).drop vs.length) (vs := B) Try.underlying46 Try.typeInfo51 rfl rfl rfl rfl (fun _ => sl_at (by omega)) (by rw [hB]; congr 1; omega) (fun w hw k u hk => ⟨_, sl_at (by omega), by rw [Addr.add_lit, hw.cell (t := 51) (cs := (A ++ (M ++ (B ++ rest)).take vs.length) ++ (M ++ (B ++ rest)).drop vs.length) (A' := cel b 51 ((A ++ (M ++ (B ++ rest)).take vs.length) ++ (M ++ (B ++ rest)).drop vs.length)) swt]; rw [List.append_assoc, List.take_append_drop]; exact cells_at (by omega) hk⟩) (by simp only [List.length_append, List.length_take]; omega) (by simp only [List.length_append, List.length_drop]; omega) h1B swt) rfl (fun _ => ?_)
 refine EW_then ?_
 refine CW_seq ?_
 refine CW_weak (S' := Sat R w0 [cel b 51 (A ++ ((M ++ (B ++ rest)).take vs.length ++ (B ++ ((M ++ (B ++ rest)).drop vs.length).drop B.length))), F]) (fun w hw => by rw [← List.append_assoc]; exact hw) ?_
 refine CW_region ?_
 refine mO ?_
 refine mO ?_
 refine OW_q (q_slice Try.underlying46 Try.sizeOf51 rfl (.inr ⟨_, rfl, rfl⟩) (.inl ⟨rfl, rfl⟩) (by omega) (by omega) (by omega)) rfl ?_
 refine mO ?_
 refine OW_e (e_copy (size := 2) (b := b) (o := (i) * 2) (Pre := A) (Q0 := (M ++ (B ++ rest)).take vs.length ++ (B ++ ((M ++ (B ++ rest)).drop vs.length).drop B.length)) (vs := vs) Try.underlying46 Try.typeInfo51 rfl rfl rfl rfl (fun _ => sl_at (by omega)) (by rw [hvs]; congr 1; omega) ((fun w hw => hw.vin (F := F) swt hvi)) (by omega) (by simp only [List.length_append, List.length_drop, List.length_take]; omega) h1v swt) rfl (fun _ => ?_)
 refine nx4 ?_
 refine mO ?_
 refine aO ?_
 refine nx2 ?_
 refine CW_ret ?_
 refine EW_then_ret ?_
 refine ret1 Try.results34 rfl (fun w hw => ?_)
 have hX : ((M ++ (B ++ rest)).take vs.length).length = vs.length := by rw [List.length_take, List.length_append, List.length_append]; omega
 rw [List.drop_append_of_le_length (Nat.le_of_eq hX.symm), List.drop_eq_nil_of_le (Nat.le_of_eq hX), List.nil_append, ← List.append_assoc, ← List.append_assoc] at hw
 have hn : len - (j - i) + m = (i + m + (len - j)) := by omega
 refine ⟨_, rfl, ?_⟩
 rw [hn]
 exact Sat.sub (Sat.closeRow (size := 2) (cap := cap) (n := (i + m + (len - j))) (hw) (by simp only [List.length_append, List.length_drop]; omega) (by omega) (by omega) (by simp only [List.length_append]; omega)) sbt

set_option maxRecDepth 20000 in
theorem replR_any (v : Value) (xs vs : List Value) (len i j m vc : Nat) (sa : Option Addr) (R : Nat → Prop) (w0 w : World) (F : HP) (hij : i < j) (hj : j ≤ len) (hlm : len + m ≤ 1000) (hvs : vs.length = m * 2) (hvi : VIn R w0 F sa vs) (h1v : ∀ u ∈ vs, u.oneCell' = true) (h1x : ∀ u ∈ xs, u.oneCell' = true) (hw : Sat R w0 ([row 49 2 v len xs] ++ [F]) w) : Calls Try.prog 35 #[v, .int .i64 (i : Int), .int .i64 (j : Int), .slice sa m vc] w (fun e w' => ∃ v' : Value, e = .returned v' ∧ Sat R w0 ([row 49 2 v' (len - (j - i) + m) (xs.take (i * 2) ++ vs ++ xs.drop (j * 2))] ++ [F]) w') := by
 have hw : Sat R w0 [row 49 2 v len xs, F] w := hw
 obtain ⟨_, h0, _⟩ | ⟨b, cap, rfl, _, _, _, _⟩ := hw.rowForm (A' := row 49 2 v len xs) .head
 · omega
 obtain ⟨rest, ⟨hfull, hlc, hcm, hxl⟩, hw'⟩ := hw.openRow
 obtain ⟨A, M, B, rfl, hA, hM, hB⟩ : ∃ A M B : List Value, xs = A ++ (M ++ B) ∧ A.length = i * 2 ∧ M.length = (j - i) * 2 ∧ B.length = (len - j) * 2 := by
   refine ⟨xs.take (i * 2), (xs.drop (i * 2)).take ((j - i) * 2), xs.drop (j * 2), ?_, ?_, ?_, ?_⟩
   · have e : xs.drop (j * 2) = (xs.drop (i * 2)).drop ((j - i) * 2) := by rw [List.drop_drop]; congr 1; omega
     rw [e, List.take_append_drop, List.take_append_drop]
   · rw [List.length_take]; omega
   · rw [List.length_take, List.length_drop]; omega
   · rw [List.length_drop]; omega
 have ht : (A ++ (M ++ B)).take (i * 2) = A := by rw [← hA, List.take_left]
 have hdr : (A ++ (M ++ B)).drop (j * 2) = B := by
   have e : j * 2 = A.length + M.length := by omega
   rw [e, ← List.append_assoc, ← List.length_append, List.drop_left]
 rw [ht, hdr]
 have h1B : ∀ u ∈ B, u.oneCell' = true := fun u hu => h1x u (by simp [hu])
 rw [List.length_append, List.length_append, List.length_append] at hfull
 rw [List.append_assoc, List.append_assoc] at hw'
 refine calls_CW (S := Sat R w0 [cel b 49 (A ++ (M ++ (B ++ rest))), F]) Try.func35 rfl Try.ntmps35 rfl (hw') ?_
 refine nx3 ?_
 refine aO ?_
 refine nx4 ?_
 refine mO ?_
 refine mO ?_
 refine mO ?_
 refine OW_q (q_slice Try.underlying22 Try.sizeOf49 rfl (.inr ⟨_, rfl, rfl⟩) (.inr ⟨_, rfl, rfl⟩) (by omega) (by omega) (by omega)) rfl ?_
 refine nx2 ?_
 refine CW_seq ?_
 refine nx3 ?_
 refine mO ?_
 refine mO ?_
 refine OW_q (q_eqi rfl rfl) rfl ?_
 refine nx2 ?_
 refine CW_false rfl (by simp; omega) ?_
 refine CW_skip ?_
 refine EW_then ?_
 refine CW_seq ?_
 refine nx3 ?_
 refine mO ?_
 refine mO ?_
 refine OW_q (q_len Try.underlying22 rfl) rfl ?_
 refine OW_q (q_eqi rfl rfl) rfl ?_
 refine nx2 ?_
 refine CW_cond rfl (fun h29 => ?_) (fun h29 => ?_)
 · skip
   have hjl : j = len := by simp at h29; omega
   have hBn : B = [] := List.eq_nil_of_length_eq_zero (by omega)
   subst hBn
   refine nx3 ?_
   refine mO ?_
   refine mO ?_
   refine OW_q (q_slice Try.underlying22 Try.sizeOf49 rfl (.inl ⟨rfl, rfl⟩) (.inr ⟨_, rfl, rfl⟩) (by omega) (by omega) (by omega)) rfl ?_
   refine OW_spell 32 (.slice (some ⟨b, 0, none⟩) i cap) rfl sl_zero ?_
   refine mO ?_
   refine OW_e (e_appendV (size := 2) (b := b) (len := i) (cap := cap) (xs := A) (rest := M ++ ([] ++ rest)) (news := vs) (sa := sa) Try.underlying22 Try.typeInfo49 rfl rfl rfl rfl rfl rfl rfl pkt hvs hA (by simp only [List.length_append, List.length_nil]; omega) (by omega) hcm (fun w hw => hw.vin (F := F) swt hvi) h1v (by omega) (by decide)) rfl (fun v34 => ?_)
   refine OW_pure fun hv34 => ?_
   refine aO ?_
   refine nx2 ?_
   refine CW_seq ?_
   refine CW_seq ?_
   refine CW_fact (fun w hw => hw.rowSl (A' := row 49 2 v34 (i + m) (A ++ vs)) .head) (fun hf => ?_)
   obtain ⟨p34, c34, rfl, _, _⟩ := hf
   refine CW_region ?_
   refine mO ?_
   refine OW_q (q_len Try.underlying22 rfl) rfl ?_
   refine mO ?_
   refine OW_q (q_len Try.underlying22 rfl) rfl ?_
   refine OW_q (q_lss rfl rfl) rfl ?_
   refine nx2 ?_
   refine CW_cond rfl (fun h39 => ?_) (fun h39 => ?_)
   · skip
     have himl : i + m < len := by have := of_decide_eq_true h39; omega
     have e34 := hv34 (by have := of_decide_eq_true h39; omega)
     injection e34 with e1 e2 e3
     subst e1
     subst e3
     refine CW_ex (fun w hw => hw.openRow) (fun rest2 => ?_)
     refine CW_pure fun hr2 => ?_
     obtain ⟨hr2, _, _, hr3⟩ := hr2
     rw [List.length_append] at hr2
     refine CW_weak (S' := Sat R w0 [cel b 49 ((A ++ vs) ++ rest2), F]) (fun w hw => hw) ?_
     refine CW_region ?_
     refine mO ?_
     refine mO ?_
     refine OW_q (q_len Try.underlying22 rfl) rfl ?_
     refine OW_q (q_slice Try.underlying22 Try.sizeOf49 rfl (.inr ⟨_, rfl, rfl⟩) (.inl ⟨rfl, rfl⟩) (by omega) (by omega) (by omega)) rfl ?_
     refine OW_e0 (e_clear (size := 2) (b := b) (o := (i + m) * 2) (m := len - (i + m)) (Pre := A ++ vs) (Q0 := rest2) Try.underlying22 Try.zeroValue49 rfl rfl (fun _ => sl_at (by omega)) (by omega) (by omega) (by simp [Value.cells, Value.oneCell']) swt) (fun _ => ?_)
     refine nx4 ?_
     refine mO ?_
     refine aO ?_
     refine nx2 ?_
     refine CW_ret ?_
     refine EW_then_ret ?_
     refine ret1 Try.results35 rfl (fun w hw => ?_)
     have hn : len - (j - i) + m = i + m := by omega
     refine ⟨_, rfl, ?_⟩
     rw [hn, List.append_nil]
     exact Sat.sub (Sat.closeRow (size := 2) (cap := c34) (n := i + m) (hw) (by simp only [List.length_append, List.length_drop, List.length_nil, Array.length_toList, size_zeroCells, Value.cells, List.size_toArray, List.length_cons]; omega) (by omega) (by omega) (by omega)) sbt
   refine CW_skip ?_
   refine EW_then ?_
   refine nx3 ?_
   refine mO ?_
   refine aO ?_
   refine nx2 ?_
   refine CW_ret ?_
   refine EW_then_ret ?_
   refine ret1 Try.results35 rfl (fun w hw => ?_)
   have hn : len - (j - i) + m = i + m := by omega
   refine ⟨_, rfl, ?_⟩
   rw [hn, List.append_nil]
   exact hw
 have hjl : j < len := by simp at h29; omega
 refine CW_skip ?_
 refine EW_then ?_
 refine CW_seq ?_
 refine CW_drawS 13 [(0, false), (1, false), (2, false), (3, false), (4, false), (5, false), (6, false), (7, false), (8, false), (9, false), (10, false), (11, false), (12, false)] (by kernel_rfl) (Blind.then Blind.bodyP) (by kernel_rfl) (fun w hw => hw.drew) ?_
 refine mD ?_
 refine mD ?_
 refine DW_q rfl sft (q_slice Try.underlying22 Try.sizeOf49 rfl (.inl ⟨rfl, rfl⟩) (.inr ⟨_, rfl, rfl⟩) (by omega) (by omega) (by omega)) rfl ?_
 refine DW_q rfl sft (q_len Try.underlying22 rfl) rfl ?_
 refine mD ?_
 refine DW_q rfl sft (q_len Try.underlying22 rfl) rfl ?_
 refine DW_q rfl sft (q_inc rfl rfl (by omega)) rfl ?_
 refine mD ?_
 refine mD ?_
 refine DW_q rfl sft (q_slice Try.underlying22 Try.sizeOf49 rfl (.inr ⟨_, rfl, rfl⟩) (.inl ⟨rfl, rfl⟩) (by omega) (by omega) (by omega)) rfl ?_
 refine DW_q rfl sft (q_len Try.underlying22 rfl) rfl ?_
 refine DW_q rfl sft (q_inc rfl rfl (by omega)) rfl ?_
 refine DW_q rfl sft (q_assign rfl) rfl ?_
 refine DW_nil ?_
 refine EW_then ?_
 refine CW_seq ?_
 refine CW_seq ?_
 refine CW_spell 10 (.int .i64 (((i + m + (len - j)) : Nat) : Int)) rfl rfl ?_
 refine CW_region ?_
 refine mO ?_
 refine mO ?_
 refine OW_q (q_cap Try.underlying22 rfl) rfl ?_
 refine OW_q (q_gtr rfl rfl) rfl ?_
 refine nx2 ?_
 refine CW_cond rfl (fun h60 => ?_) (fun h60 => ?_)
 · skip
   have htc : cap < (i + m + (len - j)) := by have := of_decide_eq_true h60; omega
   refine nx3 ?_
   refine mO ?_
   refine mO ?_
   refine OW_q (q_slice Try.underlying22 Try.sizeOf49 rfl (.inl ⟨rfl, rfl⟩) (.inr ⟨_, rfl, rfl⟩) (by omega) (by omega) (by omega)) rfl ?_
   refine OW_spell 63 (.slice (some ⟨b, 0, none⟩) i cap) rfl sl_zero ?_
   refine mO ?_
   refine mO ?_
   refine OW_q (q_sub rfl rfl (by omega) (by omega)) rfl ?_
   refine OW_spell 66 (.int .i64 ((m + (len - j) : Nat) : Int)) rfl (congrArg (Value.int .i64) (by omega)) ?_
   refine OW_e (e_appendZ (size := 2) (b := b) (len := i) (cap := cap) (m := m + (len - j)) (xs := A) (rest := M ++ (B ++ rest)) Try.underlying22 Try.underlying3 Try.typeInfo49 rfl rfl rfl rfl rfl rfl rfl swt hA (by omega) (by omega) (by decide)) rfl (fun y67 => ?_)
   refine OW_pure fun hy => ?_
   obtain ⟨hy1, hy2, hy3⟩ := hy
   rw [List.length_append] at hy1
   refine aO ?_
   refine nx4 ?_
   refine mO ?_
   refine mO ?_
   refine OW_q (q_slice Try.underlying22 Try.sizeOf49 rfl (.inr ⟨_, rfl, rfl⟩) (.inl ⟨rfl, rfl⟩) (by omega) (by omega) (by omega)) rfl ?_
   refine mO ?_
   refine OW_e (e_copy (size := 2) (b := y67.1) (o := (i) * 2) (Pre := A) (Q0 := y67.2.2) (vs := vs) Try.underlying22 Try.typeInfo49 rfl rfl rfl rfl (fun _ => sl_at (by omega)) (by rw [hvs]; congr 1; omega) ((fun w hw => hw.vin (F := F) swt hvi)) (by omega) (by omega) h1v swt) rfl (fun _ => ?_)
   refine nx2 ?_
   refine CW_seq ?_
   refine CW_weak (S' := Sat R w0 [cel y67.1 49 ((A ++ vs) ++ y67.2.2.drop vs.length), cel b 49 (A ++ (M ++ (B ++ rest))), F]) (fun w hw => by rw [List.append_assoc]; exact hw) ?_
   refine CW_drawS 9 [(0, false), (1, false), (2, false), (3, false), (4, false), (5, false), (6, false), (7, false), (8, false), (9, true)] (by kernel_rfl) (Blind.then (Blind.then Blind.bodyP)) (by kernel_rfl) (fun w hw => hw.drew) ?_
   refine mD ?_
   refine mD ?_
   refine mD ?_
   refine DW_q rfl sft (q_len Try.underlying22 rfl) rfl ?_
   refine DW_q rfl sft (q_inc rfl rfl (by omega)) rfl ?_
   refine DW_q rfl sft (q_slice Try.underlying22 Try.sizeOf49 rfl (.inr ⟨_, rfl, rfl⟩) (.inl ⟨rfl, rfl⟩) (by omega) (by omega) (by omega)) rfl ?_
   refine mD ?_
   refine mD ?_
   refine DW_q rfl sft (q_slice Try.underlying22 Try.sizeOf49 rfl (.inr ⟨_, rfl, rfl⟩) (.inl ⟨rfl, rfl⟩) (by omega) (by omega) (by omega)) rfl ?_
   refine DW_z rfl (e_copy (size := 2) (b := y67.1) (o := (i + m) * 2) (Pre := A ++ vs) (Q0 := y67.2.2.drop vs.length) (vs := B) Try.underlying22 Try.typeInfo49 rfl rfl rfl rfl (fun _ => sl_at (by omega)) (by rw [hB]; congr 1; omega) (fun w hw k u hk => ⟨_, sl_at (by omega), by rw [Addr.add_lit, hw.cell (t := 49) (cs := A ++ (M ++ (B ++ rest))) (A' := cel b 49 (A ++ (M ++ (B ++ rest)))) swt]; exact cells_at (by omega) hk⟩) (by simp only [List.length_append]; omega) (by simp only [List.length_drop]; omega) h1B swt) rfl (fun _ => ?_)
   refine EW_then ?_
   refine nx3 ?_
   refine mO ?_
   refine aO ?_
   refine nx2 ?_
   refine CW_ret ?_
   refine EW_then_ret ?_
   refine ret1 Try.results35 rfl (fun w hw => ?_)
   have hn : len - (j - i) + m = (i + (m + (len - j))) := by omega
   refine ⟨_, rfl, ?_⟩
   rw [hn]
   exact Sat.sub (Sat.closeRow (size := 2) (cap := y67.2.1) (n := (i + (m + (len - j)))) ((by rw [← List.append_assoc] at hw; exact hw)) (by simp only [List.length_append, List.length_drop]; omega) (by omega) (by omega) (by simp only [List.length_append]; omega)) sbt
 have htc : (i + m + (len - j)) ≤ cap := by have := of_decide_eq_false h60; omega
 refine CW_skip ?_
 refine EW_then ?_
 refine nx3 ?_
 refine mO ?_
 refine mO ?_
 refine OW_q (q_slice Try.underlying22 Try.sizeOf49 rfl (.inl ⟨rfl, rfl⟩) (.inr ⟨_, rfl, rfl⟩) (by omega) (by omega) (by omega)) rfl ?_
 refine aO ?_
 refine nx2 ?_
 refine CW_seq ?_
 refine CW_seq ?_
 refine CW_spell 12 (.slice (some ⟨b, 0, none⟩) (i + m + (len - j)) cap) rfl sl_zero ?_
 refine CW_region ?_
 refine mO ?_
 refine mO ?_
 refine OW_q (q_len Try.underlying22 rfl) rfl ?_
 refine OW_q (q_inc rfl rfl (by omega)) rfl ?_
 refine mO ?_
 refine OW_q (q_leq rfl rfl) rfl ?_
 refine nx2 ?_
 refine CW_cond rfl (fun h92 => ?_) (fun h92 => ?_)
 · skip
   have him : i + m ≤ j := by have := of_decide_eq_true h92; omega
   refine nx3 ?_
   refine mO ?_
   refine mO ?_
   refine OW_q (q_slice Try.underlying22 Try.sizeOf49 rfl (.inr ⟨_, rfl, rfl⟩) (.inl ⟨rfl, rfl⟩) (by omega) (by omega) (by omega)) rfl ?_
   refine mO ?_
   refine OW_e (e_copy (size := 2) (b := b) (o := (i) * 2) (Pre := A) (Q0 := M ++ (B ++ rest)) (vs := vs) Try.underlying22 Try.typeInfo49 rfl rfl rfl rfl (fun _ => sl_at (by omega)) (by rw [hvs]; congr 1; omega) ((fun w hw => hw.vin (F := F) swt hvi)) (by omega) (by simp only [List.length_append]; omega) h1v swt) rfl (fun _ => ?_)
   refine nx2 ?_
   refine CW_seq ?_
   refine CW_weak (S' := Sat R w0 [cel b 49 ((A ++ vs) ++ (M.drop vs.length ++ (B ++ rest))), F]) (fun w hw => by
     rw [List.drop_append_of_le_length (by omega)] at hw
     rw [List.append_assoc]; exact hw) ?_
   refine CW_drawS 9 [(0, false), (1, false), (2, false), (3, false), (4, false), (5, false), (6, false), (7, false), (8, false), (9, true)] (by kernel_rfl) (Blind.then (Blind.then Blind.bodyP)) (by kernel_rfl) (fun w hw => hw.drew) ?_
   refine mD ?_
   refine mD ?_
   refine mD ?_
   refine DW_q rfl sft (q_len Try.underlying22 rfl) rfl ?_
   refine DW_q rfl sft (q_inc rfl rfl (by omega)) rfl ?_
   refine DW_q rfl sft (q_slice Try.underlying22 Try.sizeOf49 rfl (.inr ⟨_, rfl, rfl⟩) (.inl ⟨rfl, rfl⟩) (by omega) (by omega) (by omega)) rfl ?_
   refine mD ?_
   refine mD ?_
   refine DW_q rfl sft (q_slice Try.underlying22 Try.sizeOf49 rfl (.inr ⟨_, rfl, rfl⟩) (.inl ⟨rfl, rfl⟩) (by omega) (by omega) (by omega)) rfl ?_
   refine DW_z rfl (e_copy (size := 2) (b := b) (o := (i + m) * 2) (Pre := A ++ vs) (Q0 := M.drop vs.length ++ (B ++ rest)) (vs := B) Try.underlying22 Try.typeInfo49 rfl rfl rfl rfl (fun _ => sl_at (by omega)) (by rw [hB]; congr 1; omega) (fun w hw k u hk => ⟨_, sl_at (by omega), by rw [Addr.add_lit, hw.cell (t := 49) (cs := (A ++ vs) ++ (M.drop vs.length ++ (B ++ rest))) (A' := cel b 49 ((A ++ vs) ++ (M.drop vs.length ++ (B ++ rest)))) swt]; exact cells_at (by simp only [List.length_append, List.length_drop]; omega) hk⟩) (by simp only [List.length_append]; omega) (by simp only [List.length_append, List.length_drop]; omega) h1B swt) rfl (fun _ => ?_)
   refine EW_then ?_
   refine CW_seq ?_
   refine CW_weak (S' := Sat R w0 [cel b 49 (((A ++ vs) ++ B) ++ (M.drop vs.length ++ (B ++ rest)).drop B.length), F]) (fun w hw => by rw [List.append_assoc]; exact hw) ?_
   refine CW_region ?_
   refine mO ?_
   refine mO ?_
   refine OW_q (q_slice Try.underlying22 Try.sizeOf49 rfl (.inr ⟨_, rfl, rfl⟩) (.inl ⟨rfl, rfl⟩) (by omega) (by omega) (by omega)) rfl ?_
   refine OW_e0 (e_clear (size := 2) (b := b) (o := (i + m + (len - j)) * 2) (m := len - (i + m + (len - j))) (Pre := (A ++ vs) ++ B) (Q0 := (M.drop vs.length ++ (B ++ rest)).drop B.length) Try.underlying22 Try.zeroValue49 rfl rfl (fun hne => sl_at (by omega)) (by simp only [List.length_append]; omega) (by simp only [List.length_append, List.length_drop]; omega) (by simp [Value.cells, Value.oneCell']) swt) (fun _ => ?_)
   refine nx4 ?_
   refine mO ?_
   refine aO ?_
   refine nx2 ?_
   refine CW_ret ?_
   refine EW_then_ret ?_
   refine ret1 Try.results35 rfl (fun w hw => ?_)
   have hn : len - (j - i) + m = (i + m + (len - j)) := by omega
   refine ⟨_, rfl, ?_⟩
   rw [hn]
   exact Sat.sub (Sat.closeRow (size := 2) (cap := cap) (n := (i + m + (len - j))) (hw) (by simp only [List.length_append, List.length_drop, List.length_nil, Array.length_toList, size_zeroCells, Value.cells, List.size_toArray, List.length_cons]; omega) (by omega) (by omega) (by simp only [List.length_append]; omega)) sbt
 have him : j < i + m := by have := of_decide_eq_false h92; omega
 obtain ⟨u0, us, hvc⟩ : ∃ u us, vs = u :: us := by
   cases hv : vs with
   | nil => rw [hv] at hvs; simp at hvs; omega
   | cons u us => exact ⟨u, us, rfl⟩
 refine CW_skip ?_
 refine EW_then ?_
 refine CW_seq ?_
 refine nx3 ?_
 refine mO ?_
 refine mO ?_
 refine mO ?_
 refine OW_q (q_len Try.underlying22 rfl) rfl ?_
 refine OW_q (q_inc rfl rfl (by omega)) rfl ?_
 refine OW_q (q_slice Try.underlying22 Try.sizeOf49 rfl (.inr ⟨_, rfl, rfl⟩) (.inl ⟨rfl, rfl⟩) (by omega) (by omega) (by omega)) rfl ?_
 refine mO ?_
 refine OW_e (e_overlaps (tS := 22) (tR := 4) Try.func53 (by kernel_rfl) (by kernel_rfl) (by kernel_rfl) (by kernel_rfl) rfl rfl (fun w hw => by
   obtain ⟨a2, ha2, hne, T2, k2, hs2, hk2⟩ := hw.vapart hvi 0 u0 (by rw [hvc]; rfl)
   have hb := (hw.block (A' := emp0H) .head (fun x hx => by rw [hx]; exact one_same _ _)).1
   rw [ha2, sl_at (by omega)]
   exact Lib.run_overlaps_apart w 22 4 49 Try.underlying22 2 Try.sizeOf49 _ _ _ _ _ _ hne 49 T2 _ k2 (by simp only [World.shape?, hb]; rfl) hs2 hk2 (hw.unfrozen (A' := emp0H) .head _) (hw.unfrozen (A' := emp0H) .head _))) rfl (fun _ => ?_)
 refine OW_q (q_not rfl) rfl ?_
 refine nx2 ?_
 refine CW_true rfl (rfl) ?_
 refine CW_seq ?_
 refine CW_weak (S' := Sat R w0 [cel b 49 ((A ++ (M ++ (B ++ rest)).take vs.length) ++ (M ++ (B ++ rest)).drop vs.length), F]) (fun w hw => by rw [List.append_assoc, List.take_append_drop]; exact hw) ?_
 refine CW_drawS 9 [(0, false), (1, false), (2, false), (3, false), (4, false), (5, false), (6, false), (7, false), (8, false), (9, true)] (by kernel_rfl) (Blind.then (Blind.then Blind.bodyP)) (by kernel_rfl) (fun w hw => hw.drew) ?_
 refine mD ?_
 refine mD ?_
 refine mD ?_
 refine DW_q rfl sft (q_len Try.underlying22 rfl) rfl ?_
 refine DW_q rfl sft (q_inc rfl rfl (by omega)) rfl ?_
 refine DW_q rfl sft (q_slice Try.underlying22 Try.sizeOf49 rfl (.inr ⟨_, rfl, rfl⟩) (.inl ⟨rfl, rfl⟩) (by omega) (by omega) (by omega)) rfl ?_
 refine mD ?_
 refine mD ?_
 refine DW_q rfl sft (q_slice Try.underlying22 Try.sizeOf49 rfl (.inr ⟨_, rfl, rfl⟩) (.inl ⟨rfl, rfl⟩) (by omega) (by omega) (by omega)) rfl ?_
 refine DW_z rfl (e_copy (size := 2) (b := b) (o := (i + m) * 2) (Pre := A ++ (M ++ (B ++ rest)).take vs.length) (Q0 := (M ++ (B ++ rest)).drop vs.length) (vs := B) Try.underlying22 Try.typeInfo49 rfl rfl rfl rfl (fun _ => sl_at (by omega)) (by rw [hB]; congr 1; omega) (fun w hw k u hk => ⟨_, sl_at (by omega), by rw [Addr.add_lit, hw.cell (t := 49) (cs := (A ++ (M ++ (B ++ rest)).take vs.length) ++ (M ++ (B ++ rest)).drop vs.length) (A' := cel b 49 ((A ++ (M ++ (B ++ rest)).take vs.length) ++ (M ++ (B ++ rest)).drop vs.length)) swt]; rw [List.append_assoc, List.take_append_drop]; exact cells_at (by omega) hk⟩) (by simp only [List.length_append, List.length_take]; omega) (by simp only [List.length_append, List.length_drop]; omega) h1B swt) rfl (fun _ => ?_)
 refine EW_then ?_
 refine CW_seq ?_
 refine CW_weak (S' := Sat R w0 [cel b 49 (A ++ ((M ++ (B ++ rest)).take vs.length ++ (B ++ ((M ++ (B ++ rest)).drop vs.length).drop B.length))), F]) (fun w hw => by rw [← List.append_assoc]; exact hw) ?_
 refine CW_region ?_
 refine mO ?_
 refine mO ?_
 refine OW_q (q_slice Try.underlying22 Try.sizeOf49 rfl (.inr ⟨_, rfl, rfl⟩) (.inl ⟨rfl, rfl⟩) (by omega) (by omega) (by omega)) rfl ?_
 refine mO ?_
 refine OW_e (e_copy (size := 2) (b := b) (o := (i) * 2) (Pre := A) (Q0 := (M ++ (B ++ rest)).take vs.length ++ (B ++ ((M ++ (B ++ rest)).drop vs.length).drop B.length)) (vs := vs) Try.underlying22 Try.typeInfo49 rfl rfl rfl rfl (fun _ => sl_at (by omega)) (by rw [hvs]; congr 1; omega) ((fun w hw => hw.vin (F := F) swt hvi)) (by omega) (by simp only [List.length_append, List.length_drop, List.length_take]; omega) h1v swt) rfl (fun _ => ?_)
 refine nx4 ?_
 refine mO ?_
 refine aO ?_
 refine nx2 ?_
 refine CW_ret ?_
 refine EW_then_ret ?_
 refine ret1 Try.results35 rfl (fun w hw => ?_)
 have hX : ((M ++ (B ++ rest)).take vs.length).length = vs.length := by rw [List.length_take, List.length_append, List.length_append]; omega
 rw [List.drop_append_of_le_length (Nat.le_of_eq hX.symm), List.drop_eq_nil_of_le (Nat.le_of_eq hX), List.nil_append, ← List.append_assoc, ← List.append_assoc] at hw
 have hn : len - (j - i) + m = (i + m + (len - j)) := by omega
 refine ⟨_, rfl, ?_⟩
 rw [hn]
 exact Sat.sub (Sat.closeRow (size := 2) (cap := cap) (n := (i + m + (len - j))) (hw) (by simp only [List.length_append, List.length_drop]; omega) (by omega) (by omega) (by simp only [List.length_append]; omega)) sbt

set_option maxRecDepth 20000 in
theorem cloneS_any (sa : Option Addr) (vs : List Value) (m vc : Nat) (R : Nat → Prop) (w0 w : World) (F : HP) (hm : m ≤ 1000) (hvs : vs.length = m * 2) (hvi : VIn R w0 F sa vs) (h1v : ∀ u ∈ vs, u.oneCell' = true) (hw : Sat R w0 [F] w) : Calls Try.prog 33 #[.slice sa m vc] w (fun e w' => ∃ v' : Value, e = .returned v' ∧ Sat R w0 ([row 51 2 v' m vs] ++ [F]) w') := by
 refine calls_CW (S := Sat R w0 [F]) Try.func33 rfl Try.ntmps33 rfl (hw) ?_
 refine nx3 ?_
 refine aO ?_
 refine nx2 ?_
 refine CW_seq ?_
 refine nx3 ?_
 refine mO ?_
 refine OW_q (q_eqNilSlice Try.underlying46 rfl rfl) rfl ?_
 refine nx2 ?_
 refine CW_cond rfl (fun h4 => ?_) (fun h4 => ?_)
 · skip
   have hv0 : vs = [] := by
     cases sa with
     | some a => cases h4
     | none =>
       cases hv : vs with
       | nil => rfl
       | cons u us =>
         obtain ⟨y, hy, hz⟩ := hw.own
         obtain ⟨g1, g2, hd, rfl, hA, _⟩ := hy
         obtain ⟨a, ha, _⟩ := hvi g1 hA w (fun b hb => (hw.ro b hb).2) (fun b o hb => (hz b o (by simp [uni, hb])).2) 0 u (by rw [hv]; rfl)
         cases ha
   subst hv0
   have hm0 : m = 0 := by simp at hvs; omega
   subst hm0
   refine nx3 ?_
   refine aO ?_
   refine nx2 ?_
   refine CW_ret ?_
   refine EW_then_ret ?_
   refine ret1 Try.results33 rfl (fun w hw => ?_)
   exact ⟨_, rfl, hw.rowNil 51 2⟩
 refine CW_skip ?_
 refine EW_then ?_
 refine nx3 ?_
 refine OW_e (e_none Try.underlying46 Try.sizeOf51 Try.zeroValue51) rfl (fun b5 => ?_)
 refine mO ?_
 refine OW_e (e_appendV (size := 2) (b := b5) (len := 0) (cap := 0) (xs := []) (rest := []) (news := vs) (sa := sa) Try.underlying46 Try.typeInfo51 rfl rfl rfl rfl rfl rfl rfl pkt hvs rfl rfl (Nat.le_refl _) (Nat.zero_le _) (fun w hw => hw.vin (F := F) swt hvi) h1v (by omega) (by decide)) rfl (fun v7 => ?_)
 refine OW_pure fun _ => ?_
 refine aO ?_
 refine nx2 ?_
 refine CW_ret ?_
 refine ret1 Try.results33 rfl (fun w hw => ?_)
 rw [List.nil_append, Nat.zero_add] at hw
 exact ⟨v7, rfl, hw⟩

end Go.Sy
/- Of use, in plain terms: what makes, what comes: least closed sets. No condition. -/
namespace Go.Sy
open Go

def atB (is : List Bool) (n : Int) : Bool := is.getD n.toNat false
def allB (is : List Bool) (l : List Sym) : Bool := l.all (fun s => s.term || atB is s.n)
def ClosedM (g : Gram) (is : List Bool) : Prop := ∀ r ∈ g.rules, allB is r.right = true → atB is r.left = true
def LeastM (g : Gram) (is : List Bool) : Prop := ∀ p : Int → Prop, (∀ r ∈ g.rules, (∀ s ∈ r.right, s.term = false → p s.n) → p r.left) → ∀ n : Nat, is[n]? = some true → p n
def ClosedC (g : Gram) (m is : List Bool) : Prop := ∀ r ∈ g.rules, atB is r.left = true → allB m r.right = true → ∀ s ∈ r.right, s.term = false → atB is s.n = true
def LeastC (g : Gram) (m is : List Bool) : Prop := ∀ p : Int → Prop, (atB m 0 = true → p 0) → (∀ r ∈ g.rules, p r.left → allB m r.right = true → ∀ s ∈ r.right, s.term = false → p s.n) → ∀ n : Nat, is[n]? = some true → p n

theorem atB_get {is : List Bool} {n : Int} (h0 : 0 ≤ n) (h1 : n < is.length) : is[n.toNat]? = some (atB is n) := by
  unfold atB
  have : n.toNat < is.length := by omega
  rw [List.getD_eq_getElem?_getD, List.getElem?_eq_getElem this]; rfl
theorem atB_nat {is : List Bool} {m : Nat} {v : Bool} (h : is[m]? = some v) : atB is (m : Int) = v := by
  unfold atB; rw [List.getD_eq_getElem?_getD, Int.toNat_natCast, h]; rfl
theorem atB_true {is : List Bool} {n : Int} (h : atB is n = true) : is[n.toNat]? = some true := by
  unfold atB at h
  rw [List.getD_eq_getElem?_getD] at h
  cases hx : is[n.toNat]? with
  | none => rw [hx] at h; cases h
  | some b => rw [hx] at h; simp at h; rw [h]
theorem atB_set {is : List Bool} {n : Int} (k : Nat) (h : atB is n = true) : atB (is.set k true) n = true := by
  have h1 := atB_true h
  unfold atB
  rw [List.getD_eq_getElem?_getD, List.getElem?_set]
  split
  · split
    · rfl
    · rename_i e _ ; rw [e] at *; rename_i h2; exact absurd (List.getElem?_eq_some_iff.1 h1).1 h2
  · rw [h1]; rfl
theorem allB_iff {is : List Bool} {l : List Sym} : allB is l = true ↔ ∀ s ∈ l, s.term = false → atB is s.n = true := by
  unfold allB
  rw [List.all_eq_true]
  constructor
  · intro h s hs ht; have := h s hs; rw [ht] at this; simpa using this
  · intro h s hs
    cases ht : s.term with
    | true => rfl
    | false => simpa using h s hs ht

/-- How many are not so. -/
def fls : List Bool → Nat
  | [] => 0
  | b :: l => (if b = true then 0 else 1) + fls l
theorem fls_set : ∀ {is : List Bool} {m : Nat}, is[m]? = some false → fls (is.set m true) < fls is
  | [], m, h => by cases h
  | b :: l, 0, h => by
    simp only [List.getElem?_cons_zero, Option.some.injEq] at h
    subst h
    simp [fls]
  | b :: l, m + 1, h => by
    have := fls_set (is := l) (m := m) (by simpa using h)
    simp only [List.set_cons_succ, fls]
    omega

theorem leastM_new (g : Gram) (m : Nat) : LeastM g (List.replicate m false) := by
  intro p _ n hn
  have := (List.mem_replicate.1 (List.mem_of_getElem? hn)).2
  cases this
theorem leastM_set {g : Gram} {is : List Bool} (h : LeastM g is) {r : Rule} (hr : r ∈ g.rules) (h0 : 0 ≤ r.left) (hb : ∀ s ∈ r.right, s.term = false → 0 ≤ s.n) (ha : allB is r.right = true) : LeastM g (is.set r.left.toNat true) := by
  intro p hp n hn
  by_cases e : r.left.toNat = n
  · have : (n : Int) = r.left := by omega
    rw [this]
    refine hp r hr fun s hs ht => ?_
    have h2 := h p hp s.n.toNat (atB_true (allB_iff.1 ha s hs ht))
    rwa [Int.toNat_of_nonneg (hb s hs ht)] at h2
  · rw [List.getElem?_set_ne e] at hn
    exact h p hp n hn
theorem leastC_set {g : Gram} {m is : List Bool} (h : LeastC g m is) {r : Rule} {s : Sym} (hr : r ∈ g.rules) (hs : s ∈ r.right) (ht : s.term = false) (h0 : 0 ≤ r.left) (h1 : 0 ≤ s.n) (hl : atB is r.left = true) (ha : allB m r.right = true) : LeastC g m (is.set s.n.toNat true) := by
  intro p hp0 hp n hn
  by_cases e : s.n.toNat = n
  · have : (n : Int) = s.n := by omega
    rw [this]
    refine hp r hr ?_ ha s hs ht
    have h2 := h p hp0 hp r.left.toNat (atB_true hl)
    rwa [Int.toNat_of_nonneg h0] at h2
  · rw [List.getElem?_set_ne e] at hn
    exact h p hp0 hp n hn
theorem leastC_new (g : Gram) (m : List Bool) (k : Nat) : LeastC g m ((List.replicate k false).set 0 (atB m 0)) := by
  intro p hp0 _ n hn
  by_cases e : 0 = n
  · subst e
    rw [List.getElem?_set] at hn
    simp only [if_true, List.length_replicate] at hn
    split at hn
    · simp only [Option.some.injEq] at hn; exact hp0 hn
    · cases hn
  · rw [List.getElem?_set_ne e] at hn
    have := (List.mem_replicate.1 (List.mem_of_getElem? hn)).2
    cases this

theorem le_makes {g : Gram} {a b : List Bool} (ha : LeastM g a) (hb : ClosedM g b) {n : Nat} (h : a[n]? = some true) : atB b n = true :=
  ha (fun n => atB b n = true) (fun r hr h => hb r hr (allB_iff.2 h)) n h
/-- Two least closed sets are one. -/
theorem bools_ext {a b : List Bool} {m : Nat} (ha : a.length = m) (hb : b.length = m) (h1 : ∀ n : Nat, a[n]? = some true → atB b n = true) (h2 : ∀ n : Nat, b[n]? = some true → atB a n = true) : a = b := by
  apply List.ext_getElem (by omega)
  intro n hn1 hn2
  have e1 : a[n]? = some a[n] := List.getElem?_eq_getElem hn1
  have e2 : b[n]? = some b[n] := List.getElem?_eq_getElem hn2
  cases hx : a[n] with
  | true => rw [hx] at e1; have := h1 n e1; rw [atB_nat e2] at this; rw [this]
  | false =>
    cases hy : b[n] with
    | false => rfl
    | true => rw [hy] at e2; have := h2 n e2; rw [atB_nat e1, hx] at this; cases this
theorem makes_unique {g : Gram} {a b : List Bool} {m : Nat} (hl : a.length = m) (hl' : b.length = m) (ha : LeastM g a) (ha' : ClosedM g a) (hb : LeastM g b) (hb' : ClosedM g b) : a = b :=
  bools_ext hl hl' (fun _ h => le_makes ha hb' h) (fun _ h => le_makes hb ha' h)
theorem comes_unique {g : Gram} {k a b : List Bool} {m : Nat} (hl : a.length = m) (hl' : b.length = m) (ha : LeastC g k a) (ha' : ClosedC g k a) (ha0 : atB k 0 = true → atB a 0 = true) (hb : LeastC g k b) (hb' : ClosedC g k b) (hb0 : atB k 0 = true → atB b 0 = true) : a = b :=
  bools_ext hl hl' (fun n h => ha (fun n => atB b n = true) hb0 (fun r hr => hb' r hr) n h) (fun n h => hb (fun n => atB a n = true) ha0 (fun r hr => ha' r hr) n h)

end Go.Sy
/- What a grammar has, in plain terms: parts that symbols yield, and charts of what is so far read. No condition. -/
namespace Go.Sy
open Go

/-- A rule that is so far read, begun at some token. -/
structure Itt where
  rule : Nat
  dot : Nat
  frm : Nat
  deriving DecidableEq

inductive Yl (g : Gram) (tk : List Int) : List Sym → Nat → Nat → Prop
  | nil {i : Nat} : Yl g tk [] i i
  | term {s : Sym} {l : List Sym} {i j : Nat} : s.term = true → tk[i]? = some s.n → Yl g tk l (i + 1) j → Yl g tk (s :: l) i j
  | name {s : Sym} {l : List Sym} {i j k : Nat} {q : Rule} : s.term = false → q ∈ g.rules → q.left = s.n → Yl g tk q.right i k → Yl g tk l k j → Yl g tk (s :: l) i j

def rowAt (R : List (List Itt)) (i : Nat) : List Itt := R.getD i []
def ItOk (g : Gram) (tk : List Int) (x : Itt) (at_ : Nat) : Prop := ∃ q, g.rules[x.rule]? = some q ∧ x.dot ≤ q.right.length ∧ x.frm ≤ at_ ∧ Yl g tk (q.right.take x.dot) x.frm at_
def RowsOk (g : Gram) (tk : List Int) (R : List (List Itt)) : Prop := ∀ i x, x ∈ rowAt R i → ItOk g tk x i
def ClI (g : Gram) (tk : List Int) (R : List (List Itt)) (i : Nat) (x : Itt) : Prop := ∀ q, g.rules[x.rule]? = some q →
  (q.right[x.dot]? = none → ∀ y ∈ rowAt R x.frm, ∀ q2 s, g.rules[y.rule]? = some q2 → q2.right[y.dot]? = some s → s.term = false → s.n = q.left → (⟨y.rule, y.dot + 1, y.frm⟩ : Itt) ∈ rowAt R i) ∧
  ∀ s, q.right[x.dot]? = some s → (s.term = false → ∀ k q2, g.rules[k]? = some q2 → q2.left = s.n → (⟨k, 0, i⟩ : Itt) ∈ rowAt R i) ∧ (s.term = true → tk[i]? = some s.n → (⟨x.rule, x.dot + 1, x.frm⟩ : Itt) ∈ rowAt R (i + 1))
def Clo (g : Gram) (tk : List Int) (R : List (List Itt)) (i : Nat) : Prop := ∀ x ∈ rowAt R i, ClI g tk R i x

theorem take_next {α : Type} {l : List α} {k : Nat} {x : α} (h : l[k]? = some x) : l.take (k + 1) = l.take k ++ [x] := by rw [List.take_add_one, h]; rfl
def codeI (x : Itt) : Nat := (x.rule * 9 + x.dot) * 31 + x.frm
end Go.Sy
/- Steps that change a grammar, in plain terms. No condition. -/
namespace Go.Sy
open Go

structure SStep where
  op : Int
  a : Int
  b : Int
  c : Int
  deriving DecidableEq
def inR (n lo hi : Int) : Bool := decide (lo ≤ n) && decide (n < hi)
theorem inR_true {n lo hi : Int} : inR n lo hi = true ↔ lo ≤ n ∧ n < hi := by simp [inR]
def nameS (n : Int) : Sym := ⟨false, n⟩
def loopsB (r : Rule) : Bool := match r.right with
  | [] => false
  | s :: _ => decide (s = nameS r.left)
def ofL (rs : List Rule) (n : Int) : List Nat := (List.range rs.length).filter (fun k => decide ((rs[k]?.map (·.left)) = some n))
def ruleAt (g : Gram) (n : Int) : Rule := g.rules.getD n.toNat ⟨0, []⟩
def leftB (g : Gram) (a : Int) : Bool := g.rules.any (fun r => decide (r.left = a) && loopsB r) && g.rules.all (fun r => !(decide (r.left = a) && loopsB r && decide (r.right.length = 1)))
def inlB (g : Gram) (s : SStep) : Bool := match (ruleAt g s.a).right[s.b.toNat]? with
  | none => false
  | some x => !x.term && decide (x.n ≠ (ruleAt g s.a).left)
def mayS (g : Gram) (s : SStep) : Bool :=
  if s.op = 1 then inR s.a 1 g.names && inR s.b 1 g.names && decide (s.c = 0)
  else if s.op = 2 then inR s.a 0 g.rules.length && inR s.b 0 s.c && decide (s.c ≤ (ruleAt g s.a).right.length)
  else if s.op = 3 then inR s.a 0 g.rules.length && decide (s.c = 0) && inR s.b 0 (ruleAt g s.a).right.length && inlB g s
  else if s.op = 4 then leftB g s.a && decide (s.b = 0) && decide (s.c = 0)
  else if s.op = 5 then decide (s.a = 0) && decide (s.b = 0) && decide (s.c = 0)
  else false
def swapN (a b n : Int) : Int := if n = a then b else if n = b then a else n
def swapY (a b : Int) (s : Sym) : Sym := if s.term = true then s else ⟨false, swapN a b s.n⟩
def swapR (a b : Int) (r : Rule) : Rule := ⟨swapN a b r.left, r.right.map (swapY a b)⟩
def extR (r : Rule) (b c : Nat) (f : Sym) : Rule := ⟨r.left, r.right.take b ++ f :: r.right.drop c⟩
def inlR (r : Rule) (b : Nat) (q : Rule) : Rule := ⟨r.left, r.right.take b ++ q.right ++ r.right.drop (b + 1)⟩
def inlL (g : Gram) (s : SStep) : List Rule := (g.rules.filter (fun q => decide (some q.left = (ruleAt g s.a).right[s.b.toNat]?.map (·.n)))).map (inlR (ruleAt g s.a) s.b.toNat)
def leftR (g : Gram) (a : Int) (r : Rule) : Rule := if r.left = a then (if loopsB r = true then ⟨g.names, r.right.tail ++ [nameS g.names]⟩ else ⟨r.left, r.right ++ [nameS g.names]⟩) else r
def keptB (ms cs : List Bool) (r : Rule) : Bool := atB ms r.left && atB cs r.left && allB ms r.right
/-- What a step makes of a grammar. -/
def stepG (g : Gram) (s : SStep) (ms cs : List Bool) : Gram :=
  if s.op = 1 then ⟨g.terms, g.names, g.rules.map (swapR s.a s.b)⟩
  else if s.op = 2 then ⟨g.terms, g.names + 1, g.rules.set s.a.toNat (extR (ruleAt g s.a) s.b.toNat s.c.toNat (nameS g.names)) ++ [⟨g.names, ((ruleAt g s.a).right.drop s.b.toNat).take (s.c.toNat - s.b.toNat)⟩]⟩
  else if s.op = 3 then ⟨g.terms, g.names, g.rules.take s.a.toNat ++ inlL g s ++ g.rules.drop (s.a.toNat + 1)⟩
  else if s.op = 4 then ⟨g.terms, g.names + 1, g.rules.map (leftR g s.a) ++ [⟨g.names, []⟩]⟩
  else ⟨g.terms, g.names, g.rules.filter (keptB ms cs)⟩

def ofLk (rs : List Rule) (n : Int) (k : Nat) : List Nat := (List.range k).filter (fun k => decide ((rs[k]?.map (·.left)) = some n))
theorem ofLk_yes {rs : List Rule} {n : Int} {k : Nat} {r : Rule} (h : rs[k]? = some r) (hn : r.left = n) : ofLk rs n (k + 1) = ofLk rs n k ++ [k] := by
  unfold ofLk
  rw [List.range_succ, List.filter_append, List.filter_cons_of_pos (by rw [h]; simp [hn])]
  rfl
theorem ofLk_no {rs : List Rule} {n : Int} {k : Nat} {r : Rule} (h : rs[k]? = some r) (hn : r.left ≠ n) : ofLk rs n (k + 1) = ofLk rs n k := by
  unfold ofLk
  rw [List.range_succ, List.filter_append, List.filter_cons_of_neg (by rw [h]; simp [hn])]
  simp
theorem ofLk_len (rs : List Rule) (n : Int) (k : Nat) : (ofLk rs n k).length ≤ k := by
  have := List.length_filter_le (fun k => decide ((rs[k]?.map (·.left)) = some n)) (List.range k)
  rw [List.length_range] at this
  exact this
theorem ofL_mem {rs : List Rule} {n : Int} {k : Nat} (h : k ∈ ofL rs n) : ∃ r, rs[k]? = some r ∧ r.left = n := by
  unfold ofL at h
  obtain ⟨h1, h2⟩ := List.mem_filter.1 h
  have hk : k < rs.length := List.mem_range.1 h1
  rw [List.getElem?_eq_getElem hk] at h2
  exact ⟨rs[k], List.getElem?_eq_getElem hk, by simpa using h2⟩
theorem ofL_get {rs : List Rule} {n : Int} {k : Nat} {r : Rule} (h : rs[k]? = some r) (hn : r.left = n) : k ∈ ofL rs n := by
  unfold ofL
  exact List.mem_filter.2 ⟨List.mem_range.2 (List.getElem?_eq_some_iff.1 h).1, by rw [h]; simp [hn]⟩
theorem ruleAt_get {g : Gram} {n : Int} {r : Rule} (h : g.rules[n.toNat]? = some r) : ruleAt g n = r := by
  unfold ruleAt
  rw [List.getD_eq_getElem?_getD, h]; rfl
end Go.Sy
/- A grammar of a function's own: its rules, and of each its symbols. No condition. -/
namespace Go.Sy
open Go Go.RowKit

/-- A rule, and the slice of its symbols. -/
structure RV where
  r : Rule
  v : Value
abbrev encRV : RV → List Value := fun x => [.int .i64 x.r.left, x.v]
abbrev encY : Sym → List Value := fun s => [.bool s.term, .int .i64 s.n]
def symA (x : RV) : HP := trow 51 2 encY x.v x.r.right
def symsA (rs : List RV) : HP := stars (rs.map symA)
def rulesA (v : Value) (rs : List RV) : HP := trow 49 2 encRV v rs
def plainR (rs : List RV) : List Rule := rs.map (·.r)
section
variable {R : Nat → Prop} {w0 w : World} {L L' L2 : List HP}
theorem Sat.alone {A : HP} (h : Sat R w0 L w) (s : Swap L A A L') : Sat R w0 [A] w := by
  obtain ⟨y, hy, hz⟩ := h.own
  obtain ⟨g1, g2, hd, rfl, hA, _⟩ := s.focus y hy
  exact ⟨h.os, h.tape, h.output, h.size, h.ro, g1, ⟨g1, emp0, dis_emp g1, (uni_emp g1).symm, hA, rfl⟩, fun b o hb => hz b o (by simp [uni, hb])⟩
theorem Sat.symsIn {v : Value} {l : List Sym} (h : Sat R w0 L w) (s : Swap L (trow 51 2 encY v l) (trow 51 2 encY v l) L') : SymsAt (Cl w) v l := by
  obtain ⟨a, c, rfl, h1, h2, h3⟩ := h.tform s
  refine ⟨a, c, rfl, h1, h2, fun k x hx => ?_⟩
  obtain ⟨b, rfl⟩ := h3 (by have := (List.getElem?_eq_some_iff.1 hx).1; omega)
  exact ⟨_, rfl, fun j u hj => h.tget (enc := encY) (fun _ => rfl) s rfl hx j u hj⟩
theorem Hole.sym {rs : List RV} {k : Nat} {x : RV} (hk : rs[k]? = some x) : Hole (symsA rs :: L) (symA x) (fun X => stars ((rs.map symA).set k X) :: L) :=
  Hole.big (Hole.idx (by rw [List.getElem?_map, hk]; rfl))
theorem symsA_set {rs : List RV} {k : Nat} (y : RV) : stars ((rs.map symA).set k (symA y)) = symsA (rs.set k y) := by unfold symsA; rw [List.map_set]
theorem Sat.rulesIn {v : Value} {rs : List RV} (h : Sat R w0 L w) (s : Swap L (rulesA v rs) (rulesA v rs) L') (s2 : Swap L (symsA rs) (symsA rs) L2) : RulesAt (Cl w) v (plainR rs) := by
  obtain ⟨a, c, rfl, h1, h2, h3⟩ := h.tform s
  refine ⟨a, c, by unfold plainR; rw [List.length_map], by unfold plainR; rw [List.length_map]; exact h1, h2, fun k x hx => ?_⟩
  unfold plainR at hx
  rw [List.getElem?_map] at hx
  obtain ⟨y, hy, rfl⟩ := Option.map_eq_some_iff.1 hx
  obtain ⟨b, rfl⟩ := h3 (by have := (List.getElem?_eq_some_iff.1 hy).1; omega)
  refine ⟨_, rfl, y.v, ?_, fun j u hj => h.tget (enc := encRV) (fun _ => rfl) s rfl hy j u hj⟩
  exact (h.alone s2).symsIn ((Hole.sym (L := []) hy).swap _)
theorem Sat.gramIn {t n : Int} {v : Value} {rs : List RV} (h : Sat R w0 L w) (s : Swap L (rulesA v rs) (rulesA v rs) L') (s2 : Swap L (symsA rs) (symsA rs) L2) : GramAt (Cl w) (.agg #[.int .i64 t, .int .i64 n, v]) ⟨t, n, plainR rs⟩ := ⟨v, rfl, h.rulesIn s s2⟩
theorem Sat.symsPush {rs : List RV} {x : RV} (h : Sat R w0 (symsA rs :: symA x :: L) w) : Sat R w0 (symsA (rs ++ [x]) :: L) w := h.imp_ fun y hy => by
  obtain ⟨h1, h2, hd, rfl, hA, hB⟩ := hy
  unfold symsA
  rw [List.map_append]
  have : stars ((rs.map symA ++ [symA x]) ++ L) (uni h1 h2) := by
    rw [List.append_assoc]
    exact (stars_append (rs.map symA) ([symA x] ++ L) _).2 ⟨h1, h2, hd, rfl, hA, hB⟩
  exact (stars_append (rs.map symA ++ [symA x]) L _).1 this
/-- Symbols that can be read, as cells. -/
theorem VIn.syms {F : HP} {a : Option Addr} {c : Nat} {l : List Sym} (h : SymsAt (Rd R w0) (.slice a l.length c) l) : VIn R w0 F a (l.flatMap encY) := by
  obtain ⟨a', c', hv, _, _, hk⟩ := h
  injection hv with e1 _ _
  subst e1
  cases l with
  | nil => exact VIn.nil
  | cons s0 l =>
    obtain ⟨p, rfl, _⟩ := hk 0 s0 rfl
    refine VIn.ro fun j u hj => ?_
    have hj2 : j < ((s0 :: l).flatMap encY).length := (List.getElem?_eq_some_iff.1 hj).1
    rw [flat_length (enc := encY) (size := 2) (fun _ => rfl)] at hj2
    obtain ⟨x, hx⟩ := get_of_lt (l := s0 :: l) (k := j / 2) (by omega)
    obtain ⟨p', hp, hr⟩ := hk (j / 2) x hx
    cases hp
    have hf := flat_get (enc := encY) (size := 2) (fun _ => rfl) hx (Nat.mod_lt j (by omega : 0 < 2))
    rw [Nat.div_add_mod' j 2] at hf
    rw [hf] at hj
    have := hr (j % 2) u hj
    rw [add_twice, Nat.div_add_mod' j 2] at this
    exact this
end
end Go.Sy
/- Package step: the small ones. No condition. -/
namespace Go.Sy
open Go Go.RowKit Go.Proofs

theorem sym_eq (s y : Sym) (w : World) : (Op.equalIn 10000 51 (.agg (encY s).toArray) (.agg (encY y).toArray)).run Try.prog w = .ok (decide (s = y)) w := by
 have h1 : Try.prog.underlying 51 = some (.struct (Try.prog.fieldsOf 51)) := by kernel_rfl
 have h2 : Try.prog.stoodInHeld 51 = false := by kernel_rfl
 have h3 : (Try.prog.fieldsOf 51).toList = [⟨"Term", 4, 0, false, "", "", 0⟩, ⟨"N", 3, 1, false, "", "", 8⟩] := by kernel_rfl
 rw [run_equalIn_agg w 9999 51 _ _ h1 h2, h3]
 obtain ⟨t, n⟩ := s
 obtain ⟨t', n'⟩ := y
 by_cases e1 : t = t' <;> by_cases e2 : n = n' <;> simp [Op.eqFields, go_sem, Try.sizeOf3, Try.underlying3, Try.sizeOf4, Try.underlying4, e1, e2]
set_option maxRecDepth 20000 in
theorem inS_any (n lo hi : Int) (w : World) : Calls Try.prog 27 #[.int .i64 n, .int .i64 lo, .int .i64 hi] w (fun e w' => e = .returned (.bool (inR n lo hi)) ∧ w' = w) := by
 refine calls_CW (S := (fun w' => w' = w)) Try.func27 rfl Try.ntmps27 rfl (rfl) ?_
 refine nx3 ?_
 refine aO ?_
 refine nx4 ?_
 refine mO ?_
 refine mO ?_
 refine OW_q (q_geq rfl rfl) rfl ?_
 refine mO ?_
 refine OW_part (t := 10) rfl (fun hg10 => ?_) (fun hg10 => ?_)
 · skip
   refine wO ?_
   refine mO ?_
   refine wO ?_
   refine mO ?_
   refine wO ?_
   refine OW_q (q_lss rfl rfl) rfl ?_
   refine OW_q (q_pick_t rfl rfl) rfl ?_
   refine aO ?_
   refine nx2 ?_
   refine CW_ret ?_
   refine ret1 Try.results27 rfl (fun w hw => ?_)
   exact ⟨by first | (simp_all [inR]; done) | (simp_all [inR]; omega), hw⟩
 refine kO ?_
 refine kO ?_
 refine kO ?_
 refine OW_q (q_pick_f rfl rfl) rfl ?_
 refine aO ?_
 refine nx2 ?_
 refine CW_ret ?_
 refine ret1 Try.results27 rfl (fun w hw => ?_)
 exact ⟨by first | (simp_all [inR]; done) | (simp_all [inR]; omega), hw⟩

set_option maxRecDepth 20000 in
theorem name_any (n : Int) (w : World) : Calls Try.prog 31 #[.int .i64 n] w (fun e w' => e = .returned (.agg (encY (nameS n)).toArray) ∧ Sat (Old w) w [] w') := by
 refine calls_CW Try.func31 rfl Try.ntmps31 rfl (Sat.start w) ?_
 refine nx3 ?_
 refine OW_e (e_alloc Try.zeroValue51 rfl) rfl (fun b2 => ?_)
 refine nx4 ?_
 refine mO ?_
 refine OW_q (q_build (ps := #[(1, .int .i64 n)]) (v := .agg #[.bool false, .int .i64 n]) rfl (fun w => by kernel_rfl)) rfl ?_
 refine OW_e0 (e_storeN Try.sizeOf51 rfl rfl rfl rfl (by simp [Value.oneCell']) swt (by rfl)) (fun _ => ?_)
 refine nx2 ?_
 refine CW_ret ?_
 refine retc1a (vs := [.bool false, .int .i64 n]) Try.results31 Try.isAgg51 Try.sizeOf51 rfl rfl (fun w hw j u hj => by rw [Addr.add_lit, hw.cell (cs := [.bool false, .int .i64 n]) (A' := cel 0 0 []) .head, Nat.zero_add]; exact hj) (fun w hw => ?_)
 exact ⟨rfl, hw.sub .nil⟩

set_option maxRecDepth 20000 in
theorem ofS_any (gv : Value) (g : Gram) (n : Int) (w : World) (hl : g.rules.length ≤ 1000) (hg : GramAt (Cl w) gv g) : Calls Try.prog 28 #[gv, .int .i64 n] w (fun e w' => ∃ v : Value, e = .returned v ∧ Sat (Old w) w [trow 3 1 encN v ((ofL g.rules n).map (fun (z : Nat) => (z : Int)))] w') := by
 have hg0 := hg
 obtain ⟨rv, rfl, hr⟩ := hg.mono old_rd
 obtain ⟨a, c, rfl, hc1, hc2, hrs⟩ := id hr
 clear hg
 refine calls_CW Try.func28 rfl Try.ntmps28 rfl (Sat.start w) ?_
 refine nx3 ?_
 refine OW_e (e_box rfl rfl) rfl (fun b2 => ?_)
 refine aO ?_
 refine nx4 ?_
 refine aO ?_
 refine nx2 ?_
 refine CW_seq ?_
 refine nx3 ?_
 refine OW_q (q_fieldAddr Try.underlying24 rfl rfl Try.sizeOf22 rfl rfl) rfl ?_
 refine OW_q (q_load1_own Try.isAgg22 rfl rfl swt (by rfl)) rfl ?_
 refine OW_q (q_len Try.underlying22 rfl) rfl ?_
 refine mO ?_
 refine nx2 ?_
 refine CW_block ?_
 refine CW_weak (S' := Sat (Old w) w [trow 3 1 encN (.slice none 0 0) ((ofLk g.rules n 0).map (fun (z : Nat) => (z : Int))), cel b2 24 [.int .i64 g.terms, .int .i64 g.names, .slice a g.rules.length c]]) (fun w hw => (hw.tnil 3 1 encN).sub sbt) ?_
 refine CW_loopP (ι := Nat × Value) (fun i_ => i_.1 ≤ g.rules.length) (fun i_ => [(1, .int .i64 n), (2, .pointer (some ⟨b2, 0, none⟩)), (5, i_.2), (9, .slice a g.rules.length c), (10, .int .i64 (g.rules.length : Int)), (11, .int .i64 (i_.1 : Int))]) (fun i_ => Sat (Old w) w [trow 3 1 encN i_.2 ((ofLk g.rules n i_.1).map (fun (z : Nat) => (z : Int))), cel b2 24 [.int .i64 g.terms, .int .i64 g.names, .slice a g.rules.length c]]) (fun i_ => g.rules.length - i_.1) (0, .slice none 0 0) ?_ ⟨rfl, rfl, rfl, rfl, rfl, rfl, trivial⟩ sft ?_
 · exact Nat.zero_le _
 intro i_ hpre
 obtain ⟨k, v5⟩ := i_
 replace hpre : k ≤ g.rules.length := hpre
 change CW _ _ _ _ [(1, .int .i64 n), (2, .pointer (some ⟨b2, 0, none⟩)), (5, v5), (9, .slice a g.rules.length c), (10, .int .i64 (g.rules.length : Int)), (11, .int .i64 (k : Int))] (Sat (Old w) w [trow 3 1 encN v5 ((ofLk g.rules n k).map (fun (z : Nat) => (z : Int))), cel b2 24 [.int .i64 g.terms, .int .i64 g.names, .slice a g.rules.length c]])
 have hk : k ≤ g.rules.length := hpre
 refine nx3 ?_
 refine OW_q (q_lss rfl rfl) rfl ?_
 refine nx2 ?_
 refine CW_seq ?_
 refine CW_cond rfl (fun h12 => ?_) (fun h12 => ?_)
 · skip
   have hlt : k < g.rules.length := by have := of_decide_eq_true h12; omega
   obtain ⟨x, hx⟩ := get_of_lt hlt
   obtain ⟨p, rfl, rv, hsy, hrow⟩ := hrs k x hx
   obtain ⟨ya, yc, rfl, _, _, _⟩ := hsy
   have hkl := ofLk_len g.rules n k
   refine CW_skip ?_
   refine EW_then ?_
   refine CW_seq ?_
   refine CW_block ?_
   refine nx3 ?_
   refine mO ?_
   refine OW_q (q_indexAddr Try.underlying22 Try.sizeOf49 rfl rfl (by omega)) rfl ?_
   refine OW_q (q_loadN_ro Try.isAgg49 Try.sizeOf49 rfl (by exact hrow) (by rfl)) rfl ?_
   refine OW_e (e_alloc Try.zeroValue49 rfl) rfl (fun b7 => ?_)
   refine aO ?_
   refine OW_e0 (e_storeN Try.sizeOf49 rfl rfl rfl rfl (by simp [Value.oneCell']) swt (by rfl)) (fun _ => ?_)
   refine nx4 ?_
   refine OW_q (q_fieldAddr Try.underlying49 rfl rfl Try.sizeOf3 rfl rfl) rfl ?_
   refine OW_q (q_load1_own Try.isAgg3 rfl rfl swt (by rfl)) rfl ?_
   refine mO ?_
   refine OW_q (q_eqi rfl rfl) rfl ?_
   refine nx2 ?_
   refine CW_cond rfl (fun h19 => ?_) (fun h19 => ?_)
   · skip
     refine CW_region ?_
     refine mO ?_
     refine mO ?_
     refine OW_e (e_single Try.underlying32 Try.sizeOf3 Try.zeroValue3 (e := 3) (v := .int .i64 (k : Int)) (cs := [.int .i64 (k : Int)]) rfl rfl rfl rfl (by decide) (by decide)) rfl (fun b22 => ?_)
     refine OW_e (e_append_t (x0 := (k : Int)) (enc := encN) Try.underlying32 Try.typeInfo3 rfl rfl rfl rfl rfl rfl rfl pkt rfl (by exact fun w hw => hw.news swt) (by simp [Value.oneCell']) (by rw [List.length_map]; omega) (by decide)) rfl (fun v23 => ?_)
     refine aO ?_
     refine OW_nil ?_
     refine EW_block_normal ?_
     refine EW_then ?_
     refine CW_region ?_
     refine OW_q (q_add rfl rfl (by omega) (by omega)) rfl ?_
     refine mO ?_
     refine OW_nil ?_
     refine EW_weak (fun w hw => by rw [← List.map_singleton (f := fun (k : Nat) => (k : Int)), ← List.map_append, ← ofLk_yes hx (by simpa using h19)] at hw; exact hw) ?_
     refine EW_again ((k + 1, v23)) ⟨?_, ?_⟩ ⟨rfl, rfl, rfl, rfl, rfl, rfl, trivial⟩ sft
     · show g.rules.length - (k + 1) < g.rules.length - k; omega
     · show k + 1 ≤ _; omega
   refine CW_skip ?_
   refine EW_block_normal ?_
   refine EW_then ?_
   refine CW_region ?_
   refine OW_q (q_add rfl rfl (by omega) (by omega)) rfl ?_
   refine mO ?_
   refine OW_nil ?_
   refine EW_weak (fun w hw => by rw [← ofLk_no hx (by simpa using h19)] at hw; exact hw) ?_
   refine EW_again ((k + 1, v5)) ⟨?_, ?_⟩ ⟨rfl, rfl, rfl, rfl, rfl, rfl, trivial⟩ sft
   · show g.rules.length - (k + 1) < g.rules.length - k; omega
   · show k + 1 ≤ _; omega
 have hke : k = g.rules.length := by have := of_decide_eq_false h12; omega
 subst hke
 refine CW_exit ?_
 refine EW_then_exit ?_
 refine EW_out ?_
 refine EW_block_exit ?_
 refine EW_then ?_
 refine nx3 ?_
 refine mO ?_
 refine aO ?_
 refine nx2 ?_
 refine CW_ret ?_
 refine ret1 Try.results28 rfl (fun w hw => ?_)
 exact ⟨v5, rfl, hw.sub sbt⟩

set_option maxRecDepth 20000 in
theorem loops_any (r : Rule) (rv : Value) (w : World) (hs : SymsAt (Cl w) rv r.right) : Calls Try.prog 29 #[.agg #[.int .i64 r.left, rv]] w (fun e w' => e = .returned (.bool (loopsB r)) ∧ Sat (Old w) w [] w') := by
 obtain ⟨a, c, rfl, hd1, hd2, hss⟩ := hs.mono old_rd
 clear hs
 refine calls_CW Try.func29 rfl Try.ntmps29 rfl (Sat.start w) ?_
 refine nx3 ?_
 refine OW_e (e_box rfl rfl) rfl (fun b1 => ?_)
 refine aO ?_
 refine nx2 ?_
 refine CW_seq ?_
 refine CW_drawS 15 [(0, false), (1, false), (2, false), (3, false), (4, false), (5, false), (6, false), (7, false), (8, false), (9, false), (10, false), (11, true), (12, false), (13, false), (14, false)] (by kernel_rfl) (Blind.then (Blind.body (by intro c w h; simp at h))) (by kernel_rfl) (fun w hw => hw.drew) ?_
 refine DW_q rfl sft (q_fieldAddr Try.underlying49 rfl rfl Try.sizeOf46 rfl rfl) rfl ?_
 refine DW_q rfl sft (q_load1_own Try.isAgg46 rfl rfl swt (by rfl)) rfl ?_
 refine DW_q rfl sft (q_len Try.underlying46 rfl) rfl ?_
 refine DW_q rfl sft (q_gtr rfl rfl) rfl ?_
 refine mD ?_
 refine DW_part (t := 7) rfl (fun hg7 => ?_) (fun hg7 => ?_)
 · skip
   obtain ⟨s, l, hl⟩ : ∃ s l, r.right = s :: l := by
     cases hr : r.right with
     | nil => rw [hr] at hg7; simp at hg7
     | cons s l => exact ⟨s, l, rfl⟩
   obtain ⟨p, rfl, hrow⟩ := hss 0 s (by rw [hl]; rfl)
   have hlt0 : (0 : Int) < (r.right.length : Int) := by rw [hl]; simp only [List.length_cons]; omega
   refine DW_qg rfl sft rfl rfl rfl (q_fieldAddr Try.underlying49 rfl rfl Try.sizeOf46 rfl rfl) rfl ?_
   refine DW_qg rfl sft rfl rfl rfl (q_load1_own Try.isAgg46 rfl rfl swt (by rfl)) rfl ?_
   refine DW_qg rfl sft rfl rfl rfl (q_indexAddrI Try.underlying46 Try.sizeOf51 rfl rfl (by omega) (by omega)) rfl ?_
   refine DW_qg rfl sft rfl rfl rfl (q_loadN_ro Try.isAgg51 Try.sizeOf51 rfl (by exact hrow) (by rfl)) rfl ?_
   refine DW_qg rfl sft rfl rfl rfl (q_fieldAddr Try.underlying49 rfl rfl Try.sizeOf3 rfl rfl) rfl ?_
   refine DW_qg rfl sft rfl rfl rfl (q_load1_own Try.isAgg3 rfl rfl swt (by rfl)) rfl ?_
   refine DW_eg rfl rfl rfl rfl (e_call Try.call31 rfl (fun w hw => lift_ro (name_any _ w) hw)) rfl (fun _ w hw => by first | exact hw.sub sbt | exact hw.2.sub sbt) (fun x14 => ?_)
   refine DW_qg rfl sft rfl rfl rfl (q_eqAgg (by kernel_rfl) rfl rfl (sym_eq s (nameS r.left))) rfl ?_
   refine DW_q rfl sft (q_pick_t rfl rfl) rfl ?_
   refine DW_q rfl sft (q_assign rfl) rfl ?_
   refine DW_nil ?_
   refine EW_then ?_
   refine CW_ret ?_
   refine ret1 Try.results29 rfl (fun w hw => ?_)
   exact ⟨by unfold loopsB; rw [hl], hw.sub .nil⟩
 have hl : r.right = [] := by
   cases hr : r.right with
   | nil => rfl
   | cons s l => rw [hr] at hg7; simp at hg7
 refine kD ?_
 refine kD ?_
 refine kD ?_
 refine kD ?_
 refine kD ?_
 refine kD ?_
 refine DW_eskip rfl sft rfl rfl rfl rfl ?_
 refine kD ?_
 refine DW_q rfl sft (q_pick_f rfl rfl) rfl ?_
 refine DW_q rfl sft (q_assign rfl) rfl ?_
 refine DW_nil ?_
 refine EW_then ?_
 refine CW_ret ?_
 refine ret1 Try.results29 rfl (fun w hw => ?_)
 exact ⟨by unfold loopsB; rw [hl], hw.sub .nil⟩

end Go.Sy
