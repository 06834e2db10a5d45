/- slices.Clone, slices.Replace. No condition. -/
import Derived.Test.YteceklkjbcebkabSyp
import Derived.Test.YteceklkjbcebkabPShort
import Derived.Test.YteceklkjbcebkabProg
namespace Go.Sy
open Go Go.RowKit Go.Proofs

abbrev emp0H : HP := fun h => h = emp0
theorem cells_at {A M B Q : List Value} {o k : Nat} {u : Value} (ho : A.length + M.length = o) (hk : B[k]? = some u) : (A ++ (M ++ (B ++ Q)))[o + k]? = some u := by
  have hlt := (List.getElem?_eq_some_iff.1 hk).1
  rw [← List.append_assoc, List.getElem?_append_right (by rw [List.length_append]; omega), List.length_append, ho, Nat.add_sub_cancel_left, List.getElem?_append_left hlt, hk]

set_option maxRecDepth 20000 in
theorem replS_any (v : Value) (xs vs : List Value) (len i j m vc : Nat) (sa : Option Addr) (R : Nat → Prop) (w0 w : World) (F : HP) (hij : i < j) (hj : j ≤ len) (hlm : len + m ≤ 1000) (hvs : vs.length = m * 2) (hvi : VIn R w0 F sa vs) (h1v : ∀ u ∈ vs, u.oneCell' = true) (h1x : ∀ u ∈ xs, u.oneCell' = true) (hw : Sat R w0 ([row 51 2 v len xs] ++ [F]) w) : Calls Try.prog 34 #[v, .int .i64 (i : Int), .int .i64 (j : Int), .slice sa m vc] w (fun e w' => ∃ v' : Value, e = .returned v' ∧ Sat R w0 ([row 51 2 v' (len - (j - i) + m) (xs.take (i * 2) ++ vs ++ xs.drop (j * 2))] ++ [F]) w') := by
  have hw : Sat R w0 [row 51 2 v len xs, F] w := hw
  obtain ⟨_, h0, _⟩ | ⟨b, cap, rfl, _, _, _, _⟩ := hw.rowForm (A' := row 51 2 v len xs) .head
  · omega
  obtain ⟨rest, ⟨hfull, hlc, hcm, hxl⟩, hw'⟩ := hw.openRow
  obtain ⟨A, M, B, rfl, hA, hM, hB⟩ : ∃ A M B : List Value, xs = A ++ (M ++ B) ∧ A.length = i * 2 ∧ M.length = (j - i) * 2 ∧ B.length = (len - j) * 2 := by
    refine ⟨xs.take (i * 2), (xs.drop (i * 2)).take ((j - i) * 2), xs.drop (j * 2), ?_, ?_, ?_, ?_⟩
    · have e : xs.drop (j * 2) = (xs.drop (i * 2)).drop ((j - i) * 2) := by rw [List.drop_drop]; congr 1; omega
      rw [e, List.take_append_drop, List.take_append_drop]
    · rw [List.length_take]; omega
    · rw [List.length_take, List.length_drop]; omega
    · rw [List.length_drop]; omega
  have ht : (A ++ (M ++ B)).take (i * 2) = A := by rw [← hA, List.take_left]
  have hdr : (A ++ (M ++ B)).drop (j * 2) = B := by
    have e : j * 2 = A.length + M.length := by omega
    rw [e, ← List.append_assoc, ← List.length_append, List.drop_left]
  rw [ht, hdr]
  have h1B : ∀ u ∈ B, u.oneCell' = true := fun u hu => h1x u (by simp [hu])
  rw [List.length_append, List.length_append, List.length_append] at hfull
  rw [List.append_assoc, List.append_assoc] at hw'
  refine calls_CW (S := Sat R w0 [cel b 51 (A ++ (M ++ (B ++ rest))), F]) Try.func34 rfl Try.ntmps34 rfl (hw') ?_
  refine CW_seq ?_
  refine CW_region ?_
  refine OW_q (q_assign rfl) rfl ?_
  refine OW_nil ?_
  refine EW_then ?_
  refine CW_seq ?_
  refine CW_region ?_
  refine OW_q (q_move rfl) rfl ?_
  refine OW_q (q_move rfl) rfl ?_
  refine OW_q (q_move rfl) rfl ?_
  refine OW_q (q_slice Try.underlying46 Try.sizeOf51 rfl (.inr ⟨_, rfl, rfl⟩) (.inr ⟨_, rfl, rfl⟩) (by omega) (by omega) (by omega)) rfl ?_
  refine OW_nil ?_
  refine EW_then ?_
  refine CW_seq ?_
  refine CW_seq ?_
  refine CW_region ?_
  refine OW_q (q_move rfl) rfl ?_
  refine OW_q (q_move rfl) rfl ?_
  refine OW_q (q_eqi rfl rfl) rfl ?_
  refine OW_nil ?_
  refine EW_then ?_
  refine CW_false rfl (by simp; omega) ?_
  refine CW_skip ?_
  refine EW_then ?_
  refine CW_seq ?_
  refine CW_seq ?_
  refine CW_region ?_
  refine OW_q (q_move rfl) rfl ?_
  refine OW_q (q_move rfl) rfl ?_
  refine OW_q (q_len Try.underlying46 rfl) rfl ?_
  refine OW_q (q_eqi rfl rfl) rfl ?_
  refine OW_nil ?_
  refine EW_then ?_
  refine CW_cond rfl (fun h29 => ?_) (fun h29 => ?_)
  · skip
    have hjl : j = len := by simp at h29; omega
    have hBn : B = [] := List.eq_nil_of_length_eq_zero (by omega)
    subst hBn
    refine CW_seq ?_
    refine CW_region ?_
    refine OW_q (q_move rfl) rfl ?_
    refine OW_q (q_move rfl) rfl ?_
    refine OW_q (q_slice Try.underlying46 Try.sizeOf51 rfl (.inl ⟨rfl, rfl⟩) (.inr ⟨_, rfl, rfl⟩) (by omega) (by omega) (by omega)) rfl ?_
    refine OW_spell 32 (.slice (some ⟨b, 0, none⟩) i cap) rfl sl_zero ?_
    refine OW_q (q_move rfl) rfl ?_
    refine OW_e (e_appendV (size := 2) (b := b) (len := i) (cap := cap) (xs := A) (rest := M ++ ([] ++ rest)) (news := vs) (sa := sa) Try.underlying46 Try.typeInfo51 rfl rfl rfl rfl rfl rfl rfl (by repeat (first | exact .head | apply Pick.tail)) hvs hA (by first | omega | (simp only [List.length_append, List.length_nil]; omega) | (simp only [List.length_append, List.length_drop, List.length_take, List.length_nil] at *; omega)) (by omega) hcm (fun w hw => hw.vin (F := F) (by repeat (first | exact .head | apply Swap.tail)) hvi) h1v (by omega) (by decide)) rfl (fun v34 => ?_)
    refine OW_pure fun hv34 => ?_
    refine OW_q (q_assign rfl) rfl ?_
    refine OW_nil ?_
    refine EW_then ?_
    refine CW_seq ?_
    refine CW_seq ?_
    refine CW_fact (fun w hw => hw.rowSl (A' := row 51 2 v34 (i + m) (A ++ vs)) .head) (fun hf => ?_)
    obtain ⟨p34, c34, rfl, _, _⟩ := hf
    refine CW_region ?_
    refine OW_q (q_move rfl) rfl ?_
    refine OW_q (q_len Try.underlying46 rfl) rfl ?_
    refine OW_q (q_move rfl) rfl ?_
    refine OW_q (q_len Try.underlying46 rfl) rfl ?_
    refine OW_q (q_lss rfl rfl) rfl ?_
    refine OW_nil ?_
    refine EW_then ?_
    refine CW_cond rfl (fun h39 => ?_) (fun h39 => ?_)
    · skip
      have himl : i + m < len := by have := of_decide_eq_true h39; omega
      have e34 := hv34 (by have := of_decide_eq_true h39; omega)
      injection e34 with e1 e2 e3
      subst e1
      subst e3
      refine CW_ex (fun w hw => hw.openRow) (fun rest2 => ?_)
      refine CW_pure fun hr2 => ?_
      obtain ⟨hr2, _, _, hr3⟩ := hr2
      rw [List.length_append] at hr2
      refine CW_weak (S' := Sat R w0 [cel b 51 ((A ++ vs) ++ rest2), F]) (fun w hw => hw) ?_
      refine CW_region ?_
      refine OW_q (q_move rfl) rfl ?_
      refine OW_q (q_move rfl) rfl ?_
      refine OW_q (q_len Try.underlying46 rfl) rfl ?_
      refine OW_q (q_slice Try.underlying46 Try.sizeOf51 rfl (.inr ⟨_, rfl, rfl⟩) (.inl ⟨rfl, rfl⟩) (by omega) (by omega) (by omega)) rfl ?_
      refine OW_e0 (e_clear (size := 2) (b := b) (o := (i + m) * 2) (m := len - (i + m)) (Pre := A ++ vs) (Q0 := rest2) Try.underlying46 Try.zeroValue51 rfl rfl (fun _ => sl_at (by omega)) (by first | omega | (simp only [List.length_append, List.length_drop, List.length_take, List.length_nil]; omega) | (simp only [List.length_append, List.length_drop, List.length_take, List.length_nil] at *; omega)) (by first | omega | (simp only [List.length_append, List.length_drop, List.length_take, List.length_nil]; omega) | (simp only [List.length_append, List.length_drop, List.length_take, List.length_nil] at *; omega)) (by simp [Value.cells, Value.oneCell']) (by repeat (first | exact .head | apply Swap.tail))) (fun _ => ?_)
      refine OW_nil ?_
      refine EW_then ?_
      refine CW_seq ?_
      refine CW_region ?_
      refine OW_q (q_move rfl) rfl ?_
      refine OW_q (q_assign rfl) rfl ?_
      refine OW_nil ?_
      refine EW_then ?_
      refine CW_ret ?_
      refine EW_then_ret ?_
      refine ret1 Try.results34 rfl (fun w hw => ?_)
      have hn : len - (j - i) + m = i + m := by omega
      refine ⟨_, rfl, ?_⟩
      rw [hn, List.append_nil]
      exact Sat.sub (Sat.closeRow (size := 2) (cap := c34) (n := i + m) (hw) (by first | omega | (simp only [List.length_append, List.length_drop, List.length_nil, Array.length_toList, size_zeroCells, Value.cells, List.size_toArray, List.length_cons]; omega)) (by omega) (by omega) (by first | omega | (simp only [List.length_append]; omega))) (by repeat (first | exact SubL.nil | exact Pick.head | apply Pick.tail | apply SubL.cons))
    · skip
      refine CW_skip ?_
      refine EW_then ?_
      refine CW_seq ?_
      refine CW_region ?_
      refine OW_q (q_move rfl) rfl ?_
      refine OW_q (q_assign rfl) rfl ?_
      refine OW_nil ?_
      refine EW_then ?_
      refine CW_ret ?_
      refine EW_then_ret ?_
      refine ret1 Try.results34 rfl (fun w hw => ?_)
      have hn : len - (j - i) + m = i + m := by omega
      refine ⟨_, rfl, ?_⟩
      rw [hn, List.append_nil]
      exact hw
  · skip
    have hjl : j < len := by simp at h29; omega
    refine CW_skip ?_
    refine EW_then ?_
    refine CW_seq ?_
    refine CW_drawS 13 [(0, false), (1, false), (2, false), (3, false), (4, false), (5, false), (6, false), (7, false), (8, false), (9, false), (10, false), (11, false), (12, false)] (by kernel_rfl) (Blind.then Blind.bodyP) (by kernel_rfl) (fun w hw => hw.drew) ?_
    refine DW_q rfl (fun w hw => hw.sub (by (repeat (first | exact SubL.nil | exact Pick.head | apply Pick.tail | apply SubL.cons)))) (q_move rfl) rfl ?_
    refine DW_q rfl (fun w hw => hw.sub (by (repeat (first | exact SubL.nil | exact Pick.head | apply Pick.tail | apply SubL.cons)))) (q_move rfl) rfl ?_
    refine DW_q rfl (fun w hw => hw.sub (by (repeat (first | exact SubL.nil | exact Pick.head | apply Pick.tail | apply SubL.cons)))) (q_slice Try.underlying46 Try.sizeOf51 rfl (.inl ⟨rfl, rfl⟩) (.inr ⟨_, rfl, rfl⟩) (by omega) (by omega) (by omega)) rfl ?_
    refine DW_q rfl (fun w hw => hw.sub (by (repeat (first | exact SubL.nil | exact Pick.head | apply Pick.tail | apply SubL.cons)))) (q_len Try.underlying46 rfl) rfl ?_
    refine DW_q rfl (fun w hw => hw.sub (by (repeat (first | exact SubL.nil | exact Pick.head | apply Pick.tail | apply SubL.cons)))) (q_move rfl) rfl ?_
    refine DW_q rfl (fun w hw => hw.sub (by (repeat (first | exact SubL.nil | exact Pick.head | apply Pick.tail | apply SubL.cons)))) (q_len Try.underlying46 rfl) rfl ?_
    first | refine DW_q rfl (fun w hw => hw.sub (by (repeat (first | exact SubL.nil | exact Pick.head | apply Pick.tail | apply SubL.cons)))) (q_inc rfl rfl (by omega)) rfl ?_ | refine DW_q rfl (fun w hw => hw.sub (by (repeat (first | exact SubL.nil | exact Pick.head | apply Pick.tail | apply SubL.cons)))) (q_add rfl rfl (by omega) (by omega)) rfl ?_
    refine DW_q rfl (fun w hw => hw.sub (by (repeat (first | exact SubL.nil | exact Pick.head | apply Pick.tail | apply SubL.cons)))) (q_move rfl) rfl ?_
    refine DW_q rfl (fun w hw => hw.sub (by (repeat (first | exact SubL.nil | exact Pick.head | apply Pick.tail | apply SubL.cons)))) (q_move rfl) rfl ?_
    refine DW_q rfl (fun w hw => hw.sub (by (repeat (first | exact SubL.nil | exact Pick.head | apply Pick.tail | apply SubL.cons)))) (q_slice Try.underlying46 Try.sizeOf51 rfl (.inr ⟨_, rfl, rfl⟩) (.inl ⟨rfl, rfl⟩) (by omega) (by omega) (by omega)) rfl ?_
    refine DW_q rfl (fun w hw => hw.sub (by (repeat (first | exact SubL.nil | exact Pick.head | apply Pick.tail | apply SubL.cons)))) (q_len Try.underlying46 rfl) rfl ?_
    first | refine DW_q rfl (fun w hw => hw.sub (by (repeat (first | exact SubL.nil | exact Pick.head | apply Pick.tail | apply SubL.cons)))) (q_inc rfl rfl (by omega)) rfl ?_ | refine DW_q rfl (fun w hw => hw.sub (by (repeat (first | exact SubL.nil | exact Pick.head | apply Pick.tail | apply SubL.cons)))) (q_add rfl rfl (by omega) (by omega)) rfl ?_
    refine DW_q rfl (fun w hw => hw.sub (by (repeat (first | exact SubL.nil | exact Pick.head | apply Pick.tail | apply SubL.cons)))) (q_assign rfl) rfl ?_
    refine DW_nil ?_
    refine EW_then ?_
    refine CW_seq ?_
    refine CW_seq ?_
    refine CW_spell 10 (.int .i64 (((i + m + (len - j)) : Nat) : Int)) rfl rfl ?_
    refine CW_region ?_
    refine OW_q (q_move rfl) rfl ?_
    refine OW_q (q_move rfl) rfl ?_
    refine OW_q (q_cap Try.underlying46 rfl) rfl ?_
    refine OW_q (q_gtr rfl rfl) rfl ?_
    refine OW_nil ?_
    refine EW_then ?_
    refine CW_cond rfl (fun h60 => ?_) (fun h60 => ?_)
    · skip
      have htc : cap < (i + m + (len - j)) := by have := of_decide_eq_true h60; omega
      refine CW_seq ?_
      refine CW_region ?_
      refine OW_q (q_move rfl) rfl ?_
      refine OW_q (q_move rfl) rfl ?_
      refine OW_q (q_slice Try.underlying46 Try.sizeOf51 rfl (.inl ⟨rfl, rfl⟩) (.inr ⟨_, rfl, rfl⟩) (by omega) (by omega) (by omega)) rfl ?_
      refine OW_spell 63 (.slice (some ⟨b, 0, none⟩) i cap) rfl sl_zero ?_
      refine OW_q (q_move rfl) rfl ?_
      refine OW_q (q_move rfl) rfl ?_
      refine OW_q (q_sub rfl rfl (by omega) (by omega)) rfl ?_
      refine OW_spell 66 (.int .i64 ((m + (len - j) : Nat) : Int)) rfl (congrArg (Value.int .i64) (by omega)) ?_
      refine OW_e (e_appendZ (size := 2) (b := b) (len := i) (cap := cap) (m := m + (len - j)) (xs := A) (rest := M ++ (B ++ rest)) Try.underlying46 Try.underlying3 Try.typeInfo51 rfl rfl rfl rfl rfl rfl rfl (by repeat (first | exact .head | apply Swap.tail)) hA (by omega) (by omega) (by decide)) rfl (fun y67 => ?_)
      refine OW_pure fun hy => ?_
      obtain ⟨hy1, hy2, hy3⟩ := hy
      rw [List.length_append] at hy1
      refine OW_q (q_assign rfl) rfl ?_
      refine OW_nil ?_
      refine EW_then ?_
      refine CW_seq ?_
      refine CW_region ?_
      refine OW_q (q_move rfl) rfl ?_
      refine OW_q (q_move rfl) rfl ?_
      refine OW_q (q_slice Try.underlying46 Try.sizeOf51 rfl (.inr ⟨_, rfl, rfl⟩) (.inl ⟨rfl, rfl⟩) (by omega) (by omega) (by omega)) rfl ?_
      refine OW_q (q_move rfl) rfl ?_
      refine OW_e (e_copy (size := 2) (b := y67.1) (o := (i) * 2) (Pre := A) (Q0 := y67.2.2) (vs := vs) Try.underlying46 Try.typeInfo51 rfl rfl rfl rfl (fun _ => sl_at (by omega)) (by rw [hvs]; congr 1; omega) ((fun w hw => hw.vin (F := F) (by repeat (first | exact .head | apply Swap.tail)) hvi)) (by first | omega | (simp only [List.length_append, List.length_drop, List.length_take, List.length_nil]; omega) | (simp only [List.length_append, List.length_drop, List.length_take, List.length_nil] at *; omega)) (by first | omega | (simp only [List.length_append, List.length_drop, List.length_take, List.length_nil]; omega) | (simp only [List.length_append, List.length_drop, List.length_take, List.length_nil] at *; omega)) h1v (by repeat (first | exact .head | apply Swap.tail))) rfl (fun _ => ?_)
      refine OW_nil ?_
      refine EW_then ?_
      refine CW_seq ?_
      refine CW_weak (S' := Sat R w0 [cel y67.1 51 ((A ++ vs) ++ y67.2.2.drop vs.length), cel b 51 (A ++ (M ++ (B ++ rest))), F]) (fun w hw => by rw [List.append_assoc]; exact hw) ?_
      refine CW_drawS 9 [(0, false), (1, false), (2, false), (3, false), (4, false), (5, false), (6, false), (7, false), (8, false), (9, true)] (by kernel_rfl) (Blind.then (Blind.then Blind.bodyP)) (by kernel_rfl) (fun w hw => hw.drew) ?_
      refine DW_q rfl (fun w hw => hw.sub (by (repeat (first | exact SubL.nil | exact Pick.head | apply Pick.tail | apply SubL.cons)))) (q_move rfl) rfl ?_
      refine DW_q rfl (fun w hw => hw.sub (by (repeat (first | exact SubL.nil | exact Pick.head | apply Pick.tail | apply SubL.cons)))) (q_move rfl) rfl ?_
      refine DW_q rfl (fun w hw => hw.sub (by (repeat (first | exact SubL.nil | exact Pick.head | apply Pick.tail | apply SubL.cons)))) (q_move rfl) rfl ?_
      refine DW_q rfl (fun w hw => hw.sub (by (repeat (first | exact SubL.nil | exact Pick.head | apply Pick.tail | apply SubL.cons)))) (q_len Try.underlying46 rfl) rfl ?_
      first | refine DW_q rfl (fun w hw => hw.sub (by (repeat (first | exact SubL.nil | exact Pick.head | apply Pick.tail | apply SubL.cons)))) (q_inc rfl rfl (by omega)) rfl ?_ | refine DW_q rfl (fun w hw => hw.sub (by (repeat (first | exact SubL.nil | exact Pick.head | apply Pick.tail | apply SubL.cons)))) (q_add rfl rfl (by omega) (by omega)) rfl ?_
      refine DW_q rfl (fun w hw => hw.sub (by (repeat (first | exact SubL.nil | exact Pick.head | apply Pick.tail | apply SubL.cons)))) (q_slice Try.underlying46 Try.sizeOf51 rfl (.inr ⟨_, rfl, rfl⟩) (.inl ⟨rfl, rfl⟩) (by omega) (by omega) (by omega)) rfl ?_
      refine DW_q rfl (fun w hw => hw.sub (by (repeat (first | exact SubL.nil | exact Pick.head | apply Pick.tail | apply SubL.cons)))) (q_move rfl) rfl ?_
      refine DW_q rfl (fun w hw => hw.sub (by (repeat (first | exact SubL.nil | exact Pick.head | apply Pick.tail | apply SubL.cons)))) (q_move rfl) rfl ?_
      refine DW_q rfl (fun w hw => hw.sub (by (repeat (first | exact SubL.nil | exact Pick.head | apply Pick.tail | apply SubL.cons)))) (q_slice Try.underlying46 Try.sizeOf51 rfl (.inr ⟨_, rfl, rfl⟩) (.inl ⟨rfl, rfl⟩) (by omega) (by omega) (by omega)) rfl ?_
      refine DW_z rfl (e_copy (size := 2) (b := y67.1) (o := (i + m) * 2) (Pre := A ++ vs) (Q0 := y67.2.2.drop vs.length) (vs := B) Try.underlying46 Try.typeInfo51 rfl rfl rfl rfl (fun _ => sl_at (by omega)) (by rw [hB]; congr 1; omega) (fun w hw k u hk => ⟨_, sl_at (by omega), by rw [Addr.add_lit, hw.cell (t := 51) (cs := A ++ (M ++ (B ++ rest))) (A' := cel b 51 (A ++ (M ++ (B ++ rest)))) (by repeat (first | exact .head | apply Swap.tail))]; exact cells_at (by first | omega | (simp only [List.length_append, List.length_drop]; omega)) hk⟩) (by first | omega | (simp only [List.length_append]; omega) | (simp only [List.length_append, List.length_drop, List.length_take, List.length_nil] at *; omega)) (by first | omega | (simp only [List.length_drop]; omega) | (simp only [List.length_append, List.length_drop, List.length_take, List.length_nil] at *; omega)) h1B (by repeat (first | exact .head | apply Swap.tail))) rfl (fun _ => ?_)
      refine EW_then ?_
      refine CW_seq ?_
      refine CW_region ?_
      refine OW_q (q_move rfl) rfl ?_
      refine OW_q (q_assign rfl) rfl ?_
      refine OW_nil ?_
      refine EW_then ?_
      refine CW_ret ?_
      refine EW_then_ret ?_
      refine ret1 Try.results34 rfl (fun w hw => ?_)
      have hn : len - (j - i) + m = (i + (m + (len - j))) := by omega
      refine ⟨_, rfl, ?_⟩
      rw [hn]
      exact Sat.sub (Sat.closeRow (size := 2) (cap := y67.2.1) (n := (i + (m + (len - j)))) ((by rw [← List.append_assoc] at hw; exact hw)) (by first | omega | (simp only [List.length_append, List.length_drop]; omega)) (by omega) (by omega) (by first | omega | (simp only [List.length_append]; omega))) (by repeat (first | exact SubL.nil | exact Pick.head | apply Pick.tail | apply SubL.cons))
    · skip
      have htc : (i + m + (len - j)) ≤ cap := by have := of_decide_eq_false h60; omega
      refine CW_skip ?_
      refine EW_then ?_
      refine CW_seq ?_
      refine CW_region ?_
      refine OW_q (q_move rfl) rfl ?_
      refine OW_q (q_move rfl) rfl ?_
      refine OW_q (q_slice Try.underlying46 Try.sizeOf51 rfl (.inl ⟨rfl, rfl⟩) (.inr ⟨_, rfl, rfl⟩) (by omega) (by omega) (by omega)) rfl ?_
      refine OW_q (q_assign rfl) rfl ?_
      refine OW_nil ?_
      refine EW_then ?_
      refine CW_seq ?_
      refine CW_seq ?_
      refine CW_spell 12 (.slice (some ⟨b, 0, none⟩) (i + m + (len - j)) cap) rfl sl_zero ?_
      refine CW_region ?_
      refine OW_q (q_move rfl) rfl ?_
      refine OW_q (q_move rfl) rfl ?_
      refine OW_q (q_len Try.underlying46 rfl) rfl ?_
      first | refine OW_q (q_inc rfl rfl (by omega)) rfl ?_ | refine OW_q (q_add rfl rfl (by omega) (by omega)) rfl ?_
      refine OW_q (q_move rfl) rfl ?_
      refine OW_q (q_leq rfl rfl) rfl ?_
      refine OW_nil ?_
      refine EW_then ?_
      refine CW_cond rfl (fun h92 => ?_) (fun h92 => ?_)
      · skip
        have him : i + m ≤ j := by have := of_decide_eq_true h92; omega
        refine CW_seq ?_
        refine CW_region ?_
        refine OW_q (q_move rfl) rfl ?_
        refine OW_q (q_move rfl) rfl ?_
        refine OW_q (q_slice Try.underlying46 Try.sizeOf51 rfl (.inr ⟨_, rfl, rfl⟩) (.inl ⟨rfl, rfl⟩) (by omega) (by omega) (by omega)) rfl ?_
        refine OW_q (q_move rfl) rfl ?_
        refine OW_e (e_copy (size := 2) (b := b) (o := (i) * 2) (Pre := A) (Q0 := M ++ (B ++ rest)) (vs := vs) Try.underlying46 Try.typeInfo51 rfl rfl rfl rfl (fun _ => sl_at (by omega)) (by rw [hvs]; congr 1; omega) ((fun w hw => hw.vin (F := F) (by repeat (first | exact .head | apply Swap.tail)) hvi)) (by first | omega | (simp only [List.length_append, List.length_drop, List.length_take, List.length_nil]; omega) | (simp only [List.length_append, List.length_drop, List.length_take, List.length_nil] at *; omega)) (by first | omega | (simp only [List.length_append]; omega) | (simp only [List.length_append, List.length_drop, List.length_take, List.length_nil] at *; omega)) h1v (by repeat (first | exact .head | apply Swap.tail))) rfl (fun _ => ?_)
        refine OW_nil ?_
        refine EW_then ?_
        refine CW_seq ?_
        refine CW_weak (S' := Sat R w0 [cel b 51 ((A ++ vs) ++ (M.drop vs.length ++ (B ++ rest))), F]) (fun w hw => by
          rw [List.drop_append_of_le_length (by omega)] at hw
          rw [List.append_assoc]; exact hw) ?_
        refine CW_drawS 9 [(0, false), (1, false), (2, false), (3, false), (4, false), (5, false), (6, false), (7, false), (8, false), (9, true)] (by kernel_rfl) (Blind.then (Blind.then Blind.bodyP)) (by kernel_rfl) (fun w hw => hw.drew) ?_
        refine DW_q rfl (fun w hw => hw.sub (by (repeat (first | exact SubL.nil | exact Pick.head | apply Pick.tail | apply SubL.cons)))) (q_move rfl) rfl ?_
        refine DW_q rfl (fun w hw => hw.sub (by (repeat (first | exact SubL.nil | exact Pick.head | apply Pick.tail | apply SubL.cons)))) (q_move rfl) rfl ?_
        refine DW_q rfl (fun w hw => hw.sub (by (repeat (first | exact SubL.nil | exact Pick.head | apply Pick.tail | apply SubL.cons)))) (q_move rfl) rfl ?_
        refine DW_q rfl (fun w hw => hw.sub (by (repeat (first | exact SubL.nil | exact Pick.head | apply Pick.tail | apply SubL.cons)))) (q_len Try.underlying46 rfl) rfl ?_
        first | refine DW_q rfl (fun w hw => hw.sub (by (repeat (first | exact SubL.nil | exact Pick.head | apply Pick.tail | apply SubL.cons)))) (q_inc rfl rfl (by omega)) rfl ?_ | refine DW_q rfl (fun w hw => hw.sub (by (repeat (first | exact SubL.nil | exact Pick.head | apply Pick.tail | apply SubL.cons)))) (q_add rfl rfl (by omega) (by omega)) rfl ?_
        refine DW_q rfl (fun w hw => hw.sub (by (repeat (first | exact SubL.nil | exact Pick.head | apply Pick.tail | apply SubL.cons)))) (q_slice Try.underlying46 Try.sizeOf51 rfl (.inr ⟨_, rfl, rfl⟩) (.inl ⟨rfl, rfl⟩) (by omega) (by omega) (by omega)) rfl ?_
        refine DW_q rfl (fun w hw => hw.sub (by (repeat (first | exact SubL.nil | exact Pick.head | apply Pick.tail | apply SubL.cons)))) (q_move rfl) rfl ?_
        refine DW_q rfl (fun w hw => hw.sub (by (repeat (first | exact SubL.nil | exact Pick.head | apply Pick.tail | apply SubL.cons)))) (q_move rfl) rfl ?_
        refine DW_q rfl (fun w hw => hw.sub (by (repeat (first | exact SubL.nil | exact Pick.head | apply Pick.tail | apply SubL.cons)))) (q_slice Try.underlying46 Try.sizeOf51 rfl (.inr ⟨_, rfl, rfl⟩) (.inl ⟨rfl, rfl⟩) (by omega) (by omega) (by omega)) rfl ?_
        refine DW_z rfl (e_copy (size := 2) (b := b) (o := (i + m) * 2) (Pre := A ++ vs) (Q0 := M.drop vs.length ++ (B ++ rest)) (vs := B) Try.underlying46 Try.typeInfo51 rfl rfl rfl rfl (fun _ => sl_at (by omega)) (by rw [hB]; congr 1; omega) (fun w hw k u hk => ⟨_, sl_at (by omega), by rw [Addr.add_lit, hw.cell (t := 51) (cs := (A ++ vs) ++ (M.drop vs.length ++ (B ++ rest))) (A' := cel b 51 ((A ++ vs) ++ (M.drop vs.length ++ (B ++ rest)))) (by repeat (first | exact .head | apply Swap.tail))]; exact cells_at (by first | omega | (simp only [List.length_append, List.length_drop]; omega)) hk⟩) (by first | omega | (simp only [List.length_append]; omega) | (simp only [List.length_append, List.length_drop, List.length_take, List.length_nil] at *; omega)) (by first | omega | (simp only [List.length_append, List.length_drop]; omega) | (simp only [List.length_append, List.length_drop, List.length_take, List.length_nil] at *; omega)) h1B (by repeat (first | exact .head | apply Swap.tail))) rfl (fun _ => ?_)
        refine EW_then ?_
        refine CW_seq ?_
        refine CW_weak (S' := Sat R w0 [cel b 51 (((A ++ vs) ++ B) ++ (M.drop vs.length ++ (B ++ rest)).drop B.length), F]) (fun w hw => by rw [List.append_assoc]; exact hw) ?_
        refine CW_region ?_
        refine OW_q (q_move rfl) rfl ?_
        refine OW_q (q_move rfl) rfl ?_
        refine OW_q (q_slice Try.underlying46 Try.sizeOf51 rfl (.inr ⟨_, rfl, rfl⟩) (.inl ⟨rfl, rfl⟩) (by omega) (by omega) (by omega)) rfl ?_
        refine OW_e0 (e_clear (size := 2) (b := b) (o := (i + m + (len - j)) * 2) (m := len - (i + m + (len - j))) (Pre := (A ++ vs) ++ B) (Q0 := (M.drop vs.length ++ (B ++ rest)).drop B.length) Try.underlying46 Try.zeroValue51 rfl rfl (fun hne => sl_at (by omega)) (by first | omega | (simp only [List.length_append]; omega) | (simp only [List.length_append, List.length_drop, List.length_take, List.length_nil] at *; omega)) (by first | omega | (simp only [List.length_append, List.length_drop]; omega) | (simp only [List.length_append, List.length_drop, List.length_take, List.length_nil] at *; omega)) (by simp [Value.cells, Value.oneCell']) (by repeat (first | exact .head | apply Swap.tail))) (fun _ => ?_)
        refine OW_nil ?_
        refine EW_then ?_
        refine CW_seq ?_
        refine CW_region ?_
        refine OW_q (q_move rfl) rfl ?_
        refine OW_q (q_assign rfl) rfl ?_
        refine OW_nil ?_
        refine EW_then ?_
        refine CW_ret ?_
        refine EW_then_ret ?_
        refine ret1 Try.results34 rfl (fun w hw => ?_)
        have hn : len - (j - i) + m = (i + m + (len - j)) := by omega
        refine ⟨_, rfl, ?_⟩
        rw [hn]
        exact Sat.sub (Sat.closeRow (size := 2) (cap := cap) (n := (i + m + (len - j))) (hw) (by first | omega | (simp only [List.length_append, List.length_drop, List.length_nil, Array.length_toList, size_zeroCells, Value.cells, List.size_toArray, List.length_cons]; omega)) (by omega) (by omega) (by first | omega | (simp only [List.length_append]; omega))) (by repeat (first | exact SubL.nil | exact Pick.head | apply Pick.tail | apply SubL.cons))
      · skip
        have him : j < i + m := by have := of_decide_eq_false h92; omega
        obtain ⟨u0, us, hvc⟩ : ∃ u us, vs = u :: us := by
          cases hv : vs with
          | nil => rw [hv] at hvs; simp at hvs; omega
          | cons u us => exact ⟨u, us, rfl⟩
        refine CW_skip ?_
        refine EW_then ?_
        refine CW_seq ?_
        refine CW_seq ?_
        refine CW_region ?_
        refine OW_q (q_move rfl) rfl ?_
        refine OW_q (q_move rfl) rfl ?_
        refine OW_q (q_move rfl) rfl ?_
        refine OW_q (q_len Try.underlying46 rfl) rfl ?_
        first | refine OW_q (q_inc rfl rfl (by omega)) rfl ?_ | refine OW_q (q_add rfl rfl (by omega) (by omega)) rfl ?_
        refine OW_q (q_slice Try.underlying46 Try.sizeOf51 rfl (.inr ⟨_, rfl, rfl⟩) (.inl ⟨rfl, rfl⟩) (by omega) (by omega) (by omega)) rfl ?_
        refine OW_q (q_move rfl) rfl ?_
        refine OW_e (e_overlaps (tS := 46) (tR := 4) Try.func49 (by kernel_rfl) (by kernel_rfl) (by kernel_rfl) (by kernel_rfl) rfl rfl (fun w hw => by
          obtain ⟨a2, ha2, hne, T2, k2, hs2, hk2⟩ := hw.vapart hvi 0 u0 (by rw [hvc]; rfl)
          have hb := (hw.block (A' := emp0H) .head (fun x hx => by rw [hx]; exact one_same _ _)).1
          rw [ha2, sl_at (by omega)]
          exact Lib.run_overlaps_apart w 46 4 51 Try.underlying46 2 Try.sizeOf51 _ _ _ _ _ _ hne 51 T2 _ k2 (by simp only [World.shape?, hb]; rfl) hs2 hk2 (hw.unfrozen (A' := emp0H) .head _) (hw.unfrozen (A' := emp0H) .head _))) rfl (fun _ => ?_)
        refine OW_q (q_not rfl) rfl ?_
        refine OW_nil ?_
        refine EW_then ?_
        refine CW_true rfl (rfl) ?_
        refine CW_seq ?_
        refine CW_weak (S' := Sat R w0 [cel b 51 ((A ++ (M ++ (B ++ rest)).take vs.length) ++ (M ++ (B ++ rest)).drop vs.length), F]) (fun w hw => by rw [List.append_assoc, List.take_append_drop]; exact hw) ?_
        refine CW_drawS 9 [(0, false), (1, false), (2, false), (3, false), (4, false), (5, false), (6, false), (7, false), (8, false), (9, true)] (by kernel_rfl) (Blind.then (Blind.then Blind.bodyP)) (by kernel_rfl) (fun w hw => hw.drew) ?_
        refine DW_q rfl (fun w hw => hw.sub (by (repeat (first | exact SubL.nil | exact Pick.head | apply Pick.tail | apply SubL.cons)))) (q_move rfl) rfl ?_
        refine DW_q rfl (fun w hw => hw.sub (by (repeat (first | exact SubL.nil | exact Pick.head | apply Pick.tail | apply SubL.cons)))) (q_move rfl) rfl ?_
        refine DW_q rfl (fun w hw => hw.sub (by (repeat (first | exact SubL.nil | exact Pick.head | apply Pick.tail | apply SubL.cons)))) (q_move rfl) rfl ?_
        refine DW_q rfl (fun w hw => hw.sub (by (repeat (first | exact SubL.nil | exact Pick.head | apply Pick.tail | apply SubL.cons)))) (q_len Try.underlying46 rfl) rfl ?_
        first | refine DW_q rfl (fun w hw => hw.sub (by (repeat (first | exact SubL.nil | exact Pick.head | apply Pick.tail | apply SubL.cons)))) (q_inc rfl rfl (by omega)) rfl ?_ | refine DW_q rfl (fun w hw => hw.sub (by (repeat (first | exact SubL.nil | exact Pick.head | apply Pick.tail | apply SubL.cons)))) (q_add rfl rfl (by omega) (by omega)) rfl ?_
        refine DW_q rfl (fun w hw => hw.sub (by (repeat (first | exact SubL.nil | exact Pick.head | apply Pick.tail | apply SubL.cons)))) (q_slice Try.underlying46 Try.sizeOf51 rfl (.inr ⟨_, rfl, rfl⟩) (.inl ⟨rfl, rfl⟩) (by omega) (by omega) (by omega)) rfl ?_
        refine DW_q rfl (fun w hw => hw.sub (by (repeat (first | exact SubL.nil | exact Pick.head | apply Pick.tail | apply SubL.cons)))) (q_move rfl) rfl ?_
        refine DW_q rfl (fun w hw => hw.sub (by (repeat (first | exact SubL.nil | exact Pick.head | apply Pick.tail | apply SubL.cons)))) (q_move rfl) rfl ?_
        refine DW_q rfl (fun w hw => hw.sub (by (repeat (first | exact SubL.nil | exact Pick.head | apply Pick.tail | apply SubL.cons)))) (q_slice Try.underlying46 Try.sizeOf51 rfl (.inr ⟨_, rfl, rfl⟩) (.inl ⟨rfl, rfl⟩) (by omega) (by omega) (by omega)) rfl ?_
        refine DW_z rfl (e_copy (size := 2) (b := b) (o := (i + m) * 2) (Pre := A ++ (M ++ (B ++ rest)).take vs.length) (Q0 := (M ++ (B ++ rest)).drop vs.length) (vs := B) Try.underlying46 Try.typeInfo51 rfl rfl rfl rfl (fun _ => sl_at (by omega)) (by rw [hB]; congr 1; omega) (fun w hw k u hk => ⟨_, sl_at (by omega), by rw [Addr.add_lit, hw.cell (t := 51) (cs := (A ++ (M ++ (B ++ rest)).take vs.length) ++ (M ++ (B ++ rest)).drop vs.length) (A' := cel b 51 ((A ++ (M ++ (B ++ rest)).take vs.length) ++ (M ++ (B ++ rest)).drop vs.length)) (by repeat (first | exact .head | apply Swap.tail))]; rw [List.append_assoc, List.take_append_drop]; exact cells_at (by first | omega | (simp only [List.length_append, List.length_drop]; omega)) hk⟩) (by first | omega | (simp only [List.length_append, List.length_take]; omega) | (simp only [List.length_append, List.length_drop, List.length_take, List.length_nil] at *; omega)) (by first | omega | (simp only [List.length_append, List.length_drop]; omega) | (simp only [List.length_append, List.length_drop, List.length_take, List.length_nil] at *; omega)) h1B (by repeat (first | exact .head | apply Swap.tail))) rfl (fun _ => ?_)
        refine EW_then ?_
        refine CW_seq ?_
        refine CW_weak (S' := Sat R w0 [cel b 51 (A ++ ((M ++ (B ++ rest)).take vs.length ++ (B ++ ((M ++ (B ++ rest)).drop vs.length).drop B.length))), F]) (fun w hw => by rw [← List.append_assoc]; exact hw) ?_
        refine CW_region ?_
        refine OW_q (q_move rfl) rfl ?_
        refine OW_q (q_move rfl) rfl ?_
        refine OW_q (q_slice Try.underlying46 Try.sizeOf51 rfl (.inr ⟨_, rfl, rfl⟩) (.inl ⟨rfl, rfl⟩) (by omega) (by omega) (by omega)) rfl ?_
        refine OW_q (q_move rfl) rfl ?_
        refine OW_e (e_copy (size := 2) (b := b) (o := (i) * 2) (Pre := A) (Q0 := (M ++ (B ++ rest)).take vs.length ++ (B ++ ((M ++ (B ++ rest)).drop vs.length).drop B.length)) (vs := vs) Try.underlying46 Try.typeInfo51 rfl rfl rfl rfl (fun _ => sl_at (by omega)) (by rw [hvs]; congr 1; omega) ((fun w hw => hw.vin (F := F) (by repeat (first | exact .head | apply Swap.tail)) hvi)) (by first | omega | (simp only [List.length_append, List.length_drop, List.length_take, List.length_nil]; omega) | (simp only [List.length_append, List.length_drop, List.length_take, List.length_nil] at *; omega)) (by first | omega | (simp only [List.length_append, List.length_drop, List.length_take]; omega) | (simp only [List.length_append, List.length_drop, List.length_take, List.length_nil] at *; omega)) h1v (by repeat (first | exact .head | apply Swap.tail))) rfl (fun _ => ?_)
        refine OW_nil ?_
        refine EW_then ?_
        refine CW_seq ?_
        refine CW_region ?_
        refine OW_q (q_move rfl) rfl ?_
        refine OW_q (q_assign rfl) rfl ?_
        refine OW_nil ?_
        refine EW_then ?_
        refine CW_ret ?_
        refine EW_then_ret ?_
        refine ret1 Try.results34 rfl (fun w hw => ?_)
        have hX : ((M ++ (B ++ rest)).take vs.length).length = vs.length := by rw [List.length_take, List.length_append, List.length_append]; omega
        rw [List.drop_append_of_le_length (Nat.le_of_eq hX.symm), List.drop_eq_nil_of_le (Nat.le_of_eq hX), List.nil_append, ← List.append_assoc, ← List.append_assoc] at hw
        have hn : len - (j - i) + m = (i + m + (len - j)) := by omega
        refine ⟨_, rfl, ?_⟩
        rw [hn]
        exact Sat.sub (Sat.closeRow (size := 2) (cap := cap) (n := (i + m + (len - j))) (hw) (by first | omega | (simp only [List.length_append, List.length_drop]; omega)) (by omega) (by omega) (by first | omega | (simp only [List.length_append]; omega))) (by repeat (first | exact SubL.nil | exact Pick.head | apply Pick.tail | apply SubL.cons))

set_option maxRecDepth 20000 in
theorem replR_any (v : Value) (xs vs : List Value) (len i j m vc : Nat) (sa : Option Addr) (R : Nat → Prop) (w0 w : World) (F : HP) (hij : i < j) (hj : j ≤ len) (hlm : len + m ≤ 1000) (hvs : vs.length = m * 2) (hvi : VIn R w0 F sa vs) (h1v : ∀ u ∈ vs, u.oneCell' = true) (h1x : ∀ u ∈ xs, u.oneCell' = true) (hw : Sat R w0 ([row 49 2 v len xs] ++ [F]) w) : Calls Try.prog 35 #[v, .int .i64 (i : Int), .int .i64 (j : Int), .slice sa m vc] w (fun e w' => ∃ v' : Value, e = .returned v' ∧ Sat R w0 ([row 49 2 v' (len - (j - i) + m) (xs.take (i * 2) ++ vs ++ xs.drop (j * 2))] ++ [F]) w') := by
  have hw : Sat R w0 [row 49 2 v len xs, F] w := hw
  obtain ⟨_, h0, _⟩ | ⟨b, cap, rfl, _, _, _, _⟩ := hw.rowForm (A' := row 49 2 v len xs) .head
  · omega
  obtain ⟨rest, ⟨hfull, hlc, hcm, hxl⟩, hw'⟩ := hw.openRow
  obtain ⟨A, M, B, rfl, hA, hM, hB⟩ : ∃ A M B : List Value, xs = A ++ (M ++ B) ∧ A.length = i * 2 ∧ M.length = (j - i) * 2 ∧ B.length = (len - j) * 2 := by
    refine ⟨xs.take (i * 2), (xs.drop (i * 2)).take ((j - i) * 2), xs.drop (j * 2), ?_, ?_, ?_, ?_⟩
    · have e : xs.drop (j * 2) = (xs.drop (i * 2)).drop ((j - i) * 2) := by rw [List.drop_drop]; congr 1; omega
      rw [e, List.take_append_drop, List.take_append_drop]
    · rw [List.length_take]; omega
    · rw [List.length_take, List.length_drop]; omega
    · rw [List.length_drop]; omega
  have ht : (A ++ (M ++ B)).take (i * 2) = A := by rw [← hA, List.take_left]
  have hdr : (A ++ (M ++ B)).drop (j * 2) = B := by
    have e : j * 2 = A.length + M.length := by omega
    rw [e, ← List.append_assoc, ← List.length_append, List.drop_left]
  rw [ht, hdr]
  have h1B : ∀ u ∈ B, u.oneCell' = true := fun u hu => h1x u (by simp [hu])
  rw [List.length_append, List.length_append, List.length_append] at hfull
  rw [List.append_assoc, List.append_assoc] at hw'
  refine calls_CW (S := Sat R w0 [cel b 49 (A ++ (M ++ (B ++ rest))), F]) Try.func35 rfl Try.ntmps35 rfl (hw') ?_
  refine CW_seq ?_
  refine CW_region ?_
  refine OW_q (q_assign rfl) rfl ?_
  refine OW_nil ?_
  refine EW_then ?_
  refine CW_seq ?_
  refine CW_region ?_
  refine OW_q (q_move rfl) rfl ?_
  refine OW_q (q_move rfl) rfl ?_
  refine OW_q (q_move rfl) rfl ?_
  refine OW_q (q_slice Try.underlying22 Try.sizeOf49 rfl (.inr ⟨_, rfl, rfl⟩) (.inr ⟨_, rfl, rfl⟩) (by omega) (by omega) (by omega)) rfl ?_
  refine OW_nil ?_
  refine EW_then ?_
  refine CW_seq ?_
  refine CW_seq ?_
  refine CW_region ?_
  refine OW_q (q_move rfl) rfl ?_
  refine OW_q (q_move rfl) rfl ?_
  refine OW_q (q_eqi rfl rfl) rfl ?_
  refine OW_nil ?_
  refine EW_then ?_
  refine CW_false rfl (by simp; omega) ?_
  refine CW_skip ?_
  refine EW_then ?_
  refine CW_seq ?_
  refine CW_seq ?_
  refine CW_region ?_
  refine OW_q (q_move rfl) rfl ?_
  refine OW_q (q_move rfl) rfl ?_
  refine OW_q (q_len Try.underlying22 rfl) rfl ?_
  refine OW_q (q_eqi rfl rfl) rfl ?_
  refine OW_nil ?_
  refine EW_then ?_
  refine CW_cond rfl (fun h29 => ?_) (fun h29 => ?_)
  · skip
    have hjl : j = len := by simp at h29; omega
    have hBn : B = [] := List.eq_nil_of_length_eq_zero (by omega)
    subst hBn
    refine CW_seq ?_
    refine CW_region ?_
    refine OW_q (q_move rfl) rfl ?_
    refine OW_q (q_move rfl) rfl ?_
    refine OW_q (q_slice Try.underlying22 Try.sizeOf49 rfl (.inl ⟨rfl, rfl⟩) (.inr ⟨_, rfl, rfl⟩) (by omega) (by omega) (by omega)) rfl ?_
    refine OW_spell 32 (.slice (some ⟨b, 0, none⟩) i cap) rfl sl_zero ?_
    refine OW_q (q_move rfl) rfl ?_
    refine OW_e (e_appendV (size := 2) (b := b) (len := i) (cap := cap) (xs := A) (rest := M ++ ([] ++ rest)) (news := vs) (sa := sa) Try.underlying22 Try.typeInfo49 rfl rfl rfl rfl rfl rfl rfl (by repeat (first | exact .head | apply Pick.tail)) hvs hA (by first | omega | (simp only [List.length_append, List.length_nil]; omega) | (simp only [List.length_append, List.length_drop, List.length_take, List.length_nil] at *; omega)) (by omega) hcm (fun w hw => hw.vin (F := F) (by repeat (first | exact .head | apply Swap.tail)) hvi) h1v (by omega) (by decide)) rfl (fun v34 => ?_)
    refine OW_pure fun hv34 => ?_
    refine OW_q (q_assign rfl) rfl ?_
    refine OW_nil ?_
    refine EW_then ?_
    refine CW_seq ?_
    refine CW_seq ?_
    refine CW_fact (fun w hw => hw.rowSl (A' := row 49 2 v34 (i + m) (A ++ vs)) .head) (fun hf => ?_)
    obtain ⟨p34, c34, rfl, _, _⟩ := hf
    refine CW_region ?_
    refine OW_q (q_move rfl) rfl ?_
    refine OW_q (q_len Try.underlying22 rfl) rfl ?_
    refine OW_q (q_move rfl) rfl ?_
    refine OW_q (q_len Try.underlying22 rfl) rfl ?_
    refine OW_q (q_lss rfl rfl) rfl ?_
    refine OW_nil ?_
    refine EW_then ?_
    refine CW_cond rfl (fun h39 => ?_) (fun h39 => ?_)
    · skip
      have himl : i + m < len := by have := of_decide_eq_true h39; omega
      have e34 := hv34 (by have := of_decide_eq_true h39; omega)
      injection e34 with e1 e2 e3
      subst e1
      subst e3
      refine CW_ex (fun w hw => hw.openRow) (fun rest2 => ?_)
      refine CW_pure fun hr2 => ?_
      obtain ⟨hr2, _, _, hr3⟩ := hr2
      rw [List.length_append] at hr2
      refine CW_weak (S' := Sat R w0 [cel b 49 ((A ++ vs) ++ rest2), F]) (fun w hw => hw) ?_
      refine CW_region ?_
      refine OW_q (q_move rfl) rfl ?_
      refine OW_q (q_move rfl) rfl ?_
      refine OW_q (q_len Try.underlying22 rfl) rfl ?_
      refine OW_q (q_slice Try.underlying22 Try.sizeOf49 rfl (.inr ⟨_, rfl, rfl⟩) (.inl ⟨rfl, rfl⟩) (by omega) (by omega) (by omega)) rfl ?_
      refine OW_e0 (e_clear (size := 2) (b := b) (o := (i + m) * 2) (m := len - (i + m)) (Pre := A ++ vs) (Q0 := rest2) Try.underlying22 Try.zeroValue49 rfl rfl (fun _ => sl_at (by omega)) (by first | omega | (simp only [List.length_append, List.length_drop, List.length_take, List.length_nil]; omega) | (simp only [List.length_append, List.length_drop, List.length_take, List.length_nil] at *; omega)) (by first | omega | (simp only [List.length_append, List.length_drop, List.length_take, List.length_nil]; omega) | (simp only [List.length_append, List.length_drop, List.length_take, List.length_nil] at *; omega)) (by simp [Value.cells, Value.oneCell']) (by repeat (first | exact .head | apply Swap.tail))) (fun _ => ?_)
      refine OW_nil ?_
      refine EW_then ?_
      refine CW_seq ?_
      refine CW_region ?_
      refine OW_q (q_move rfl) rfl ?_
      refine OW_q (q_assign rfl) rfl ?_
      refine OW_nil ?_
      refine EW_then ?_
      refine CW_ret ?_
      refine EW_then_ret ?_
      refine ret1 Try.results35 rfl (fun w hw => ?_)
      have hn : len - (j - i) + m = i + m := by omega
      refine ⟨_, rfl, ?_⟩
      rw [hn, List.append_nil]
      exact Sat.sub (Sat.closeRow (size := 2) (cap := c34) (n := i + m) (hw) (by first | omega | (simp only [List.length_append, List.length_drop, List.length_nil, Array.length_toList, size_zeroCells, Value.cells, List.size_toArray, List.length_cons]; omega)) (by omega) (by omega) (by first | omega | (simp only [List.length_append]; omega))) (by repeat (first | exact SubL.nil | exact Pick.head | apply Pick.tail | apply SubL.cons))
    · skip
      refine CW_skip ?_
      refine EW_then ?_
      refine CW_seq ?_
      refine CW_region ?_
      refine OW_q (q_move rfl) rfl ?_
      refine OW_q (q_assign rfl) rfl ?_
      refine OW_nil ?_
      refine EW_then ?_
      refine CW_ret ?_
      refine EW_then_ret ?_
      refine ret1 Try.results35 rfl (fun w hw => ?_)
      have hn : len - (j - i) + m = i + m := by omega
      refine ⟨_, rfl, ?_⟩
      rw [hn, List.append_nil]
      exact hw
  · skip
    have hjl : j < len := by simp at h29; omega
    refine CW_skip ?_
    refine EW_then ?_
    refine CW_seq ?_
    refine CW_drawS 13 [(0, false), (1, false), (2, false), (3, false), (4, false), (5, false), (6, false), (7, false), (8, false), (9, false), (10, false), (11, false), (12, false)] (by kernel_rfl) (Blind.then Blind.bodyP) (by kernel_rfl) (fun w hw => hw.drew) ?_
    refine DW_q rfl (fun w hw => hw.sub (by (repeat (first | exact SubL.nil | exact Pick.head | apply Pick.tail | apply SubL.cons)))) (q_move rfl) rfl ?_
    refine DW_q rfl (fun w hw => hw.sub (by (repeat (first | exact SubL.nil | exact Pick.head | apply Pick.tail | apply SubL.cons)))) (q_move rfl) rfl ?_
    refine DW_q rfl (fun w hw => hw.sub (by (repeat (first | exact SubL.nil | exact Pick.head | apply Pick.tail | apply SubL.cons)))) (q_slice Try.underlying22 Try.sizeOf49 rfl (.inl ⟨rfl, rfl⟩) (.inr ⟨_, rfl, rfl⟩) (by omega) (by omega) (by omega)) rfl ?_
    refine DW_q rfl (fun w hw => hw.sub (by (repeat (first | exact SubL.nil | exact Pick.head | apply Pick.tail | apply SubL.cons)))) (q_len Try.underlying22 rfl) rfl ?_
    refine DW_q rfl (fun w hw => hw.sub (by (repeat (first | exact SubL.nil | exact Pick.head | apply Pick.tail | apply SubL.cons)))) (q_move rfl) rfl ?_
    refine DW_q rfl (fun w hw => hw.sub (by (repeat (first | exact SubL.nil | exact Pick.head | apply Pick.tail | apply SubL.cons)))) (q_len Try.underlying22 rfl) rfl ?_
    first | refine DW_q rfl (fun w hw => hw.sub (by (repeat (first | exact SubL.nil | exact Pick.head | apply Pick.tail | apply SubL.cons)))) (q_inc rfl rfl (by omega)) rfl ?_ | refine DW_q rfl (fun w hw => hw.sub (by (repeat (first | exact SubL.nil | exact Pick.head | apply Pick.tail | apply SubL.cons)))) (q_add rfl rfl (by omega) (by omega)) rfl ?_
    refine DW_q rfl (fun w hw => hw.sub (by (repeat (first | exact SubL.nil | exact Pick.head | apply Pick.tail | apply SubL.cons)))) (q_move rfl) rfl ?_
    refine DW_q rfl (fun w hw => hw.sub (by (repeat (first | exact SubL.nil | exact Pick.head | apply Pick.tail | apply SubL.cons)))) (q_move rfl) rfl ?_
    refine DW_q rfl (fun w hw => hw.sub (by (repeat (first | exact SubL.nil | exact Pick.head | apply Pick.tail | apply SubL.cons)))) (q_slice Try.underlying22 Try.sizeOf49 rfl (.inr ⟨_, rfl, rfl⟩) (.inl ⟨rfl, rfl⟩) (by omega) (by omega) (by omega)) rfl ?_
    refine DW_q rfl (fun w hw => hw.sub (by (repeat (first | exact SubL.nil | exact Pick.head | apply Pick.tail | apply SubL.cons)))) (q_len Try.underlying22 rfl) rfl ?_
    first | refine DW_q rfl (fun w hw => hw.sub (by (repeat (first | exact SubL.nil | exact Pick.head | apply Pick.tail | apply SubL.cons)))) (q_inc rfl rfl (by omega)) rfl ?_ | refine DW_q rfl (fun w hw => hw.sub (by (repeat (first | exact SubL.nil | exact Pick.head | apply Pick.tail | apply SubL.cons)))) (q_add rfl rfl (by omega) (by omega)) rfl ?_
    refine DW_q rfl (fun w hw => hw.sub (by (repeat (first | exact SubL.nil | exact Pick.head | apply Pick.tail | apply SubL.cons)))) (q_assign rfl) rfl ?_
    refine DW_nil ?_
    refine EW_then ?_
    refine CW_seq ?_
    refine CW_seq ?_
    refine CW_spell 10 (.int .i64 (((i + m + (len - j)) : Nat) : Int)) rfl rfl ?_
    refine CW_region ?_
    refine OW_q (q_move rfl) rfl ?_
    refine OW_q (q_move rfl) rfl ?_
    refine OW_q (q_cap Try.underlying22 rfl) rfl ?_
    refine OW_q (q_gtr rfl rfl) rfl ?_
    refine OW_nil ?_
    refine EW_then ?_
    refine CW_cond rfl (fun h60 => ?_) (fun h60 => ?_)
    · skip
      have htc : cap < (i + m + (len - j)) := by have := of_decide_eq_true h60; omega
      refine CW_seq ?_
      refine CW_region ?_
      refine OW_q (q_move rfl) rfl ?_
      refine OW_q (q_move rfl) rfl ?_
      refine OW_q (q_slice Try.underlying22 Try.sizeOf49 rfl (.inl ⟨rfl, rfl⟩) (.inr ⟨_, rfl, rfl⟩) (by omega) (by omega) (by omega)) rfl ?_
      refine OW_spell 63 (.slice (some ⟨b, 0, none⟩) i cap) rfl sl_zero ?_
      refine OW_q (q_move rfl) rfl ?_
      refine OW_q (q_move rfl) rfl ?_
      refine OW_q (q_sub rfl rfl (by omega) (by omega)) rfl ?_
      refine OW_spell 66 (.int .i64 ((m + (len - j) : Nat) : Int)) rfl (congrArg (Value.int .i64) (by omega)) ?_
      refine OW_e (e_appendZ (size := 2) (b := b) (len := i) (cap := cap) (m := m + (len - j)) (xs := A) (rest := M ++ (B ++ rest)) Try.underlying22 Try.underlying3 Try.typeInfo49 rfl rfl rfl rfl rfl rfl rfl (by repeat (first | exact .head | apply Swap.tail)) hA (by omega) (by omega) (by decide)) rfl (fun y67 => ?_)
      refine OW_pure fun hy => ?_
      obtain ⟨hy1, hy2, hy3⟩ := hy
      rw [List.length_append] at hy1
      refine OW_q (q_assign rfl) rfl ?_
      refine OW_nil ?_
      refine EW_then ?_
      refine CW_seq ?_
      refine CW_region ?_
      refine OW_q (q_move rfl) rfl ?_
      refine OW_q (q_move rfl) rfl ?_
      refine OW_q (q_slice Try.underlying22 Try.sizeOf49 rfl (.inr ⟨_, rfl, rfl⟩) (.inl ⟨rfl, rfl⟩) (by omega) (by omega) (by omega)) rfl ?_
      refine OW_q (q_move rfl) rfl ?_
      refine OW_e (e_copy (size := 2) (b := y67.1) (o := (i) * 2) (Pre := A) (Q0 := y67.2.2) (vs := vs) Try.underlying22 Try.typeInfo49 rfl rfl rfl rfl (fun _ => sl_at (by omega)) (by rw [hvs]; congr 1; omega) ((fun w hw => hw.vin (F := F) (by repeat (first | exact .head | apply Swap.tail)) hvi)) (by first | omega | (simp only [List.length_append, List.length_drop, List.length_take, List.length_nil]; omega) | (simp only [List.length_append, List.length_drop, List.length_take, List.length_nil] at *; omega)) (by first | omega | (simp only [List.length_append, List.length_drop, List.length_take, List.length_nil]; omega) | (simp only [List.length_append, List.length_drop, List.length_take, List.length_nil] at *; omega)) h1v (by repeat (first | exact .head | apply Swap.tail))) rfl (fun _ => ?_)
      refine OW_nil ?_
      refine EW_then ?_
      refine CW_seq ?_
      refine CW_weak (S' := Sat R w0 [cel y67.1 49 ((A ++ vs) ++ y67.2.2.drop vs.length), cel b 49 (A ++ (M ++ (B ++ rest))), F]) (fun w hw => by rw [List.append_assoc]; exact hw) ?_
      refine CW_drawS 9 [(0, false), (1, false), (2, false), (3, false), (4, false), (5, false), (6, false), (7, false), (8, false), (9, true)] (by kernel_rfl) (Blind.then (Blind.then Blind.bodyP)) (by kernel_rfl) (fun w hw => hw.drew) ?_
      refine DW_q rfl (fun w hw => hw.sub (by (repeat (first | exact SubL.nil | exact Pick.head | apply Pick.tail | apply SubL.cons)))) (q_move rfl) rfl ?_
      refine DW_q rfl (fun w hw => hw.sub (by (repeat (first | exact SubL.nil | exact Pick.head | apply Pick.tail | apply SubL.cons)))) (q_move rfl) rfl ?_
      refine DW_q rfl (fun w hw => hw.sub (by (repeat (first | exact SubL.nil | exact Pick.head | apply Pick.tail | apply SubL.cons)))) (q_move rfl) rfl ?_
      refine DW_q rfl (fun w hw => hw.sub (by (repeat (first | exact SubL.nil | exact Pick.head | apply Pick.tail | apply SubL.cons)))) (q_len Try.underlying22 rfl) rfl ?_
      first | refine DW_q rfl (fun w hw => hw.sub (by (repeat (first | exact SubL.nil | exact Pick.head | apply Pick.tail | apply SubL.cons)))) (q_inc rfl rfl (by omega)) rfl ?_ | refine DW_q rfl (fun w hw => hw.sub (by (repeat (first | exact SubL.nil | exact Pick.head | apply Pick.tail | apply SubL.cons)))) (q_add rfl rfl (by omega) (by omega)) rfl ?_
      refine DW_q rfl (fun w hw => hw.sub (by (repeat (first | exact SubL.nil | exact Pick.head | apply Pick.tail | apply SubL.cons)))) (q_slice Try.underlying22 Try.sizeOf49 rfl (.inr ⟨_, rfl, rfl⟩) (.inl ⟨rfl, rfl⟩) (by omega) (by omega) (by omega)) rfl ?_
      refine DW_q rfl (fun w hw => hw.sub (by (repeat (first | exact SubL.nil | exact Pick.head | apply Pick.tail | apply SubL.cons)))) (q_move rfl) rfl ?_
      refine DW_q rfl (fun w hw => hw.sub (by (repeat (first | exact SubL.nil | exact Pick.head | apply Pick.tail | apply SubL.cons)))) (q_move rfl) rfl ?_
      refine DW_q rfl (fun w hw => hw.sub (by (repeat (first | exact SubL.nil | exact Pick.head | apply Pick.tail | apply SubL.cons)))) (q_slice Try.underlying22 Try.sizeOf49 rfl (.inr ⟨_, rfl, rfl⟩) (.inl ⟨rfl, rfl⟩) (by omega) (by omega) (by omega)) rfl ?_
      refine DW_z rfl (e_copy (size := 2) (b := y67.1) (o := (i + m) * 2) (Pre := A ++ vs) (Q0 := y67.2.2.drop vs.length) (vs := B) Try.underlying22 Try.typeInfo49 rfl rfl rfl rfl (fun _ => sl_at (by omega)) (by rw [hB]; congr 1; omega) (fun w hw k u hk => ⟨_, sl_at (by omega), by rw [Addr.add_lit, hw.cell (t := 49) (cs := A ++ (M ++ (B ++ rest))) (A' := cel b 49 (A ++ (M ++ (B ++ rest)))) (by repeat (first | exact .head | apply Swap.tail))]; exact cells_at (by first | omega | (simp only [List.length_append, List.length_drop]; omega)) hk⟩) (by first | omega | (simp only [List.length_append]; omega) | (simp only [List.length_append, List.length_drop, List.length_take, List.length_nil] at *; omega)) (by first | omega | (simp only [List.length_drop]; omega) | (simp only [List.length_append, List.length_drop, List.length_take, List.length_nil] at *; omega)) h1B (by repeat (first | exact .head | apply Swap.tail))) rfl (fun _ => ?_)
      refine EW_then ?_
      refine CW_seq ?_
      refine CW_region ?_
      refine OW_q (q_move rfl) rfl ?_
      refine OW_q (q_assign rfl) rfl ?_
      refine OW_nil ?_
      refine EW_then ?_
      refine CW_ret ?_
      refine EW_then_ret ?_
      refine ret1 Try.results35 rfl (fun w hw => ?_)
      have hn : len - (j - i) + m = (i + (m + (len - j))) := by omega
      refine ⟨_, rfl, ?_⟩
      rw [hn]
      exact Sat.sub (Sat.closeRow (size := 2) (cap := y67.2.1) (n := (i + (m + (len - j)))) ((by rw [← List.append_assoc] at hw; exact hw)) (by first | omega | (simp only [List.length_append, List.length_drop]; omega)) (by omega) (by omega) (by first | omega | (simp only [List.length_append]; omega))) (by repeat (first | exact SubL.nil | exact Pick.head | apply Pick.tail | apply SubL.cons))
    · skip
      have htc : (i + m + (len - j)) ≤ cap := by have := of_decide_eq_false h60; omega
      refine CW_skip ?_
      refine EW_then ?_
      refine CW_seq ?_
      refine CW_region ?_
      refine OW_q (q_move rfl) rfl ?_
      refine OW_q (q_move rfl) rfl ?_
      refine OW_q (q_slice Try.underlying22 Try.sizeOf49 rfl (.inl ⟨rfl, rfl⟩) (.inr ⟨_, rfl, rfl⟩) (by omega) (by omega) (by omega)) rfl ?_
      refine OW_q (q_assign rfl) rfl ?_
      refine OW_nil ?_
      refine EW_then ?_
      refine CW_seq ?_
      refine CW_seq ?_
      refine CW_spell 12 (.slice (some ⟨b, 0, none⟩) (i + m + (len - j)) cap) rfl sl_zero ?_
      refine CW_region ?_
      refine OW_q (q_move rfl) rfl ?_
      refine OW_q (q_move rfl) rfl ?_
      refine OW_q (q_len Try.underlying22 rfl) rfl ?_
      first | refine OW_q (q_inc rfl rfl (by omega)) rfl ?_ | refine OW_q (q_add rfl rfl (by omega) (by omega)) rfl ?_
      refine OW_q (q_move rfl) rfl ?_
      refine OW_q (q_leq rfl rfl) rfl ?_
      refine OW_nil ?_
      refine EW_then ?_
      refine CW_cond rfl (fun h92 => ?_) (fun h92 => ?_)
      · skip
        have him : i + m ≤ j := by have := of_decide_eq_true h92; omega
        refine CW_seq ?_
        refine CW_region ?_
        refine OW_q (q_move rfl) rfl ?_
        refine OW_q (q_move rfl) rfl ?_
        refine OW_q (q_slice Try.underlying22 Try.sizeOf49 rfl (.inr ⟨_, rfl, rfl⟩) (.inl ⟨rfl, rfl⟩) (by omega) (by omega) (by omega)) rfl ?_
        refine OW_q (q_move rfl) rfl ?_
        refine OW_e (e_copy (size := 2) (b := b) (o := (i) * 2) (Pre := A) (Q0 := M ++ (B ++ rest)) (vs := vs) Try.underlying22 Try.typeInfo49 rfl rfl rfl rfl (fun _ => sl_at (by omega)) (by rw [hvs]; congr 1; omega) ((fun w hw => hw.vin (F := F) (by repeat (first | exact .head | apply Swap.tail)) hvi)) (by first | omega | (simp only [List.length_append, List.length_drop, List.length_take, List.length_nil]; omega) | (simp only [List.length_append, List.length_drop, List.length_take, List.length_nil] at *; omega)) (by first | omega | (simp only [List.length_append]; omega) | (simp only [List.length_append, List.length_drop, List.length_take, List.length_nil] at *; omega)) h1v (by repeat (first | exact .head | apply Swap.tail))) rfl (fun _ => ?_)
        refine OW_nil ?_
        refine EW_then ?_
        refine CW_seq ?_
        refine CW_weak (S' := Sat R w0 [cel b 49 ((A ++ vs) ++ (M.drop vs.length ++ (B ++ rest))), F]) (fun w hw => by
          rw [List.drop_append_of_le_length (by omega)] at hw
          rw [List.append_assoc]; exact hw) ?_
        refine CW_drawS 9 [(0, false), (1, false), (2, false), (3, false), (4, false), (5, false), (6, false), (7, false), (8, false), (9, true)] (by kernel_rfl) (Blind.then (Blind.then Blind.bodyP)) (by kernel_rfl) (fun w hw => hw.drew) ?_
        refine DW_q rfl (fun w hw => hw.sub (by (repeat (first | exact SubL.nil | exact Pick.head | apply Pick.tail | apply SubL.cons)))) (q_move rfl) rfl ?_
        refine DW_q rfl (fun w hw => hw.sub (by (repeat (first | exact SubL.nil | exact Pick.head | apply Pick.tail | apply SubL.cons)))) (q_move rfl) rfl ?_
        refine DW_q rfl (fun w hw => hw.sub (by (repeat (first | exact SubL.nil | exact Pick.head | apply Pick.tail | apply SubL.cons)))) (q_move rfl) rfl ?_
        refine DW_q rfl (fun w hw => hw.sub (by (repeat (first | exact SubL.nil | exact Pick.head | apply Pick.tail | apply SubL.cons)))) (q_len Try.underlying22 rfl) rfl ?_
        first | refine DW_q rfl (fun w hw => hw.sub (by (repeat (first | exact SubL.nil | exact Pick.head | apply Pick.tail | apply SubL.cons)))) (q_inc rfl rfl (by omega)) rfl ?_ | refine DW_q rfl (fun w hw => hw.sub (by (repeat (first | exact SubL.nil | exact Pick.head | apply Pick.tail | apply SubL.cons)))) (q_add rfl rfl (by omega) (by omega)) rfl ?_
        refine DW_q rfl (fun w hw => hw.sub (by (repeat (first | exact SubL.nil | exact Pick.head | apply Pick.tail | apply SubL.cons)))) (q_slice Try.underlying22 Try.sizeOf49 rfl (.inr ⟨_, rfl, rfl⟩) (.inl ⟨rfl, rfl⟩) (by omega) (by omega) (by omega)) rfl ?_
        refine DW_q rfl (fun w hw => hw.sub (by (repeat (first | exact SubL.nil | exact Pick.head | apply Pick.tail | apply SubL.cons)))) (q_move rfl) rfl ?_
        refine DW_q rfl (fun w hw => hw.sub (by (repeat (first | exact SubL.nil | exact Pick.head | apply Pick.tail | apply SubL.cons)))) (q_move rfl) rfl ?_
        refine DW_q rfl (fun w hw => hw.sub (by (repeat (first | exact SubL.nil | exact Pick.head | apply Pick.tail | apply SubL.cons)))) (q_slice Try.underlying22 Try.sizeOf49 rfl (.inr ⟨_, rfl, rfl⟩) (.inl ⟨rfl, rfl⟩) (by omega) (by omega) (by omega)) rfl ?_
        refine DW_z rfl (e_copy (size := 2) (b := b) (o := (i + m) * 2) (Pre := A ++ vs) (Q0 := M.drop vs.length ++ (B ++ rest)) (vs := B) Try.underlying22 Try.typeInfo49 rfl rfl rfl rfl (fun _ => sl_at (by omega)) (by rw [hB]; congr 1; omega) (fun w hw k u hk => ⟨_, sl_at (by omega), by rw [Addr.add_lit, hw.cell (t := 49) (cs := (A ++ vs) ++ (M.drop vs.length ++ (B ++ rest))) (A' := cel b 49 ((A ++ vs) ++ (M.drop vs.length ++ (B ++ rest)))) (by repeat (first | exact .head | apply Swap.tail))]; exact cells_at (by first | omega | (simp only [List.length_append, List.length_drop]; omega)) hk⟩) (by first | omega | (simp only [List.length_append]; omega) | (simp only [List.length_append, List.length_drop, List.length_take, List.length_nil] at *; omega)) (by first | omega | (simp only [List.length_append, List.length_drop]; omega) | (simp only [List.length_append, List.length_drop, List.length_take, List.length_nil] at *; omega)) h1B (by repeat (first | exact .head | apply Swap.tail))) rfl (fun _ => ?_)
        refine EW_then ?_
        refine CW_seq ?_
        refine CW_weak (S' := Sat R w0 [cel b 49 (((A ++ vs) ++ B) ++ (M.drop vs.length ++ (B ++ rest)).drop B.length), F]) (fun w hw => by rw [List.append_assoc]; exact hw) ?_
        refine CW_region ?_
        refine OW_q (q_move rfl) rfl ?_
        refine OW_q (q_move rfl) rfl ?_
        refine OW_q (q_slice Try.underlying22 Try.sizeOf49 rfl (.inr ⟨_, rfl, rfl⟩) (.inl ⟨rfl, rfl⟩) (by omega) (by omega) (by omega)) rfl ?_
        refine OW_e0 (e_clear (size := 2) (b := b) (o := (i + m + (len - j)) * 2) (m := len - (i + m + (len - j))) (Pre := (A ++ vs) ++ B) (Q0 := (M.drop vs.length ++ (B ++ rest)).drop B.length) Try.underlying22 Try.zeroValue49 rfl rfl (fun hne => sl_at (by omega)) (by first | omega | (simp only [List.length_append]; omega) | (simp only [List.length_append, List.length_drop, List.length_take, List.length_nil] at *; omega)) (by first | omega | (simp only [List.length_append, List.length_drop]; omega) | (simp only [List.length_append, List.length_drop, List.length_take, List.length_nil] at *; omega)) (by simp [Value.cells, Value.oneCell']) (by repeat (first | exact .head | apply Swap.tail))) (fun _ => ?_)
        refine OW_nil ?_
        refine EW_then ?_
        refine CW_seq ?_
        refine CW_region ?_
        refine OW_q (q_move rfl) rfl ?_
        refine OW_q (q_assign rfl) rfl ?_
        refine OW_nil ?_
        refine EW_then ?_
        refine CW_ret ?_
        refine EW_then_ret ?_
        refine ret1 Try.results35 rfl (fun w hw => ?_)
        have hn : len - (j - i) + m = (i + m + (len - j)) := by omega
        refine ⟨_, rfl, ?_⟩
        rw [hn]
        exact Sat.sub (Sat.closeRow (size := 2) (cap := cap) (n := (i + m + (len - j))) (hw) (by first | omega | (simp only [List.length_append, List.length_drop, List.length_nil, Array.length_toList, size_zeroCells, Value.cells, List.size_toArray, List.length_cons]; omega)) (by omega) (by omega) (by first | omega | (simp only [List.length_append]; omega))) (by repeat (first | exact SubL.nil | exact Pick.head | apply Pick.tail | apply SubL.cons))
      · skip
        have him : j < i + m := by have := of_decide_eq_false h92; omega
        obtain ⟨u0, us, hvc⟩ : ∃ u us, vs = u :: us := by
          cases hv : vs with
          | nil => rw [hv] at hvs; simp at hvs; omega
          | cons u us => exact ⟨u, us, rfl⟩
        refine CW_skip ?_
        refine EW_then ?_
        refine CW_seq ?_
        refine CW_seq ?_
        refine CW_region ?_
        refine OW_q (q_move rfl) rfl ?_
        refine OW_q (q_move rfl) rfl ?_
        refine OW_q (q_move rfl) rfl ?_
        refine OW_q (q_len Try.underlying22 rfl) rfl ?_
        first | refine OW_q (q_inc rfl rfl (by omega)) rfl ?_ | refine OW_q (q_add rfl rfl (by omega) (by omega)) rfl ?_
        refine OW_q (q_slice Try.underlying22 Try.sizeOf49 rfl (.inr ⟨_, rfl, rfl⟩) (.inl ⟨rfl, rfl⟩) (by omega) (by omega) (by omega)) rfl ?_
        refine OW_q (q_move rfl) rfl ?_
        refine OW_e (e_overlaps (tS := 22) (tR := 4) Try.func53 (by kernel_rfl) (by kernel_rfl) (by kernel_rfl) (by kernel_rfl) rfl rfl (fun w hw => by
          obtain ⟨a2, ha2, hne, T2, k2, hs2, hk2⟩ := hw.vapart hvi 0 u0 (by rw [hvc]; rfl)
          have hb := (hw.block (A' := emp0H) .head (fun x hx => by rw [hx]; exact one_same _ _)).1
          rw [ha2, sl_at (by omega)]
          exact Lib.run_overlaps_apart w 22 4 49 Try.underlying22 2 Try.sizeOf49 _ _ _ _ _ _ hne 49 T2 _ k2 (by simp only [World.shape?, hb]; rfl) hs2 hk2 (hw.unfrozen (A' := emp0H) .head _) (hw.unfrozen (A' := emp0H) .head _))) rfl (fun _ => ?_)
        refine OW_q (q_not rfl) rfl ?_
        refine OW_nil ?_
        refine EW_then ?_
        refine CW_true rfl (rfl) ?_
        refine CW_seq ?_
        refine CW_weak (S' := Sat R w0 [cel b 49 ((A ++ (M ++ (B ++ rest)).take vs.length) ++ (M ++ (B ++ rest)).drop vs.length), F]) (fun w hw => by rw [List.append_assoc, List.take_append_drop]; exact hw) ?_
        refine CW_drawS 9 [(0, false), (1, false), (2, false), (3, false), (4, false), (5, false), (6, false), (7, false), (8, false), (9, true)] (by kernel_rfl) (Blind.then (Blind.then Blind.bodyP)) (by kernel_rfl) (fun w hw => hw.drew) ?_
        refine DW_q rfl (fun w hw => hw.sub (by (repeat (first | exact SubL.nil | exact Pick.head | apply Pick.tail | apply SubL.cons)))) (q_move rfl) rfl ?_
        refine DW_q rfl (fun w hw => hw.sub (by (repeat (first | exact SubL.nil | exact Pick.head | apply Pick.tail | apply SubL.cons)))) (q_move rfl) rfl ?_
        refine DW_q rfl (fun w hw => hw.sub (by (repeat (first | exact SubL.nil | exact Pick.head | apply Pick.tail | apply SubL.cons)))) (q_move rfl) rfl ?_
        refine DW_q rfl (fun w hw => hw.sub (by (repeat (first | exact SubL.nil | exact Pick.head | apply Pick.tail | apply SubL.cons)))) (q_len Try.underlying22 rfl) rfl ?_
        first | refine DW_q rfl (fun w hw => hw.sub (by (repeat (first | exact SubL.nil | exact Pick.head | apply Pick.tail | apply SubL.cons)))) (q_inc rfl rfl (by omega)) rfl ?_ | refine DW_q rfl (fun w hw => hw.sub (by (repeat (first | exact SubL.nil | exact Pick.head | apply Pick.tail | apply SubL.cons)))) (q_add rfl rfl (by omega) (by omega)) rfl ?_
        refine DW_q rfl (fun w hw => hw.sub (by (repeat (first | exact SubL.nil | exact Pick.head | apply Pick.tail | apply SubL.cons)))) (q_slice Try.underlying22 Try.sizeOf49 rfl (.inr ⟨_, rfl, rfl⟩) (.inl ⟨rfl, rfl⟩) (by omega) (by omega) (by omega)) rfl ?_
        refine DW_q rfl (fun w hw => hw.sub (by (repeat (first | exact SubL.nil | exact Pick.head | apply Pick.tail | apply SubL.cons)))) (q_move rfl) rfl ?_
        refine DW_q rfl (fun w hw => hw.sub (by (repeat (first | exact SubL.nil | exact Pick.head | apply Pick.tail | apply SubL.cons)))) (q_move rfl) rfl ?_
        refine DW_q rfl (fun w hw => hw.sub (by (repeat (first | exact SubL.nil | exact Pick.head | apply Pick.tail | apply SubL.cons)))) (q_slice Try.underlying22 Try.sizeOf49 rfl (.inr ⟨_, rfl, rfl⟩) (.inl ⟨rfl, rfl⟩) (by omega) (by omega) (by omega)) rfl ?_
        refine DW_z rfl (e_copy (size := 2) (b := b) (o := (i + m) * 2) (Pre := A ++ (M ++ (B ++ rest)).take vs.length) (Q0 := (M ++ (B ++ rest)).drop vs.length) (vs := B) Try.underlying22 Try.typeInfo49 rfl rfl rfl rfl (fun _ => sl_at (by omega)) (by rw [hB]; congr 1; omega) (fun w hw k u hk => ⟨_, sl_at (by omega), by rw [Addr.add_lit, hw.cell (t := 49) (cs := (A ++ (M ++ (B ++ rest)).take vs.length) ++ (M ++ (B ++ rest)).drop vs.length) (A' := cel b 49 ((A ++ (M ++ (B ++ rest)).take vs.length) ++ (M ++ (B ++ rest)).drop vs.length)) (by repeat (first | exact .head | apply Swap.tail))]; rw [List.append_assoc, List.take_append_drop]; exact cells_at (by first | omega | (simp only [List.length_append, List.length_drop]; omega)) hk⟩) (by first | omega | (simp only [List.length_append, List.length_take]; omega) | (simp only [List.length_append, List.length_drop, List.length_take, List.length_nil] at *; omega)) (by first | omega | (simp only [List.length_append, List.length_drop]; omega) | (simp only [List.length_append, List.length_drop, List.length_take, List.length_nil] at *; omega)) h1B (by repeat (first | exact .head | apply Swap.tail))) rfl (fun _ => ?_)
        refine EW_then ?_
        refine CW_seq ?_
        refine CW_weak (S' := Sat R w0 [cel b 49 (A ++ ((M ++ (B ++ rest)).take vs.length ++ (B ++ ((M ++ (B ++ rest)).drop vs.length).drop B.length))), F]) (fun w hw => by rw [← List.append_assoc]; exact hw) ?_
        refine CW_region ?_
        refine OW_q (q_move rfl) rfl ?_
        refine OW_q (q_move rfl) rfl ?_
        refine OW_q (q_slice Try.underlying22 Try.sizeOf49 rfl (.inr ⟨_, rfl, rfl⟩) (.inl ⟨rfl, rfl⟩) (by omega) (by omega) (by omega)) rfl ?_
        refine OW_q (q_move rfl) rfl ?_
        refine OW_e (e_copy (size := 2) (b := b) (o := (i) * 2) (Pre := A) (Q0 := (M ++ (B ++ rest)).take vs.length ++ (B ++ ((M ++ (B ++ rest)).drop vs.length).drop B.length)) (vs := vs) Try.underlying22 Try.typeInfo49 rfl rfl rfl rfl (fun _ => sl_at (by omega)) (by rw [hvs]; congr 1; omega) ((fun w hw => hw.vin (F := F) (by repeat (first | exact .head | apply Swap.tail)) hvi)) (by first | omega | (simp only [List.length_append, List.length_drop, List.length_take, List.length_nil]; omega) | (simp only [List.length_append, List.length_drop, List.length_take, List.length_nil] at *; omega)) (by first | omega | (simp only [List.length_append, List.length_drop, List.length_take]; omega) | (simp only [List.length_append, List.length_drop, List.length_take, List.length_nil] at *; omega)) h1v (by repeat (first | exact .head | apply Swap.tail))) rfl (fun _ => ?_)
        refine OW_nil ?_
        refine EW_then ?_
        refine CW_seq ?_
        refine CW_region ?_
        refine OW_q (q_move rfl) rfl ?_
        refine OW_q (q_assign rfl) rfl ?_
        refine OW_nil ?_
        refine EW_then ?_
        refine CW_ret ?_
        refine EW_then_ret ?_
        refine ret1 Try.results35 rfl (fun w hw => ?_)
        have hX : ((M ++ (B ++ rest)).take vs.length).length = vs.length := by rw [List.length_take, List.length_append, List.length_append]; omega
        rw [List.drop_append_of_le_length (Nat.le_of_eq hX.symm), List.drop_eq_nil_of_le (Nat.le_of_eq hX), List.nil_append, ← List.append_assoc, ← List.append_assoc] at hw
        have hn : len - (j - i) + m = (i + m + (len - j)) := by omega
        refine ⟨_, rfl, ?_⟩
        rw [hn]
        exact Sat.sub (Sat.closeRow (size := 2) (cap := cap) (n := (i + m + (len - j))) (hw) (by first | omega | (simp only [List.length_append, List.length_drop]; omega)) (by omega) (by omega) (by first | omega | (simp only [List.length_append]; omega))) (by repeat (first | exact SubL.nil | exact Pick.head | apply Pick.tail | apply SubL.cons))

set_option maxRecDepth 20000 in
theorem cloneS_any (sa : Option Addr) (vs : List Value) (m vc : Nat) (R : Nat → Prop) (w0 w : World) (F : HP) (hm : m ≤ 1000) (hvs : vs.length = m * 2) (hvi : VIn R w0 F sa vs) (h1v : ∀ u ∈ vs, u.oneCell' = true) (hw : Sat R w0 [F] w) : Calls Try.prog 33 #[.slice sa m vc] w (fun e w' => ∃ v' : Value, e = .returned v' ∧ Sat R w0 ([row 51 2 v' m vs] ++ [F]) w') := by
  refine calls_CW (S := Sat R w0 [F]) Try.func33 rfl Try.ntmps33 rfl (hw) ?_
  refine CW_seq ?_
  refine CW_region ?_
  refine OW_q (q_assign rfl) rfl ?_
  refine OW_nil ?_
  refine EW_then ?_
  refine CW_seq ?_
  refine CW_seq ?_
  refine CW_region ?_
  refine OW_q (q_move rfl) rfl ?_
  refine OW_q (q_eqNilSlice Try.underlying46 rfl rfl) rfl ?_
  refine OW_nil ?_
  refine EW_then ?_
  refine CW_cond rfl (fun h4 => ?_) (fun h4 => ?_)
  · skip
    have hv0 : vs = [] := by
      cases sa with
      | some a => cases h4
      | none =>
        cases hv : vs with
        | nil => rfl
        | cons u us =>
          obtain ⟨y, hy, hz⟩ := hw.own
          obtain ⟨g1, g2, hd, rfl, hA, _⟩ := hy
          obtain ⟨a, ha, _⟩ := hvi g1 hA w (fun b hb => (hw.ro b hb).2) (fun b o hb => (hz b o (by simp [uni, hb])).2) 0 u (by rw [hv]; rfl)
          cases ha
    subst hv0
    have hm0 : m = 0 := by simp at hvs; omega
    subst hm0
    refine CW_seq ?_
    refine CW_region ?_
    refine OW_q (q_assign rfl) rfl ?_
    refine OW_nil ?_
    refine EW_then ?_
    refine CW_ret ?_
    refine EW_then_ret ?_
    refine ret1 Try.results33 rfl (fun w hw => ?_)
    exact ⟨_, rfl, hw.rowNil 51 2⟩
  · skip
    refine CW_skip ?_
    refine EW_then ?_
    refine CW_seq ?_
    refine CW_region ?_
    refine OW_e (e_none Try.underlying46 Try.sizeOf51 Try.zeroValue51) rfl (fun b5 => ?_)
    refine OW_q (q_move rfl) rfl ?_
    refine OW_e (e_appendV (size := 2) (b := b5) (len := 0) (cap := 0) (xs := []) (rest := []) (news := vs) (sa := sa) Try.underlying46 Try.typeInfo51 rfl rfl rfl rfl rfl rfl rfl (by repeat (first | exact .head | apply Pick.tail)) hvs rfl rfl (Nat.le_refl _) (Nat.zero_le _) (fun w hw => hw.vin (F := F) (by repeat (first | exact .head | apply Swap.tail)) hvi) h1v (by omega) (by decide)) rfl (fun v7 => ?_)
    refine OW_pure fun _ => ?_
    refine OW_q (q_assign rfl) rfl ?_
    refine OW_nil ?_
    refine EW_then ?_
    refine CW_ret ?_
    refine ret1 Try.results33 rfl (fun w hw => ?_)
    rw [List.nil_append, Nat.zero_add] at hw
    exact ⟨v7, rfl, hw⟩

end Go.Sy
