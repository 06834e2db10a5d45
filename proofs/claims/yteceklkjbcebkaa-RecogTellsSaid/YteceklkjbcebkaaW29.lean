/- Package recog: a name's rules begun; a row read. No condition. -/
import Derived.Test.YteceklkjbcebkaaW28
import Derived.Test.YteceklkjbcebkaaTree
namespace Go.Sy
open Go Go.RowKit Go.Proofs

abbrev Ls (S : List RowS) : List (List Itt) := S.map (·.l)
theorem rowAt_S {S : List RowS} {i : Nat} {r : RowS} (h : S[i]? = some r) : rowAt (Ls S) i = r.l := rowAt_get (by unfold Ls; rw [List.getElem?_map, h]; rfl)
theorem rowAt_none {S : List RowS} {i : Nat} (h : S[i]? = none) : rowAt (Ls S) i = [] := by
  unfold rowAt Ls; rw [List.getD_eq_getElem?_getD, List.getElem?_map, h]; rfl
theorem grow_pre {S S' : List RowS} {i : Nat} (h : Grow S S' i) (j : Nat) : rowAt (Ls S) j <+: rowAt (Ls S') j := by
  by_cases e : j = i
  · subst e
    cases hj : S[j]? with
    | none => rw [rowAt_none hj]; exact List.nil_prefix
    | some r =>
      obtain ⟨r', h1, _, _, _, h2⟩ := h.here r hj
      rw [rowAt_S hj, rowAt_S h1]; exact h2
  · cases hj : S[j]? with
    | none => rw [rowAt_none hj]; exact List.nil_prefix
    | some r => rw [rowAt_S hj, rowAt_S ((h.other j e).trans hj)]; exact List.prefix_refl _
theorem grow_mem {S S' : List RowS} {i : Nat} (h : Grow S S' i) {j : Nat} {x : Itt} (hx : x ∈ rowAt (Ls S) j) : x ∈ rowAt (Ls S') j := (grow_pre h j).subset hx
theorem grow_same {S S' : List RowS} {i : Nat} (h : Grow S S' i) {j : Nat} (hj : j ≠ i) : rowAt (Ls S') j = rowAt (Ls S) j := by
  cases hs : S[j]? with
  | none => rw [rowAt_none hs, rowAt_none ((h.other j hj).trans hs)]
  | some r => rw [rowAt_S hs, rowAt_S ((h.other j hj).trans hs)]

set_option maxRecDepth 20000 in
theorem rbegin_any (g : Gram) (hm : mayB g = true) (tk : List Int) (htk : tk.length ≤ 30) (a : Option Addr) (c bc : Nat) (tkv vs vr : Value) (at_ : Nat) (hat : at_ ≤ tk.length) (nm : Int) (S : List RowS) (hI : ChI g tk S) (R : Nat → Prop) (w0 w : World) (F : HP) (hr : RulesAt (Rd R w0) (.slice a g.rules.length c) g.rules) (hw : Sat R w0 ([cel bc 79 [.int .i64 g.terms, .int .i64 g.names, .slice a g.rules.length c, tkv, vs, vr], msA vs (S), hsA vr (S), mapsA (S), rowsA (S)] ++ [F]) w) : Calls Try.prog 42 #[.pointer (some ⟨bc, 0, none⟩), .int .i64 (at_ : Int), .int .i64 nm] w (fun e w' => ∃ S' : List RowS, e = .returned (.tuple #[]) ∧ (ChI g tk S' ∧ Grow S S' at_ ∧ ∀ k q, g.rules[k]? = some q → q.left = nm → (⟨k, 0, at_⟩ : Itt) ∈ rowAt (Ls S') at_) ∧ Sat R w0 ([cel bc 79 [.int .i64 g.terms, .int .i64 g.names, .slice a g.rules.length c, tkv, vs, vr], msA vs (S'), hsA vr (S'), mapsA (S'), rowsA (S')] ++ [F]) w') := by
  obtain ⟨a', c', hv, hc1, hc2, hrs⟩ := id hr
  injection hv with e1 _ e2
  subst e1
  subst e2
  have hM := mayB_true.1 hm
  refine calls_CW (S := Sat R w0 [cel bc 79 [.int .i64 g.terms, .int .i64 g.names, .slice a g.rules.length c, tkv, vs, vr], msA vs (S), hsA vr (S), mapsA (S), rowsA (S), F]) Try.func42 rfl Try.ntmps42 rfl (hw) ?_
  refine CW_seq ?_
  refine CW_region ?_
  refine OW_q (q_move rfl) rfl ?_
  refine OW_q (q_nilCheck rfl) rfl ?_
  refine OW_q (q_fieldAddr Try.underlying79 rfl rfl Try.sizeOf24 rfl rfl) rfl ?_
  refine OW_q (q_fieldAddr Try.underlying24 rfl rfl Try.sizeOf22 rfl rfl) rfl ?_
  first | (refine OW_q (q_load1_own Try.isAgg22 rfl rfl (by (repeat (first | exact .head | apply Swap.tail))) (by rfl)) rfl ?_) | (refine OW_q (q_load1_ro Try.isAgg22 rfl (by first | assumption | exact Row.at_ (by assumption) rfl)) rfl ?_)
  refine OW_q (q_len Try.underlying22 rfl) rfl ?_
  refine OW_q (q_move rfl) rfl ?_
  refine OW_nil ?_
  refine EW_then ?_
  refine CW_block ?_
  refine CW_loopP (ι := Nat × List RowS) (fun i_ => i_.1 ≤ g.rules.length ∧ ChI g tk i_.2 ∧ Grow S i_.2 at_ ∧ ∀ j q, j < i_.1 → g.rules[j]? = some q → q.left = nm → (⟨j, 0, at_⟩ : Itt) ∈ rowAt (Ls i_.2) at_) (fun i_ => [(0, .pointer (some ⟨bc, 0, none⟩)), (1, .int .i64 (at_ : Int)), (2, .int .i64 nm), (12, .slice a g.rules.length c), (13, .int .i64 (g.rules.length : Int)), (14, .int .i64 (i_.1 : Int))]) (fun i_ => Sat R w0 [cel bc 79 [.int .i64 g.terms, .int .i64 g.names, .slice a g.rules.length c, tkv, vs, vr], msA vs (i_.2), hsA vr (i_.2), mapsA (i_.2), rowsA (i_.2), F]) (fun i_ => g.rules.length - i_.1) (0, S) ?_ ⟨rfl, rfl, rfl, rfl, rfl, rfl, trivial⟩ (fun w hw => hw.sub (by (repeat (first | exact SubL.nil | exact Pick.head | apply Pick.tail | apply SubL.cons)))) ?_
  · exact ⟨Nat.zero_le _, hI, Grow.refl _ _, fun j q h => absurd h (Nat.not_lt_zero _)⟩
  intro i_ hpre
  obtain ⟨k, S1⟩ := i_
  replace hpre : k ≤ g.rules.length ∧ ChI g tk S1 ∧ Grow S S1 at_ ∧ ∀ j q, j < k → g.rules[j]? = some q → q.left = nm → (⟨j, 0, at_⟩ : Itt) ∈ rowAt (Ls S1) at_ := hpre
  change CW _ _ _ _ [(0, .pointer (some ⟨bc, 0, none⟩)), (1, .int .i64 (at_ : Int)), (2, .int .i64 nm), (12, .slice a g.rules.length c), (13, .int .i64 (g.rules.length : Int)), (14, .int .i64 (k : Int))] (Sat R w0 [cel bc 79 [.int .i64 g.terms, .int .i64 g.names, .slice a g.rules.length c, tkv, vs, vr], msA vs (S1), hsA vr (S1), mapsA (S1), rowsA (S1), F])
  obtain ⟨hk, hI1, hg1, hall⟩ := hpre
  refine CW_seq ?_
  refine CW_region ?_
  refine OW_q (q_lss rfl rfl) rfl ?_
  refine OW_nil ?_
  refine EW_then ?_
  refine CW_seq ?_
  refine CW_cond rfl (fun h15 => ?_) (fun h15 => ?_)
  · skip
    have hlt : k < g.rules.length := by have := of_decide_eq_true h15; omega
    obtain ⟨q, hx⟩ := get_of_lt hlt
    obtain ⟨p, rfl, rv2, hsy, hrow⟩ := hrs k q hx
    obtain ⟨a2, c2, hrv2, _⟩ := id hsy
    subst hrv2
    refine CW_skip ?_
    refine EW_then ?_
    refine CW_seq ?_
    refine CW_block ?_
    refine CW_seq ?_
    refine CW_region ?_
    refine OW_q (q_move rfl) rfl ?_
    refine OW_q (q_indexAddr Try.underlying22 Try.sizeOf41 rfl rfl (by first | omega | assumption)) rfl ?_
    refine OW_q (q_loadN_ro Try.isAgg41 Try.sizeOf41 rfl (by first | assumption | exact Row.at_ (by assumption) rfl) (by rfl)) rfl ?_
    refine OW_e (e_alloc Try.zeroValue41 rfl) rfl (fun b7 => ?_)
    refine OW_q (q_assign rfl) rfl ?_
    refine OW_e0 (e_storeN Try.sizeOf41 rfl rfl rfl rfl (by simp [Value.oneCell']) (by (repeat (first | exact .head | apply Swap.tail))) (by rfl)) (fun _ => ?_)
    refine OW_nil ?_
    refine EW_then ?_
    refine CW_seq ?_
    refine CW_region ?_
    refine OW_q (q_fieldAddr Try.underlying41 rfl rfl Try.sizeOf3 rfl rfl) rfl ?_
    first | (refine OW_q (q_load1_own Try.isAgg3 rfl rfl (by (repeat (first | exact .head | apply Swap.tail))) (by rfl)) rfl ?_) | (refine OW_q (q_load1_ro Try.isAgg3 rfl (by first | assumption | exact Row.at_ (by assumption) rfl)) rfl ?_)
    refine OW_q (q_move rfl) rfl ?_
    refine OW_q (q_eqi rfl rfl) rfl ?_
    refine OW_nil ?_
    refine EW_then ?_
    refine CW_cond rfl (fun h22 => ?_) (fun h22 => ?_)
    · skip
      refine CW_region ?_
      refine OW_q (q_move rfl) rfl ?_
      refine OW_q (q_move rfl) rfl ?_
      refine OW_q (q_move rfl) rfl ?_
      refine OW_q (q_move rfl) rfl ?_
      refine OW_q (q_build (ps := #[(0, .int .i64 (k : Int)), (1, .int .i64 0), (2, .int .i64 (at_ : Int))]) (v := .agg #[.int .i64 (k : Int), .int .i64 0, .int .i64 (at_ : Int)]) rfl (fun w => by kernel_rfl)) rfl ?_
      refine OW_e (e_call Try.call59 rfl (fun w hw => lift_mutL (M0 := [cel bc 79 [.int .i64 g.terms, .int .i64 g.names, .slice (some p) g.rules.length c, tkv, vs, vr], msA vs (S1), hsA vr (S1), mapsA (S1), rowsA (S1)]) (L1 := [F]) (hw.sub (by repeat (first | exact SubL.nil | exact Pick.head | apply Pick.tail | apply SubL.cons))) (fun F2 hF => add_any g hm tk htk _ c bc tkv vs vr at_ hat ⟨k, 0, at_⟩ S1 hI1 (ok_pred hx) R w0 w F2 hF))) rfl (fun x28 => ?_)
      refine OW_pure fun hx28 => ?_
      refine OW_nil ?_
      refine EW_block_normal ?_
      refine EW_then ?_
      refine CW_region ?_
      first | refine OW_q (q_inc rfl rfl (by omega)) rfl ?_ | refine OW_q (q_add rfl rfl (by omega) (by omega)) rfl ?_
      refine OW_q (q_move rfl) rfl ?_
      refine OW_nil ?_
      refine EW_again ((k + 1, x28)) ⟨?_, ?_⟩ ⟨rfl, rfl, rfl, rfl, rfl, rfl, trivial⟩ (fun w hw => hw.sub (by (repeat (first | exact SubL.nil | exact Pick.head | apply Pick.tail | apply SubL.cons))))
      · show g.rules.length - (k + 1) < g.rules.length - k; omega
      · refine ⟨by show k + 1 ≤ _; omega, hx28.1, hg1.trans hx28.2.1, fun j q' hj hq' hl => ?_⟩
        by_cases e : j = k
        · subst e; exact hx28.2.2
        · have : j < k + 1 := hj
          exact grow_mem hx28.2.1 (hall j q' (by omega) hq' hl)
    · skip
      refine CW_skip ?_
      refine EW_block_normal ?_
      refine EW_then ?_
      refine CW_region ?_
      first | refine OW_q (q_inc rfl rfl (by omega)) rfl ?_ | refine OW_q (q_add rfl rfl (by omega) (by omega)) rfl ?_
      refine OW_q (q_move rfl) rfl ?_
      refine OW_nil ?_
      refine EW_again ((k + 1, S1)) ⟨?_, ?_⟩ ⟨rfl, rfl, rfl, rfl, rfl, rfl, trivial⟩ (fun w hw => hw.sub (by (repeat (first | exact SubL.nil | exact Pick.head | apply Pick.tail | apply SubL.cons))))
      · show g.rules.length - (k + 1) < g.rules.length - k; omega
      · refine ⟨by show k + 1 ≤ _; omega, hI1, hg1, fun j q' hj hq' hl => ?_⟩
        by_cases e : j = k
        · subst e
          rw [hx] at hq'
          cases hq'
          exact absurd hl (by simpa using h22)
        · have : j < k + 1 := hj
          exact hall j q' (by omega) hq' hl
  · skip
    have hke : ¬ k < g.rules.length := by have := of_decide_eq_false h15; omega
    refine CW_exit ?_
    refine EW_then_exit ?_
    refine EW_out ?_
    refine EW_block_exit ?_
    refine end0 Try.results42 (fun w hw => ?_)
    exact ⟨S1, rfl, ⟨hI1, hg1, fun j q h => hall j q (by have := (List.getElem?_eq_some_iff.1 h).1; omega) h⟩, hw.sub (by repeat (first | exact SubL.nil | exact Pick.head | apply Pick.tail | apply SubL.cons))⟩

end Go.Sy
