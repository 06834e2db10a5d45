/- The answer's reading of texts: parts, numbers, symbols. No condition. -/
import Derived.Test.YteceklkjbcebkabDoorW77
import Derived.Test.YteceklkjbcebkabDoorW80
namespace Go.Sy
open Go Go.RowKit Go.Proofs

theorem drop_at {l : List UInt8} {i fr : Nat} {b : UInt8} (hf : fr ≤ i) (hb : l[i]? = some b) : l.drop fr = (l.take i).drop fr ++ b :: l.drop (i + 1) := by
  obtain ⟨hi, he⟩ := List.getElem?_eq_some_iff.1 hb
  have h1 : l.drop fr = (l.take i ++ l.drop i).drop fr := by rw [List.take_append_drop]
  rw [h1, List.drop_append_of_le_length (by rw [List.length_take]; omega), List.drop_eq_getElem_cons hi, he]
theorem split_at {c : UInt8} {l : List UInt8} {i fr : Nat} {out : List (List UInt8)} (hf : fr ≤ i) (hb : l[i]? = some c) (hn : c ∉ (l.take i).drop fr) (hp : parts c l = out ++ parts c (l.drop fr)) : parts c l = (out ++ [(l.take i).drop fr]) ++ parts c (l.drop (i + 1)) := by
  rw [hp, drop_at hf hb, parts_app hn]; simp
theorem split_no {c : UInt8} {l : List UInt8} {i fr : Nat} {b : UInt8} (hf : fr ≤ i) (hb : l[i]? = some b) (hn : c ∉ (l.take i).drop fr) (hc : b ≠ c) : c ∉ (l.take (i + 1)).drop fr := by
  obtain ⟨hi, _⟩ := List.getElem?_eq_some_iff.1 hb
  rw [take_nx hb, List.drop_append_of_le_length (by rw [List.length_take]; omega)]
  intro h
  rcases List.mem_append.1 h with h | h
  · exact hn h
  · exact hc (List.mem_singleton.1 h).symm
theorem split_end {c : UInt8} {l : List UInt8} {fr : Nat} {out : List (List UInt8)} (hn : c ∉ (l.take l.length).drop fr) (hp : parts c l = out ++ parts c (l.drop fr)) : parts c l = out ++ [(l.take l.length).drop fr] := by
  rw [List.take_length] at hn ⊢
  rw [hp, parts_no hn]
theorem byte_eq (b c : UInt8) : (((b.toNat : Nat) : Int) == ((c.toNat : Nat) : Int)) = decide (b = c) := by
  by_cases h : b = c
  · subst h; simp
  · rw [decide_eq_false h]
    have h1 : b.toNat ≠ c.toNat := fun e => h (UInt8.toNat_inj.1 e)
    exact beq_false_of_ne (fun e => h1 (Int.ofNat.inj e))
def SplitI (c : UInt8) (l : List UInt8) (i fr : Nat) (out : List (List UInt8)) : Prop := out.length ≤ i ∧ ((i ≤ l.length ∧ fr ≤ i ∧ c ∉ (l.take i).drop fr ∧ parts c l = out ++ parts c (l.drop fr)) ∨ (i = l.length + 1 ∧ fr ≤ i ∧ parts c l = out))
theorem head_get {l : List UInt8} {b : UInt8} (h : l[0]? = some b) : l = b :: l.drop 1 := by
  cases l with
  | nil => cases h
  | cons x r => injection h with h; rw [h]; rfl
set_option maxRecDepth 20000 in
theorem split9_any (l : List UInt8) (c : UInt8) (w : World) (hl : l.length ≤ 4000000000) : Calls Tryd.prog 23 #[.string ⟨l.toArray⟩, .int .u8 (c.toNat : Int)] w (fun e w' => ∃ v : Value, e = .returned v ∧ Sat (Old w) w [trow 9 1 encS v (parts c l)] w') := by
  refine calls_CW Tryd.func23 rfl Tryd.ntmps23 rfl (Sat.start w) ?_
  refine CW_seq ?_
  refine CW_region ?_
  refine OW_q (q_assign rfl) rfl ?_
  refine OW_nil ?_
  refine EW_then ?_
  refine CW_seq ?_
  refine CW_region ?_
  refine OW_q (q_assign rfl) rfl ?_
  refine OW_nil ?_
  refine EW_then ?_
  refine CW_seq ?_
  refine CW_region ?_
  refine OW_q (q_assign rfl) rfl ?_
  refine OW_nil ?_
  refine EW_then ?_
  refine CW_seq ?_
  refine CW_seq ?_
  refine CW_region ?_
  refine OW_q (q_assign rfl) rfl ?_
  refine OW_nil ?_
  refine EW_then ?_
  refine CW_block ?_
  refine CW_weak (S' := Sat (Old w) w [trow 9 1 encS (.slice none 0 0) []]) (fun w hw => (hw.tnil 9 1 encS).sub (by repeat (first | exact SubL.nil | exact Pick.head | apply Pick.tail | apply SubL.cons))) ?_
  refine CW_loopP (ι := Nat × Nat × Value × List (List UInt8)) (fun i_ => SplitI c l i_.1 i_.2.1 i_.2.2.2) (fun i_ => [(0, .string ⟨l.toArray⟩), (1, .int .u8 (c.toNat : Int)), (5, i_.2.2.1), (6, .int .i64 (i_.2.1 : Int)), (7, .int .i64 (i_.1 : Int))]) (fun i_ => Sat (Old w) w [trow 9 1 encS i_.2.2.1 i_.2.2.2]) (fun i_ => l.length + 1 - i_.1) (0, 0, .slice none 0 0, []) ?_ ⟨rfl, rfl, rfl, rfl, rfl, trivial⟩ (fun w hw => hw.sub (by (repeat (first | exact SubL.nil | exact Pick.head | apply Pick.tail | apply SubL.cons)))) ?_
  · exact ⟨Nat.le_refl _, .inl ⟨Nat.zero_le _, Nat.le_refl _, (by simp), rfl⟩⟩
  intro i_ hpre
  obtain ⟨i, fr, v, out⟩ := i_
  replace hpre : SplitI c l i fr out := hpre
  change CW _ _ _ _ [(0, .string ⟨l.toArray⟩), (1, .int .u8 (c.toNat : Int)), (5, v), (6, .int .i64 (fr : Int)), (7, .int .i64 (i : Int))] (Sat (Old w) w [trow 9 1 encS v out])
  obtain ⟨hol, hI⟩ := hpre
  refine CW_seq ?_
  refine CW_seq ?_
  refine CW_region ?_
  refine OW_q (q_move rfl) rfl ?_
  refine OW_q (q_move rfl) rfl ?_
  refine OW_q (q_lenS Tryd.underlying9 rfl) rfl ?_
  refine OW_q (q_leq rfl rfl) rfl ?_
  refine OW_nil ?_
  refine EW_then ?_
  refine CW_cond rfl (fun h11 => ?_) (fun h11 => ?_)
  · skip
    have hil : i ≤ l.length := by have := of_decide_eq_true h11; omega
    obtain ⟨_, hf, hn, hp⟩ := hI.resolve_right (fun h => by omega)
    refine CW_skip ?_
    refine EW_then ?_
    refine CW_seq ?_
    refine CW_block ?_
    refine CW_seq ?_
    refine CW_region ?_
    refine OW_q (q_move rfl) rfl ?_
    refine OW_q (q_move rfl) rfl ?_
    refine OW_q (q_lenS Tryd.underlying9 rfl) rfl ?_
    refine OW_q (q_eqi rfl rfl) rfl ?_
    refine OW_q (q_move rfl) rfl ?_
    refine OW_part (t := 18) rfl (fun hg18 => ?_) (fun hg18 => ?_)
    · skip
      have hie : i = l.length := by simp at hg18; omega
      refine OW_skip rfl rfl rfl rfl ?_
      refine OW_skip rfl rfl rfl rfl ?_
      refine OW_skip rfl rfl rfl rfl ?_
      refine OW_skip rfl rfl rfl rfl ?_
      refine OW_skip rfl rfl rfl rfl ?_
      refine OW_q (q_pick_t rfl rfl) rfl ?_
      refine OW_nil ?_
      refine EW_then ?_
      refine CW_true rfl rfl ?_
      refine CW_seq ?_
      refine CW_region ?_
      refine OW_q (q_move rfl) rfl ?_
      refine OW_q (q_move rfl) rfl ?_
      refine OW_q (q_move rfl) rfl ?_
      refine OW_q (q_move rfl) rfl ?_
      refine OW_q (q_sliceS (s := l) (l := fr) (h := i) Tryd.underlying9 rfl (.inr ⟨_, rfl, rfl⟩) (.inr ⟨_, rfl, rfl⟩) (by omega) (by omega)) rfl ?_
      refine OW_e (e_single Tryd.underlying40 Tryd.sizeOf9 Tryd.zeroValue9 (e := 9) (v := .string ⟨((l.take i).drop fr).toArray⟩) (cs := encS ((l.take i).drop fr)) rfl rfl rfl rfl (by decide) (by decide)) rfl (fun b30 => ?_)
      refine OW_e (e_append_t (x0 := ((l.take i).drop fr)) (enc := encS) (v := v) (l := out) Tryd.underlying40 Tryd.typeInfo9 rfl rfl rfl rfl rfl rfl rfl (by repeat (first | exact .head | apply Pick.tail)) rfl (by exact fun w hw => hw.news (by repeat (first | exact .head | apply Swap.tail))) (by simp [Value.oneCell', encS]) (by omega) (by decide)) rfl (fun v31 => ?_)
      refine OW_q (q_assign rfl) rfl ?_
      refine OW_nil ?_
      refine EW_then ?_
      refine CW_region ?_
      refine OW_q (q_move rfl) rfl ?_
      first | refine OW_q (q_inc rfl rfl (by omega)) rfl ?_ | refine OW_q (q_add rfl rfl (by omega) (by omega)) rfl ?_
      refine OW_q (q_assign rfl) rfl ?_
      refine OW_nil ?_
      refine EW_block_normal ?_
      refine EW_then ?_
      refine CW_region ?_
      refine OW_q (q_move rfl) rfl ?_
      first | refine OW_q (q_inc rfl rfl (by omega)) rfl ?_ | refine OW_q (q_add rfl rfl (by omega) (by omega)) rfl ?_
      refine OW_q (q_assign rfl) rfl ?_
      refine OW_nil ?_
      refine EW_again ((i + 1, i + 1, v31, out ++ [((l.take i).drop fr)])) ⟨?_, ?_⟩ ⟨rfl, rfl, rfl, rfl, rfl, trivial⟩ (fun w hw => hw.sub (by (repeat (first | exact SubL.nil | exact Pick.head | apply Pick.tail | apply SubL.cons))))
      · show l.length + 1 - (i + 1) < l.length + 1 - i; omega
      · refine ⟨by show (out ++ [_]).length ≤ i + 1; rw [List.length_append, List.length_singleton]; omega, .inr ⟨by show i + 1 = _; omega, by show i + 1 ≤ i + 1; omega, ?_⟩⟩
        have hil : i = l.length := by omega
        subst hil
        exact split_end hn hp
    · skip
      have hie : i < l.length := by simp at hg18; omega
      obtain ⟨b, hb⟩ := get_of_lt hie
      refine OW_wanted rfl rfl rfl ?_
      refine OW_q (q_move rfl) rfl ?_
      refine OW_wanted rfl rfl rfl ?_
      refine OW_q (q_move rfl) rfl ?_
      refine OW_wanted rfl rfl rfl ?_
      refine OW_q (q_idxS Tryd.underlying9 rfl rfl (hb)) rfl ?_
      refine OW_wanted rfl rfl rfl ?_
      refine OW_q (q_move rfl) rfl ?_
      refine OW_wanted rfl rfl rfl ?_
      refine OW_q (q_eqi rfl rfl) rfl ?_
      refine OW_q (q_pick_f rfl rfl) rfl ?_
      refine OW_nil ?_
      refine EW_then ?_
      refine CW_cond rfl (fun h24 => ?_) (fun h24 => ?_)
      · skip
        have hbc : b = c := by rw [byte_eq] at h24; exact of_decide_eq_true h24
        refine CW_seq ?_
        refine CW_region ?_
        refine OW_q (q_move rfl) rfl ?_
        refine OW_q (q_move rfl) rfl ?_
        refine OW_q (q_move rfl) rfl ?_
        refine OW_q (q_move rfl) rfl ?_
        refine OW_q (q_sliceS (s := l) (l := fr) (h := i) Tryd.underlying9 rfl (.inr ⟨_, rfl, rfl⟩) (.inr ⟨_, rfl, rfl⟩) (by omega) (by omega)) rfl ?_
        refine OW_e (e_single Tryd.underlying40 Tryd.sizeOf9 Tryd.zeroValue9 (e := 9) (v := .string ⟨((l.take i).drop fr).toArray⟩) (cs := encS ((l.take i).drop fr)) rfl rfl rfl rfl (by decide) (by decide)) rfl (fun b30 => ?_)
        refine OW_e (e_append_t (x0 := ((l.take i).drop fr)) (enc := encS) (v := v) (l := out) Tryd.underlying40 Tryd.typeInfo9 rfl rfl rfl rfl rfl rfl rfl (by repeat (first | exact .head | apply Pick.tail)) rfl (by exact fun w hw => hw.news (by repeat (first | exact .head | apply Swap.tail))) (by simp [Value.oneCell', encS]) (by omega) (by decide)) rfl (fun v31 => ?_)
        refine OW_q (q_assign rfl) rfl ?_
        refine OW_nil ?_
        refine EW_then ?_
        refine CW_region ?_
        refine OW_q (q_move rfl) rfl ?_
        first | refine OW_q (q_inc rfl rfl (by omega)) rfl ?_ | refine OW_q (q_add rfl rfl (by omega) (by omega)) rfl ?_
        refine OW_q (q_assign rfl) rfl ?_
        refine OW_nil ?_
        refine EW_block_normal ?_
        refine EW_then ?_
        refine CW_region ?_
        refine OW_q (q_move rfl) rfl ?_
        first | refine OW_q (q_inc rfl rfl (by omega)) rfl ?_ | refine OW_q (q_add rfl rfl (by omega) (by omega)) rfl ?_
        refine OW_q (q_assign rfl) rfl ?_
        refine OW_nil ?_
        refine EW_again ((i + 1, i + 1, v31, out ++ [((l.take i).drop fr)])) ⟨?_, ?_⟩ ⟨rfl, rfl, rfl, rfl, rfl, trivial⟩ (fun w hw => hw.sub (by (repeat (first | exact SubL.nil | exact Pick.head | apply Pick.tail | apply SubL.cons))))
        · show l.length + 1 - (i + 1) < l.length + 1 - i; omega
        · refine ⟨by show (out ++ [_]).length ≤ i + 1; rw [List.length_append, List.length_singleton]; omega, .inl ⟨by show i + 1 ≤ _; omega, by show i + 1 ≤ i + 1; omega, ?_, split_at hf (hbc ▸ hb) hn hp⟩⟩
          show c ∉ (l.take (i + 1)).drop (i + 1)
          rw [List.drop_eq_nil_of_le (by rw [List.length_take]; omega)]
          exact List.not_mem_nil
      · skip
        have hbc : b ≠ c := by rw [byte_eq] at h24; exact of_decide_eq_false h24
        refine CW_skip ?_
        refine EW_block_normal ?_
        refine EW_then ?_
        refine CW_region ?_
        refine OW_q (q_move rfl) rfl ?_
        first | refine OW_q (q_inc rfl rfl (by omega)) rfl ?_ | refine OW_q (q_add rfl rfl (by omega) (by omega)) rfl ?_
        refine OW_q (q_assign rfl) rfl ?_
        refine OW_nil ?_
        refine EW_again ((i + 1, fr, v, out)) ⟨?_, ?_⟩ ⟨rfl, rfl, rfl, rfl, rfl, trivial⟩ (fun w hw => hw.sub (by (repeat (first | exact SubL.nil | exact Pick.head | apply Pick.tail | apply SubL.cons))))
        · show l.length + 1 - (i + 1) < l.length + 1 - i; omega
        · exact ⟨by show out.length ≤ i + 1; omega, .inl ⟨by show i + 1 ≤ _; omega, by show fr ≤ i + 1; omega, split_no hf hb hn hbc, hp⟩⟩
  · skip
    have hil : ¬ i ≤ l.length := by have := of_decide_eq_false h11; omega
    obtain ⟨_, _, hp⟩ := hI.resolve_left (fun h => hil h.1)
    subst hp
    refine CW_exit ?_
    refine EW_then_exit ?_
    refine EW_out ?_
    refine EW_block_exit ?_
    refine EW_then ?_
    refine CW_seq ?_
    refine CW_region ?_
    refine OW_q (q_move rfl) rfl ?_
    refine OW_q (q_assign rfl) rfl ?_
    refine OW_nil ?_
    refine EW_then ?_
    refine CW_ret ?_
    refine ret1 Tryd.results23 rfl (fun w hw => ?_)
    exact ⟨_, rfl, hw.sub (by repeat (first | exact SubL.nil | exact Pick.head | apply Pick.tail | apply SubL.cons))⟩

set_option maxRecDepth 20000 in
theorem number9_any (l : List UInt8) (w : World) (hl : l.length ≤ 4000000000) : Calls Tryd.prog 24 #[.string ⟨l.toArray⟩, .int .i64 4] w (fun e w' => ∃ x : Int × Bool, e = .returned (.tuple #[.int .i64 x.1, .bool x.2]) ∧ NumR l x ∧ Sat (Old w) w [] w') := by
  refine calls_CW Tryd.func24 rfl Tryd.ntmps24 rfl (Sat.start w) ?_
  refine CW_seq ?_
  refine CW_region ?_
  refine OW_q (q_assign rfl) rfl ?_
  refine OW_q (q_assign rfl) rfl ?_
  refine OW_nil ?_
  refine EW_then ?_
  refine CW_seq ?_
  refine CW_seq ?_
  refine CW_region ?_
  refine OW_q (q_move rfl) rfl ?_
  refine OW_q (q_lenS Tryd.underlying9 rfl) rfl ?_
  refine OW_q (q_lss rfl rfl) rfl ?_
  refine OW_q (q_move rfl) rfl ?_
  refine OW_part (t := 11) rfl (fun hg11 => ?_) (fun hg11 => ?_)
  · skip
    have h1 : l.length < 1 := by have := of_decide_eq_true hg11; omega
    refine OW_skip rfl rfl rfl rfl ?_
    refine OW_skip rfl rfl rfl rfl ?_
    refine OW_skip rfl rfl rfl rfl ?_
    refine OW_skip rfl rfl rfl rfl ?_
    refine OW_q (q_pick_t rfl rfl) rfl ?_
    refine OW_q (q_move rfl) rfl ?_
    refine OW_skip rfl rfl rfl rfl ?_
    refine OW_skip rfl rfl rfl rfl ?_
    refine OW_skip rfl rfl rfl rfl ?_
    refine OW_skip rfl rfl rfl rfl ?_
    refine OW_skipU rfl rfl rfl ?_
    refine OW_skipU rfl rfl rfl ?_
    refine OW_skipU rfl rfl rfl ?_
    refine OW_skip rfl rfl rfl rfl ?_
    refine OW_q (q_pick_t rfl rfl) rfl ?_
    refine OW_nil ?_
    refine EW_then ?_
    refine CW_true rfl rfl ?_
    refine CW_seq ?_
    refine CW_region ?_
    refine OW_q (q_assign rfl) rfl ?_
    refine OW_q (q_assign rfl) rfl ?_
    refine OW_nil ?_
    refine EW_then ?_
    refine CW_ret ?_
    refine EW_then_ret ?_
    refine ret2 Tryd.results24 rfl rfl (fun w hw => ?_)
    exact ⟨(0, false), rfl, ⟨(fun h => by cases h), fun _ => by unfold numF; rw [if_neg (by rintro ⟨k1, k2, k3, k4⟩; omega)]⟩, hw.sub .nil⟩
  · skip
    have h1 : 1 ≤ l.length := by have := of_decide_eq_false hg11; omega
    obtain ⟨b0, hb0⟩ := get_of_lt (show 0 < l.length by omega)
    have hh0 : l.head? = some b0 := by rw [List.head?_eq_getElem?]; exact hb0
    refine OW_wanted rfl rfl rfl ?_
    refine OW_q (q_move rfl) rfl ?_
    refine OW_wanted rfl rfl rfl ?_
    refine OW_q (q_lenS Tryd.underlying9 rfl) rfl ?_
    refine OW_wanted rfl rfl rfl ?_
    refine OW_q (q_move rfl) rfl ?_
    refine OW_wanted rfl rfl rfl ?_
    refine OW_q (q_gtr rfl rfl) rfl ?_
    refine OW_q (q_pick_f rfl rfl) rfl ?_
    refine OW_q (q_move rfl) rfl ?_
    refine OW_part (t := 17) rfl (fun hg17 => ?_) (fun hg17 => ?_)
    · skip
      have h4 : 4 < l.length := by have := of_decide_eq_true hg17; omega
      refine OW_skip rfl rfl rfl rfl ?_
      refine OW_skip rfl rfl rfl rfl ?_
      refine OW_skip rfl rfl rfl rfl ?_
      refine OW_skip rfl rfl rfl rfl ?_
      refine OW_skipU rfl rfl rfl ?_
      refine OW_skipU rfl rfl rfl ?_
      refine OW_skipU rfl rfl rfl ?_
      refine OW_skip rfl rfl rfl rfl ?_
      refine OW_q (q_pick_t rfl rfl) rfl ?_
      refine OW_nil ?_
      refine EW_then ?_
      refine CW_true rfl rfl ?_
      refine CW_seq ?_
      refine CW_region ?_
      refine OW_q (q_assign rfl) rfl ?_
      refine OW_q (q_assign rfl) rfl ?_
      refine OW_nil ?_
      refine EW_then ?_
      refine CW_ret ?_
      refine EW_then_ret ?_
      refine ret2 Tryd.results24 rfl rfl (fun w hw => ?_)
      exact ⟨(0, false), rfl, ⟨(fun h => by cases h), fun _ => by unfold numF; rw [if_neg (by rintro ⟨k1, k2, k3, k4⟩; omega)]⟩, hw.sub .nil⟩
    · skip
      have h4 : l.length ≤ 4 := by have := of_decide_eq_false hg17; omega
      refine OW_wanted rfl rfl rfl ?_
      refine OW_q (q_move rfl) rfl ?_
      refine OW_wanted rfl rfl rfl ?_
      refine OW_q (q_idxS Tryd.underlying9 rfl rfl (hb0)) rfl ?_
      refine OW_wanted rfl rfl rfl ?_
      refine OW_q (q_eqi rfl rfl) rfl ?_
      refine OW_wanted rfl rfl rfl ?_
      refine OW_q (q_move rfl) rfl ?_
      refine OW_part (t := 21) rfl (fun hg21 => ?_) (fun hg21 => ?_)
      · skip
        have hb48 : b0 = 48 := by have e := byte_eq b0 48; rw [show (((48 : UInt8).toNat : Nat) : Int) = 48 from rfl] at e; rw [e] at hg21; exact of_decide_eq_true hg21
        refine OW_wanted rfl rfl rfl ?_
        refine OW_q (q_move rfl) rfl ?_
        refine OW_wanted rfl rfl rfl ?_
        refine OW_q (q_lenS Tryd.underlying9 rfl) rfl ?_
        refine OW_wanted rfl rfl rfl ?_
        refine OW_q (q_gtr rfl rfl) rfl ?_
        refine OW_wanted rfl rfl rfl ?_
        refine OW_q (q_pick_t rfl rfl) rfl ?_
        refine OW_q (q_pick_f rfl rfl) rfl ?_
        refine OW_nil ?_
        refine EW_then ?_
        refine CW_cond rfl (fun h26 => ?_) (fun h26 => ?_)
        · skip
          have h2 : 1 < l.length := by have := of_decide_eq_true h26; omega
          refine CW_seq ?_
          refine CW_region ?_
          refine OW_q (q_assign rfl) rfl ?_
          refine OW_q (q_assign rfl) rfl ?_
          refine OW_nil ?_
          refine EW_then ?_
          refine CW_ret ?_
          refine EW_then_ret ?_
          refine ret2 Tryd.results24 rfl rfl (fun w hw => ?_)
          exact ⟨(0, false), rfl, ⟨(fun h => by cases h), fun _ => by unfold numF; rw [if_neg (by rintro ⟨k1, k2, k3, k4⟩; exact k4 ⟨by rw [hh0, hb48], h2⟩)]⟩, hw.sub .nil⟩
        · skip
          have hz : ¬ (l.head? = some 48 ∧ 1 < l.length) := fun h => by have := of_decide_eq_false h26; omega
          refine CW_skip ?_
          refine EW_then ?_
          refine CW_seq ?_
          refine CW_region ?_
          refine OW_q (q_assign rfl) rfl ?_
          refine OW_nil ?_
          refine EW_then ?_
          refine CW_seq ?_
          refine CW_seq ?_
          refine CW_region ?_
          refine OW_q (q_assign rfl) rfl ?_
          refine OW_nil ?_
          refine EW_then ?_
          refine CW_block ?_
          refine CW_loopP (ι := Nat × Nat) (fun i_ => i_.1 ≤ l.length ∧ (l.take i_.1).all digB = true ∧ i_.2 = numV (l.take i_.1)) (fun i_ => [(0, .string ⟨l.toArray⟩), (6, .int .i64 (i_.2 : Int)), (7, .int .i64 (i_.1 : Int))]) (fun i_ => Sat (Old w) w []) (fun i_ => l.length - i_.1) (0, 0) ?_ ⟨rfl, rfl, rfl, trivial⟩ (fun w hw => hw.sub (by (repeat (first | exact SubL.nil | exact Pick.head | apply Pick.tail | apply SubL.cons)))) ?_
          · exact ⟨Nat.zero_le _, rfl, rfl⟩
          intro i_ hpre
          obtain ⟨i, nv⟩ := i_
          replace hpre : i ≤ l.length ∧ (l.take i).all digB = true ∧ nv = numV (l.take i) := hpre
          change CW _ _ _ _ [(0, .string ⟨l.toArray⟩), (6, .int .i64 (nv : Int)), (7, .int .i64 (i : Int))] (Sat (Old w) w [])
          obtain ⟨hi, hall, hnv⟩ := hpre
          refine CW_seq ?_
          refine CW_seq ?_
          refine CW_region ?_
          refine OW_q (q_move rfl) rfl ?_
          refine OW_q (q_move rfl) rfl ?_
          refine OW_q (q_lenS Tryd.underlying9 rfl) rfl ?_
          refine OW_q (q_lss rfl rfl) rfl ?_
          refine OW_nil ?_
          refine EW_then ?_
          refine CW_cond rfl (fun h30 => ?_) (fun h30 => ?_)
          · skip
            have hlt : i < l.length := by have := of_decide_eq_true h30; omega
            obtain ⟨b, hb⟩ := get_of_lt hlt
            have hbt : b.toNat < 256 := b.toNat_lt
            have hi4 : i < 4 := by omega
            have hnl : nv ≤ 10000 := by
              have h9 := numV_lt i (l.take i) (by rw [List.length_take]; omega) hall
              rw [← hnv] at h9
              have h8 : 10 ^ i ≤ 10 ^ 4 := Nat.pow_le_pow_right (by omega) (by omega)
              omega
            refine CW_skip ?_
            refine EW_then ?_
            refine CW_seq ?_
            refine CW_block ?_
            refine CW_seq ?_
            refine CW_seq ?_
            refine CW_region ?_
            refine OW_q (q_move rfl) rfl ?_
            refine OW_q (q_move rfl) rfl ?_
            refine OW_q (q_idxS Tryd.underlying9 rfl rfl (hb)) rfl ?_
            refine OW_q (q_lss rfl rfl) rfl ?_
            refine OW_q (q_move rfl) rfl ?_
            refine OW_part (t := 37) rfl (fun hg37 => ?_) (fun hg37 => ?_)
            · skip
              refine OW_skip rfl rfl rfl rfl ?_
              refine OW_skip rfl rfl rfl rfl ?_
              refine OW_skip rfl rfl rfl rfl ?_
              refine OW_skip rfl rfl rfl rfl ?_
              refine OW_q (q_pick_t rfl rfl) rfl ?_
              refine OW_nil ?_
              refine EW_then ?_
              refine CW_true rfl rfl ?_
              refine CW_seq ?_
              refine CW_region ?_
              refine OW_q (q_assign rfl) rfl ?_
              refine OW_q (q_assign rfl) rfl ?_
              refine OW_nil ?_
              refine EW_then ?_
              refine CW_ret ?_
              refine EW_then_ret ?_
              refine EW_block_ret ?_
              refine EW_then_ret ?_
              refine EW_out_ret ?_
              refine EW_block_ret ?_
              refine EW_then_ret ?_
              refine ret2 Tryd.results24 rfl rfl (fun w hw => ?_)
              exact ⟨(0, false), rfl, ⟨(fun h => by cases h), fun _ => by unfold numF; rw [if_neg (by rintro ⟨k1, k2, k3, k4⟩; have h9 := List.all_eq_true.1 k3 b (List.mem_of_getElem? hb); unfold digB at h9; simp only [Bool.and_eq_true, decide_eq_true_eq] at h9; simp at hg37; omega)]⟩, hw.sub .nil⟩
            · skip
              have hb1 : 48 ≤ b.toNat := by have := of_decide_eq_false hg37; omega
              refine OW_wanted rfl rfl rfl ?_
              refine OW_q (q_move rfl) rfl ?_
              refine OW_wanted rfl rfl rfl ?_
              refine OW_q (q_move rfl) rfl ?_
              refine OW_wanted rfl rfl rfl ?_
              refine OW_q (q_idxS Tryd.underlying9 rfl rfl (hb)) rfl ?_
              refine OW_wanted rfl rfl rfl ?_
              refine OW_q (q_gtr rfl rfl) rfl ?_
              refine OW_q (q_pick_f rfl rfl) rfl ?_
              refine OW_nil ?_
              refine EW_then ?_
              refine CW_cond rfl (fun h42 => ?_) (fun h42 => ?_)
              · skip
                refine CW_seq ?_
                refine CW_region ?_
                refine OW_q (q_assign rfl) rfl ?_
                refine OW_q (q_assign rfl) rfl ?_
                refine OW_nil ?_
                refine EW_then ?_
                refine CW_ret ?_
                refine EW_then_ret ?_
                refine EW_block_ret ?_
                refine EW_then_ret ?_
                refine EW_out_ret ?_
                refine EW_block_ret ?_
                refine EW_then_ret ?_
                refine ret2 Tryd.results24 rfl rfl (fun w hw => ?_)
                exact ⟨(0, false), rfl, ⟨(fun h => by cases h), fun _ => by unfold numF; rw [if_neg (by rintro ⟨k1, k2, k3, k4⟩; have h9 := List.all_eq_true.1 k3 b (List.mem_of_getElem? hb); unfold digB at h9; simp only [Bool.and_eq_true, decide_eq_true_eq] at h9; simp at h42; omega)]⟩, hw.sub .nil⟩
              · skip
                have hb2 : b.toNat ≤ 57 := by have := of_decide_eq_false h42; omega
                refine CW_skip ?_
                refine EW_then ?_
                refine CW_region ?_
                refine OW_q (q_move rfl) rfl ?_
                refine OW_q (q_mul10 (a := nv) rfl rfl (by omega)) rfl ?_
                refine OW_q (q_move rfl) rfl ?_
                refine OW_q (q_move rfl) rfl ?_
                refine OW_q (q_idxS Tryd.underlying9 rfl rfl (hb)) rfl ?_
                refine OW_q (q_sub48 (a := b.toNat) rfl rfl hb1 hbt) rfl ?_
                refine OW_q (q_conv64 (a := b.toNat - 48) Tryd.underlying5 Tryd.underlying3 rfl (by omega)) rfl ?_
                refine OW_q (q_add rfl rfl (by omega) (by omega)) rfl ?_
                refine OW_spell 50 (.int .i64 ((10 * nv + (b.toNat - 48) : Nat) : Int)) rfl (congrArg (Value.int .i64) (by omega)) ?_
                refine OW_q (q_assign rfl) rfl ?_
                refine OW_nil ?_
                refine EW_block_normal ?_
                refine EW_then ?_
                refine CW_region ?_
                refine OW_q (q_move rfl) rfl ?_
                first | refine OW_q (q_inc rfl rfl (by omega)) rfl ?_ | refine OW_q (q_add rfl rfl (by omega) (by omega)) rfl ?_
                refine OW_q (q_assign rfl) rfl ?_
                refine OW_nil ?_
                refine EW_again ((i + 1, 10 * nv + (b.toNat - 48))) ⟨?_, ?_⟩ ⟨rfl, rfl, rfl, trivial⟩ (fun w hw => hw.sub (by (repeat (first | exact SubL.nil | exact Pick.head | apply Pick.tail | apply SubL.cons))))
                · show l.length - (i + 1) < l.length - i; omega
                · refine ⟨by show i + 1 ≤ _; omega, ?_, ?_⟩
                  · show (l.take (i + 1)).all digB = true
                    rw [take_nx hb, List.all_append, hall]
                    simp [digB, hb1, hb2]
                  · show _ = numV (l.take (i + 1))
                    rw [take_nx hb, numV_snoc, ← hnv]
          · skip
            have hke : i = l.length := by have := of_decide_eq_false h30; omega
            subst hke
            rw [List.take_length] at hall hnv
            refine CW_exit ?_
            refine EW_then_exit ?_
            refine EW_out ?_
            refine EW_block_exit ?_
            refine EW_then ?_
            refine CW_seq ?_
            refine CW_region ?_
            refine OW_q (q_move rfl) rfl ?_
            refine OW_q (q_assign rfl) rfl ?_
            refine OW_q (q_assign rfl) rfl ?_
            refine OW_nil ?_
            refine EW_then ?_
            refine CW_ret ?_
            refine ret2 Tryd.results24 rfl rfl (fun w hw => ?_)
            exact ⟨((nv : Int), true), rfl, ⟨fun _ => ⟨nv, by unfold numF; rw [if_pos ⟨by omega, by omega, hall, hz⟩, hnv], rfl⟩, (fun h => by cases h)⟩, hw.sub .nil⟩
      · skip
        have hz : ¬ (l.head? = some 48 ∧ 1 < l.length) := fun h => by
          have e := byte_eq b0 48
          rw [show (((48 : UInt8).toNat : Nat) : Int) = 48 from rfl] at e
          rw [e] at hg21
          rw [hh0] at h
          exact of_decide_eq_false hg21 (Option.some.inj h.1)
        refine OW_skip rfl rfl rfl rfl ?_
        refine OW_skip rfl rfl rfl rfl ?_
        refine OW_skip rfl rfl rfl rfl ?_
        refine OW_wanted rfl rfl rfl ?_
        refine OW_q (q_pick_f rfl rfl) rfl ?_
        refine OW_q (q_pick_f rfl rfl) rfl ?_
        refine OW_nil ?_
        refine EW_then ?_
        refine CW_false rfl rfl ?_
        refine CW_skip ?_
        refine EW_then ?_
        refine CW_seq ?_
        refine CW_region ?_
        refine OW_q (q_assign rfl) rfl ?_
        refine OW_nil ?_
        refine EW_then ?_
        refine CW_seq ?_
        refine CW_seq ?_
        refine CW_region ?_
        refine OW_q (q_assign rfl) rfl ?_
        refine OW_nil ?_
        refine EW_then ?_
        refine CW_block ?_
        refine CW_loopP (ι := Nat × Nat) (fun i_ => i_.1 ≤ l.length ∧ (l.take i_.1).all digB = true ∧ i_.2 = numV (l.take i_.1)) (fun i_ => [(0, .string ⟨l.toArray⟩), (6, .int .i64 (i_.2 : Int)), (7, .int .i64 (i_.1 : Int))]) (fun i_ => Sat (Old w) w []) (fun i_ => l.length - i_.1) (0, 0) ?_ ⟨rfl, rfl, rfl, trivial⟩ (fun w hw => hw.sub (by (repeat (first | exact SubL.nil | exact Pick.head | apply Pick.tail | apply SubL.cons)))) ?_
        · exact ⟨Nat.zero_le _, rfl, rfl⟩
        intro i_ hpre
        obtain ⟨i, nv⟩ := i_
        replace hpre : i ≤ l.length ∧ (l.take i).all digB = true ∧ nv = numV (l.take i) := hpre
        change CW _ _ _ _ [(0, .string ⟨l.toArray⟩), (6, .int .i64 (nv : Int)), (7, .int .i64 (i : Int))] (Sat (Old w) w [])
        obtain ⟨hi, hall, hnv⟩ := hpre
        refine CW_seq ?_
        refine CW_seq ?_
        refine CW_region ?_
        refine OW_q (q_move rfl) rfl ?_
        refine OW_q (q_move rfl) rfl ?_
        refine OW_q (q_lenS Tryd.underlying9 rfl) rfl ?_
        refine OW_q (q_lss rfl rfl) rfl ?_
        refine OW_nil ?_
        refine EW_then ?_
        refine CW_cond rfl (fun h30 => ?_) (fun h30 => ?_)
        · skip
          have hlt : i < l.length := by have := of_decide_eq_true h30; omega
          obtain ⟨b, hb⟩ := get_of_lt hlt
          have hbt : b.toNat < 256 := b.toNat_lt
          have hi4 : i < 4 := by omega
          have hnl : nv ≤ 10000 := by
            have h9 := numV_lt i (l.take i) (by rw [List.length_take]; omega) hall
            rw [← hnv] at h9
            have h8 : 10 ^ i ≤ 10 ^ 4 := Nat.pow_le_pow_right (by omega) (by omega)
            omega
          refine CW_skip ?_
          refine EW_then ?_
          refine CW_seq ?_
          refine CW_block ?_
          refine CW_seq ?_
          refine CW_seq ?_
          refine CW_region ?_
          refine OW_q (q_move rfl) rfl ?_
          refine OW_q (q_move rfl) rfl ?_
          refine OW_q (q_idxS Tryd.underlying9 rfl rfl (hb)) rfl ?_
          refine OW_q (q_lss rfl rfl) rfl ?_
          refine OW_q (q_move rfl) rfl ?_
          refine OW_part (t := 37) rfl (fun hg37 => ?_) (fun hg37 => ?_)
          · skip
            refine OW_skip rfl rfl rfl rfl ?_
            refine OW_skip rfl rfl rfl rfl ?_
            refine OW_skip rfl rfl rfl rfl ?_
            refine OW_skip rfl rfl rfl rfl ?_
            refine OW_q (q_pick_t rfl rfl) rfl ?_
            refine OW_nil ?_
            refine EW_then ?_
            refine CW_true rfl rfl ?_
            refine CW_seq ?_
            refine CW_region ?_
            refine OW_q (q_assign rfl) rfl ?_
            refine OW_q (q_assign rfl) rfl ?_
            refine OW_nil ?_
            refine EW_then ?_
            refine CW_ret ?_
            refine EW_then_ret ?_
            refine EW_block_ret ?_
            refine EW_then_ret ?_
            refine EW_out_ret ?_
            refine EW_block_ret ?_
            refine EW_then_ret ?_
            refine ret2 Tryd.results24 rfl rfl (fun w hw => ?_)
            exact ⟨(0, false), rfl, ⟨(fun h => by cases h), fun _ => by unfold numF; rw [if_neg (by rintro ⟨k1, k2, k3, k4⟩; have h9 := List.all_eq_true.1 k3 b (List.mem_of_getElem? hb); unfold digB at h9; simp only [Bool.and_eq_true, decide_eq_true_eq] at h9; simp at hg37; omega)]⟩, hw.sub .nil⟩
          · skip
            have hb1 : 48 ≤ b.toNat := by have := of_decide_eq_false hg37; omega
            refine OW_wanted rfl rfl rfl ?_
            refine OW_q (q_move rfl) rfl ?_
            refine OW_wanted rfl rfl rfl ?_
            refine OW_q (q_move rfl) rfl ?_
            refine OW_wanted rfl rfl rfl ?_
            refine OW_q (q_idxS Tryd.underlying9 rfl rfl (hb)) rfl ?_
            refine OW_wanted rfl rfl rfl ?_
            refine OW_q (q_gtr rfl rfl) rfl ?_
            refine OW_q (q_pick_f rfl rfl) rfl ?_
            refine OW_nil ?_
            refine EW_then ?_
            refine CW_cond rfl (fun h42 => ?_) (fun h42 => ?_)
            · skip
              refine CW_seq ?_
              refine CW_region ?_
              refine OW_q (q_assign rfl) rfl ?_
              refine OW_q (q_assign rfl) rfl ?_
              refine OW_nil ?_
              refine EW_then ?_
              refine CW_ret ?_
              refine EW_then_ret ?_
              refine EW_block_ret ?_
              refine EW_then_ret ?_
              refine EW_out_ret ?_
              refine EW_block_ret ?_
              refine EW_then_ret ?_
              refine ret2 Tryd.results24 rfl rfl (fun w hw => ?_)
              exact ⟨(0, false), rfl, ⟨(fun h => by cases h), fun _ => by unfold numF; rw [if_neg (by rintro ⟨k1, k2, k3, k4⟩; have h9 := List.all_eq_true.1 k3 b (List.mem_of_getElem? hb); unfold digB at h9; simp only [Bool.and_eq_true, decide_eq_true_eq] at h9; simp at h42; omega)]⟩, hw.sub .nil⟩
            · skip
              have hb2 : b.toNat ≤ 57 := by have := of_decide_eq_false h42; omega
              refine CW_skip ?_
              refine EW_then ?_
              refine CW_region ?_
              refine OW_q (q_move rfl) rfl ?_
              refine OW_q (q_mul10 (a := nv) rfl rfl (by omega)) rfl ?_
              refine OW_q (q_move rfl) rfl ?_
              refine OW_q (q_move rfl) rfl ?_
              refine OW_q (q_idxS Tryd.underlying9 rfl rfl (hb)) rfl ?_
              refine OW_q (q_sub48 (a := b.toNat) rfl rfl hb1 hbt) rfl ?_
              refine OW_q (q_conv64 (a := b.toNat - 48) Tryd.underlying5 Tryd.underlying3 rfl (by omega)) rfl ?_
              refine OW_q (q_add rfl rfl (by omega) (by omega)) rfl ?_
              refine OW_spell 50 (.int .i64 ((10 * nv + (b.toNat - 48) : Nat) : Int)) rfl (congrArg (Value.int .i64) (by omega)) ?_
              refine OW_q (q_assign rfl) rfl ?_
              refine OW_nil ?_
              refine EW_block_normal ?_
              refine EW_then ?_
              refine CW_region ?_
              refine OW_q (q_move rfl) rfl ?_
              first | refine OW_q (q_inc rfl rfl (by omega)) rfl ?_ | refine OW_q (q_add rfl rfl (by omega) (by omega)) rfl ?_
              refine OW_q (q_assign rfl) rfl ?_
              refine OW_nil ?_
              refine EW_again ((i + 1, 10 * nv + (b.toNat - 48))) ⟨?_, ?_⟩ ⟨rfl, rfl, rfl, trivial⟩ (fun w hw => hw.sub (by (repeat (first | exact SubL.nil | exact Pick.head | apply Pick.tail | apply SubL.cons))))
              · show l.length - (i + 1) < l.length - i; omega
              · refine ⟨by show i + 1 ≤ _; omega, ?_, ?_⟩
                · show (l.take (i + 1)).all digB = true
                  rw [take_nx hb, List.all_append, hall]
                  simp [digB, hb1, hb2]
                · show _ = numV (l.take (i + 1))
                  rw [take_nx hb, numV_snoc, ← hnv]
        · skip
          have hke : i = l.length := by have := of_decide_eq_false h30; omega
          subst hke
          rw [List.take_length] at hall hnv
          refine CW_exit ?_
          refine EW_then_exit ?_
          refine EW_out ?_
          refine EW_block_exit ?_
          refine EW_then ?_
          refine CW_seq ?_
          refine CW_region ?_
          refine OW_q (q_move rfl) rfl ?_
          refine OW_q (q_assign rfl) rfl ?_
          refine OW_q (q_assign rfl) rfl ?_
          refine OW_nil ?_
          refine EW_then ?_
          refine CW_ret ?_
          refine ret2 Tryd.results24 rfl rfl (fun w hw => ?_)
          exact ⟨((nv : Int), true), rfl, ⟨fun _ => ⟨nv, by unfold numF; rw [if_pos ⟨by omega, by omega, hall, hz⟩, hnv], rfl⟩, (fun h => by cases h)⟩, hw.sub .nil⟩

set_option maxRecDepth 20000 in
theorem reads9_any (l : List UInt8) (w : World) (hl : l.length ≤ 4000000000) : Calls Tryd.prog 25 #[.string ⟨l.toArray⟩] w (fun e w' => ∃ x : Sym × Bool, e = .returned (.tuple #[.agg #[.bool x.1.term, .int .i64 x.1.n], .bool x.2]) ∧ SymR l x ∧ Sat (Old w) w [] w') := by
  refine calls_CW Tryd.func25 rfl Tryd.ntmps25 rfl (Sat.start w) ?_
  refine CW_seq ?_
  refine CW_region ?_
  refine OW_e (e_alloc Tryd.zeroValue53 rfl) rfl (fun b2 => ?_)
  refine OW_q (q_assign rfl) rfl ?_
  refine OW_nil ?_
  refine EW_then ?_
  refine CW_seq ?_
  refine CW_seq ?_
  refine CW_region ?_
  refine OW_q (q_move rfl) rfl ?_
  refine OW_q (q_lenS Tryd.underlying9 rfl) rfl ?_
  refine OW_q (q_lss rfl rfl) rfl ?_
  refine OW_q (q_move rfl) rfl ?_
  refine OW_part (t := 9) rfl (fun hg9 => ?_) (fun hg9 => ?_)
  · skip
    have h1 : l.length < 1 := by have := of_decide_eq_true hg9; omega
    refine OW_skip rfl rfl rfl rfl ?_
    refine OW_skip rfl rfl rfl rfl ?_
    refine OW_skip rfl rfl rfl rfl ?_
    refine OW_skip rfl rfl rfl rfl ?_
    refine OW_skipU rfl rfl rfl ?_
    refine OW_skipU rfl rfl rfl ?_
    refine OW_skipU rfl rfl rfl ?_
    refine OW_skip rfl rfl rfl rfl ?_
    refine OW_q (q_pick_t rfl rfl) rfl ?_
    refine OW_nil ?_
    refine EW_then ?_
    refine CW_true rfl rfl ?_
    refine CW_seq ?_
    refine CW_region ?_
    refine OW_q (q_build (ps := #[]) (v := .agg #[.bool false, .int .i64 0]) rfl (fun w => by kernel_rfl)) rfl ?_
    refine OW_e0 (e_storeN Tryd.sizeOf53 rfl rfl rfl rfl (by simp [Value.oneCell']) (by (repeat (first | exact .head | apply Swap.tail))) (by rfl)) (fun _ => ?_)
    refine OW_q (q_assign rfl) rfl ?_
    refine OW_nil ?_
    refine EW_then ?_
    refine CW_ret ?_
    refine EW_then_ret ?_
    refine retc2 (vs := [.bool false, .int .i64 0]) Tryd.results25 Tryd.isAgg53 Tryd.sizeOf53 rfl rfl (fun w hw j u hj => by rw [Addr.add_lit, hw.cell (t := 53) (cs := [.bool false, .int .i64 0]) (A' := cel b2 53 [.bool false, .int .i64 0]) (by repeat (first | exact .head | apply Swap.tail)), Nat.zero_add]; exact hj) rfl (fun w hw => ?_)
    exact ⟨(⟨false, 0⟩, false), rfl, ⟨(fun h => by cases h), fun _ => by rw [List.eq_nil_of_length_eq_zero (by omega : l.length = 0)]; rfl⟩, hw.sub .nil⟩
  · skip
    have h1 : 1 ≤ l.length := by have := of_decide_eq_false hg9; omega
    obtain ⟨b0, hb0⟩ := get_of_lt (show 0 < l.length by omega)
    have hlb := head_get hb0
    refine OW_wanted rfl rfl rfl ?_
    refine OW_q (q_move rfl) rfl ?_
    refine OW_wanted rfl rfl rfl ?_
    refine OW_q (q_idxS Tryd.underlying9 rfl rfl (hb0)) rfl ?_
    refine OW_wanted rfl rfl rfl ?_
    refine OW_q (q_nei rfl rfl) rfl ?_
    refine OW_wanted rfl rfl rfl ?_
    refine OW_q (q_move rfl) rfl ?_
    refine OW_part (t := 13) rfl (fun hg13 => ?_) (fun hg13 => ?_)
    · skip
      have ht : ¬ b0 = 116 := by have e := byte_eq b0 116; rw [show (((116 : UInt8).toNat : Nat) : Int) = 116 from rfl] at e; simp only [bne, e] at hg13; simpa using hg13
      refine OW_wanted rfl rfl rfl ?_
      refine OW_q (q_move rfl) rfl ?_
      refine OW_wanted rfl rfl rfl ?_
      refine OW_q (q_idxS Tryd.underlying9 rfl rfl (hb0)) rfl ?_
      refine OW_wanted rfl rfl rfl ?_
      refine OW_q (q_nei rfl rfl) rfl ?_
      refine OW_wanted rfl rfl rfl ?_
      refine OW_q (q_pick_t rfl rfl) rfl ?_
      refine OW_q (q_pick_f rfl rfl) rfl ?_
      refine OW_nil ?_
      refine EW_then ?_
      refine CW_cond rfl (fun h18 => ?_) (fun h18 => ?_)
      · skip
        have hn : ¬ b0 = 110 := by have e := byte_eq b0 110; rw [show (((110 : UInt8).toNat : Nat) : Int) = 110 from rfl] at e; simp only [bne, e] at h18; simpa using h18
        refine CW_seq ?_
        refine CW_region ?_
        refine OW_q (q_build (ps := #[]) (v := .agg #[.bool false, .int .i64 0]) rfl (fun w => by kernel_rfl)) rfl ?_
        refine OW_e0 (e_storeN Tryd.sizeOf53 rfl rfl rfl rfl (by simp [Value.oneCell']) (by (repeat (first | exact .head | apply Swap.tail))) (by rfl)) (fun _ => ?_)
        refine OW_q (q_assign rfl) rfl ?_
        refine OW_nil ?_
        refine EW_then ?_
        refine CW_ret ?_
        refine EW_then_ret ?_
        refine retc2 (vs := [.bool false, .int .i64 0]) Tryd.results25 Tryd.isAgg53 Tryd.sizeOf53 rfl rfl (fun w hw j u hj => by rw [Addr.add_lit, hw.cell (t := 53) (cs := [.bool false, .int .i64 0]) (A' := cel b2 53 [.bool false, .int .i64 0]) (by repeat (first | exact .head | apply Swap.tail)), Nat.zero_add]; exact hj) rfl (fun w hw => ?_)
        exact ⟨(⟨false, 0⟩, false), rfl, ⟨(fun h => by cases h), fun _ => by rw [hlb]; simp [symF, ht, hn]⟩, hw.sub .nil⟩
      · skip
        have hn : b0 = 110 := by have e := byte_eq b0 110; rw [show (((110 : UInt8).toNat : Nat) : Int) = 110 from rfl] at e; simp only [bne, e] at h18; simpa using h18
        refine CW_skip ?_
        refine EW_then ?_
        refine CW_seq ?_
        refine CW_region ?_
        refine OW_q (q_move rfl) rfl ?_
        refine OW_q (q_sliceS (s := l) (l := 1) (h := l.length) Tryd.underlying9 rfl (.inr ⟨_, rfl, rfl⟩) (.inl ⟨rfl, rfl⟩) (by omega) (by omega)) rfl ?_
        refine OW_spell 22 (.string ⟨(l.drop 1).toArray⟩) rfl (by rw [List.take_length]) ?_
        refine OW_e (e_call Tryd.call24 rfl (fun w hw => lift_oldP (number9_any (l.drop 1) w (by rw [List.length_drop]; omega)) hw)) rfl (fun x23 => ?_)
        refine OW_pure fun hx23 => ?_
        obtain ⟨n23, ok23⟩ := x23
        obtain ⟨hn1, hn2⟩ := hx23
        have hn1 : ok23 = true → ∃ n : Nat, numF (l.drop 1) = some n ∧ n23 = n := hn1
        have hn2 : ok23 = false → numF (l.drop 1) = none := hn2
        refine OW_q (q_move rfl) rfl ?_
        refine OW_q (q_extract rfl rfl) rfl ?_
        refine OW_q (q_extract rfl rfl) rfl ?_
        refine OW_q (q_assign rfl) rfl ?_
        refine OW_q (q_assign rfl) rfl ?_
        refine OW_nil ?_
        refine EW_then ?_
        refine CW_seq ?_
        refine CW_region ?_
        refine OW_q (q_move rfl) rfl ?_
        refine OW_q (q_idxS Tryd.underlying9 rfl rfl (hb0)) rfl ?_
        refine OW_q (q_eqi rfl rfl) rfl ?_
        refine OW_spell 28 (.bool (decide (b0 = 116))) rfl (congrArg Value.bool (byte_eq b0 116)) ?_
        refine OW_q (q_move rfl) rfl ?_
        refine OW_q (q_build (ps := #[(0, .bool (decide (b0 = 116))), (1, .int .i64 n23)]) (v := .agg #[.bool (decide (b0 = 116)), .int .i64 n23]) rfl (fun w => by kernel_rfl)) rfl ?_
        refine OW_q (q_move rfl) rfl ?_
        refine OW_e0 (e_storeN Tryd.sizeOf53 rfl rfl rfl rfl (by simp [Value.oneCell']) (by (repeat (first | exact .head | apply Swap.tail))) (by rfl)) (fun _ => ?_)
        refine OW_q (q_assign rfl) rfl ?_
        refine OW_nil ?_
        refine EW_then ?_
        refine CW_ret ?_
        refine retc2 (vs := [.bool (decide (b0 = 116)), .int .i64 n23]) Tryd.results25 Tryd.isAgg53 Tryd.sizeOf53 rfl rfl (fun w hw j u hj => by rw [Addr.add_lit, hw.cell (t := 53) (cs := [.bool (decide (b0 = 116)), .int .i64 n23]) (A' := cel b2 53 [.bool (decide (b0 = 116)), .int .i64 n23]) (by repeat (first | exact .head | apply Swap.tail)), Nat.zero_add]; exact hj) rfl (fun w hw => ?_)
        refine ⟨(⟨decide (b0 = 116), n23⟩, ok23), rfl, ⟨fun h => ?_, fun h => ?_⟩, hw.sub .nil⟩
        · obtain ⟨m, h8, h9⟩ := hn1 h
          rw [hlb, hn, symF_n, h8, h9]; rfl
        · rw [hlb, hn, symF_n, hn2 h]; rfl
    · skip
      have ht : b0 = 116 := by have e := byte_eq b0 116; rw [show (((116 : UInt8).toNat : Nat) : Int) = 116 from rfl] at e; simp only [bne, e] at hg13; simpa using hg13
      refine OW_skip rfl rfl rfl rfl ?_
      refine OW_skip rfl rfl rfl rfl ?_
      refine OW_skip rfl rfl rfl rfl ?_
      refine OW_wanted rfl rfl rfl ?_
      refine OW_q (q_pick_f rfl rfl) rfl ?_
      refine OW_q (q_pick_f rfl rfl) rfl ?_
      refine OW_nil ?_
      refine EW_then ?_
      refine CW_false rfl rfl ?_
      refine CW_skip ?_
      refine EW_then ?_
      refine CW_seq ?_
      refine CW_region ?_
      refine OW_q (q_move rfl) rfl ?_
      refine OW_q (q_sliceS (s := l) (l := 1) (h := l.length) Tryd.underlying9 rfl (.inr ⟨_, rfl, rfl⟩) (.inl ⟨rfl, rfl⟩) (by omega) (by omega)) rfl ?_
      refine OW_spell 22 (.string ⟨(l.drop 1).toArray⟩) rfl (by rw [List.take_length]) ?_
      refine OW_e (e_call Tryd.call24 rfl (fun w hw => lift_oldP (number9_any (l.drop 1) w (by rw [List.length_drop]; omega)) hw)) rfl (fun x23 => ?_)
      refine OW_pure fun hx23 => ?_
      obtain ⟨n23, ok23⟩ := x23
      obtain ⟨hn1, hn2⟩ := hx23
      have hn1 : ok23 = true → ∃ n : Nat, numF (l.drop 1) = some n ∧ n23 = n := hn1
      have hn2 : ok23 = false → numF (l.drop 1) = none := hn2
      refine OW_q (q_move rfl) rfl ?_
      refine OW_q (q_extract rfl rfl) rfl ?_
      refine OW_q (q_extract rfl rfl) rfl ?_
      refine OW_q (q_assign rfl) rfl ?_
      refine OW_q (q_assign rfl) rfl ?_
      refine OW_nil ?_
      refine EW_then ?_
      refine CW_seq ?_
      refine CW_region ?_
      refine OW_q (q_move rfl) rfl ?_
      refine OW_q (q_idxS Tryd.underlying9 rfl rfl (hb0)) rfl ?_
      refine OW_q (q_eqi rfl rfl) rfl ?_
      refine OW_spell 28 (.bool (decide (b0 = 116))) rfl (congrArg Value.bool (byte_eq b0 116)) ?_
      refine OW_q (q_move rfl) rfl ?_
      refine OW_q (q_build (ps := #[(0, .bool (decide (b0 = 116))), (1, .int .i64 n23)]) (v := .agg #[.bool (decide (b0 = 116)), .int .i64 n23]) rfl (fun w => by kernel_rfl)) rfl ?_
      refine OW_q (q_move rfl) rfl ?_
      refine OW_e0 (e_storeN Tryd.sizeOf53 rfl rfl rfl rfl (by simp [Value.oneCell']) (by (repeat (first | exact .head | apply Swap.tail))) (by rfl)) (fun _ => ?_)
      refine OW_q (q_assign rfl) rfl ?_
      refine OW_nil ?_
      refine EW_then ?_
      refine CW_ret ?_
      refine retc2 (vs := [.bool (decide (b0 = 116)), .int .i64 n23]) Tryd.results25 Tryd.isAgg53 Tryd.sizeOf53 rfl rfl (fun w hw j u hj => by rw [Addr.add_lit, hw.cell (t := 53) (cs := [.bool (decide (b0 = 116)), .int .i64 n23]) (A' := cel b2 53 [.bool (decide (b0 = 116)), .int .i64 n23]) (by repeat (first | exact .head | apply Swap.tail)), Nat.zero_add]; exact hj) rfl (fun w hw => ?_)
      refine ⟨(⟨decide (b0 = 116), n23⟩, ok23), rfl, ⟨fun h => ?_, fun h => ?_⟩, hw.sub .nil⟩
      · obtain ⟨m, h8, h9⟩ := hn1 h
        rw [hlb, ht, symF_t, h8, h9]; rfl
      · rw [hlb, ht, symF_t, hn2 h]; rfl

end Go.Sy
