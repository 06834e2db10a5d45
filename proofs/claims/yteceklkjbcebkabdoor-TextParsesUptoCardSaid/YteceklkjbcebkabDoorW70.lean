/- Text: numbers, symbols, and what a builder is given. No condition. -/
import Derived.Test.YteceklkjbcebkabDoorStr
import Derived.Test.YteceklkjbcebkabDoorShelf
import Derived.Test.YteceklkjbcebkabDoorW1
namespace Go.Sy
open Go Go.RowKit Go.Proofs

def symT (s : Sym) : List UInt8 := (if s.term then [116] else [110]) ++ Lib.decDigits s.n.toNat
theorem dec_len {n : Nat} (h : n < 100) : 1 ≤ (Lib.decDigits n).length ∧ (Lib.decDigits n).length ≤ 2 := by
  by_cases h1 : n < 10
  · rw [Lib.decDigits_one h1]; simp
  · rw [Lib.decDigits_two h1 h]; simp
theorem itoa_any (n : Int) (h0 : 0 ≤ n) (hn : n < 100) (w : World) : Calls Tryd.prog 15 #[.int .i64 n] w (fun e w' => e = .returned (.string ⟨(Lib.decDigits n.toNat).toArray⟩) ∧ Sat (Old w) w [] w') := by
  obtain ⟨k, rfl⟩ := Int.eq_ofNat_of_zero_le h0
  exact (Tryd.strconv_Itoa_small k (by omega) w).mono fun e w' ⟨he, hw⟩ => ⟨he, by rw [hw]; exact Sat.start w⟩
theorem write_any (b : Nat) (bs s : List UInt8) (w0 w : World) (F : HP) (hF : NoU8 F) (hl : bs.length + s.length ≤ 100000) (hw : Sat (Old w0) w0 ([builderA b bs] ++ [F]) w) : Calls Tryd.prog 13 #[.pointer (some ⟨b, 0, none⟩), .string ⟨s.toArray⟩] w (fun e w' => ∃ x : Unit, e = .returned (.tuple #[.int .i64 (s.length : Int), .nilIface]) ∧ True ∧ Sat (Old w0) w0 ([builderA b (bs ++ s)] ++ [F]) w') := by
  have hb := Sat.isBuilder hw
  have e1 : (⟨s.toArray⟩ : ByteArray).size = s.length := by rw [Lib.size_eq]
  refine (Any.Builder_WriteString_k { Tryd.lays156 with } Tryd.Builder_Extra_156 w0.heap.size b (Lib.byteCells bs) ⟨s.toArray⟩ w hb (by rw [Lib.byteCells_length, e1]; omega) hw.size).mono fun e w' ⟨he, h1, h2, h3⟩ => ⟨(), ?_, trivial, ?_⟩
  · rw [he, e1]
  · refine Sat.toBuilder hw hF (.inr ?_) h2 h3
    rw [Lib.byteCells_append]
    exact h1
theorem join_any (ls : List (List UInt8)) (gb c : Nat) (w : World) (hc : ls.length ≤ c) (hn : ls.length ≤ 1000) (hl : ls.flatten.length ≤ 100000) (hcells : ∀ (j : Nat) x, ls[j]? = some x → w.cell? ⟨gb, j, none⟩ = some (.string ⟨x.toArray⟩)) (h0 : 0 < ls.length) : Calls Tryd.prog 14 #[.slice (some ⟨gb, 0, none⟩) ls.length c, .string ⟨([] : List UInt8).toArray⟩] w (fun e w' => e = .returned (.string ⟨ls.flatten.toArray⟩) ∧ Sat (Old w) w [] w') := by
  have e2 : (ls.map (fun l => (⟨l.toArray⟩ : ByteArray))).map (·.data.toList) = ls := by
    rw [List.map_map]
    conv => rhs; rw [← List.map_id ls]
    exact List.map_congr_left fun _ _ => by simp
  have hb : gb < w.heap.size := by
    obtain ⟨x, hx⟩ := get_of_lt h0
    exact World.block_lt_of_cell? _ _ (hcells 0 x hx)
  have := Tryd.strings_Join gb 0 c (ls.map (fun l => (⟨l.toArray⟩ : ByteArray))) ⟨([] : List UInt8).toArray⟩ w (fun j x hj => by
    rw [List.getElem?_map] at hj
    cases hx : ls[j]? with
    | none => rw [hx] at hj; cases hj
    | some y =>
      rw [hx] at hj
      injection hj with hj
      rw [← hj, Nat.zero_add]
      exact hcells j y hx) hb (by rw [List.length_map]; omega) (by rw [List.length_map]; exact hc) (by rw [e2, show (⟨([] : List UInt8).toArray⟩ : ByteArray).data.toList = [] from rfl, flat_join]; omega)
  rw [List.length_map, e2, show (⟨([] : List UInt8).toArray⟩ : ByteArray).data.toList = [] from rfl, flat_join] at this
  exact this.mono fun e w' ⟨he, hw⟩ => ⟨he, Sat.ofBelow hw⟩
theorem string_any (b : Nat) (bs : List UInt8) (w0 w : World) (F : HP) (hw : Sat (Old w0) w0 ([builderA b bs] ++ [F]) w) : Calls Tryd.prog 17 #[.pointer (some ⟨b, 0, none⟩)] w (fun e w' => ∃ _ : Unit, e = .returned (.string ⟨bs.toArray⟩) ∧ Sat (Old w0) w0 [] w') := by
  have hb := Sat.isBuilder hw
  exact (Tryd.Builder_String_any_k w0.heap.size b bs w hb hw.size).mono fun e w' ⟨he, _, h2, _⟩ => ⟨(), he, h2.os.trans hw.os, h2.tape.trans hw.tape, h2.output.trans hw.output, Nat.le_trans hw.size h2.size, fun k hk => ⟨hk, (h2.block k hk).trans (hw.ro k hk).2⟩, emp0, rfl, fun _ _ h => by cases h⟩
theorem nDigits_le (u : Nat) : Lib.nDigits u ≤ u + 1 := by
  induction u using Nat.strongRecOn with
  | _ u ih =>
    by_cases h : u < 10
    · rw [Lib.nDigits_small h]; omega
    · rw [Lib.nDigits_big h]
      have := ih (u / 10) (by omega)
      omega
set_option maxRecDepth 20000 in
theorem put_any (b gb c : Nat) (ls : List (List UInt8)) (bs : List UInt8) (w0 w : World) (F : HP) (hF : NoU8 F) (h0 : 0 < ls.length) (hn : ls.length ≤ 1000) (hc : ls.length ≤ c) (hl : bs.length + ls.flatten.length ≤ 100000) (hw : Sat (Old w0) w0 ([trow 9 1 encS (.slice (some ⟨gb, 0, none⟩) ls.length c) ls, builderA b bs] ++ [F]) w) : Calls Tryd.prog 12 #[.slice (some ⟨gb, 0, none⟩) ls.length c, .pointer (some ⟨b, 0, none⟩)] w (fun e w' => ∃ x : Unit, e = .returned (.tuple #[]) ∧ True ∧ Sat (Old w0) w0 ([builderA b (bs ++ ls.flatten)] ++ [F]) w') := by
  refine calls_CW (S := Sat (Old w0) w0 [trow 9 1 encS (.slice (some ⟨gb, 0, none⟩) ls.length c) ls, builderA b bs, F]) Tryd.func12 rfl Tryd.ntmps12 rfl (hw) ?_
  refine CW_region ?_
  refine OW_q (q_move rfl) rfl ?_
  refine OW_e (e_call Tryd.call14 rfl (fun w hw => lift_ro (join_any ls gb c w hc hn (by omega) (fun j x hx => by have := hw.tget (e := 9) (size := 1) (v := .slice (some ⟨gb, 0, none⟩) ls.length c) (l := ls) (enc := encS) (A' := trow 9 1 encS (.slice (some ⟨gb, 0, none⟩) ls.length c) ls) (fun _ => rfl) (by repeat (first | exact .head | apply Swap.tail)) rfl hx 0 _ rfl; rw [Addr.add_lit, Addr.add_lit] at this; simpa using this) h0) hw)) rfl (fun x4 => ?_)
  refine OW_e (e_call Tryd.call13 rfl (fun w hw => lift_mutB (M0 := [builderA b bs]) (L1 := [trow 9 1 encS (.slice (some ⟨gb, 0, none⟩) ls.length c) ls, F]) (hw.sub (by repeat (first | exact SubL.nil | exact Pick.head | apply Pick.tail | apply SubL.cons))) (by repeat (first | exact (fun _ h => absurd h List.not_mem_nil) | exact List.forall_mem_cons.2 ⟨by assumption, (fun _ h => absurd h List.not_mem_nil)⟩ | refine List.forall_mem_cons.2 ⟨(by first | assumption | exact NoU8.cel (by decide) | exact NoU8.row (by decide)), ?_⟩)) (fun F2 hF2 hw2 => write_any b bs ls.flatten w0 w F2 hF2 hl hw2))) rfl (fun x5 => ?_)
  refine OW_pure fun _ => ?_
  refine OW_nil ?_
  refine end0 Tryd.results12 (fun w hw => ?_)
  exact ⟨(), rfl, trivial, hw.sub (by repeat (first | exact SubL.nil | exact Pick.head | apply Pick.tail | apply SubL.cons))⟩

set_option maxRecDepth 20000 in
theorem symbol_any (s : Sym) (h0 : 0 ≤ s.n) (hn : s.n < 100) (w : World) : Calls Tryd.prog 16 #[.agg #[.bool s.term, .int .i64 s.n]] w (fun e w' => e = .returned (.string ⟨(symT s).toArray⟩) ∧ Sat (Old w) w [] w') := by
  have hd := dec_len (n := s.n.toNat) (by omega)
  refine calls_CW Tryd.func16 rfl Tryd.ntmps16 rfl (Sat.start w) ?_
  refine CW_seq ?_
  refine CW_region ?_
  refine OW_e (e_box rfl rfl) rfl (fun b1 => ?_)
  refine OW_q (q_assign rfl) rfl ?_
  refine OW_nil ?_
  refine EW_then ?_
  refine CW_seq ?_
  refine CW_seq ?_
  refine CW_region ?_
  refine OW_q (q_fieldAddr Tryd.underlying53 rfl rfl Tryd.sizeOf4 rfl rfl) rfl ?_
  first | (refine OW_q (q_load1_own Tryd.isAgg4 rfl rfl (by (repeat (first | exact .head | apply Swap.tail))) (by rfl)) rfl ?_) | (refine OW_q (q_load1_ro Tryd.isAgg4 rfl (by first | assumption | exact Row.at_ (by assumption) rfl)) rfl ?_)
  refine OW_nil ?_
  refine EW_then ?_
  refine CW_cond rfl (fun h4 => ?_) (fun h4 => ?_)
  · skip
    refine CW_seq ?_
    refine CW_region ?_
    refine OW_q (q_fieldAddr Tryd.underlying53 rfl rfl Tryd.sizeOf3 rfl rfl) rfl ?_
    first | (refine OW_q (q_load1_own Tryd.isAgg3 rfl rfl (by (repeat (first | exact .head | apply Swap.tail))) (by rfl)) rfl ?_) | (refine OW_q (q_load1_ro Tryd.isAgg3 rfl (by first | assumption | exact Row.at_ (by assumption) rfl)) rfl ?_)
    refine OW_e (e_call Tryd.call15 rfl (fun w hw => lift_ro (itoa_any s.n h0 hn w) hw)) rfl (fun x7 => ?_)
    refine OW_q (q_addS (a := [116]) (b := Lib.decDigits s.n.toNat) rfl rfl (by simp only [List.length_cons, List.length_nil]; omega)) rfl ?_
    refine OW_q (q_assign rfl) rfl ?_
    refine OW_nil ?_
    refine EW_then ?_
    refine CW_ret ?_
    refine EW_then_ret ?_
    refine ret1 Tryd.results16 rfl (fun w hw => ?_)
    exact ⟨by unfold symT; rw [if_pos h4], hw.sub .nil⟩
  · skip
    refine CW_skip ?_
    refine EW_then ?_
    refine CW_seq ?_
    refine CW_region ?_
    refine OW_q (q_fieldAddr Tryd.underlying53 rfl rfl Tryd.sizeOf3 rfl rfl) rfl ?_
    first | (refine OW_q (q_load1_own Tryd.isAgg3 rfl rfl (by (repeat (first | exact .head | apply Swap.tail))) (by rfl)) rfl ?_) | (refine OW_q (q_load1_ro Tryd.isAgg3 rfl (by first | assumption | exact Row.at_ (by assumption) rfl)) rfl ?_)
    refine OW_e (e_call Tryd.call15 rfl (fun w hw => lift_ro (itoa_any s.n h0 hn w) hw)) rfl (fun x11 => ?_)
    refine OW_q (q_addS (a := [110]) (b := Lib.decDigits s.n.toNat) rfl rfl (by simp only [List.length_cons, List.length_nil]; omega)) rfl ?_
    refine OW_q (q_assign rfl) rfl ?_
    refine OW_nil ?_
    refine EW_then ?_
    refine CW_ret ?_
    refine ret1 Tryd.results16 rfl (fun w hw => ?_)
    exact ⟨by unfold symT; rw [if_neg (by rw [h4]; decide)], hw.sub .nil⟩

set_option maxRecDepth 20000 in
theorem digitsN_any : ∀ (k : Nat), k < 1000000 → ∀ w : World, Calls Tryd.prog 18 #[.int .i64 (k : Int)] w (fun e w' => e = .returned (.string ⟨(Lib.decDigits k).toArray⟩) ∧ Sat (Old w) w [] w') := by
  intro k
  refine Nat.strongRecOn k ?_
  clear k
  intro k ih hk w
  have hb : (UInt8.ofNat (48 + k % 10)).toNat = 48 + k % 10 := by simp; omega
  refine calls_CW Tryd.func18 rfl Tryd.ntmps18 rfl (Sat.start w) ?_
  refine CW_seq ?_
  refine CW_region ?_
  refine OW_q (q_assign rfl) rfl ?_
  refine OW_nil ?_
  refine EW_then ?_
  refine CW_seq ?_
  refine CW_region ?_
  refine OW_q (q_move rfl) rfl ?_
  refine OW_q (q_rem10 rfl rfl) rfl ?_
  refine OW_q (q_add (a := 48) (b := ((k % 10 : Nat) : Int)) rfl rfl (by omega) (by omega)) rfl ?_
  refine OW_spell 6 (.int .i64 ((48 + k % 10 : Nat) : Int)) rfl (congrArg (Value.int .i64) (by omega)) ?_
  refine OW_q (q_conv8 Tryd.underlying3 Tryd.underlying5 rfl (by omega)) rfl ?_
  refine OW_e (e_single Tryd.underlying37 Tryd.sizeOf5 Tryd.zeroValue5 (e := 5) (v := .int .u8 ((48 + k % 10 : Nat) : Int)) (cs := [.int .u8 ((48 + k % 10 : Nat) : Int)]) rfl rfl rfl rfl (by decide) (by decide)) rfl (fun b8 => ?_)
  refine OW_q (q_bytesS (l := [UInt8.ofNat (48 + k % 10)]) Tryd.underlying37 Tryd.underlying5 Tryd.underlying9 rfl (fun w hw j hj => by
    have hj0 : j = 0 := by simp only [List.length_cons, List.length_nil] at hj; omega
    subst hj0
    have := hw.cell (cs := [.int .u8 ((48 + k % 10 : Nat) : Int)]) (off := 0) (A' := cel 0 0 []) .head
    rw [show (⟨b8, 0, none⟩ : Addr).add 0 = ⟨b8, 0, none⟩ from rfl, this]
    show some _ = some (Value.int .u8 ((UInt8.ofNat (48 + k % 10)).toNat : Int))
    rw [hb])) rfl ?_
  refine OW_q (q_assign rfl) rfl ?_
  refine OW_nil ?_
  refine EW_then ?_
  refine CW_seq ?_
  refine CW_seq ?_
  refine CW_region ?_
  refine OW_q (q_move rfl) rfl ?_
  refine OW_q (q_lss rfl rfl) rfl ?_
  refine OW_nil ?_
  refine EW_then ?_
  refine CW_cond rfl (fun h11 => ?_) (fun h11 => ?_)
  · skip
    have hlt : k < 10 := by have := of_decide_eq_true h11; omega
    refine CW_seq ?_
    refine CW_region ?_
    refine OW_q (q_move rfl) rfl ?_
    refine OW_q (q_assign rfl) rfl ?_
    refine OW_nil ?_
    refine EW_then ?_
    refine CW_ret ?_
    refine EW_then_ret ?_
    refine ret1 Tryd.results18 rfl (fun w hw => ?_)
    exact ⟨by rw [Lib.decDigits_one hlt, Nat.mod_eq_of_lt hlt], hw.sub .nil⟩
  · skip
    have hge : ¬ k < 10 := by have := of_decide_eq_false h11; omega
    refine CW_skip ?_
    refine EW_then ?_
    refine CW_seq ?_
    refine CW_region ?_
    refine OW_q (q_move rfl) rfl ?_
    refine OW_q (q_quo10 rfl rfl (by omega)) rfl ?_
    refine OW_e (e_call Tryd.call18 rfl (fun w hw => lift_ro (ih (k / 10) (by omega) (by omega) w) hw)) rfl (fun x15 => ?_)
    refine OW_q (q_move rfl) rfl ?_
    refine OW_q (q_addS (a := Lib.decDigits (k / 10)) (b := [UInt8.ofNat (48 + k % 10)]) rfl rfl (by have := Lib.decDigits_length (k / 10); have := nDigits_le (k / 10); simp only [List.length_cons, List.length_nil]; omega)) rfl ?_
    refine OW_q (q_assign rfl) rfl ?_
    refine OW_nil ?_
    refine EW_then ?_
    refine CW_ret ?_
    refine ret1 Tryd.results18 rfl (fun w hw => ?_)
    have e : Lib.decDigits k = Lib.decDigits (k / 10) ++ [UInt8.ofNat (48 + k % 10)] := by rw [Lib.decDigits, dif_neg hge]
    exact ⟨by rw [e], hw.sub .nil⟩

theorem digits_any (n : Int) (h0 : 0 ≤ n) (hn : n < 100) (w : World) : Calls Tryd.prog 18 #[.int .i64 n] w (fun e w' => e = .returned (.string ⟨(Lib.decDigits n.toNat).toArray⟩) ∧ Sat (Old w) w [] w') := by
  obtain ⟨k, rfl⟩ := Int.eq_ofNat_of_zero_le h0
  exact digitsN_any k (by omega) w

set_option maxRecDepth 20000 in
theorem symbol9_any (s : Sym) (h0 : 0 ≤ s.n) (hn : s.n < 100) (w : World) : Calls Tryd.prog 19 #[.agg #[.bool s.term, .int .i64 s.n]] w (fun e w' => e = .returned (.string ⟨(symT s).toArray⟩) ∧ Sat (Old w) w [] w') := by
  have hd := dec_len (n := s.n.toNat) (by omega)
  refine calls_CW Tryd.func19 rfl Tryd.ntmps19 rfl (Sat.start w) ?_
  refine CW_seq ?_
  refine CW_region ?_
  refine OW_e (e_box rfl rfl) rfl (fun b1 => ?_)
  refine OW_q (q_assign rfl) rfl ?_
  refine OW_nil ?_
  refine EW_then ?_
  refine CW_seq ?_
  refine CW_seq ?_
  refine CW_region ?_
  refine OW_q (q_fieldAddr Tryd.underlying53 rfl rfl Tryd.sizeOf4 rfl rfl) rfl ?_
  first | (refine OW_q (q_load1_own Tryd.isAgg4 rfl rfl (by (repeat (first | exact .head | apply Swap.tail))) (by rfl)) rfl ?_) | (refine OW_q (q_load1_ro Tryd.isAgg4 rfl (by first | assumption | exact Row.at_ (by assumption) rfl)) rfl ?_)
  refine OW_nil ?_
  refine EW_then ?_
  refine CW_cond rfl (fun h4 => ?_) (fun h4 => ?_)
  · skip
    refine CW_seq ?_
    refine CW_region ?_
    refine OW_q (q_fieldAddr Tryd.underlying53 rfl rfl Tryd.sizeOf3 rfl rfl) rfl ?_
    first | (refine OW_q (q_load1_own Tryd.isAgg3 rfl rfl (by (repeat (first | exact .head | apply Swap.tail))) (by rfl)) rfl ?_) | (refine OW_q (q_load1_ro Tryd.isAgg3 rfl (by first | assumption | exact Row.at_ (by assumption) rfl)) rfl ?_)
    refine OW_e (e_call Tryd.call18 rfl (fun w hw => lift_ro (digits_any s.n h0 hn w) hw)) rfl (fun x7 => ?_)
    refine OW_q (q_addS (a := [116]) (b := Lib.decDigits s.n.toNat) rfl rfl (by simp only [List.length_cons, List.length_nil]; omega)) rfl ?_
    refine OW_q (q_assign rfl) rfl ?_
    refine OW_nil ?_
    refine EW_then ?_
    refine CW_ret ?_
    refine EW_then_ret ?_
    refine ret1 Tryd.results19 rfl (fun w hw => ?_)
    exact ⟨by unfold symT; rw [if_pos h4], hw.sub .nil⟩
  · skip
    refine CW_skip ?_
    refine EW_then ?_
    refine CW_seq ?_
    refine CW_region ?_
    refine OW_q (q_fieldAddr Tryd.underlying53 rfl rfl Tryd.sizeOf3 rfl rfl) rfl ?_
    first | (refine OW_q (q_load1_own Tryd.isAgg3 rfl rfl (by (repeat (first | exact .head | apply Swap.tail))) (by rfl)) rfl ?_) | (refine OW_q (q_load1_ro Tryd.isAgg3 rfl (by first | assumption | exact Row.at_ (by assumption) rfl)) rfl ?_)
    refine OW_e (e_call Tryd.call18 rfl (fun w hw => lift_ro (digits_any s.n h0 hn w) hw)) rfl (fun x11 => ?_)
    refine OW_q (q_addS (a := [110]) (b := Lib.decDigits s.n.toNat) rfl rfl (by simp only [List.length_cons, List.length_nil]; omega)) rfl ?_
    refine OW_q (q_assign rfl) rfl ?_
    refine OW_nil ?_
    refine EW_then ?_
    refine CW_ret ?_
    refine ret1 Tryd.results19 rfl (fun w hw => ?_)
    exact ⟨by unfold symT; rw [if_neg (by rw [h4]; decide)], hw.sub .nil⟩

end Go.Sy
