/- Package gram: a derivation, read. No condition. -/
import Derived.Test.YteceklkjbcebkaaW5
import Derived.Test.YteceklkjbcebkaaTree
namespace Go.Sy
open Go Go.RowKit Go.Proofs

/-- What is thrown where a list is no derivation. -/
abbrev badP : List PanicEntry := [{ v := .iface 105 (.agg #[]), recovered := false }]
structure NR where
  b : Nat
  f : For
  dv : Value
  dc : List Int

set_option maxRecDepth 20000 in
theorem name_any (g : Gram) (hm : mayB g = true) (a : Option Addr) (c br : Nat) (R : Nat → Prop) (w0 : World) (hr : RulesAt (Rd R w0) (.slice a g.rules.length c) g.rules) : ∀ (m : Nat) (dc : List Int) (dv : Value) (n : Int) (w : World) (F : HP), dc.length = m → dc.length ≤ 400 → IntsAt (Rd R w0) dv dc → Sat R w0 [cel br 109 [.int .i64 g.terms, .int .i64 g.names, .slice a g.rules.length c, dv], F] w →
    Calls Try.prog 61 #[.pointer (some ⟨br, 0, none⟩), .int .i64 n] w (fun e w' => (∃ y : NR, e = .returned (.pointer (some ⟨y.b, 0, none⟩)) ∧ (PS g [⟨false, n⟩] dc (some (y.f, y.dc)) ∧ IntsAt (Rd R w0) y.dv y.dc ∧ y.dc.length < dc.length) ∧ Sat R w0 ([kidsA y.f [y.b], cel br 109 [.int .i64 g.terms, .int .i64 g.names, .slice a g.rules.length c, y.dv]] ++ [F]) w') ∨ ∃ ch, e = .panicked ch ∧ (ch = badP ∧ PS g [⟨false, n⟩] dc none) ∧ Sat R w0 [F] w') := by
  intro m
  refine Nat.strongRecOn m ?_
  clear m
  intro m ih dc dv n w F hlen h400 hd hw
  obtain ⟨a', c', hv, hc1, hc2, hrs⟩ := id hr
  injection hv with e1 _ e2
  subst e1
  subst e2
  have hM := mayB_true.1 hm
  obtain ⟨da, dcap, rfl, hd1, hd2, hds⟩ := id hd
  refine calls_CW (S := Sat R w0 [cel br 109 [.int .i64 g.terms, .int .i64 g.names, .slice a g.rules.length c, (.slice da dc.length dcap)], F]) Try.func61 rfl Try.ntmps61 rfl (hw) ?_
  refine CW_seq ?_
  refine CW_region ?_
  refine OW_q (q_assign rfl) rfl ?_
  refine OW_nil ?_
  refine EW_then ?_
  refine CW_seq ?_
  refine CW_seq ?_
  refine CW_drawS 40 [(0, false), (1, false), (2, false), (3, false), (4, false), (5, false), (6, false), (7, false), (8, false), (9, false), (10, false), (11, false), (12, false), (13, false), (14, false), (15, false), (16, false), (17, false), (18, false), (19, true), (20, false), (21, false), (22, false), (23, false), (24, false), (25, false), (26, false), (27, false), (28, false), (29, false), (30, false), (31, false), (32, false), (33, false), (34, false), (35, false), (36, false), (37, false), (38, false), (39, false)] (by kernel_rfl) (Blind.then (Blind.then Blind.bodyP)) (by kernel_rfl) (fun w hw => hw.drew) ?_
  refine DW_q rfl (fun w hw => hw.sub (by (repeat (first | exact SubL.nil | exact Pick.head | apply Pick.tail | apply SubL.cons)))) (q_move rfl) rfl ?_
  refine DW_q rfl (fun w hw => hw.sub (by (repeat (first | exact SubL.nil | exact Pick.head | apply Pick.tail | apply SubL.cons)))) (q_nilCheck rfl) rfl ?_
  refine DW_q rfl (fun w hw => hw.sub (by (repeat (first | exact SubL.nil | exact Pick.head | apply Pick.tail | apply SubL.cons)))) (q_fieldAddr Try.underlying109 rfl rfl Try.sizeOf25 rfl rfl) rfl ?_
  first | (refine DW_q rfl (fun w hw => hw.sub (by (repeat (first | exact SubL.nil | exact Pick.head | apply Pick.tail | apply SubL.cons)))) (q_load1_own Try.isAgg25 rfl rfl (by (repeat (first | exact .head | apply Swap.tail))) (by rfl)) rfl ?_) | (refine DW_q rfl (fun w hw => hw.sub (by (repeat (first | exact SubL.nil | exact Pick.head | apply Pick.tail | apply SubL.cons)))) (q_load1_ro Try.isAgg25 rfl (by first | assumption | exact Row.at_ (by assumption) rfl)) rfl ?_)
  refine DW_q rfl (fun w hw => hw.sub (by (repeat (first | exact SubL.nil | exact Pick.head | apply Pick.tail | apply SubL.cons)))) (q_len Try.underlying25 rfl) rfl ?_
  refine DW_q rfl (fun w hw => hw.sub (by (repeat (first | exact SubL.nil | exact Pick.head | apply Pick.tail | apply SubL.cons)))) (q_eqi rfl rfl) rfl ?_
  refine DW_q rfl (fun w hw => hw.sub (by (repeat (first | exact SubL.nil | exact Pick.head | apply Pick.tail | apply SubL.cons)))) (q_move rfl) rfl ?_
  refine DW_part (t := 14) rfl (fun hg14 => ?_) (fun hg14 => ?_)
  · skip
    have hnil : dc = [] := by
      cases dc with
      | nil => rfl
      | cons x t => simp at hg14; omega
    refine DW_skip rfl (fun w hw => hw.sub (by (repeat (first | exact SubL.nil | exact Pick.head | apply Pick.tail | apply SubL.cons)))) rfl rfl rfl rfl ?_
    refine DW_skip rfl (fun w hw => hw.sub (by (repeat (first | exact SubL.nil | exact Pick.head | apply Pick.tail | apply SubL.cons)))) rfl rfl rfl rfl ?_
    refine DW_skip rfl (fun w hw => hw.sub (by (repeat (first | exact SubL.nil | exact Pick.head | apply Pick.tail | apply SubL.cons)))) rfl rfl rfl rfl ?_
    refine DW_skip rfl (fun w hw => hw.sub (by (repeat (first | exact SubL.nil | exact Pick.head | apply Pick.tail | apply SubL.cons)))) rfl rfl rfl rfl ?_
    refine DW_skip rfl (fun w hw => hw.sub (by (repeat (first | exact SubL.nil | exact Pick.head | apply Pick.tail | apply SubL.cons)))) rfl rfl rfl rfl ?_
    refine DW_skip rfl (fun w hw => hw.sub (by (repeat (first | exact SubL.nil | exact Pick.head | apply Pick.tail | apply SubL.cons)))) rfl rfl rfl rfl ?_
    refine DW_skip rfl (fun w hw => hw.sub (by (repeat (first | exact SubL.nil | exact Pick.head | apply Pick.tail | apply SubL.cons)))) rfl rfl rfl rfl ?_
    refine DW_skip rfl (fun w hw => hw.sub (by (repeat (first | exact SubL.nil | exact Pick.head | apply Pick.tail | apply SubL.cons)))) rfl rfl rfl rfl ?_
    refine DW_skip rfl (fun w hw => hw.sub (by (repeat (first | exact SubL.nil | exact Pick.head | apply Pick.tail | apply SubL.cons)))) rfl rfl rfl rfl ?_
    refine DW_skip rfl (fun w hw => hw.sub (by (repeat (first | exact SubL.nil | exact Pick.head | apply Pick.tail | apply SubL.cons)))) rfl rfl rfl rfl ?_
    refine DW_skip rfl (fun w hw => hw.sub (by (repeat (first | exact SubL.nil | exact Pick.head | apply Pick.tail | apply SubL.cons)))) rfl rfl rfl rfl ?_
    refine DW_skip rfl (fun w hw => hw.sub (by (repeat (first | exact SubL.nil | exact Pick.head | apply Pick.tail | apply SubL.cons)))) rfl rfl rfl rfl ?_
    refine DW_eskip rfl (fun w hw => hw.sub (by (repeat (first | exact SubL.nil | exact Pick.head | apply Pick.tail | apply SubL.cons)))) rfl rfl rfl rfl ?_
    refine DW_skip rfl (fun w hw => hw.sub (by (repeat (first | exact SubL.nil | exact Pick.head | apply Pick.tail | apply SubL.cons)))) rfl rfl rfl rfl ?_
    refine DW_q rfl (fun w hw => hw.sub (by (repeat (first | exact SubL.nil | exact Pick.head | apply Pick.tail | apply SubL.cons)))) (q_pick_t rfl rfl) rfl ?_
    refine DW_q rfl (fun w hw => hw.sub (by (repeat (first | exact SubL.nil | exact Pick.head | apply Pick.tail | apply SubL.cons)))) (q_move rfl) rfl ?_
    refine DW_skip rfl (fun w hw => hw.sub (by (repeat (first | exact SubL.nil | exact Pick.head | apply Pick.tail | apply SubL.cons)))) rfl rfl rfl rfl ?_
    refine DW_skip rfl (fun w hw => hw.sub (by (repeat (first | exact SubL.nil | exact Pick.head | apply Pick.tail | apply SubL.cons)))) rfl rfl rfl rfl ?_
    refine DW_skip rfl (fun w hw => hw.sub (by (repeat (first | exact SubL.nil | exact Pick.head | apply Pick.tail | apply SubL.cons)))) rfl rfl rfl rfl ?_
    refine DW_skip rfl (fun w hw => hw.sub (by (repeat (first | exact SubL.nil | exact Pick.head | apply Pick.tail | apply SubL.cons)))) rfl rfl rfl rfl ?_
    refine DW_skip rfl (fun w hw => hw.sub (by (repeat (first | exact SubL.nil | exact Pick.head | apply Pick.tail | apply SubL.cons)))) rfl rfl rfl rfl ?_
    refine DW_skip rfl (fun w hw => hw.sub (by (repeat (first | exact SubL.nil | exact Pick.head | apply Pick.tail | apply SubL.cons)))) rfl rfl rfl rfl ?_
    refine DW_skip rfl (fun w hw => hw.sub (by (repeat (first | exact SubL.nil | exact Pick.head | apply Pick.tail | apply SubL.cons)))) rfl rfl rfl rfl ?_
    refine DW_skip rfl (fun w hw => hw.sub (by (repeat (first | exact SubL.nil | exact Pick.head | apply Pick.tail | apply SubL.cons)))) rfl rfl rfl rfl ?_
    refine DW_skip rfl (fun w hw => hw.sub (by (repeat (first | exact SubL.nil | exact Pick.head | apply Pick.tail | apply SubL.cons)))) rfl rfl rfl rfl ?_
    refine DW_skip rfl (fun w hw => hw.sub (by (repeat (first | exact SubL.nil | exact Pick.head | apply Pick.tail | apply SubL.cons)))) rfl rfl rfl rfl ?_
    refine DW_skip rfl (fun w hw => hw.sub (by (repeat (first | exact SubL.nil | exact Pick.head | apply Pick.tail | apply SubL.cons)))) rfl rfl rfl rfl ?_
    refine DW_skip rfl (fun w hw => hw.sub (by (repeat (first | exact SubL.nil | exact Pick.head | apply Pick.tail | apply SubL.cons)))) rfl rfl rfl rfl ?_
    refine DW_skip rfl (fun w hw => hw.sub (by (repeat (first | exact SubL.nil | exact Pick.head | apply Pick.tail | apply SubL.cons)))) rfl rfl rfl rfl ?_
    refine DW_skip rfl (fun w hw => hw.sub (by (repeat (first | exact SubL.nil | exact Pick.head | apply Pick.tail | apply SubL.cons)))) rfl rfl rfl rfl ?_
    refine DW_skip rfl (fun w hw => hw.sub (by (repeat (first | exact SubL.nil | exact Pick.head | apply Pick.tail | apply SubL.cons)))) rfl rfl rfl rfl ?_
    refine DW_skip rfl (fun w hw => hw.sub (by (repeat (first | exact SubL.nil | exact Pick.head | apply Pick.tail | apply SubL.cons)))) rfl rfl rfl rfl ?_
    refine DW_q rfl (fun w hw => hw.sub (by (repeat (first | exact SubL.nil | exact Pick.head | apply Pick.tail | apply SubL.cons)))) (q_pick_t rfl rfl) rfl ?_
    refine DW_nil ?_
    refine EW_then ?_
    refine CW_true rfl rfl ?_
    refine CW_region ?_
    refine OW_q (q_build (ps := #[]) (v := .agg #[]) rfl (fun w => by kernel_rfl)) rfl ?_
    refine OW_q (q_makeIface Try.underlying105 rfl) rfl ?_
    refine OW_panic rfl ?_
    refine EW_then_panic ?_; refine retP (fun w hw => ?_)
    exact .inr ⟨_, rfl, ⟨rfl, .bad rfl (fun x d q h => by rw [hnil] at h; cases h)⟩, hw.sub (by repeat (first | exact SubL.nil | exact Pick.head | apply Pick.tail | apply SubL.cons))⟩
  · skip
    obtain ⟨x, dt, rfl⟩ : ∃ x dt, dc = x :: dt := by
      cases dc with
      | nil => simp at hg14
      | cons x t => exact ⟨x, t, rfl⟩
    have hlc : (x :: dt).length = dt.length + 1 := rfl
    obtain ⟨pd, rfl, hrx0⟩ := hds 0 x rfl
    have hrx : Rd R w0 (pd.add ((0 : Int).toNat * 1)) (.int .i64 x) := hrx0
    refine DW_qg rfl (fun w hw => hw.sub (by (repeat (first | exact SubL.nil | exact Pick.head | apply Pick.tail | apply SubL.cons)))) rfl rfl rfl (q_move rfl) rfl ?_
    refine DW_qg rfl (fun w hw => hw.sub (by (repeat (first | exact SubL.nil | exact Pick.head | apply Pick.tail | apply SubL.cons)))) rfl rfl rfl (q_nilCheck rfl) rfl ?_
    refine DW_qg rfl (fun w hw => hw.sub (by (repeat (first | exact SubL.nil | exact Pick.head | apply Pick.tail | apply SubL.cons)))) rfl rfl rfl (q_fieldAddr Try.underlying109 rfl rfl Try.sizeOf25 rfl rfl) rfl ?_
    first | (refine DW_qg rfl (fun w hw => hw.sub (by (repeat (first | exact SubL.nil | exact Pick.head | apply Pick.tail | apply SubL.cons)))) rfl rfl rfl (q_load1_own Try.isAgg25 rfl rfl (by (repeat (first | exact .head | apply Swap.tail))) (by rfl)) rfl ?_) | (refine DW_qg rfl (fun w hw => hw.sub (by (repeat (first | exact SubL.nil | exact Pick.head | apply Pick.tail | apply SubL.cons)))) rfl rfl rfl (q_load1_ro Try.isAgg25 rfl (by first | assumption | exact Row.at_ (by assumption) rfl)) rfl ?_)
    refine DW_qg rfl (fun w hw => hw.sub (by (repeat (first | exact SubL.nil | exact Pick.head | apply Pick.tail | apply SubL.cons)))) rfl rfl rfl (q_indexAddrI Try.underlying25 Try.sizeOf3 rfl rfl (by first | omega | assumption) (by first | omega | assumption)) rfl ?_
    refine DW_qg rfl (fun w hw => hw.sub (by (repeat (first | exact SubL.nil | exact Pick.head | apply Pick.tail | apply SubL.cons)))) rfl rfl rfl (q_load1_ro Try.isAgg3 rfl (by first | exact hrx)) rfl ?_
    refine DW_qg rfl (fun w hw => hw.sub (by (repeat (first | exact SubL.nil | exact Pick.head | apply Pick.tail | apply SubL.cons)))) rfl rfl rfl (q_move rfl) rfl ?_
    refine DW_qg rfl (fun w hw => hw.sub (by (repeat (first | exact SubL.nil | exact Pick.head | apply Pick.tail | apply SubL.cons)))) rfl rfl rfl (q_nilCheck rfl) rfl ?_
    refine DW_qg rfl (fun w hw => hw.sub (by (repeat (first | exact SubL.nil | exact Pick.head | apply Pick.tail | apply SubL.cons)))) rfl rfl rfl (q_fieldAddr Try.underlying109 rfl rfl Try.sizeOf24 rfl rfl) rfl ?_
    refine DW_qg rfl (fun w hw => hw.sub (by (repeat (first | exact SubL.nil | exact Pick.head | apply Pick.tail | apply SubL.cons)))) rfl rfl rfl (q_fieldAddr Try.underlying24 rfl rfl Try.sizeOf22 rfl rfl) rfl ?_
    first | (refine DW_qg rfl (fun w hw => hw.sub (by (repeat (first | exact SubL.nil | exact Pick.head | apply Pick.tail | apply SubL.cons)))) rfl rfl rfl (q_load1_own Try.isAgg22 rfl rfl (by (repeat (first | exact .head | apply Swap.tail))) (by rfl)) rfl ?_) | (refine DW_qg rfl (fun w hw => hw.sub (by (repeat (first | exact SubL.nil | exact Pick.head | apply Pick.tail | apply SubL.cons)))) rfl rfl rfl (q_load1_ro Try.isAgg22 rfl (by first | assumption | exact Row.at_ (by assumption) rfl)) rfl ?_)
    refine DW_qg rfl (fun w hw => hw.sub (by (repeat (first | exact SubL.nil | exact Pick.head | apply Pick.tail | apply SubL.cons)))) rfl rfl rfl (q_len Try.underlying22 rfl) rfl ?_
    refine DW_eg rfl rfl rfl rfl (e_call Try.call40 rfl (fun w hw => lift_same (in_any x (g.rules.length : Int) w) hw)) rfl (fun _ w hw => by first | exact hw.sub (by (repeat (first | exact SubL.nil | exact Pick.head | apply Pick.tail | apply SubL.cons))) | exact hw.2.sub (by (repeat (first | exact SubL.nil | exact Pick.head | apply Pick.tail | apply SubL.cons)))) (fun x27 => ?_)
    refine DW_qg rfl (fun w hw => hw.sub (by (repeat (first | exact SubL.nil | exact Pick.head | apply Pick.tail | apply SubL.cons)))) rfl rfl rfl (q_not rfl) rfl ?_
    refine DW_q rfl (fun w hw => hw.sub (by (repeat (first | exact SubL.nil | exact Pick.head | apply Pick.tail | apply SubL.cons)))) (q_pick_f rfl rfl) rfl ?_
    refine DW_q rfl (fun w hw => hw.sub (by (repeat (first | exact SubL.nil | exact Pick.head | apply Pick.tail | apply SubL.cons)))) (q_move rfl) rfl ?_
    refine DW_part (t := 30) rfl (fun hg30 => ?_) (fun hg30 => ?_)
    · skip
      have hout : inB x g.rules.length = false := by simpa using hg30
      refine DW_skip rfl (fun w hw => hw.sub (by (repeat (first | exact SubL.nil | exact Pick.head | apply Pick.tail | apply SubL.cons)))) rfl rfl rfl rfl ?_
      refine DW_skip rfl (fun w hw => hw.sub (by (repeat (first | exact SubL.nil | exact Pick.head | apply Pick.tail | apply SubL.cons)))) rfl rfl rfl rfl ?_
      refine DW_skip rfl (fun w hw => hw.sub (by (repeat (first | exact SubL.nil | exact Pick.head | apply Pick.tail | apply SubL.cons)))) rfl rfl rfl rfl ?_
      refine DW_skip rfl (fun w hw => hw.sub (by (repeat (first | exact SubL.nil | exact Pick.head | apply Pick.tail | apply SubL.cons)))) rfl rfl rfl rfl ?_
      refine DW_skip rfl (fun w hw => hw.sub (by (repeat (first | exact SubL.nil | exact Pick.head | apply Pick.tail | apply SubL.cons)))) rfl rfl rfl rfl ?_
      refine DW_skip rfl (fun w hw => hw.sub (by (repeat (first | exact SubL.nil | exact Pick.head | apply Pick.tail | apply SubL.cons)))) rfl rfl rfl rfl ?_
      refine DW_skip rfl (fun w hw => hw.sub (by (repeat (first | exact SubL.nil | exact Pick.head | apply Pick.tail | apply SubL.cons)))) rfl rfl rfl rfl ?_
      refine DW_skip rfl (fun w hw => hw.sub (by (repeat (first | exact SubL.nil | exact Pick.head | apply Pick.tail | apply SubL.cons)))) rfl rfl rfl rfl ?_
      refine DW_skip rfl (fun w hw => hw.sub (by (repeat (first | exact SubL.nil | exact Pick.head | apply Pick.tail | apply SubL.cons)))) rfl rfl rfl rfl ?_
      refine DW_skip rfl (fun w hw => hw.sub (by (repeat (first | exact SubL.nil | exact Pick.head | apply Pick.tail | apply SubL.cons)))) rfl rfl rfl rfl ?_
      refine DW_skip rfl (fun w hw => hw.sub (by (repeat (first | exact SubL.nil | exact Pick.head | apply Pick.tail | apply SubL.cons)))) rfl rfl rfl rfl ?_
      refine DW_skip rfl (fun w hw => hw.sub (by (repeat (first | exact SubL.nil | exact Pick.head | apply Pick.tail | apply SubL.cons)))) rfl rfl rfl rfl ?_
      refine DW_skip rfl (fun w hw => hw.sub (by (repeat (first | exact SubL.nil | exact Pick.head | apply Pick.tail | apply SubL.cons)))) rfl rfl rfl rfl ?_
      refine DW_skip rfl (fun w hw => hw.sub (by (repeat (first | exact SubL.nil | exact Pick.head | apply Pick.tail | apply SubL.cons)))) rfl rfl rfl rfl ?_
      refine DW_skip rfl (fun w hw => hw.sub (by (repeat (first | exact SubL.nil | exact Pick.head | apply Pick.tail | apply SubL.cons)))) rfl rfl rfl rfl ?_
      refine DW_skip rfl (fun w hw => hw.sub (by (repeat (first | exact SubL.nil | exact Pick.head | apply Pick.tail | apply SubL.cons)))) rfl rfl rfl rfl ?_
      refine DW_q rfl (fun w hw => hw.sub (by (repeat (first | exact SubL.nil | exact Pick.head | apply Pick.tail | apply SubL.cons)))) (q_pick_t rfl rfl) rfl ?_
      refine DW_nil ?_
      refine EW_then ?_
      refine CW_true rfl rfl ?_
      refine CW_region ?_
      refine OW_q (q_build (ps := #[]) (v := .agg #[]) rfl (fun w => by kernel_rfl)) rfl ?_
      refine OW_q (q_makeIface Try.underlying105 rfl) rfl ?_
      refine OW_panic rfl ?_
      refine EW_then_panic ?_; refine retP (fun w hw => ?_)
      exact .inr ⟨_, rfl, ⟨rfl, .bad rfl (fun x' d q h h0 hq => by
        cases h
        have := (List.getElem?_eq_some_iff.1 hq).1
        rw [inB_true.2 ⟨h0, by omega⟩] at hout
        cases hout)⟩, hw.sub (by repeat (first | exact SubL.nil | exact Pick.head | apply Pick.tail | apply SubL.cons))⟩
    · skip
      have hin : inB x g.rules.length = true := by simpa using hg30
      obtain ⟨hx0, hx1⟩ := inB_true.1 hin
      obtain ⟨q, hq⟩ := get_of_lt (l := g.rules) (k := x.toNat) (by omega)
      obtain ⟨p, rfl, rv2, hsy, hrow⟩ := hrs x.toNat q hq
      obtain ⟨a2, c2, rfl, hl1, hl2, hss⟩ := hsy
      have hr8 := (may_rule hm hq).2.2
      refine DW_qg rfl (fun w hw => hw.sub (by (repeat (first | exact SubL.nil | exact Pick.head | apply Pick.tail | apply SubL.cons)))) rfl rfl rfl (q_move rfl) rfl ?_
      refine DW_qg rfl (fun w hw => hw.sub (by (repeat (first | exact SubL.nil | exact Pick.head | apply Pick.tail | apply SubL.cons)))) rfl rfl rfl (q_nilCheck rfl) rfl ?_
      refine DW_qg rfl (fun w hw => hw.sub (by (repeat (first | exact SubL.nil | exact Pick.head | apply Pick.tail | apply SubL.cons)))) rfl rfl rfl (q_fieldAddr Try.underlying109 rfl rfl Try.sizeOf24 rfl rfl) rfl ?_
      refine DW_qg rfl (fun w hw => hw.sub (by (repeat (first | exact SubL.nil | exact Pick.head | apply Pick.tail | apply SubL.cons)))) rfl rfl rfl (q_fieldAddr Try.underlying24 rfl rfl Try.sizeOf22 rfl rfl) rfl ?_
      first | (refine DW_qg rfl (fun w hw => hw.sub (by (repeat (first | exact SubL.nil | exact Pick.head | apply Pick.tail | apply SubL.cons)))) rfl rfl rfl (q_load1_own Try.isAgg22 rfl rfl (by (repeat (first | exact .head | apply Swap.tail))) (by rfl)) rfl ?_) | (refine DW_qg rfl (fun w hw => hw.sub (by (repeat (first | exact SubL.nil | exact Pick.head | apply Pick.tail | apply SubL.cons)))) rfl rfl rfl (q_load1_ro Try.isAgg22 rfl (by first | assumption | exact Row.at_ (by assumption) rfl)) rfl ?_)
      refine DW_qg rfl (fun w hw => hw.sub (by (repeat (first | exact SubL.nil | exact Pick.head | apply Pick.tail | apply SubL.cons)))) rfl rfl rfl (q_move rfl) rfl ?_
      refine DW_qg rfl (fun w hw => hw.sub (by (repeat (first | exact SubL.nil | exact Pick.head | apply Pick.tail | apply SubL.cons)))) rfl rfl rfl (q_nilCheck rfl) rfl ?_
      refine DW_qg rfl (fun w hw => hw.sub (by (repeat (first | exact SubL.nil | exact Pick.head | apply Pick.tail | apply SubL.cons)))) rfl rfl rfl (q_fieldAddr Try.underlying109 rfl rfl Try.sizeOf25 rfl rfl) rfl ?_
      first | (refine DW_qg rfl (fun w hw => hw.sub (by (repeat (first | exact SubL.nil | exact Pick.head | apply Pick.tail | apply SubL.cons)))) rfl rfl rfl (q_load1_own Try.isAgg25 rfl rfl (by (repeat (first | exact .head | apply Swap.tail))) (by rfl)) rfl ?_) | (refine DW_qg rfl (fun w hw => hw.sub (by (repeat (first | exact SubL.nil | exact Pick.head | apply Pick.tail | apply SubL.cons)))) rfl rfl rfl (q_load1_ro Try.isAgg25 rfl (by first | assumption | exact Row.at_ (by assumption) rfl)) rfl ?_)
      refine DW_qg rfl (fun w hw => hw.sub (by (repeat (first | exact SubL.nil | exact Pick.head | apply Pick.tail | apply SubL.cons)))) rfl rfl rfl (q_indexAddrI Try.underlying25 Try.sizeOf3 rfl rfl (by first | omega | assumption) (by first | omega | assumption)) rfl ?_
      refine DW_qg rfl (fun w hw => hw.sub (by (repeat (first | exact SubL.nil | exact Pick.head | apply Pick.tail | apply SubL.cons)))) rfl rfl rfl (q_load1_ro Try.isAgg3 rfl (by first | exact hrx)) rfl ?_
      refine DW_qg rfl (fun w hw => hw.sub (by (repeat (first | exact SubL.nil | exact Pick.head | apply Pick.tail | apply SubL.cons)))) rfl rfl rfl (q_indexAddrI Try.underlying22 Try.sizeOf41 rfl rfl (by first | omega | assumption) (by first | omega | assumption)) rfl ?_
      refine DW_qg rfl (fun w hw => hw.sub (by (repeat (first | exact SubL.nil | exact Pick.head | apply Pick.tail | apply SubL.cons)))) rfl rfl rfl (q_fieldAddr Try.underlying41 rfl rfl Try.sizeOf3 rfl rfl) rfl ?_
      refine DW_qg rfl (fun w hw => hw.sub (by (repeat (first | exact SubL.nil | exact Pick.head | apply Pick.tail | apply SubL.cons)))) rfl rfl rfl (q_load1_ro Try.isAgg3 rfl (by first | assumption | exact Row.at_ (by assumption) rfl)) rfl ?_
      refine DW_qg rfl (fun w hw => hw.sub (by (repeat (first | exact SubL.nil | exact Pick.head | apply Pick.tail | apply SubL.cons)))) rfl rfl rfl (q_move rfl) rfl ?_
      refine DW_qg rfl (fun w hw => hw.sub (by (repeat (first | exact SubL.nil | exact Pick.head | apply Pick.tail | apply SubL.cons)))) rfl rfl rfl (q_nei rfl rfl) rfl ?_
      refine DW_q rfl (fun w hw => hw.sub (by (repeat (first | exact SubL.nil | exact Pick.head | apply Pick.tail | apply SubL.cons)))) (q_pick_f rfl rfl) rfl ?_
      refine DW_nil ?_
      refine EW_then ?_
      refine CW_cond rfl (fun h47 => ?_) (fun h47 => ?_)
      · skip
        --ok
        refine CW_region ?_
        refine OW_q (q_build (ps := #[]) (v := .agg #[]) rfl (fun w => by kernel_rfl)) rfl ?_
        refine OW_q (q_makeIface Try.underlying105 rfl) rfl ?_
        refine OW_panic rfl ?_
        refine EW_then_panic ?_; refine retP (fun w hw => ?_)
        exact .inr ⟨_, rfl, ⟨rfl, .bad rfl (fun x' d q' h h0 hq' => by
          cases h
          rw [hq] at hq'
          cases hq'
          simpa using h47)⟩, hw.sub (by repeat (first | exact SubL.nil | exact Pick.head | apply Pick.tail | apply SubL.cons))⟩
      · skip
        have hql : q.left = n := by simpa using h47
        have hdt : IntsAt (Rd R w0) (.slice (if dcap = 1 then some pd else (some pd).map (·.add (1 * 1))) ((x :: dt).length - 1) (dcap - 1)) dt := by
          have := SlAt.sub (lo := 1) (hi := (x :: dt).length) hd (by omega) (Nat.le_refl _)
          rwa [List.take_length] at this
        refine CW_skip ?_
        refine EW_then ?_
        refine CW_seq ?_
        refine CW_region ?_
        refine OW_q (q_move rfl) rfl ?_
        refine OW_q (q_nilCheck rfl) rfl ?_
        refine OW_q (q_fieldAddr Try.underlying109 rfl rfl Try.sizeOf25 rfl rfl) rfl ?_
        first | (refine OW_q (q_load1_own Try.isAgg25 rfl rfl (by (repeat (first | exact .head | apply Swap.tail))) (by rfl)) rfl ?_) | (refine OW_q (q_load1_ro Try.isAgg25 rfl (by first | assumption | exact Row.at_ (by assumption) rfl)) rfl ?_)
        refine OW_q (q_indexAddrI Try.underlying25 Try.sizeOf3 rfl rfl (by first | omega | assumption) (by first | omega | assumption)) rfl ?_
        refine OW_q (q_load1_ro Try.isAgg3 rfl (by first | exact hrx)) rfl ?_
        refine OW_q (q_build (ps := #[(0, .int .i64 x)]) (v := .agg #[.int .i64 x, .slice none 0 0]) rfl (fun w => by kernel_rfl)) rfl ?_
        refine OW_e (e_box rfl rfl) rfl (fun b57 => ?_)
        refine OW_q (q_assign rfl) rfl ?_
        refine OW_nil ?_
        refine EW_then ?_
        refine CW_seq ?_
        refine CW_region ?_
        refine OW_q (q_move rfl) rfl ?_
        refine OW_q (q_move rfl) rfl ?_
        refine OW_q (q_nilCheck rfl) rfl ?_
        refine OW_q (q_fieldAddr Try.underlying109 rfl rfl Try.sizeOf25 rfl rfl) rfl ?_
        first | (refine OW_q (q_load1_own Try.isAgg25 rfl rfl (by (repeat (first | exact .head | apply Swap.tail))) (by rfl)) rfl ?_) | (refine OW_q (q_load1_ro Try.isAgg25 rfl (by first | assumption | exact Row.at_ (by assumption) rfl)) rfl ?_)
        refine OW_q (q_slice (l := 1) (h := (x :: dt).length) Try.underlying25 Try.sizeOf3 rfl (.inr ⟨_, rfl, rfl⟩) (.inl ⟨rfl, rfl⟩) (by omega) (by omega) (by omega)) rfl ?_
        refine OW_q (q_nilCheck rfl) rfl ?_
        refine OW_q (q_fieldAddr Try.underlying109 rfl rfl Try.sizeOf25 rfl rfl) rfl ?_
        refine OW_e0 (e_store Try.sizeOf25 rfl rfl rfl rfl (by (repeat (first | exact .head | apply Swap.tail))) (by rfl)) (fun _ => ?_)
        refine OW_nil ?_
        refine EW_then ?_
        refine CW_seq ?_
        refine CW_seq ?_
        refine CW_drawS 14 [(0, false), (1, false), (2, false), (3, false), (4, false), (5, false), (6, false), (7, false), (8, false), (9, false), (10, false), (11, false), (12, false), (13, false)] (by kernel_rfl) (Blind.then (Blind.then Blind.bodyP)) (by kernel_rfl) (fun w hw => hw.drew) ?_
        refine DW_q rfl (fun w hw => hw.sub (by (repeat (first | exact SubL.nil | exact Pick.head | apply Pick.tail | apply SubL.cons)))) (q_move rfl) rfl ?_
        refine DW_q rfl (fun w hw => hw.sub (by (repeat (first | exact SubL.nil | exact Pick.head | apply Pick.tail | apply SubL.cons)))) (q_nilCheck rfl) rfl ?_
        refine DW_q rfl (fun w hw => hw.sub (by (repeat (first | exact SubL.nil | exact Pick.head | apply Pick.tail | apply SubL.cons)))) (q_fieldAddr Try.underlying109 rfl rfl Try.sizeOf24 rfl rfl) rfl ?_
        refine DW_q rfl (fun w hw => hw.sub (by (repeat (first | exact SubL.nil | exact Pick.head | apply Pick.tail | apply SubL.cons)))) (q_fieldAddr Try.underlying24 rfl rfl Try.sizeOf22 rfl rfl) rfl ?_
        first | (refine DW_q rfl (fun w hw => hw.sub (by (repeat (first | exact SubL.nil | exact Pick.head | apply Pick.tail | apply SubL.cons)))) (q_load1_own Try.isAgg22 rfl rfl (by (repeat (first | exact .head | apply Swap.tail))) (by rfl)) rfl ?_) | (refine DW_q rfl (fun w hw => hw.sub (by (repeat (first | exact SubL.nil | exact Pick.head | apply Pick.tail | apply SubL.cons)))) (q_load1_ro Try.isAgg22 rfl (by first | assumption | exact Row.at_ (by assumption) rfl)) rfl ?_)
        refine DW_q rfl (fun w hw => hw.sub (by (repeat (first | exact SubL.nil | exact Pick.head | apply Pick.tail | apply SubL.cons)))) (q_move rfl) rfl ?_
        refine DW_q rfl (fun w hw => hw.sub (by (repeat (first | exact SubL.nil | exact Pick.head | apply Pick.tail | apply SubL.cons)))) (q_nilCheck rfl) rfl ?_
        refine DW_q rfl (fun w hw => hw.sub (by (repeat (first | exact SubL.nil | exact Pick.head | apply Pick.tail | apply SubL.cons)))) (q_fieldAddr Try.underlying113 rfl rfl Try.sizeOf3 rfl rfl) rfl ?_
        first | (refine DW_q rfl (fun w hw => hw.sub (by (repeat (first | exact SubL.nil | exact Pick.head | apply Pick.tail | apply SubL.cons)))) (q_load1_own Try.isAgg3 rfl rfl (by (repeat (first | exact .head | apply Swap.tail))) (by rfl)) rfl ?_) | (refine DW_q rfl (fun w hw => hw.sub (by (repeat (first | exact SubL.nil | exact Pick.head | apply Pick.tail | apply SubL.cons)))) (q_load1_ro Try.isAgg3 rfl (by first | assumption | exact Row.at_ (by assumption) rfl)) rfl ?_)
        refine DW_q rfl (fun w hw => hw.sub (by (repeat (first | exact SubL.nil | exact Pick.head | apply Pick.tail | apply SubL.cons)))) (q_indexAddrI Try.underlying22 Try.sizeOf41 rfl rfl (by first | omega | assumption) (by first | omega | assumption)) rfl ?_
        refine DW_q rfl (fun w hw => hw.sub (by (repeat (first | exact SubL.nil | exact Pick.head | apply Pick.tail | apply SubL.cons)))) (q_fieldAddr Try.underlying41 rfl rfl Try.sizeOf39 rfl rfl) rfl ?_
        refine DW_q rfl (fun w hw => hw.sub (by (repeat (first | exact SubL.nil | exact Pick.head | apply Pick.tail | apply SubL.cons)))) (q_load1_ro Try.isAgg39 rfl (by first | assumption | exact Row.at_ (by assumption) rfl)) rfl ?_
        refine DW_q rfl (fun w hw => hw.sub (by (repeat (first | exact SubL.nil | exact Pick.head | apply Pick.tail | apply SubL.cons)))) (q_len Try.underlying39 rfl) rfl ?_
        refine DW_q rfl (fun w hw => hw.sub (by (repeat (first | exact SubL.nil | exact Pick.head | apply Pick.tail | apply SubL.cons)))) (q_move rfl) rfl ?_
        refine DW_nil ?_
        refine EW_then ?_
        refine CW_block ?_
        refine CW_loopP (ι := Nat × List Nat × Value × For × List Int × Value) (fun i_ => i_.1 ≤ q.right.length ∧ i_.2.1.length ≤ i_.1 ∧ IntsAt (Rd R w0) i_.2.2.2.2.2 i_.2.2.2.2.1 ∧ i_.2.2.2.2.1.length ≤ dt.length ∧ ∀ r, PS g (q.right.drop i_.1) i_.2.2.2.2.1 r → PS g q.right dt (r.map fun (p : For × List Int) => (i_.2.2.2.1.app p.1, p.2))) (fun i_ => [(0, .pointer (some ⟨br, 0, none⟩)), (5, .pointer (some ⟨b57, 0, none⟩)), (77, .slice a2 q.right.length c2), (78, .int .i64 (q.right.length : Int)), (79, .int .i64 (i_.1 : Int))]) (fun i_ => Sat R w0 [cel b57 113 [vi x, i_.2.2.1], trow 99 1 encP i_.2.2.1 i_.2.1, kidsA i_.2.2.2.1 i_.2.1, cel br 109 [.int .i64 g.terms, .int .i64 g.names, .slice (some p) g.rules.length c, i_.2.2.2.2.2], F]) (fun i_ => q.right.length - i_.1) (0, [], .slice none 0 0, .nil, dt, (.slice (if dcap = 1 then some pd else (some pd).map (·.add (1 * 1))) ((x :: dt).length - 1) (dcap - 1))) ?_ ⟨rfl, rfl, rfl, rfl, rfl, trivial⟩ (fun w hw => ((hw.tnil 99 1 encP).kidsNil).sub (by repeat (first | exact SubL.nil | exact Pick.head | apply Pick.tail | apply SubL.cons))) ?_
        · exact ⟨Nat.zero_le _, Nat.zero_le _, hdt, Nat.le_refl _, fun r h => by cases r <;> exact h⟩
        intro i_ hpre
        obtain ⟨k, kb, kv, fk, dcu, dvc⟩ := i_
        replace hpre : k ≤ q.right.length ∧ kb.length ≤ k ∧ IntsAt (Rd R w0) dvc dcu ∧ dcu.length ≤ dt.length ∧ ∀ r, PS g (q.right.drop k) dcu r → PS g q.right dt (r.map fun (p : For × List Int) => (fk.app p.1, p.2)) := hpre
        change CW _ _ _ _ [(0, .pointer (some ⟨br, 0, none⟩)), (5, .pointer (some ⟨b57, 0, none⟩)), (77, .slice a2 q.right.length c2), (78, .int .i64 (q.right.length : Int)), (79, .int .i64 (k : Int))] (Sat R w0 [cel b57 113 [vi x, kv], trow 99 1 encP kv kb, kidsA fk kb, cel br 109 [.int .i64 g.terms, .int .i64 g.names, .slice (some p) g.rules.length c, dvc], F])
        obtain ⟨hk, hkb, hdvc, hdl, hinv⟩ := hpre
        refine CW_seq ?_
        refine CW_region ?_
        refine OW_q (q_lss rfl rfl) rfl ?_
        refine OW_nil ?_
        refine EW_then ?_
        refine CW_seq ?_
        refine CW_cond rfl (fun h80 => ?_) (fun h80 => ?_)
        · skip
          have hltk : k < q.right.length := by have := of_decide_eq_true h80; omega
          obtain ⟨s, hsj⟩ := get_of_lt hltk
          obtain ⟨p2, rfl, hrowS⟩ := hss k s hsj
          have hdrop := drop_cons hsj
          refine CW_skip ?_
          refine EW_then ?_
          refine CW_seq ?_
          refine CW_block ?_
          refine CW_seq ?_
          refine CW_region ?_
          refine OW_q (q_indexAddr Try.underlying39 Try.sizeOf62 rfl rfl (by first | omega | assumption)) rfl ?_
          refine OW_q (q_loadN_ro Try.isAgg62 Try.sizeOf62 rfl (by first | assumption | exact Row.at_ (by assumption) rfl) (by rfl)) rfl ?_
          refine OW_e (e_alloc Try.zeroValue62 rfl) rfl (fun b7 => ?_)
          refine OW_e0 (e_storeN Try.sizeOf62 rfl rfl rfl rfl (by simp [Value.oneCell']) (by (repeat (first | exact .head | apply Swap.tail))) (by rfl)) (fun _ => ?_)
          refine OW_nil ?_
          refine EW_then ?_
          refine CW_seq ?_
          refine CW_region ?_
          refine OW_q (q_fieldAddr Try.underlying62 rfl rfl Try.sizeOf4 rfl rfl) rfl ?_
          first | (refine OW_q (q_load1_own Try.isAgg4 rfl rfl (by (repeat (first | exact .head | apply Swap.tail))) (by rfl)) rfl ?_) | (refine OW_q (q_load1_ro Try.isAgg4 rfl (by first | assumption | exact Row.at_ (by assumption) rfl)) rfl ?_)
          refine OW_q (q_not rfl) rfl ?_
          refine OW_nil ?_
          refine EW_then ?_
          refine CW_cond rfl (fun h85 => ?_) (fun h85 => ?_)
          · skip
            have ht : s.term = false := by simpa using h85
            have hse : s = ⟨false, s.n⟩ := by cases s; simp at ht; simp [ht]
            refine CW_draw (Sat R w0 [cel b57 113 [vi x, kv], cel b7 62 [.bool s.term, .int .i64 s.n]]) 13 [(0, false), (1, false), (2, false), (3, false), (4, false), (5, false), (6, false), (7, false), (8, true), (9, true), (10, true), (11, false), (12, false), (13, true)] (by kernel_rfl) (Blind.block (Blind.then (Blind.again (Blind.block (Blind.then Blind.bodyP))))) (by kernel_rfl) (fun w hw => hw.drew) ?_
            refine DW_q rfl (fun w hw => hw.sub (by (repeat (first | exact SubL.nil | exact Pick.head | apply Pick.tail | apply SubL.cons)))) (q_move rfl) rfl ?_
            refine DW_q rfl (fun w hw => hw.sub (by (repeat (first | exact SubL.nil | exact Pick.head | apply Pick.tail | apply SubL.cons)))) (q_move rfl) rfl ?_
            refine DW_q rfl (fun w hw => hw.sub (by (repeat (first | exact SubL.nil | exact Pick.head | apply Pick.tail | apply SubL.cons)))) (q_nilCheck rfl) rfl ?_
            refine DW_q rfl (fun w hw => hw.sub (by (repeat (first | exact SubL.nil | exact Pick.head | apply Pick.tail | apply SubL.cons)))) (q_fieldAddr Try.underlying113 rfl rfl Try.sizeOf111 rfl rfl) rfl ?_
            first | (refine DW_q rfl (fun w hw => hw.sub (by (repeat (first | exact SubL.nil | exact Pick.head | apply Pick.tail | apply SubL.cons)))) (q_load1_own Try.isAgg111 rfl rfl (by (repeat (first | exact .head | apply Swap.tail))) (by rfl)) rfl ?_) | (refine DW_q rfl (fun w hw => hw.sub (by (repeat (first | exact SubL.nil | exact Pick.head | apply Pick.tail | apply SubL.cons)))) (q_load1_ro Try.isAgg111 rfl (by first | assumption | exact Row.at_ (by assumption) rfl)) rfl ?_)
            refine DW_q rfl (fun w hw => hw.sub (by (repeat (first | exact SubL.nil | exact Pick.head | apply Pick.tail | apply SubL.cons)))) (q_move rfl) rfl ?_
            refine DW_q rfl (fun w hw => hw.sub (by (repeat (first | exact SubL.nil | exact Pick.head | apply Pick.tail | apply SubL.cons)))) (q_fieldAddr Try.underlying62 rfl rfl Try.sizeOf3 rfl rfl) rfl ?_
            first | (refine DW_q rfl (fun w hw => hw.sub (by (repeat (first | exact SubL.nil | exact Pick.head | apply Pick.tail | apply SubL.cons)))) (q_load1_own Try.isAgg3 rfl rfl (by (repeat (first | exact .head | apply Swap.tail))) (by rfl)) rfl ?_) | (refine DW_q rfl (fun w hw => hw.sub (by (repeat (first | exact SubL.nil | exact Pick.head | apply Pick.tail | apply SubL.cons)))) (q_load1_ro Try.isAgg3 rfl (by first | assumption | exact Row.at_ (by assumption) rfl)) rfl ?_)
            refine DW_e2 rfl (e_call2 Try.call61 rfl (fun w hw => lift_mut2 (A := cel br 109 [.int .i64 g.terms, .int .i64 g.names, .slice (some p) g.rules.length c, dvc]) (by repeat (first | exact .head | apply Pick.tail)) hw (fun F hF => ih dcu.length (by omega) dcu dvc s.n w F rfl (by omega) hdvc hF))) rfl (fun _ w hw => hw.2.sub (by repeat (first | exact SubL.nil | exact Pick.head | apply Pick.tail | apply SubL.cons))) (fun ch => ?_) (fun x94 => ?_)
            · refine EW_block_panic ?_; refine EW_then_panic ?_; refine EW_out_panic ?_; refine EW_block_panic ?_; refine EW_then_panic ?_; refine retP (fun w hw => ?_)
              refine .inr ⟨ch, rfl, ⟨hw.1.1, ?_⟩, hw.2.sub (by repeat (first | exact SubL.nil | exact Pick.head | apply Pick.tail | apply SubL.cons))⟩
              refine .deep rfl hx0 hq hql (hinv none ?_)
              rw [hdrop]
              exact ps_none (by rw [hse]; exact hw.1.2) ht _
            refine DW_pure fun hx94 => ?_
            refine DW_e rfl (e_single Try.underlying111 Try.sizeOf99 Try.zeroValue99 (e := 99) (v := .pointer (some ⟨x94.b, 0, none⟩)) (cs := [.pointer (some ⟨x94.b, 0, none⟩)]) rfl rfl rfl rfl (by decide) (by decide)) rfl (fun _ w hw => hw.sub (by repeat (first | exact SubL.nil | exact Pick.head | apply Pick.tail | apply SubL.cons))) (fun b95 => ?_)
            refine DW_e rfl (e_append_t (x0 := x94.b) (enc := encP) Try.underlying111 Try.typeInfo99 rfl rfl rfl rfl rfl rfl rfl (by repeat (first | exact .head | apply Pick.tail)) rfl (by exact fun w hw => hw.news (by repeat (first | exact .head | apply Swap.tail))) (by simp [Value.oneCell']) (by omega) (by decide)) rfl (fun _ w hw => hw.sub (by repeat (first | exact SubL.nil | exact Pick.head | apply Pick.tail | apply SubL.cons))) (fun v96 => ?_)
            refine DW_q rfl (fun w hw => hw.sub (by (repeat (first | exact SubL.nil | exact Pick.head | apply Pick.tail | apply SubL.cons)))) (q_nilCheck rfl) rfl ?_
            refine DW_q rfl (fun w hw => hw.sub (by (repeat (first | exact SubL.nil | exact Pick.head | apply Pick.tail | apply SubL.cons)))) (q_fieldAddr Try.underlying113 rfl rfl Try.sizeOf111 rfl rfl) rfl ?_
            refine DW_fact (fun w hw => hw.tform (v := v96) (by repeat (first | exact .head | apply Swap.tail))) (fun hf => ?_)
            obtain ⟨_, _, hv96, _⟩ := hf
            refine DW_z0 rfl (e_store Try.sizeOf111 rfl rfl rfl (by show Value.oneCell' v96 = true; rw [hv96]; rfl) (by repeat (first | exact .head | apply Swap.tail)) rfl) (fun _ => ?_)
            refine EW_block_normal ?_
            refine EW_then ?_
            refine CW_region ?_
            first | refine OW_q (q_inc rfl rfl (by omega)) rfl ?_ | refine OW_q (q_add rfl rfl (by omega) (by omega)) rfl ?_
            refine OW_q (q_move rfl) rfl ?_
            refine OW_nil ?_
            refine EW_again ((k + 1, kb ++ [x94.b], v96, fk.app x94.f, x94.dc, x94.dv)) ⟨?_, ?_⟩ ⟨rfl, rfl, rfl, rfl, rfl, trivial⟩ (fun w hw => ((hw.sub (L' := [kidsA fk kb, kidsA x94.f [x94.b], cel b57 113 [vi x, v96], trow 99 1 encP v96 (kb ++ [x94.b]), cel br 109 [.int .i64 g.terms, .int .i64 g.names, .slice (some p) g.rules.length c, x94.dv], F]) (by repeat (first | exact SubL.nil | exact Pick.head | apply Pick.tail | apply SubL.cons))).kidsApp).sub (by repeat (first | exact SubL.nil | exact Pick.head | apply Pick.tail | apply SubL.cons)))
            · show q.right.length - (k + 1) < q.right.length - k; omega
            · refine ⟨by show k + 1 ≤ _; omega, by show (kb ++ [x94.b]).length ≤ k + 1; rw [List.length_append]; exact Nat.succ_le_succ hkb, hx94.2.1, by have := hx94.2.2; show x94.dc.length ≤ _; omega, fun r h => ?_⟩
              have h2 := hinv (r.map fun (p : For × List Int) => (x94.f.app p.1, p.2)) (by rw [hdrop]; exact ps_join (by rw [hse]; exact hx94.1) ht h)
              rw [Option.map_map] at h2
              have e : ((fun p : For × List Int => (fk.app p.1, p.2)) ∘ fun p : For × List Int => (x94.f.app p.1, p.2)) = fun p : For × List Int => ((fk.app x94.f).app p.1, p.2) := funext fun p => by simp [For.app_assoc]
              rw [e] at h2
              exact h2
          · skip
            refine CW_skip ?_
            refine EW_block_normal ?_
            refine EW_then ?_
            refine CW_region ?_
            first | refine OW_q (q_inc rfl rfl (by omega)) rfl ?_ | refine OW_q (q_add rfl rfl (by omega) (by omega)) rfl ?_
            refine OW_q (q_move rfl) rfl ?_
            refine OW_nil ?_
            refine EW_again ((k + 1, kb, kv, fk, dcu, dvc)) ⟨?_, ?_⟩ ⟨rfl, rfl, rfl, rfl, rfl, trivial⟩ (fun w hw => hw.sub (by (repeat (first | exact SubL.nil | exact Pick.head | apply Pick.tail | apply SubL.cons))))
            · show q.right.length - (k + 1) < q.right.length - k; omega
            · exact ⟨by show k + 1 ≤ _; omega, by show kb.length ≤ k + 1; omega, hdvc, hdl, fun r h => hinv r (by rw [hdrop]; exact .term (by simpa using h85) h)⟩
        · skip
          obtain rfl : k = q.right.length := by have := of_decide_eq_false h80; omega
          have hps : PS g q.right dt (some (fk.app .nil, dcu)) := hinv (some (.nil, dcu)) (by rw [List.drop_length]; exact .nil)
          rw [For.app_nil] at hps
          refine CW_exit ?_
          refine EW_then_exit ?_
          refine EW_out ?_
          refine EW_block_exit ?_
          refine EW_then ?_
          refine CW_seq ?_
          refine CW_region ?_
          refine OW_q (q_move rfl) rfl ?_
          refine OW_q (q_assign rfl) rfl ?_
          refine OW_nil ?_
          refine EW_then ?_
          refine CW_ret ?_
          refine ret1 Try.results61 rfl (fun w hw => ?_)
          exact .inl ⟨⟨b57, .cons x fk .nil, dvc, dcu⟩, rfl, ⟨.ok rfl hx0 hq hql hps .nil, hdvc, by show dcu.length < _; omega⟩, (hw.kidNew).sub (by repeat (first | exact SubL.nil | exact Pick.head | apply Pick.tail | apply SubL.cons))⟩

end Go.Sy
