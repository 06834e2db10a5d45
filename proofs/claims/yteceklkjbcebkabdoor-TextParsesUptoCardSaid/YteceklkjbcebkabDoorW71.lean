/- Print and the answer's Text. No condition. -/
import Derived.Test.YteceklkjbcebkabDoorW70
namespace Go.Sy
open Go Go.RowKit Go.Proofs

theorem take_nx {α : Type} {l : List α} {k : Nat} {x : α} (h : l[k]? = some x) : l.take (k + 1) = l.take k ++ [x] := by rw [List.take_add_one, h]; rfl
def tmB : List UInt8 := [116, 101, 114, 109, 115, 32]
def nmB : List UInt8 := [32, 110, 97, 109, 101, 115, 32]
def headT (g : Gram) : List UInt8 := tmB ++ Lib.decDigits g.terms.toNat ++ nmB ++ Lib.decDigits g.names.toNat ++ [10]
def leftT (r : Rule) : List UInt8 := symT ⟨false, r.left⟩ ++ [58]
def bodyT (l : List Sym) : List UInt8 := l.flatMap fun s => [32] ++ symT s
def ruleT (r : Rule) : List UInt8 := leftT r ++ bodyT r.right ++ [10]
def rulesT (l : List Rule) : List UInt8 := l.flatMap ruleT
/-- A grammar's text. -/
def textT (g : Gram) : List UInt8 := headT g ++ rulesT g.rules
theorem bodyT_next {l : List Sym} {k : Nat} {s : Sym} (h : l[k]? = some s) : bodyT (l.take (k + 1)) = bodyT (l.take k) ++ ([32] ++ symT s) := by
  rw [take_nx h]; simp [bodyT]
theorem rulesT_next {l : List Rule} {k : Nat} {r : Rule} (h : l[k]? = some r) : rulesT (l.take (k + 1)) = rulesT (l.take k) ++ ruleT r := by
  rw [take_nx h]; simp [rulesT]
def smallY (s : Sym) : Prop := 0 ≤ s.n ∧ s.n < 100
theorem symT_len {s : Sym} (h : smallY s) : 2 ≤ (symT s).length ∧ (symT s).length ≤ 3 := by
  have := dec_len (n := s.n.toNat) (by have := h.1; have := h.2; omega)
  unfold symT
  split <;> simp only [List.length_append, List.length_cons, List.length_nil] <;> omega
theorem bodyT_len : ∀ {l : List Sym}, (∀ s ∈ l, smallY s) → (bodyT l).length ≤ 4 * l.length
  | [], _ => by simp [bodyT]
  | s :: l, h => by
    have := bodyT_len (l := l) fun s hs => h s (.tail _ hs)
    have := (symT_len (h s (.head _))).2
    unfold bodyT at *
    simp only [List.flatMap_cons, List.length_append, List.length_cons, List.length_nil]
    omega
def smallR (r : Rule) : Prop := 0 ≤ r.left ∧ r.left < 100 ∧ r.right.length ≤ 8 ∧ ∀ s ∈ r.right, smallY s
theorem leftT_len {r : Rule} (h : smallR r) : (leftT r).length ≤ 4 := by
  have := (symT_len (s := ⟨false, r.left⟩) ⟨h.1, h.2.1⟩).2
  unfold leftT
  rw [List.length_append, List.length_cons, List.length_nil]
  omega
theorem ruleT_len {r : Rule} (h : smallR r) : (ruleT r).length ≤ 37 := by
  have h1 := leftT_len h
  have h2 := bodyT_len h.2.2.2
  have h3 := h.2.2.1
  unfold ruleT
  rw [List.length_append, List.length_append, List.length_cons, List.length_nil]
  omega
theorem rulesT_len : ∀ {l : List Rule}, (∀ r ∈ l, smallR r) → (rulesT l).length ≤ 37 * l.length
  | [], _ => by simp [rulesT]
  | r :: l, h => by
    have h1 := rulesT_len (l := l) fun r hr => h r (.tail _ hr)
    have h2 := ruleT_len (h r (.head _))
    unfold rulesT at *
    simp only [List.flatMap_cons, List.length_append, List.length_cons]
    omega
theorem may_smallR {g : Gram} (hm : mayB g = true) : ∀ r ∈ g.rules, smallR r := fun r hr => by
  obtain ⟨k, hk⟩ := List.getElem?_of_mem hr
  have hM := mayB_true.1 hm
  have h1 := may_rule hm hk
  refine ⟨h1.1, by omega, h1.2.2, fun s hs => ?_⟩
  obtain ⟨j, hj⟩ := List.getElem?_of_mem hs
  have h2 := may_sym hm hk hj
  refine ⟨h2.1, ?_⟩
  cases ht : s.term with
  | true => have := h2.2.1 ht; omega
  | false => have := h2.2.2 ht; omega
theorem headT_len {g : Gram} (hm : mayB g = true) : (headT g).length ≤ 30 := by
  have hM := mayB_true.1 hm
  have h1 := dec_len (n := g.terms.toNat) (by omega)
  have h2 := dec_len (n := g.names.toNat) (by omega)
  unfold headT tmB nmB
  simp only [List.length_append, List.length_cons, List.length_nil]
  omega
theorem textT_len {g : Gram} (hm : mayB g = true) : (textT g).length ≤ 2000 := by
  have h1 := headT_len hm
  have h2 := rulesT_len (may_smallR hm)
  have hM := mayB_true.1 hm
  unfold textT
  rw [List.length_append]
  omega
set_option maxRecDepth 20000 in
theorem print_any (gv : Value) (g : Gram) (w : World) (hg : GramAt (Cl w) gv g) : Calls Tryd.prog 5 #[gv] w (fun e w' => e = .returned (.tuple #[.string ⟨(if mayB g = true then textT g else []).toArray⟩, .int .i64 (if mayB g = true then 0 else 2)]) ∧ Sat (Old w) w [] w') := by
  have hg0 := hg
  obtain ⟨rv, rfl, hr⟩ := hg.mono old_rd
  obtain ⟨a, c, rfl, hc1, hc2, hrs⟩ := id hr
  clear hg
  refine calls_CW Tryd.func5 rfl Tryd.ntmps5 rfl (Sat.start w) ?_
  refine CW_seq ?_
  refine CW_region ?_
  refine OW_e (e_box rfl rfl) rfl (fun b1 => ?_)
  refine OW_q (q_assign rfl) rfl ?_
  refine OW_q (q_assign rfl) rfl ?_
  refine OW_nil ?_
  refine EW_then ?_
  refine CW_seq ?_
  refine CW_seq ?_
  refine CW_region ?_
  first | (refine OW_q (q_loadN_own Tryd.isAgg24 Tryd.sizeOf24 rfl rfl (by (repeat (first | exact .head | apply Swap.tail))) (by rfl)) rfl ?_) | (refine OW_q (q_loadN_ro Tryd.isAgg24 Tryd.sizeOf24 rfl (by first | assumption | exact Row.at_ (by assumption) rfl) (by rfl)) rfl ?_)
  refine OW_e (e_call Tryd.call11 rfl (fun w hw => lift_ro (may_any _ g w (hg0.mono (fun _ _ h => hw.rd (Rd.old h)))) hw)) rfl (fun x11 => ?_)
  refine OW_q (q_not rfl) rfl ?_
  refine OW_nil ?_
  refine EW_then ?_
  refine CW_cond rfl (fun h12 => ?_) (fun h12 => ?_)
  · skip
    have hm : mayB g = false := by simpa using h12
    refine CW_seq ?_
    refine CW_region ?_
    refine OW_q (q_assign rfl) rfl ?_
    refine OW_q (q_assign rfl) rfl ?_
    refine OW_nil ?_
    refine EW_then ?_
    refine CW_ret ?_
    refine EW_then_ret ?_
    refine ret2 Tryd.results5 rfl rfl (fun w hw => ?_)
    exact ⟨by rw [hm]; rfl, hw.sub .nil⟩
  · skip
    have hm : mayB g = true := by simpa using h12
    have hM := mayB_true.1 hm
    have hd1 := dec_len (n := g.terms.toNat) (by omega)
    have hd2 := dec_len (n := g.names.toNat) (by omega)
    have hhl := headT_len hm
    have hsm := may_smallR hm
    refine CW_skip ?_
    refine EW_then ?_
    refine CW_seq ?_
    refine CW_region ?_
    refine OW_e (e_alloc Tryd.zeroValue39 rfl) rfl (fun b4 => ?_)
    refine OW_nil ?_
    refine EW_then ?_
    refine CW_seq ?_
    refine CW_weak (S' := Sat (Old w) w [builderA b4 [], cel b1 24 [.int .i64 g.terms, .int .i64 g.names, .slice a g.rules.length c]]) (fun w hw => Sat.builder0 (hw.sub (by repeat (first | exact SubL.nil | exact Pick.head | apply Pick.tail | apply SubL.cons)))) ?_
    refine CW_region ?_
    refine OW_q (q_makeFuncL (us := [.pointer (some ⟨b4, 0, none⟩)]) rfl) rfl ?_
    refine OW_q (q_assign rfl) rfl ?_
    refine OW_nil ?_
    refine EW_then ?_
    refine CW_seq ?_
    refine CW_draw (Sat (Old w) w [cel b1 24 [.int .i64 g.terms, .int .i64 g.names, .slice a g.rules.length c]]) 8 [(0, false), (1, false), (2, false), (4, false), (5, false), (3, true), (6, true), (7, true), (8, true)] (by kernel_rfl) (Blind.then (Blind.body (by intro c w h; simp at h))) (by kernel_rfl) (fun w hw => hw.drew) ?_
    refine DW_q rfl (fun w hw => hw.sub (by (repeat (first | exact SubL.nil | exact Pick.head | apply Pick.tail | apply SubL.cons)))) (q_move rfl) rfl ?_
    refine DW_q rfl (fun w hw => hw.sub (by (repeat (first | exact SubL.nil | exact Pick.head | apply Pick.tail | apply SubL.cons)))) (q_fieldAddr Tryd.underlying24 rfl rfl Tryd.sizeOf3 rfl rfl) rfl ?_
    first | (refine DW_q rfl (fun w hw => hw.sub (by (repeat (first | exact SubL.nil | exact Pick.head | apply Pick.tail | apply SubL.cons)))) (q_load1_own Tryd.isAgg3 rfl rfl (by (repeat (first | exact .head | apply Swap.tail))) (by rfl)) rfl ?_) | (refine DW_q rfl (fun w hw => hw.sub (by (repeat (first | exact SubL.nil | exact Pick.head | apply Pick.tail | apply SubL.cons)))) (q_load1_ro Tryd.isAgg3 rfl (by first | assumption | exact Row.at_ (by assumption) rfl)) rfl ?_)
    refine DW_q rfl (fun w hw => hw.sub (by (repeat (first | exact SubL.nil | exact Pick.head | apply Pick.tail | apply SubL.cons)))) (q_fieldAddr Tryd.underlying24 rfl rfl Tryd.sizeOf3 rfl rfl) rfl ?_
    first | (refine DW_q rfl (fun w hw => hw.sub (by (repeat (first | exact SubL.nil | exact Pick.head | apply Pick.tail | apply SubL.cons)))) (q_load1_own Tryd.isAgg3 rfl rfl (by (repeat (first | exact .head | apply Swap.tail))) (by rfl)) rfl ?_) | (refine DW_q rfl (fun w hw => hw.sub (by (repeat (first | exact SubL.nil | exact Pick.head | apply Pick.tail | apply SubL.cons)))) (q_load1_ro Tryd.isAgg3 rfl (by first | assumption | exact Row.at_ (by assumption) rfl)) rfl ?_)
    refine DW_e rfl (e_call Tryd.call15 rfl (fun w hw => lift_ro (itoa_any g.terms (by omega) (by omega) w) hw)) rfl (fun _ w hw => by first | exact hw.sub (by (repeat (first | exact SubL.nil | exact Pick.head | apply Pick.tail | apply SubL.cons))) | exact hw.2.sub (by (repeat (first | exact SubL.nil | exact Pick.head | apply Pick.tail | apply SubL.cons)))) (fun x17 => ?_)
    refine DW_e rfl (e_call Tryd.call15 rfl (fun w hw => lift_ro (itoa_any g.names (by omega) (by omega) w) hw)) rfl (fun _ w hw => by first | exact hw.sub (by (repeat (first | exact SubL.nil | exact Pick.head | apply Pick.tail | apply SubL.cons))) | exact hw.2.sub (by (repeat (first | exact SubL.nil | exact Pick.head | apply Pick.tail | apply SubL.cons)))) (fun x20 => ?_)
    refine DW_e rfl (e_strs ([tmB, Lib.decDigits g.terms.toNat, nmB, Lib.decDigits g.names.toNat, [10]] : List (List UInt8)) Tryd.underlying40 Tryd.sizeOf9 Tryd.zeroValue9 (fun a ha => parts_known ha rfl) rfl (by decide) (by decide)) rfl (fun _ w hw => hw.sub (by repeat (first | exact SubL.nil | exact Pick.head | apply Pick.tail | apply SubL.cons))) (fun b21 => ?_)
    refine DW_z rfl (e_callv Tryd.call12 rfl rfl (fun w hw => (lift_mutB (M0 := [trow 9 1 encS (.slice (some ⟨b21, 0, none⟩) 5 5) ([tmB, Lib.decDigits g.terms.toNat, nmB, Lib.decDigits g.names.toNat, [10]] : List (List UInt8)), builderA b4 []]) (L1 := [cel b1 24 [.int .i64 g.terms, .int .i64 g.names, .slice a g.rules.length c]]) (Sat.strs (b := b21) (e := 9) ([tmB, Lib.decDigits g.terms.toNat, nmB, Lib.decDigits g.names.toNat, [10]] : List (List UInt8)) (by simp) (hw.sub (by repeat (first | exact SubL.nil | exact Pick.head | apply Pick.tail | apply SubL.cons)))) (by repeat (first | exact (fun _ h => absurd h List.not_mem_nil) | exact List.forall_mem_cons.2 ⟨by assumption, (fun _ h => absurd h List.not_mem_nil)⟩ | refine List.forall_mem_cons.2 ⟨(by first | assumption | exact NoU8.cel (by decide) | exact NoU8.row (by decide)), ?_⟩)) (fun F hF hw2 => put_any b4 b21 5 ([tmB, Lib.decDigits g.terms.toNat, nmB, Lib.decDigits g.names.toNat, [10]] : List (List UInt8)) [] _ w F hF (by simp) (by simp) (by simp) (by simp only [tmB, nmB, List.flatten_cons, List.flatten_nil, List.length_append, List.length_cons, List.length_nil]; omega) hw2)).mono (fun e w' ⟨x, he, _, h9⟩ => ⟨x, he, h9⟩))) rfl (fun x22 => ?_)
    refine EW_then ?_
    refine CW_seq ?_
    refine CW_seq ?_
    refine CW_region ?_
    refine OW_q (q_fieldAddr Tryd.underlying24 rfl rfl Tryd.sizeOf22 rfl rfl) rfl ?_
    first | (refine OW_q (q_load1_own Tryd.isAgg22 rfl rfl (by (repeat (first | exact .head | apply Swap.tail))) (by rfl)) rfl ?_) | (refine OW_q (q_load1_ro Tryd.isAgg22 rfl (by first | assumption | exact Row.at_ (by assumption) rfl)) rfl ?_)
    refine OW_q (q_len Tryd.underlying22 rfl) rfl ?_
    refine OW_q (q_move rfl) rfl ?_
    refine OW_nil ?_
    refine EW_then ?_
    refine CW_block ?_
    refine CW_weak (S' := Sat (Old w) w [builderA b4 (headT g ++ rulesT (g.rules.take 0)), cel b1 24 [.int .i64 g.terms, .int .i64 g.names, .slice a g.rules.length c]]) (fun w hw => by
      have e : headT g ++ rulesT (g.rules.take 0) = [] ++ ([tmB, Lib.decDigits g.terms.toNat, nmB, Lib.decDigits g.names.toNat, [10]] : List (List UInt8)).flatten := by simp [headT, rulesT]
      rw [e]; exact hw.sub (by repeat (first | exact SubL.nil | exact Pick.head | apply Pick.tail | apply SubL.cons))) ?_
    refine CW_loopP (ι := Nat) (fun k => k ≤ g.rules.length) (fun k => [(4, .pointer (some ⟨b4, 0, none⟩)), (5, .func (.func 12) #[] #[.pointer (some ⟨b4, 0, none⟩)]), (24, .slice a g.rules.length c), (25, .int .i64 (g.rules.length : Int)), (26, .int .i64 (k : Int))]) (fun k => Sat (Old w) w [builderA b4 (headT g ++ rulesT (g.rules.take k)), cel b1 24 [.int .i64 g.terms, .int .i64 g.names, .slice a g.rules.length c]]) (fun k => g.rules.length - k) 0 ?_ ⟨rfl, rfl, rfl, rfl, rfl, trivial⟩ (fun w hw => hw.sub (by (repeat (first | exact SubL.nil | exact Pick.head | apply Pick.tail | apply SubL.cons)))) ?_
    · exact Nat.zero_le _
    intro k hpre
    change CW _ _ _ _ [(4, .pointer (some ⟨b4, 0, none⟩)), (5, .func (.func 12) #[] #[.pointer (some ⟨b4, 0, none⟩)]), (24, .slice a g.rules.length c), (25, .int .i64 (g.rules.length : Int)), (26, .int .i64 (k : Int))] (Sat (Old w) w [builderA b4 (headT g ++ rulesT (g.rules.take k)), cel b1 24 [.int .i64 g.terms, .int .i64 g.names, .slice a g.rules.length c]])
    have hk : k ≤ g.rules.length := hpre
    refine CW_seq ?_
    refine CW_region ?_
    refine OW_q (q_lss rfl rfl) rfl ?_
    refine OW_nil ?_
    refine EW_then ?_
    refine CW_seq ?_
    refine CW_cond rfl (fun h27 => ?_) (fun h27 => ?_)
    · skip
      have hlt : k < g.rules.length := by have := of_decide_eq_true h27; omega
      obtain ⟨r, hq⟩ := get_of_lt hlt
      have hr0 := hsm r (List.mem_of_getElem? hq)
      have hkl := rulesT_len (l := g.rules.take k) (fun x hx => hsm x (List.mem_of_mem_take hx))
      have hkl2 : (g.rules.take k).length ≤ 40 := by rw [List.length_take]; omega
      have hll := leftT_len hr0
      have hsl0 := (symT_len (s := ⟨false, r.left⟩) ⟨hr0.1, hr0.2.1⟩).2
      have hbl := bodyT_len hr0.2.2.2
      have hr8 := hr0.2.2.1
      obtain ⟨p, rfl, rvq, hsy, hrow⟩ := hrs k r hq
      obtain ⟨ya, yc, rfl, _, _, hys⟩ := id hsy
      refine CW_skip ?_
      refine EW_then ?_
      refine CW_seq ?_
      refine CW_block ?_
      refine CW_seq ?_
      refine CW_region ?_
      refine OW_q (q_indexAddr Tryd.underlying22 Tryd.sizeOf50 rfl rfl (by first | omega | assumption)) rfl ?_
      refine OW_q (q_loadN_ro Tryd.isAgg50 Tryd.sizeOf50 rfl (by first | exact hrow) (by rfl)) rfl ?_
      refine OW_e (e_alloc Tryd.zeroValue50 rfl) rfl (fun b7 => ?_)
      refine OW_e0 (e_storeN Tryd.sizeOf50 rfl rfl rfl rfl (by simp [Value.oneCell']) (by (repeat (first | exact .head | apply Swap.tail))) (by rfl)) (fun _ => ?_)
      refine OW_nil ?_
      refine EW_then ?_
      refine CW_seq ?_
      refine CW_region ?_
      refine OW_q (q_move rfl) rfl ?_
      refine OW_q (q_fieldAddr Tryd.underlying50 rfl rfl Tryd.sizeOf3 rfl rfl) rfl ?_
      first | (refine OW_q (q_load1_own Tryd.isAgg3 rfl rfl (by (repeat (first | exact .head | apply Swap.tail))) (by rfl)) rfl ?_) | (refine OW_q (q_load1_ro Tryd.isAgg3 rfl (by first | assumption | exact Row.at_ (by assumption) rfl)) rfl ?_)
      refine OW_q (q_build (ps := #[(1, .int .i64 r.left)]) (v := .agg #[.bool false, .int .i64 r.left]) rfl (fun w => by kernel_rfl)) rfl ?_
      refine OW_e (e_call Tryd.call16 rfl (fun w hw => lift_ro (symbol_any ⟨false, r.left⟩ hr0.1 hr0.2.1 w) hw)) rfl (fun x34 => ?_)
      refine OW_e (e_strs ([symT ⟨false, r.left⟩, [58]] : List (List UInt8)) Tryd.underlying40 Tryd.sizeOf9 Tryd.zeroValue9 (fun a ha => parts_known ha rfl) rfl (by decide) (by decide)) rfl (fun b35 => ?_)
      refine OW_e (e_callv Tryd.call12 rfl rfl (fun w hw => (lift_mutB (M0 := [trow 9 1 encS (.slice (some ⟨b35, 0, none⟩) 2 2) ([symT ⟨false, r.left⟩, [58]] : List (List UInt8)), builderA b4 (headT g ++ rulesT (g.rules.take k))]) (L1 := [cel b7 50 [.int .i64 r.left, .slice ya r.right.length yc], cel b1 24 [.int .i64 g.terms, .int .i64 g.names, .slice (some p) g.rules.length c]]) (Sat.strs (b := b35) (e := 9) ([symT ⟨false, r.left⟩, [58]] : List (List UInt8)) (by simp) (hw.sub (by repeat (first | exact SubL.nil | exact Pick.head | apply Pick.tail | apply SubL.cons)))) (by repeat (first | exact (fun _ h => absurd h List.not_mem_nil) | exact List.forall_mem_cons.2 ⟨by assumption, (fun _ h => absurd h List.not_mem_nil)⟩ | refine List.forall_mem_cons.2 ⟨(by first | assumption | exact NoU8.cel (by decide) | exact NoU8.row (by decide)), ?_⟩)) (fun F hF hw2 => put_any b4 b35 2 ([symT ⟨false, r.left⟩, [58]] : List (List UInt8)) (headT g ++ rulesT (g.rules.take k)) _ w F hF (by simp) (by simp) (by simp) (by simp only [List.flatten_cons, List.flatten_nil, List.length_append, List.length_cons, List.length_nil]; omega) hw2)).mono (fun e w' ⟨x, he, _, h9⟩ => ⟨x, he, h9⟩))) rfl (fun x36 => ?_)
      refine OW_nil ?_
      refine EW_then ?_
      refine CW_seq ?_
      refine CW_seq ?_
      refine CW_region ?_
      refine OW_q (q_fieldAddr Tryd.underlying50 rfl rfl Tryd.sizeOf48 rfl rfl) rfl ?_
      first | (refine OW_q (q_load1_own Tryd.isAgg48 rfl rfl (by (repeat (first | exact .head | apply Swap.tail))) (by rfl)) rfl ?_) | (refine OW_q (q_load1_ro Tryd.isAgg48 rfl (by first | assumption | exact Row.at_ (by assumption) rfl)) rfl ?_)
      refine OW_q (q_len Tryd.underlying48 rfl) rfl ?_
      refine OW_q (q_move rfl) rfl ?_
      refine OW_nil ?_
      refine EW_then ?_
      refine CW_block ?_
      refine CW_weak (S' := Sat (Old w) w [builderA b4 ((headT g ++ rulesT (g.rules.take k)) ++ leftT r ++ bodyT (r.right.take 0)), cel b7 50 [.int .i64 r.left, .slice ya r.right.length yc], cel b1 24 [.int .i64 g.terms, .int .i64 g.names, .slice (some p) g.rules.length c]]) (fun w hw => by
        have e : (headT g ++ rulesT (g.rules.take k)) ++ leftT r ++ bodyT (r.right.take 0) = (headT g ++ rulesT (g.rules.take k)) ++ ([symT ⟨false, r.left⟩, [58]] : List (List UInt8)).flatten := by simp [leftT, bodyT]
        rw [e]; exact hw.sub (by repeat (first | exact SubL.nil | exact Pick.head | apply Pick.tail | apply SubL.cons))) ?_
      refine CW_loopP (ι := Nat) (fun j => j ≤ r.right.length) (fun j => [(4, .pointer (some ⟨b4, 0, none⟩)), (5, .func (.func 12) #[] #[.pointer (some ⟨b4, 0, none⟩)]), (24, .slice (some p) g.rules.length c), (25, .int .i64 (g.rules.length : Int)), (26, .int .i64 (k : Int)), (38, .slice ya r.right.length yc), (39, .int .i64 (r.right.length : Int)), (40, .int .i64 (j : Int))]) (fun j => Sat (Old w) w [builderA b4 ((headT g ++ rulesT (g.rules.take k)) ++ leftT r ++ bodyT (r.right.take j)), cel b7 50 [.int .i64 r.left, .slice ya r.right.length yc], cel b1 24 [.int .i64 g.terms, .int .i64 g.names, .slice (some p) g.rules.length c]]) (fun j => r.right.length - j) 0 ?_ ⟨rfl, rfl, rfl, rfl, rfl, rfl, rfl, rfl, trivial⟩ (fun w hw => hw.sub (by (repeat (first | exact SubL.nil | exact Pick.head | apply Pick.tail | apply SubL.cons)))) ?_
      · exact Nat.zero_le _
      intro j hpre
      change CW _ _ _ _ [(4, .pointer (some ⟨b4, 0, none⟩)), (5, .func (.func 12) #[] #[.pointer (some ⟨b4, 0, none⟩)]), (24, .slice (some p) g.rules.length c), (25, .int .i64 (g.rules.length : Int)), (26, .int .i64 (k : Int)), (38, .slice ya r.right.length yc), (39, .int .i64 (r.right.length : Int)), (40, .int .i64 (j : Int))] (Sat (Old w) w [builderA b4 ((headT g ++ rulesT (g.rules.take k)) ++ leftT r ++ bodyT (r.right.take j)), cel b7 50 [.int .i64 r.left, .slice ya r.right.length yc], cel b1 24 [.int .i64 g.terms, .int .i64 g.names, .slice (some p) g.rules.length c]])
      have hj0 : j ≤ r.right.length := hpre
      refine CW_seq ?_
      refine CW_region ?_
      refine OW_q (q_lss rfl rfl) rfl ?_
      refine OW_nil ?_
      refine EW_then ?_
      refine CW_seq ?_
      refine CW_cond rfl (fun h41 => ?_) (fun h41 => ?_)
      · skip
        have hlj : j < r.right.length := by have := of_decide_eq_true h41; omega
        obtain ⟨s, hj⟩ := get_of_lt hlj
        have hs0 := hr0.2.2.2 s (List.mem_of_getElem? hj)
        have hsl := (symT_len hs0).2
        have hjl := bodyT_len (l := r.right.take j) (fun x hx => hr0.2.2.2 x (List.mem_of_mem_take hx))
        have hjl2 : (r.right.take j).length ≤ 8 := by rw [List.length_take]; omega
        obtain ⟨p2, rfl, hrw2⟩ := hys j s hj
        refine CW_skip ?_
        refine EW_then ?_
        refine CW_seq ?_
        refine CW_block ?_
        refine CW_seq ?_
        refine CW_region ?_
        refine OW_q (q_indexAddr Tryd.underlying48 Tryd.sizeOf53 rfl rfl (by first | omega | assumption)) rfl ?_
        refine OW_q (q_loadN_ro Tryd.isAgg53 Tryd.sizeOf53 rfl (by first | exact hrw2) (by rfl)) rfl ?_
        refine OW_e (e_alloc Tryd.zeroValue53 rfl) rfl (fun b9 => ?_)
        refine OW_e0 (e_storeN Tryd.sizeOf53 rfl rfl rfl rfl (by simp [Value.oneCell']) (by (repeat (first | exact .head | apply Swap.tail))) (by rfl)) (fun _ => ?_)
        refine OW_nil ?_
        refine EW_then ?_
        refine CW_region ?_
        refine OW_q (q_move rfl) rfl ?_
        first | (refine OW_q (q_loadN_own Tryd.isAgg53 Tryd.sizeOf53 rfl rfl (by (repeat (first | exact .head | apply Swap.tail))) (by rfl)) rfl ?_) | (refine OW_q (q_loadN_ro Tryd.isAgg53 Tryd.sizeOf53 rfl (by first | assumption | exact Row.at_ (by assumption) rfl) (by rfl)) rfl ?_)
        refine OW_e (e_call Tryd.call16 rfl (fun w hw => lift_ro (symbol_any s hs0.1 hs0.2 w) hw)) rfl (fun x46 => ?_)
        refine OW_e (e_strs ([[32], symT s] : List (List UInt8)) Tryd.underlying40 Tryd.sizeOf9 Tryd.zeroValue9 (fun a ha => parts_known ha rfl) rfl (by decide) (by decide)) rfl (fun b47 => ?_)
        refine OW_e (e_callv Tryd.call12 rfl rfl (fun w hw => (lift_mutB (M0 := [trow 9 1 encS (.slice (some ⟨b47, 0, none⟩) 2 2) ([[32], symT s] : List (List UInt8)), builderA b4 ((headT g ++ rulesT (g.rules.take k)) ++ leftT r ++ bodyT (r.right.take j))]) (L1 := [cel b9 53 [.bool s.term, .int .i64 s.n], cel b7 50 [.int .i64 r.left, .slice (some p2) r.right.length yc], cel b1 24 [.int .i64 g.terms, .int .i64 g.names, .slice (some p) g.rules.length c]]) (Sat.strs (b := b47) (e := 9) ([[32], symT s] : List (List UInt8)) (by simp) (hw.sub (by repeat (first | exact SubL.nil | exact Pick.head | apply Pick.tail | apply SubL.cons)))) (by repeat (first | exact (fun _ h => absurd h List.not_mem_nil) | exact List.forall_mem_cons.2 ⟨by assumption, (fun _ h => absurd h List.not_mem_nil)⟩ | refine List.forall_mem_cons.2 ⟨(by first | assumption | exact NoU8.cel (by decide) | exact NoU8.row (by decide)), ?_⟩)) (fun F hF hw2 => put_any b4 b47 2 ([[32], symT s] : List (List UInt8)) ((headT g ++ rulesT (g.rules.take k)) ++ leftT r ++ bodyT (r.right.take j)) _ w F hF (by simp) (by simp) (by simp) (by simp only [List.flatten_cons, List.flatten_nil, List.length_append, List.length_cons, List.length_nil]; omega) hw2)).mono (fun e w' ⟨x, he, _, h9⟩ => ⟨x, he, h9⟩))) rfl (fun x48 => ?_)
        refine OW_nil ?_
        refine EW_block_normal ?_
        refine EW_then ?_
        refine CW_region ?_
        first | refine OW_q (q_inc rfl rfl (by omega)) rfl ?_ | refine OW_q (q_add rfl rfl (by omega) (by omega)) rfl ?_
        refine OW_q (q_move rfl) rfl ?_
        refine OW_nil ?_
        refine EW_weak (S' := Sat (Old _) _ [builderA b4 ((headT g ++ rulesT (g.rules.take k)) ++ leftT r ++ bodyT (r.right.take (j + 1))), cel b7 50 [.int .i64 r.left, .slice (some p2) r.right.length yc], cel b1 24 [.int .i64 g.terms, .int .i64 g.names, .slice (some p) g.rules.length c]]) (fun w hw => by
          have e : (headT g ++ rulesT (g.rules.take k)) ++ leftT r ++ bodyT (r.right.take (j + 1)) = ((headT g ++ rulesT (g.rules.take k)) ++ leftT r ++ bodyT (r.right.take j)) ++ ([[32], symT s] : List (List UInt8)).flatten := by rw [bodyT_next hj]; simp
          rw [e]; exact hw.sub (by repeat (first | exact SubL.nil | exact Pick.head | apply Pick.tail | apply SubL.cons))) ?_
        refine EW_again (j + 1) ⟨?_, ?_⟩ ⟨rfl, rfl, rfl, rfl, rfl, rfl, rfl, rfl, trivial⟩ (fun w hw => hw.sub (by (repeat (first | exact SubL.nil | exact Pick.head | apply Pick.tail | apply SubL.cons))))
        · show r.right.length - (j + 1) < r.right.length - j; omega
        · show j + 1 ≤ _; omega
      · skip
        have hje : r.right.length ≤ j := by have := of_decide_eq_false h41; omega
        refine CW_exit ?_
        refine EW_then_exit ?_
        refine EW_out ?_
        refine EW_block_exit ?_
        refine EW_then ?_
        refine CW_weak (S' := Sat (Old w) w [builderA b4 ((headT g ++ rulesT (g.rules.take k)) ++ leftT r ++ bodyT r.right), cel b7 50 [.int .i64 r.left, .slice ya r.right.length yc], cel b1 24 [.int .i64 g.terms, .int .i64 g.names, .slice (some p) g.rules.length c]]) (fun w hw => by rw [List.take_of_length_le hje] at hw; exact hw.sub (by repeat (first | exact SubL.nil | exact Pick.head | apply Pick.tail | apply SubL.cons))) ?_
        refine CW_region ?_
        refine OW_q (q_move rfl) rfl ?_
        refine OW_e (e_strs ([[10]] : List (List UInt8)) Tryd.underlying40 Tryd.sizeOf9 Tryd.zeroValue9 (fun a ha => parts_known ha rfl) rfl (by decide) (by decide)) rfl (fun b51 => ?_)
        refine OW_e (e_callv Tryd.call12 rfl rfl (fun w hw => (lift_mutB (M0 := [trow 9 1 encS (.slice (some ⟨b51, 0, none⟩) 1 1) ([[10]] : List (List UInt8)), builderA b4 ((headT g ++ rulesT (g.rules.take k)) ++ leftT r ++ bodyT r.right)]) (L1 := [cel b7 50 [.int .i64 r.left, .slice ya r.right.length yc], cel b1 24 [.int .i64 g.terms, .int .i64 g.names, .slice (some p) g.rules.length c]]) (Sat.strs (b := b51) (e := 9) ([[10]] : List (List UInt8)) (by simp) (hw.sub (by repeat (first | exact SubL.nil | exact Pick.head | apply Pick.tail | apply SubL.cons)))) (by repeat (first | exact (fun _ h => absurd h List.not_mem_nil) | exact List.forall_mem_cons.2 ⟨by assumption, (fun _ h => absurd h List.not_mem_nil)⟩ | refine List.forall_mem_cons.2 ⟨(by first | assumption | exact NoU8.cel (by decide) | exact NoU8.row (by decide)), ?_⟩)) (fun F hF hw2 => put_any b4 b51 1 ([[10]] : List (List UInt8)) ((headT g ++ rulesT (g.rules.take k)) ++ leftT r ++ bodyT r.right) _ w F hF (by simp) (by simp) (by simp) (by simp only [List.flatten_cons, List.flatten_nil, List.length_append, List.length_cons, List.length_nil]; omega) hw2)).mono (fun e w' ⟨x, he, _, h9⟩ => ⟨x, he, h9⟩))) rfl (fun x52 => ?_)
        refine OW_nil ?_
        refine EW_block_normal ?_
        refine EW_then ?_
        refine CW_region ?_
        first | refine OW_q (q_inc rfl rfl (by omega)) rfl ?_ | refine OW_q (q_add rfl rfl (by omega) (by omega)) rfl ?_
        refine OW_q (q_move rfl) rfl ?_
        refine OW_nil ?_
        refine EW_weak (S' := Sat (Old _) _ [builderA b4 (headT g ++ rulesT (g.rules.take (k + 1))), cel b1 24 [.int .i64 g.terms, .int .i64 g.names, .slice (some p) g.rules.length c]]) (fun w hw => by
          have e : headT g ++ rulesT (g.rules.take (k + 1)) = ((headT g ++ rulesT (g.rules.take k)) ++ leftT r ++ bodyT r.right) ++ ([[10]] : List (List UInt8)).flatten := by rw [rulesT_next hq]; simp [ruleT]
          rw [e]; exact hw.sub (by repeat (first | exact SubL.nil | exact Pick.head | apply Pick.tail | apply SubL.cons))) ?_
        refine EW_again (k + 1) ⟨?_, ?_⟩ ⟨rfl, rfl, rfl, rfl, rfl, trivial⟩ (fun w hw => hw.sub (by (repeat (first | exact SubL.nil | exact Pick.head | apply Pick.tail | apply SubL.cons))))
        · show g.rules.length - (k + 1) < g.rules.length - k; omega
        · show k + 1 ≤ _; omega
    · skip
      have hke : g.rules.length ≤ k := by have := of_decide_eq_false h27; omega
      refine CW_exit ?_
      refine EW_then_exit ?_
      refine EW_out ?_
      refine EW_block_exit ?_
      refine EW_then ?_
      refine CW_seq ?_
      refine CW_weak (S' := Sat (Old w) w [builderA b4 (textT g), cel b1 24 [.int .i64 g.terms, .int .i64 g.names, .slice a g.rules.length c]]) (fun w hw => by rw [List.take_of_length_le hke] at hw; exact hw.sub (by repeat (first | exact SubL.nil | exact Pick.head | apply Pick.tail | apply SubL.cons))) ?_
      refine CW_region ?_
      refine OW_e (e_call Tryd.call17 rfl (fun w hw => string_any b4 (textT g) _ w (cel b1 24 [.int .i64 g.terms, .int .i64 g.names, .slice a g.rules.length c]) (hw.sub (by repeat (first | exact SubL.nil | exact Pick.head | apply Pick.tail | apply SubL.cons))))) rfl (fun x54 => ?_)
      refine OW_q (q_assign rfl) rfl ?_
      refine OW_q (q_assign rfl) rfl ?_
      refine OW_nil ?_
      refine EW_then ?_
      refine CW_ret ?_
      refine ret2 Tryd.results5 rfl rfl (fun w hw => ?_)
      exact ⟨by rw [hm]; rfl, hw⟩

end Go.Sy
