/- Sets: the closure that lets what may be nothing and what begins grow. No condition. -/
import Derived.Test.YteceklkjbcebkaaW11
namespace Go.Sy
open Go Go.RowKit Go.Proofs

def Inv1 (g : Gram) (N : Nat) (n : List Bool) (f : List (List Bool)) : Prop := n.length = N ∧ Dim f N g.terms.toNat ∧ NS g n ∧ FS g f
def Cl1 (g : Gram) (n : List Bool) (f : List (List Bool)) (r : Rule) : Prop :=
  (nullB n r.right = true → atB n r.left = true) ∧ ∀ t : Int, 0 ≤ t → t < g.terms → begB n f r.right t = true → at2 f r.left t = true

theorem ns_set {g : Gram} {n : List Bool} (h : NS g n) {r : Rule} (hr : r ∈ g.rules) (hn : NullI g r.right) (h0 : 0 ≤ r.left) (h1 : r.left < n.length) : NS g (n.set r.left.toNat true) := by
  intro m hm hb
  rw [atB_set' h0 h1 hm] at hb
  split at hb
  · rename_i e; rw [e]; exact .cons hr hn .nil
  · exact h m hm hb
theorem fs_put {g : Gram} {f : List (List Bool)} (h : FS g f) {n t : Int} (hf : FirstI g [⟨false, n⟩] t) (h0 : 0 ≤ n) (h1 : n < f.length) (ht : 0 ≤ t) (ht1 : t < (row2 f n).length) : FS g (put2 f n t) := by
  intro m u hm hu hb
  rw [at2_put h0 h1 ht ht1 hm hu] at hb
  simp only [Bool.or_eq_true, Bool.and_eq_true, decide_eq_true_eq] at hb
  rcases hb with hb | ⟨rfl, rfl⟩
  · exact h m u hm hu hb
  · exact hf
theorem set_same {l : List Bool} {t : Int} (h0 : 0 ≤ t) (h1 : t < l.length) (h : atB l t = true) : l.set t.toNat true = l := by
  have hg := atB_get h0 h1
  rw [h] at hg
  apply List.ext_getElem?
  intro i
  rw [List.getElem?_set]
  split
  · rename_i e; subst e; rw [if_pos (by omega), hg]
  · rfl

set_option maxRecDepth 20000 in
theorem of1_any (g : Gram) (hm : mayB g = true) (N : Nat) (hN : g.names.toNat = N) (b1 b4 bn bf bo cf co : Nat) (blf blo : List Nat) (hblf : blf.length = N) (hblo : blo.length = N) (a : Option Addr) (c : Nat) (R : Nat → Prop) (w0 w : World) (F : HP) (hr : RulesAt (Rd R w0) (.slice a g.rules.length c) g.rules) (n0 : List Bool) (f0 fo : List (List Bool)) (hI : Inv1 g N n0 f0) (hw : Sat R w0 [bools bn 4 n0, tabA 4 blf f0, trow 36 1 (encR g.terms.toNat) (.slice (some ⟨bf, 0, none⟩) N cf) blf, trow 36 1 (encR (g.terms + 1).toNat) (.slice (some ⟨bo, 0, none⟩) N co) blo, tabA 4 blo fo, cel b4 53 [.slice (some ⟨bn, 0, none⟩) N N, .slice (some ⟨bf, 0, none⟩) N cf, .slice (some ⟨bo, 0, none⟩) N co], cel b1 24 [.int .i64 g.terms, .int .i64 g.names, .slice a g.rules.length c], F] w) : Calls Try.prog 47 #[.pointer (some ⟨b1, 0, none⟩), .pointer (some ⟨b4, 0, none⟩)] w (fun e w' => ∃ y : Bool × List Bool × List (List Bool), e = .returned (.bool y.1) ∧ (Inv1 g N y.2.1 y.2.2 ∧ (y.1 = false → (y.2.1 = n0 ∧ y.2.2 = f0) ∧ ∀ r ∈ g.rules, Cl1 g n0 f0 r) ∧ (y.1 = true → fls y.2.1 + fls2 y.2.2 < fls n0 + fls2 f0)) ∧ Sat R w0 [bools bn 4 y.2.1, tabA 4 blf y.2.2, trow 36 1 (encR g.terms.toNat) (.slice (some ⟨bf, 0, none⟩) N cf) blf, trow 36 1 (encR (g.terms + 1).toNat) (.slice (some ⟨bo, 0, none⟩) N co) blo, tabA 4 blo fo, cel b4 53 [.slice (some ⟨bn, 0, none⟩) N N, .slice (some ⟨bf, 0, none⟩) N cf, .slice (some ⟨bo, 0, none⟩) N co], cel b1 24 [.int .i64 g.terms, .int .i64 g.names, .slice a g.rules.length c], F] w') := by
  obtain ⟨a', c', hv, hc1, hc2, hrs⟩ := hr
  injection hv with e1 _ e2
  subst e1
  subst e2
  have hM := mayB_true.1 hm
  have hall := may_all hm
  refine calls_CW (S := Sat R w0 [bools bn 4 n0, tabA 4 blf f0, trow 36 1 (encR g.terms.toNat) (.slice (some ⟨bf, 0, none⟩) N cf) blf, trow 36 1 (encR (g.terms + 1).toNat) (.slice (some ⟨bo, 0, none⟩) N co) blo, tabA 4 blo fo, cel b4 53 [.slice (some ⟨bn, 0, none⟩) N N, .slice (some ⟨bf, 0, none⟩) N cf, .slice (some ⟨bo, 0, none⟩) N co], cel b1 24 [.int .i64 g.terms, .int .i64 g.names, .slice a g.rules.length c], F]) Try.func47 rfl Try.ntmps47 rfl (hw) ?_
  refine CW_seq ?_
  refine CW_region ?_
  refine OW_q (q_assign rfl) rfl ?_
  refine OW_nil ?_
  refine EW_then ?_
  refine CW_seq ?_
  refine CW_region ?_
  refine OW_q (q_assign rfl) rfl ?_
  refine OW_nil ?_
  refine EW_then ?_
  refine CW_seq ?_
  refine CW_seq ?_
  refine CW_region ?_
  refine OW_q (q_fieldAddr Try.underlying24 rfl rfl Try.sizeOf22 rfl rfl) rfl ?_
  first | (refine OW_q (q_load1_own Try.isAgg22 rfl rfl (by (repeat (first | exact .head | apply Swap.tail))) (by rfl)) rfl ?_) | (refine OW_q (q_load1_ro Try.isAgg22 rfl (by first | assumption | exact Row.at_ (by assumption) rfl)) rfl ?_)
  refine OW_q (q_len Try.underlying22 rfl) rfl ?_
  refine OW_q (q_move rfl) rfl ?_
  refine OW_nil ?_
  refine EW_then ?_
  refine CW_block ?_
  refine CW_loopP (ι := Nat × Bool × List Bool × List (List Bool)) (fun i_ => i_.1 ≤ g.rules.length ∧ Inv1 g N i_.2.2.1 i_.2.2.2 ∧ (i_.2.1 = false → (i_.2.2.1 = n0 ∧ i_.2.2.2 = f0) ∧ ∀ q ∈ g.rules.take i_.1, Cl1 g n0 f0 q) ∧ (i_.2.1 = true → fls i_.2.2.1 + fls2 i_.2.2.2 < fls n0 + fls2 f0)) (fun i_ => [(0, .pointer (some ⟨b1, 0, none⟩)), (1, .pointer (some ⟨b4, 0, none⟩)), (3, .bool i_.2.1), (11, .slice a g.rules.length c), (12, .int .i64 (g.rules.length : Int)), (13, .int .i64 (i_.1 : Int))]) (fun i_ => Sat R w0 [bools bn 4 i_.2.2.1, tabA 4 blf i_.2.2.2, trow 36 1 (encR g.terms.toNat) (.slice (some ⟨bf, 0, none⟩) N cf) blf, trow 36 1 (encR (g.terms + 1).toNat) (.slice (some ⟨bo, 0, none⟩) N co) blo, tabA 4 blo fo, cel b4 53 [.slice (some ⟨bn, 0, none⟩) N N, .slice (some ⟨bf, 0, none⟩) N cf, .slice (some ⟨bo, 0, none⟩) N co], cel b1 24 [.int .i64 g.terms, .int .i64 g.names, .slice a g.rules.length c], F]) (fun i_ => g.rules.length - i_.1) (0, false, n0, f0) ?_ ⟨rfl, rfl, rfl, rfl, rfl, rfl, trivial⟩ (fun w hw => hw.sub (by (repeat (first | exact SubL.nil | exact Pick.head | apply Pick.tail | apply SubL.cons)))) ?_
  · exact ⟨Nat.zero_le _, hI, (fun _ => ⟨⟨rfl, rfl⟩, fun q hq => by simp at hq⟩), (fun h => by cases h)⟩
  intro i_ hpre
  obtain ⟨k, gr, n1, f1⟩ := i_
  replace hpre : k ≤ g.rules.length ∧ Inv1 g N n1 f1 ∧ (gr = false → (n1 = n0 ∧ f1 = f0) ∧ ∀ q ∈ g.rules.take k, Cl1 g n0 f0 q) ∧ (gr = true → fls n1 + fls2 f1 < fls n0 + fls2 f0) := hpre
  change CW _ _ _ _ [(0, .pointer (some ⟨b1, 0, none⟩)), (1, .pointer (some ⟨b4, 0, none⟩)), (3, .bool gr), (11, .slice a g.rules.length c), (12, .int .i64 (g.rules.length : Int)), (13, .int .i64 (k : Int))] (Sat R w0 [bools bn 4 n1, tabA 4 blf f1, trow 36 1 (encR g.terms.toNat) (.slice (some ⟨bf, 0, none⟩) N cf) blf, trow 36 1 (encR (g.terms + 1).toNat) (.slice (some ⟨bo, 0, none⟩) N co) blo, tabA 4 blo fo, cel b4 53 [.slice (some ⟨bn, 0, none⟩) N N, .slice (some ⟨bf, 0, none⟩) N cf, .slice (some ⟨bo, 0, none⟩) N co], cel b1 24 [.int .i64 g.terms, .int .i64 g.names, .slice a g.rules.length c], F])
  obtain ⟨hk, ⟨hln, hdim, hns, hfs⟩, h1, h2⟩ := hpre
  refine CW_seq ?_
  refine CW_region ?_
  refine OW_q (q_lss rfl rfl) rfl ?_
  refine OW_nil ?_
  refine EW_then ?_
  refine CW_seq ?_
  refine CW_cond rfl (fun h14 => ?_) (fun h14 => ?_)
  · skip
    have hlt : k < g.rules.length := by simpa using h14
    obtain ⟨r, hx⟩ := get_of_lt hlt
    have hmem := List.mem_of_getElem? hx
    obtain ⟨p, rfl, rv2, hsy, hrow⟩ := hrs k r hx
    have hr1 := hall r hmem
    have hpos : Pos r.right := fun s hs ht => (hr1.2.2 s hs ht).1
    obtain ⟨a2, c2, hrv2, _⟩ := id hsy
    subst hrv2
    have hlN : r.left < (N : Int) := by omega
    have hrl := hdim.row hr1.1 hlN
    refine CW_skip ?_
    refine EW_then ?_
    refine CW_seq ?_
    refine CW_block ?_
    refine CW_seq ?_
    refine CW_region ?_
    refine OW_q (q_indexAddr Try.underlying22 Try.sizeOf41 rfl rfl (by first | omega | assumption)) rfl ?_
    refine OW_q (q_loadN_ro Try.isAgg41 Try.sizeOf41 rfl (by first | assumption | exact Row.at_ (by assumption) rfl) (by rfl)) rfl ?_
    refine OW_e (e_alloc Try.zeroValue41 rfl) rfl (fun b5 => ?_)
    refine OW_e0 (e_storeN Try.sizeOf41 rfl rfl rfl rfl (by simp [Value.oneCell']) (by (repeat (first | exact .head | apply Swap.tail))) (by rfl)) (fun _ => ?_)
    refine OW_nil ?_
    refine EW_then ?_
    refine CW_seq ?_
    refine CW_region ?_
    first | (refine OW_q (q_loadN_own Try.isAgg53 Try.sizeOf53 rfl rfl (by (repeat (first | exact .head | apply Swap.tail))) (by rfl)) rfl ?_) | (refine OW_q (q_loadN_ro Try.isAgg53 Try.sizeOf53 rfl (by first | assumption | exact Row.at_ (by assumption) rfl) (by rfl)) rfl ?_)
    refine OW_q (q_fieldAddr Try.underlying24 rfl rfl Try.sizeOf3 rfl rfl) rfl ?_
    first | (refine OW_q (q_load1_own Try.isAgg3 rfl rfl (by (repeat (first | exact .head | apply Swap.tail))) (by rfl)) rfl ?_) | (refine OW_q (q_load1_ro Try.isAgg3 rfl (by first | assumption | exact Row.at_ (by assumption) rfl)) rfl ?_)
    refine OW_q (q_fieldAddr Try.underlying41 rfl rfl Try.sizeOf39 rfl rfl) rfl ?_
    first | (refine OW_q (q_load1_own Try.isAgg39 rfl rfl (by (repeat (first | exact .head | apply Swap.tail))) (by rfl)) rfl ?_) | (refine OW_q (q_load1_ro Try.isAgg39 rfl (by first | assumption | exact Row.at_ (by assumption) rfl)) rfl ?_)
    refine OW_e (e_call Try.call48 rfl (fun w hw => lift_oldP (begin_any _ _ _ _ r.right n1 f1 g.terms w (by omega) (by omega) (hsy.mono hw.rd_cl) (hw.boolsAt (A' := bools 0 0 []) (by repeat (first | exact .head | apply Swap.tail)) hln (Nat.le_refl _) (by omega)) (hw.tabAt (bl := blf) (by repeat (first | exact .head | apply Swap.tail)) (by repeat (first | exact .head | apply Swap.tail)) (by rw [hblf, hdim.1]) hdim.2 (by omega)) (fun s hs ht => by have := hr1.2.2 s hs ht; omega) (fun s hs ht => may_term hm hmem hs ht) (by rw [hln]; exact hdim)) hw)) rfl (fun x23 => ?_)
    refine OW_pure fun hx23 => ?_
    have hxo := hx23.2
    refine OW_q (q_move rfl) rfl ?_
    refine OW_q (q_extract rfl rfl) rfl ?_
    refine OW_q (q_extract rfl rfl) rfl ?_
    refine OW_q (q_assign rfl) rfl ?_
    refine OW_q (q_assign rfl) rfl ?_
    refine OW_nil ?_
    refine EW_then ?_
    refine CW_seqJ (ι := Bool × List Bool) (fun i_ => i_.2.length = N ∧ NS g i_.2 ∧ fls i_.2 ≤ fls n1 ∧ (i_.1 = false → gr = false ∧ i_.2 = n1 ∧ (nullB n1 r.right = true → atB n1 r.left = true)) ∧ (i_.1 = true → gr = true ∨ fls i_.2 < fls n1)) (fun i_ => [(0, .pointer (some ⟨b1, 0, none⟩)), (1, .pointer (some ⟨b4, 0, none⟩)), (3, .bool i_.1), (5, .pointer (some ⟨b5, 0, none⟩)), (6, .slice (some ⟨x23.1, 0, none⟩) g.terms.toNat g.terms.toNat), (11, .slice (some p) g.rules.length c), (12, .int .i64 (g.rules.length : Int)), (13, .int .i64 (k : Int))]) (fun i_ => Sat R w0 [tabA 4 blf f1, bools bn 4 i_.2, bools x23.1 4 x23.2, cel b5 41 [.int .i64 r.left, .slice a2 r.right.length c2], trow 36 1 (encR g.terms.toNat) (.slice (some ⟨bf, 0, none⟩) N cf) blf, trow 36 1 (encR (g.terms + 1).toNat) (.slice (some ⟨bo, 0, none⟩) N co) blo, tabA 4 blo fo, cel b4 53 [.slice (some ⟨bn, 0, none⟩) N N, .slice (some ⟨bf, 0, none⟩) N cf, .slice (some ⟨bo, 0, none⟩) N co], cel b1 24 [.int .i64 g.terms, .int .i64 g.names, .slice (some p) g.rules.length c], F]) ?_ ?_
    · skip
      refine CW_region ?_
      refine OW_q (q_move rfl) rfl ?_
      refine OW_q (q_move rfl) rfl ?_
      refine OW_part (t := 27) rfl (fun hg27 => ?_) (fun hg27 => ?_)
      · skip
        refine OW_wanted rfl rfl rfl ?_
        refine OW_q (q_fieldAddr Try.underlying53 rfl rfl Try.sizeOf36 rfl rfl) rfl ?_
        refine OW_wanted rfl rfl rfl ?_
        first | (refine OW_q (q_load1_own Try.isAgg36 rfl rfl (by (repeat (first | exact .head | apply Swap.tail))) (by rfl)) rfl ?_) | (refine OW_q (q_load1_ro Try.isAgg36 rfl (by first | assumption | exact Row.at_ (by assumption) rfl)) rfl ?_)
        refine OW_wanted rfl rfl rfl ?_
        refine OW_q (q_fieldAddr Try.underlying41 rfl rfl Try.sizeOf3 rfl rfl) rfl ?_
        refine OW_wanted rfl rfl rfl ?_
        first | (refine OW_q (q_load1_own Try.isAgg3 rfl rfl (by (repeat (first | exact .head | apply Swap.tail))) (by rfl)) rfl ?_) | (refine OW_q (q_load1_ro Try.isAgg3 rfl (by first | assumption | exact Row.at_ (by assumption) rfl)) rfl ?_)
        refine OW_wanted rfl rfl rfl ?_
        refine OW_e (e_call Try.call49 rfl (fun w hw => lift_mut (by repeat (first | exact .head | apply Pick.tail)) hw (fun F hF => set_any bn N n1 r.left R w0 w F hln hr1.1 hlN hF))) rfl (fun x32 => ?_)
        refine OW_pure fun _ => ?_
        refine OW_q (q_pick_t rfl rfl) rfl ?_
        refine OW_q (q_move rfl) rfl ?_
        refine OW_part (t := 34) rfl (fun hg34 => ?_) (fun hg34 => ?_)
        · skip
          refine OW_skip rfl rfl rfl rfl ?_
          refine OW_q (q_pick_t rfl rfl) rfl ?_
          refine OW_q (q_assign rfl) rfl ?_
          refine OW_nil ?_
          refine EW_again ((true, n1.set r.left.toNat true)) ?_ ⟨rfl, rfl, rfl, rfl, rfl, rfl, rfl, rfl, trivial⟩ (fun w hw => hw.sub (by (repeat (first | exact SubL.nil | exact Pick.head | apply Pick.tail | apply SubL.cons))))
          · have hcf : atB n1 r.left = false := by simpa using hg34
            have hls := fls_set (is := n1) (m := r.left.toNat) (by rw [atB_get hr1.1 (by omega), hcf])
            exact ⟨by show (List.set _ _ _).length = _; rw [List.length_set]; exact hln, ns_set hns hmem (nullB_sound hns hpos hg27) hr1.1 (by omega), Nat.le_of_lt hls, (fun h => by cases h), fun _ => .inr hls⟩
        · skip
          refine OW_wanted rfl rfl rfl ?_
          refine OW_q (q_move rfl) rfl ?_
          refine OW_q (q_pick_f rfl rfl) rfl ?_
          refine OW_q (q_assign rfl) rfl ?_
          refine OW_nil ?_
          refine EW_again ((gr, n1.set r.left.toNat true)) ?_ ⟨rfl, rfl, rfl, rfl, rfl, rfl, rfl, rfl, trivial⟩ (fun w hw => hw.sub (by (repeat (first | exact SubL.nil | exact Pick.head | apply Pick.tail | apply SubL.cons))))
          · have hcf : atB n1 r.left = true := by simpa using hg34
            rw [set_same hr1.1 (by omega) hcf]
            exact ⟨hln, hns, Nat.le_refl _, (fun h => ⟨h, rfl, fun _ => hcf⟩), fun h => .inl h⟩
      · skip
        refine OW_skip rfl rfl rfl rfl ?_
        refine OW_skip rfl rfl rfl rfl ?_
        refine OW_skip rfl rfl rfl rfl ?_
        refine OW_skip rfl rfl rfl rfl ?_
        refine OW_skip rfl rfl rfl rfl ?_
        refine OW_q (q_pick_f rfl rfl) rfl ?_
        refine OW_q (q_move rfl) rfl ?_
        refine OW_wanted rfl rfl rfl ?_
        refine OW_q (q_move rfl) rfl ?_
        refine OW_q (q_pick_f rfl rfl) rfl ?_
        refine OW_q (q_assign rfl) rfl ?_
        refine OW_nil ?_
        refine EW_again ((gr, n1)) ?_ ⟨rfl, rfl, rfl, rfl, rfl, rfl, rfl, rfl, trivial⟩ (fun w hw => hw.sub (by (repeat (first | exact SubL.nil | exact Pick.head | apply Pick.tail | apply SubL.cons))))
        · exact ⟨hln, hns, Nat.le_refl _, (fun h => ⟨h, rfl, fun h3 => by rw [hg27] at h3; cases h3⟩), fun h => .inl h⟩
    intro i_ hpre
    obtain ⟨gr2, n2⟩ := i_
    replace hpre : n2.length = N ∧ NS g n2 ∧ fls n2 ≤ fls n1 ∧ (gr2 = false → gr = false ∧ n2 = n1 ∧ (nullB n1 r.right = true → atB n1 r.left = true)) ∧ (gr2 = true → gr = true ∨ fls n2 < fls n1) := hpre
    change CW _ _ _ _ [(0, .pointer (some ⟨b1, 0, none⟩)), (1, .pointer (some ⟨b4, 0, none⟩)), (3, .bool gr2), (5, .pointer (some ⟨b5, 0, none⟩)), (6, .slice (some ⟨x23.1, 0, none⟩) g.terms.toNat g.terms.toNat), (11, .slice (some p) g.rules.length c), (12, .int .i64 (g.rules.length : Int)), (13, .int .i64 (k : Int))] (Sat R w0 [tabA 4 blf f1, bools bn 4 n2, bools x23.1 4 x23.2, cel b5 41 [.int .i64 r.left, .slice a2 r.right.length c2], trow 36 1 (encR g.terms.toNat) (.slice (some ⟨bf, 0, none⟩) N cf) blf, trow 36 1 (encR (g.terms + 1).toNat) (.slice (some ⟨bo, 0, none⟩) N co) blo, tabA 4 blo fo, cel b4 53 [.slice (some ⟨bn, 0, none⟩) N N, .slice (some ⟨bf, 0, none⟩) N cf, .slice (some ⟨bo, 0, none⟩) N co], cel b1 24 [.int .i64 g.terms, .int .i64 g.names, .slice (some p) g.rules.length c], F])
    obtain ⟨hln2, hns2, hle2, h21, h22⟩ := hpre
    refine CW_seq ?_
    refine CW_region ?_
    refine OW_q (q_move rfl) rfl ?_
    refine OW_q (q_len Try.underlying36 rfl) rfl ?_
    refine OW_q (q_move rfl) rfl ?_
    refine OW_nil ?_
    refine EW_then ?_
    refine CW_block ?_
    refine CW_loopP (ι := Nat × Bool × List (List Bool)) (fun i_ => i_.1 ≤ g.terms.toNat ∧ Dim i_.2.2 N g.terms.toNat ∧ FS g i_.2.2 ∧ fls2 i_.2.2 ≤ fls2 f1 ∧ (i_.2.1 = false → gr2 = false ∧ i_.2.2 = f1 ∧ ∀ u : Int, 0 ≤ u → u < g.terms → u < (i_.1 : Int) → atB x23.2 u = true → at2 f1 r.left u = true) ∧ (i_.2.1 = true → gr2 = true ∨ fls2 i_.2.2 < fls2 f1)) (fun i_ => [(0, .pointer (some ⟨b1, 0, none⟩)), (1, .pointer (some ⟨b4, 0, none⟩)), (3, .bool i_.2.1), (5, .pointer (some ⟨b5, 0, none⟩)), (11, .slice (some p) g.rules.length c), (12, .int .i64 (g.rules.length : Int)), (13, .int .i64 (k : Int)), (37, .slice (some ⟨x23.1, 0, none⟩) g.terms.toNat g.terms.toNat), (38, .int .i64 (g.terms.toNat : Int)), (39, .int .i64 (i_.1 : Int))]) (fun i_ => Sat R w0 [tabA 4 blf i_.2.2, bools bn 4 n2, bools x23.1 4 x23.2, cel b5 41 [.int .i64 r.left, .slice a2 r.right.length c2], trow 36 1 (encR g.terms.toNat) (.slice (some ⟨bf, 0, none⟩) N cf) blf, trow 36 1 (encR (g.terms + 1).toNat) (.slice (some ⟨bo, 0, none⟩) N co) blo, tabA 4 blo fo, cel b4 53 [.slice (some ⟨bn, 0, none⟩) N N, .slice (some ⟨bf, 0, none⟩) N cf, .slice (some ⟨bo, 0, none⟩) N co], cel b1 24 [.int .i64 g.terms, .int .i64 g.names, .slice (some p) g.rules.length c], F]) (fun i_ => g.terms.toNat - i_.1) (0, gr2, f1) ?_ ⟨rfl, rfl, rfl, rfl, rfl, rfl, rfl, rfl, rfl, rfl, trivial⟩ (fun w hw => hw.sub (by (repeat (first | exact SubL.nil | exact Pick.head | apply Pick.tail | apply SubL.cons)))) ?_
    · exact ⟨Nat.zero_le _, hdim, hfs, Nat.le_refl _, (fun h => ⟨h, rfl, fun u h3 _ h4 => absurd h4 (by show ¬ u < 0; omega)⟩), (fun h => .inl h)⟩
    intro i_ hpre
    obtain ⟨tt, gr3, f3⟩ := i_
    replace hpre : tt ≤ g.terms.toNat ∧ Dim f3 N g.terms.toNat ∧ FS g f3 ∧ fls2 f3 ≤ fls2 f1 ∧ (gr3 = false → gr2 = false ∧ f3 = f1 ∧ ∀ u : Int, 0 ≤ u → u < g.terms → u < (tt : Int) → atB x23.2 u = true → at2 f1 r.left u = true) ∧ (gr3 = true → gr2 = true ∨ fls2 f3 < fls2 f1) := hpre
    change CW _ _ _ _ [(0, .pointer (some ⟨b1, 0, none⟩)), (1, .pointer (some ⟨b4, 0, none⟩)), (3, .bool gr3), (5, .pointer (some ⟨b5, 0, none⟩)), (11, .slice (some p) g.rules.length c), (12, .int .i64 (g.rules.length : Int)), (13, .int .i64 (k : Int)), (37, .slice (some ⟨x23.1, 0, none⟩) g.terms.toNat g.terms.toNat), (38, .int .i64 (g.terms.toNat : Int)), (39, .int .i64 (tt : Int))] (Sat R w0 [tabA 4 blf f3, bools bn 4 n2, bools x23.1 4 x23.2, cel b5 41 [.int .i64 r.left, .slice a2 r.right.length c2], trow 36 1 (encR g.terms.toNat) (.slice (some ⟨bf, 0, none⟩) N cf) blf, trow 36 1 (encR (g.terms + 1).toNat) (.slice (some ⟨bo, 0, none⟩) N co) blo, tabA 4 blo fo, cel b4 53 [.slice (some ⟨bn, 0, none⟩) N N, .slice (some ⟨bf, 0, none⟩) N cf, .slice (some ⟨bo, 0, none⟩) N co], cel b1 24 [.int .i64 g.terms, .int .i64 g.names, .slice (some p) g.rules.length c], F])
    obtain ⟨htt, hdim3, hfs3, hle3, h31, h32⟩ := hpre
    refine CW_seq ?_
    refine CW_region ?_
    refine OW_q (q_lss rfl rfl) rfl ?_
    refine OW_nil ?_
    refine EW_then ?_
    refine CW_seq ?_
    refine CW_cond rfl (fun h40 => ?_) (fun h40 => ?_)
    · skip
      have hltt : tt < g.terms.toNat := by have := of_decide_eq_true h40; omega
      have hco := atB_get (is := x23.2) (n := (tt : Int)) (by omega) (by omega)
      rw [Int.toNat_natCast] at hco
      have hrl3 := hdim3.row hr1.1 hlN
      have hl3N := hdim3.1
      obtain ⟨bi, hbl⟩ := get_of_lt (l := blf) (k := r.left.toNat) (by omega)
      refine CW_skip ?_
      refine EW_then ?_
      refine CW_seq ?_
      refine CW_block ?_
      refine CW_seq ?_
      refine CW_region ?_
      refine OW_q (q_move rfl) rfl ?_
      refine OW_q (q_indexAddr Try.underlying36 Try.sizeOf4 rfl rfl (by first | omega | assumption)) rfl ?_
      refine OW_q (q_load_bools Try.isAgg4 rfl (by (repeat (first | exact .head | apply Swap.tail))) (by exact hco)) rfl ?_
      refine OW_q (q_assign rfl) rfl ?_
      refine OW_q (q_assign rfl) rfl ?_
      refine OW_nil ?_
      refine EW_then ?_
      refine CW_region ?_
      refine OW_q (q_move rfl) rfl ?_
      refine OW_q (q_move rfl) rfl ?_
      refine OW_part (t := 45) rfl (fun hg45 => ?_) (fun hg45 => ?_)
      · skip
        have hfi : FirstI g [⟨false, r.left⟩] (tt : Int) := .name hmem (begB_sound hns hfs (Int.natCast_nonneg tt) hpos (by rw [← hxo (tt : Int) (Int.natCast_nonneg tt) (by omega)]; exact hg45))
        refine OW_wanted rfl rfl rfl ?_
        refine OW_q (q_fieldAddr Try.underlying53 rfl rfl Try.sizeOf51 rfl rfl) rfl ?_
        refine OW_wanted rfl rfl rfl ?_
        first | (refine OW_q (q_load1_own Try.isAgg51 rfl rfl (by (repeat (first | exact .head | apply Swap.tail))) (by rfl)) rfl ?_) | (refine OW_q (q_load1_ro Try.isAgg51 rfl (by first | assumption | exact Row.at_ (by assumption) rfl)) rfl ?_)
        refine OW_wanted rfl rfl rfl ?_
        refine OW_q (q_fieldAddr Try.underlying41 rfl rfl Try.sizeOf3 rfl rfl) rfl ?_
        refine OW_wanted rfl rfl rfl ?_
        first | (refine OW_q (q_load1_own Try.isAgg3 rfl rfl (by (repeat (first | exact .head | apply Swap.tail))) (by rfl)) rfl ?_) | (refine OW_q (q_load1_ro Try.isAgg3 rfl (by first | assumption | exact Row.at_ (by assumption) rfl)) rfl ?_)
        refine OW_wanted rfl rfl rfl ?_
        refine OW_q (q_indexAddrI Try.underlying51 Try.sizeOf36 rfl rfl (by first | omega | assumption) (by first | omega | assumption)) rfl ?_
        refine OW_wanted rfl rfl rfl ?_
        refine OW_q (q_load_t1 Try.isAgg36 (fun _ => rfl) rfl (by repeat (first | exact .head | apply Swap.tail)) rfl hbl rfl) rfl ?_
        refine OW_wanted rfl rfl rfl ?_
        refine OW_q (q_move rfl) rfl ?_
        refine OW_wanted rfl rfl rfl ?_
        refine OW_e (e_call Try.call49 rfl (fun w hw => lift_hole (Hole.tab hbl (row2_get hr1.1 (by omega))) (hw.pick (by repeat (first | exact .head | apply Pick.tail))) (fun F hF => set_any bi g.terms.toNat (row2 f3 r.left) (tt : Int) R w0 w F hrl3 (Int.natCast_nonneg tt) (by omega) hF))) rfl (fun x53 => ?_)
        refine OW_pure fun _ => ?_
        refine OW_weak (fun w hw => by rw [tabL_set hbl] at hw; exact hw) ?_
        refine OW_weak (fun w hw => (hw : Sat _ _ (tabA 4 blf (put2 f3 r.left (tt : Int)) :: _) w)) ?_
        refine OW_q (q_pick_t rfl rfl) rfl ?_
        refine OW_q (q_move rfl) rfl ?_
        refine OW_part (t := 55) rfl (fun hg55 => ?_) (fun hg55 => ?_)
        · skip
          refine OW_skip rfl rfl rfl rfl ?_
          refine OW_q (q_pick_t rfl rfl) rfl ?_
          refine OW_q (q_assign rfl) rfl ?_
          refine OW_nil ?_
          refine EW_block_normal ?_
          refine EW_then ?_
          refine CW_region ?_
          first | refine OW_q (q_inc rfl rfl (by omega)) rfl ?_ | refine OW_q (q_add rfl rfl (by omega) (by omega)) rfl ?_
          refine OW_q (q_move rfl) rfl ?_
          refine OW_nil ?_
          refine EW_again ((tt + 1, true, put2 f3 r.left (tt : Int))) ⟨?_, ?_⟩ ⟨rfl, rfl, rfl, rfl, rfl, rfl, rfl, rfl, rfl, rfl, trivial⟩ (fun w hw => hw.sub (by (repeat (first | exact SubL.nil | exact Pick.head | apply Pick.tail | apply SubL.cons))))
          · show g.terms.toNat - (tt + 1) < g.terms.toNat - tt; omega
          · have hcf : at2 f3 r.left (tt : Int) = false := by simpa [at2] using hg55
            have hl3 := put2_less hr1.1 (by omega) (Int.natCast_nonneg tt) (by omega) hcf
            refine ⟨by show tt + 1 ≤ _; omega, hdim3.put hr1.1 hlN, fs_put hfs3 hfi hr1.1 (by omega) (Int.natCast_nonneg tt) (by omega), by show fls2 (put2 f3 r.left (tt : Int)) ≤ _; omega, (fun h => by cases h), fun _ => .inr (by show fls2 (put2 f3 r.left (tt : Int)) < _; omega)⟩
        · skip
          refine OW_wanted rfl rfl rfl ?_
          refine OW_q (q_move rfl) rfl ?_
          refine OW_q (q_pick_f rfl rfl) rfl ?_
          refine OW_q (q_assign rfl) rfl ?_
          refine OW_nil ?_
          refine EW_block_normal ?_
          refine EW_then ?_
          refine CW_region ?_
          first | refine OW_q (q_inc rfl rfl (by omega)) rfl ?_ | refine OW_q (q_add rfl rfl (by omega) (by omega)) rfl ?_
          refine OW_q (q_move rfl) rfl ?_
          refine OW_nil ?_
          refine EW_again ((tt + 1, gr3, put2 f3 r.left (tt : Int))) ⟨?_, ?_⟩ ⟨rfl, rfl, rfl, rfl, rfl, rfl, rfl, rfl, rfl, rfl, trivial⟩ (fun w hw => hw.sub (by (repeat (first | exact SubL.nil | exact Pick.head | apply Pick.tail | apply SubL.cons))))
          · show g.terms.toNat - (tt + 1) < g.terms.toNat - tt; omega
          · have hcf : at2 f3 r.left (tt : Int) = true := by simpa [at2] using hg55
            have e := put2_same hr1.1 (by omega) (Int.natCast_nonneg tt) (by omega) hcf
            rw [e]
            refine ⟨by show tt + 1 ≤ _; omega, hdim3, hfs3, hle3, fun h => ⟨(h31 h).1, (h31 h).2.1, fun u hu0 hu1 hu2 hu3 => ?_⟩, h32⟩
            have hu2' : u < ((tt + 1 : Nat) : Int) := hu2
            by_cases eu : u = (tt : Int)
            · rw [eu, ← (h31 h).2.1]; exact hcf
            · exact (h31 h).2.2 u hu0 hu1 (by omega) hu3
      · skip
        refine OW_skip rfl rfl rfl rfl ?_
        refine OW_skip rfl rfl rfl rfl ?_
        refine OW_skip rfl rfl rfl rfl ?_
        refine OW_skip rfl rfl rfl rfl ?_
        refine OW_skip rfl rfl rfl rfl ?_
        refine OW_skip rfl rfl rfl rfl ?_
        refine OW_skip rfl rfl rfl rfl ?_
        refine OW_skip rfl rfl rfl rfl ?_
        refine OW_q (q_pick_f rfl rfl) rfl ?_
        refine OW_q (q_move rfl) rfl ?_
        refine OW_wanted rfl rfl rfl ?_
        refine OW_q (q_move rfl) rfl ?_
        refine OW_q (q_pick_f rfl rfl) rfl ?_
        refine OW_q (q_assign rfl) rfl ?_
        refine OW_nil ?_
        refine EW_block_normal ?_
        refine EW_then ?_
        refine CW_region ?_
        first | refine OW_q (q_inc rfl rfl (by omega)) rfl ?_ | refine OW_q (q_add rfl rfl (by omega) (by omega)) rfl ?_
        refine OW_q (q_move rfl) rfl ?_
        refine OW_nil ?_
        refine EW_again ((tt + 1, gr3, f3)) ⟨?_, ?_⟩ ⟨rfl, rfl, rfl, rfl, rfl, rfl, rfl, rfl, rfl, rfl, trivial⟩ (fun w hw => hw.sub (by (repeat (first | exact SubL.nil | exact Pick.head | apply Pick.tail | apply SubL.cons))))
        · show g.terms.toNat - (tt + 1) < g.terms.toNat - tt; omega
        · refine ⟨by show tt + 1 ≤ _; omega, hdim3, hfs3, hle3, fun h => ⟨(h31 h).1, (h31 h).2.1, fun u hu0 hu1 hu2 hu3 => ?_⟩, h32⟩
          have hu2' : u < ((tt + 1 : Nat) : Int) := hu2
          by_cases eu : u = (tt : Int)
          · rw [eu, hg45] at hu3; cases hu3
          · exact (h31 h).2.2 u hu0 hu1 (by omega) hu3
    · skip
      have het : ¬ tt < g.terms.toNat := by have := of_decide_eq_false h40; omega
      refine CW_exit ?_
      refine EW_then_exit ?_
      refine EW_out ?_
      refine EW_block_exit ?_
      refine EW_block_normal ?_
      refine EW_then ?_
      refine CW_region ?_
      first | refine OW_q (q_inc rfl rfl (by omega)) rfl ?_ | refine OW_q (q_add rfl rfl (by omega) (by omega)) rfl ?_
      refine OW_q (q_move rfl) rfl ?_
      refine OW_nil ?_
      refine EW_again ((k + 1, gr3, n2, f3)) ⟨?_, ?_⟩ ⟨rfl, rfl, rfl, rfl, rfl, rfl, trivial⟩ (fun w hw => hw.sub (by (repeat (first | exact SubL.nil | exact Pick.head | apply Pick.tail | apply SubL.cons))))
      · show g.rules.length - (k + 1) < g.rules.length - k; omega
      · refine ⟨by show k + 1 ≤ _; omega, ⟨hln2, hdim3, hns2, hfs3⟩, fun hg3 => ?_, fun hg3 => ?_⟩
        · have q3 := h31 hg3
          have q2 := h21 q3.1
          have q1 := h1 q2.1
          refine ⟨⟨q2.2.1.trans q1.1.1, q3.2.1.trans q1.1.2⟩, fun q hq => ?_⟩
          rw [List.take_add_one, hx, List.mem_append] at hq
          rcases hq with hq | hq
          · exact q1.2 q hq
          · simp only [Option.toList_some, List.mem_singleton] at hq
            rw [hq, ← q1.1.1, ← q1.1.2]
            refine ⟨q2.2.2, fun u hu0 hu1 hb => ?_⟩
            refine q3.2.2 u hu0 hu1 (by omega) ?_
            rw [hxo u hu0 hu1]; exact hb
        · have e1 := hle2
          have e3 := hle3
          show fls n2 + fls2 f3 < fls n0 + fls2 f0
          have hb0 : gr = false → fls n1 + fls2 f1 = fls n0 + fls2 f0 := fun h => by rw [(h1 h).1.1, (h1 h).1.2]
          rcases h32 hg3 with h4 | h4
          · rcases h22 h4 with h5 | h5
            · have := h2 h5; omega
            · cases hgr : gr with
              | false => have := hb0 hgr; omega
              | true => have := h2 hgr; omega
          · cases hgr : gr with
            | false => have := hb0 hgr; omega
            | true => have := h2 hgr; omega
  · skip
    have hend := take_all (l := g.rules) (k := k) (by simpa using h14)
    refine CW_exit ?_
    refine EW_then_exit ?_
    refine EW_out ?_
    refine EW_block_exit ?_
    refine EW_then ?_
    refine CW_seq ?_
    refine CW_region ?_
    refine OW_q (q_move rfl) rfl ?_
    refine OW_q (q_assign rfl) rfl ?_
    refine OW_nil ?_
    refine EW_then ?_
    refine CW_ret ?_
    refine ret1 Try.results47 rfl (fun w hw => ?_)
    exact ⟨(gr, n1, f1), rfl, ⟨⟨hln, hdim, hns, hfs⟩, fun h => ⟨(h1 h).1, fun q hq => (h1 h).2 q (by rw [hend]; exact hq)⟩, h2⟩, hw.sub (by repeat (first | exact SubL.nil | exact Pick.head | apply Pick.tail | apply SubL.cons))⟩

end Go.Sy
