/- Sets: the program's sets of a grammar. No condition. -/
import Derived.Test.YteceklkjbcebkaaW13
namespace Go.Sy
open Go Go.RowKit Go.Proofs

def Cl2 (g : Gram) (nl : List Bool) (fs fo : List (List Bool)) (r : Rule) : Prop := ∀ k s, r.right[k]? = some s → s.term = false → OC1 g nl fs fo r k s
theorem Sat.tabAdd {R : Nat → Prop} {w0 w : World} {L : List HP} {T : TypeId} {bl : List Nat} {tab : List (List Bool)} {b : Nat} {l : List Bool} (hl : bl.length = tab.length) (h : Sat R w0 (tabA T bl tab :: bools b T l :: L) w) : Sat R w0 (tabA T (bl ++ [b]) (tab ++ [l]) :: L) w := by
  have h1 : Sat R w0 (tabL T bl tab ++ (bools b T l :: L)) w := Sat.unjoin h
  rw [show tabL T bl tab ++ (bools b T l :: L) = tabL T (bl ++ [b]) (tab ++ [l]) ++ L by rw [tabL_add b l hl, List.append_assoc]; rfl] at h1
  exact Sat.join h1
theorem Sat.tabNil {R : Nat → Prop} {w0 w : World} {L : List HP} (T : TypeId) (h : Sat R w0 L w) : Sat R w0 (tabA T [] [] :: L) w := h.addEmp (rfl : stars [] emp0)
theorem dim_new (a b : Nat) : Dim (List.replicate a (List.replicate b false)) a b := ⟨List.length_replicate, fun l hl => by rw [(List.mem_replicate.1 hl).2, List.length_replicate]⟩
theorem at2_new (a b : Nat) (n t : Int) : at2 (List.replicate a (List.replicate b false)) n t = false := by
  unfold at2 row2 atB
  rw [List.getD_eq_getElem?_getD, List.getD_eq_getElem?_getD, List.getElem?_replicate]
  split
  · rw [Option.getD_some, List.getElem?_replicate]; split <;> rfl
  · rfl
theorem atB_new (a : Nat) (n : Int) : atB (List.replicate a false) n = false := by
  unfold atB
  rw [List.getD_eq_getElem?_getD, List.getElem?_replicate]; split <;> rfl

structure SR where
  bn : Nat
  bf : Nat
  bo : Nat
  cf : Nat
  co : Nat
  blf : List Nat
  blo : List Nat
  nl : List Bool
  fs : List (List Bool)
  fo : List (List Bool)
def SetsOk (g : Gram) (N : Nat) (x : SR) : Prop :=
  (x.nl.length = N ∧ Dim x.fs N g.terms.toNat ∧ Dim x.fo N (g.terms + 1).toNat ∧ x.blf.length = N ∧ x.blo.length = N) ∧ (NS g x.nl ∧ FS g x.fs ∧ OT2 g x.fo) ∧ NC g x.nl ∧ FC g x.nl x.fs ∧ OC g x.nl x.fs x.fo

set_option maxRecDepth 20000 in
theorem of2_any (g : Gram) (hm : mayB g = true) (N : Nat) (hN : g.names.toNat = N) (b1 b4 bn bf bo cf co : Nat) (blf blo : List Nat) (hblf : blf.length = N) (hblo : blo.length = N) (a : Option Addr) (c : Nat) (R : Nat → Prop) (w0 w : World) (F : HP) (hr : RulesAt (Rd R w0) (.slice a g.rules.length c) g.rules) (nl : List Bool) (fs fo : List (List Bool)) (hln : nl.length = N) (hdf : Dim fs N g.terms.toNat) (hns : NS g nl) (hfs : FS g fs) (hdo : Dim fo N (g.terms + 1).toNat) (hos : OT2 g fo) (hw : Sat R w0 [tabA 4 blo fo, bools bn 4 nl, tabA 4 blf fs, trow 36 1 (encR g.terms.toNat) (.slice (some ⟨bf, 0, none⟩) N cf) blf, trow 36 1 (encR (g.terms + 1).toNat) (.slice (some ⟨bo, 0, none⟩) N co) blo, cel b4 53 [.slice (some ⟨bn, 0, none⟩) N N, .slice (some ⟨bf, 0, none⟩) N cf, .slice (some ⟨bo, 0, none⟩) N co], cel b1 24 [.int .i64 g.terms, .int .i64 g.names, .slice a g.rules.length c], F] w) : Calls Try.prog 50 #[.pointer (some ⟨b1, 0, none⟩), .pointer (some ⟨b4, 0, none⟩)] w (fun e w' => ∃ y : Bool × List (List Bool), e = .returned (.bool y.1) ∧ ((Dim y.2 N (g.terms + 1).toNat ∧ OT2 g y.2) ∧ (y.1 = false → y.2 = fo ∧ ∀ r ∈ g.rules, Cl2 g nl fs fo r) ∧ (y.1 = true → fls2 y.2 < fls2 fo)) ∧ Sat R w0 [tabA 4 blo y.2, bools bn 4 nl, tabA 4 blf fs, trow 36 1 (encR g.terms.toNat) (.slice (some ⟨bf, 0, none⟩) N cf) blf, trow 36 1 (encR (g.terms + 1).toNat) (.slice (some ⟨bo, 0, none⟩) N co) blo, cel b4 53 [.slice (some ⟨bn, 0, none⟩) N N, .slice (some ⟨bf, 0, none⟩) N cf, .slice (some ⟨bo, 0, none⟩) N co], cel b1 24 [.int .i64 g.terms, .int .i64 g.names, .slice a g.rules.length c], F] w') := by
  obtain ⟨a', c', hv, hc1, hc2, hrs⟩ := hr
  injection hv with e1 _ e2
  subst e1
  subst e2
  have hM := mayB_true.1 hm
  refine calls_CW (S := Sat R w0 [tabA 4 blo fo, bools bn 4 nl, tabA 4 blf fs, trow 36 1 (encR g.terms.toNat) (.slice (some ⟨bf, 0, none⟩) N cf) blf, trow 36 1 (encR (g.terms + 1).toNat) (.slice (some ⟨bo, 0, none⟩) N co) blo, cel b4 53 [.slice (some ⟨bn, 0, none⟩) N N, .slice (some ⟨bf, 0, none⟩) N cf, .slice (some ⟨bo, 0, none⟩) N co], cel b1 24 [.int .i64 g.terms, .int .i64 g.names, .slice a g.rules.length c], F]) Try.func50 rfl Try.ntmps50 rfl (hw) ?_
  refine CW_seq ?_
  refine CW_region ?_
  refine OW_q (q_assign rfl) rfl ?_
  refine OW_nil ?_
  refine EW_then ?_
  refine CW_seq ?_
  refine CW_region ?_
  refine OW_q (q_assign rfl) rfl ?_
  refine OW_nil ?_
  refine EW_then ?_
  refine CW_seq ?_
  refine CW_seq ?_
  refine CW_region ?_
  refine OW_q (q_fieldAddr Try.underlying24 rfl rfl Try.sizeOf22 rfl rfl) rfl ?_
  first | (refine OW_q (q_load1_own Try.isAgg22 rfl rfl (by (repeat (first | exact .head | apply Swap.tail))) (by rfl)) rfl ?_) | (refine OW_q (q_load1_ro Try.isAgg22 rfl (by first | assumption | exact Row.at_ (by assumption) rfl)) rfl ?_)
  refine OW_q (q_len Try.underlying22 rfl) rfl ?_
  refine OW_q (q_move rfl) rfl ?_
  refine OW_nil ?_
  refine EW_then ?_
  refine CW_block ?_
  refine CW_loopP (ι := Nat × Bool × List (List Bool)) (fun i_ => i_.1 ≤ g.rules.length ∧ Dim i_.2.2 N (g.terms + 1).toNat ∧ OT2 g i_.2.2 ∧ (i_.2.1 = false → i_.2.2 = fo ∧ ∀ q ∈ g.rules.take i_.1, Cl2 g nl fs fo q) ∧ (i_.2.1 = true → fls2 i_.2.2 < fls2 fo)) (fun i_ => [(0, .pointer (some ⟨b1, 0, none⟩)), (1, .pointer (some ⟨b4, 0, none⟩)), (3, .bool i_.2.1), (7, .slice a g.rules.length c), (8, .int .i64 (g.rules.length : Int)), (9, .int .i64 (i_.1 : Int))]) (fun i_ => Sat R w0 [tabA 4 blo i_.2.2, bools bn 4 nl, tabA 4 blf fs, trow 36 1 (encR g.terms.toNat) (.slice (some ⟨bf, 0, none⟩) N cf) blf, trow 36 1 (encR (g.terms + 1).toNat) (.slice (some ⟨bo, 0, none⟩) N co) blo, cel b4 53 [.slice (some ⟨bn, 0, none⟩) N N, .slice (some ⟨bf, 0, none⟩) N cf, .slice (some ⟨bo, 0, none⟩) N co], cel b1 24 [.int .i64 g.terms, .int .i64 g.names, .slice a g.rules.length c], F]) (fun i_ => g.rules.length - i_.1) (0, false, fo) ?_ ⟨rfl, rfl, rfl, rfl, rfl, rfl, trivial⟩ (fun w hw => hw.sub (by (repeat (first | exact SubL.nil | exact Pick.head | apply Pick.tail | apply SubL.cons)))) ?_
  · exact ⟨Nat.zero_le _, hdo, hos, (fun _ => ⟨rfl, fun q hq => by simp at hq⟩), (fun h => by cases h)⟩
  intro i_ hpre
  obtain ⟨k, gr, f1⟩ := i_
  replace hpre : k ≤ g.rules.length ∧ Dim f1 N (g.terms + 1).toNat ∧ OT2 g f1 ∧ (gr = false → f1 = fo ∧ ∀ q ∈ g.rules.take k, Cl2 g nl fs fo q) ∧ (gr = true → fls2 f1 < fls2 fo) := hpre
  change CW _ _ _ _ [(0, .pointer (some ⟨b1, 0, none⟩)), (1, .pointer (some ⟨b4, 0, none⟩)), (3, .bool gr), (7, .slice a g.rules.length c), (8, .int .i64 (g.rules.length : Int)), (9, .int .i64 (k : Int))] (Sat R w0 [tabA 4 blo f1, bools bn 4 nl, tabA 4 blf fs, trow 36 1 (encR g.terms.toNat) (.slice (some ⟨bf, 0, none⟩) N cf) blf, trow 36 1 (encR (g.terms + 1).toNat) (.slice (some ⟨bo, 0, none⟩) N co) blo, cel b4 53 [.slice (some ⟨bn, 0, none⟩) N N, .slice (some ⟨bf, 0, none⟩) N cf, .slice (some ⟨bo, 0, none⟩) N co], cel b1 24 [.int .i64 g.terms, .int .i64 g.names, .slice a g.rules.length c], F])
  obtain ⟨hk, hd1, ho1, h1, h2⟩ := hpre
  refine CW_seq ?_
  refine CW_region ?_
  refine OW_q (q_lss rfl rfl) rfl ?_
  refine OW_nil ?_
  refine EW_then ?_
  refine CW_seq ?_
  refine CW_cond rfl (fun h10 => ?_) (fun h10 => ?_)
  · skip
    have hlt : k < g.rules.length := by simpa using h10
    obtain ⟨r, hx⟩ := get_of_lt hlt
    have hmem := List.mem_of_getElem? hx
    obtain ⟨p, rfl, rv2, hsy, hrow⟩ := hrs k r hx
    obtain ⟨a2, c2, hrv2, _⟩ := id hsy
    subst hrv2
    refine CW_skip ?_
    refine EW_then ?_
    refine CW_seq ?_
    refine CW_block ?_
    refine CW_seq ?_
    refine CW_region ?_
    refine OW_q (q_indexAddr Try.underlying22 Try.sizeOf41 rfl rfl (by first | omega | assumption)) rfl ?_
    refine OW_q (q_loadN_ro Try.isAgg41 Try.sizeOf41 rfl (by first | assumption | exact Row.at_ (by assumption) rfl) (by rfl)) rfl ?_
    refine OW_e (e_alloc Try.zeroValue41 rfl) rfl (fun b5 => ?_)
    refine OW_e0 (e_storeN Try.sizeOf41 rfl rfl rfl rfl (by simp [Value.oneCell']) (by (repeat (first | exact .head | apply Swap.tail))) (by rfl)) (fun _ => ?_)
    refine OW_nil ?_
    refine EW_then ?_
    refine CW_region ?_
    first | (refine OW_q (q_loadN_own Try.isAgg24 Try.sizeOf24 rfl rfl (by (repeat (first | exact .head | apply Swap.tail))) (by rfl)) rfl ?_) | (refine OW_q (q_loadN_ro Try.isAgg24 Try.sizeOf24 rfl (by first | assumption | exact Row.at_ (by assumption) rfl) (by rfl)) rfl ?_)
    first | (refine OW_q (q_loadN_own Try.isAgg53 Try.sizeOf53 rfl rfl (by (repeat (first | exact .head | apply Swap.tail))) (by rfl)) rfl ?_) | (refine OW_q (q_loadN_ro Try.isAgg53 Try.sizeOf53 rfl (by first | assumption | exact Row.at_ (by assumption) rfl) (by rfl)) rfl ?_)
    first | (refine OW_q (q_loadN_own Try.isAgg41 Try.sizeOf41 rfl rfl (by (repeat (first | exact .head | apply Swap.tail))) (by rfl)) rfl ?_) | (refine OW_q (q_loadN_ro Try.isAgg41 Try.sizeOf41 rfl (by first | assumption | exact Row.at_ (by assumption) rfl) (by rfl)) rfl ?_)
    refine OW_weak (fun w hw => Sat.join (M := [tabA 4 blo f1, bools bn 4 nl, tabA 4 blf fs, trow 36 1 (encR g.terms.toNat) (.slice (some ⟨bf, 0, none⟩) N cf) blf, trow 36 1 (encR (g.terms + 1).toNat) (.slice (some ⟨bo, 0, none⟩) N co) blo]) (L := [cel b4 53 [.slice (some ⟨bn, 0, none⟩) N N, .slice (some ⟨bf, 0, none⟩) N cf, .slice (some ⟨bo, 0, none⟩) N co], cel b1 24 [.int .i64 g.terms, .int .i64 g.names, .slice (some p) g.rules.length c], cel b5 41 [.int .i64 r.left, .slice a2 r.right.length c2], F]) (hw.sub (by repeat (first | exact SubL.nil | exact Pick.head | apply Pick.tail | apply SubL.cons)))) ?_
    refine OW_e (e_call Try.call51 rfl (fun w hw => lift_mut (A' := fun y : Bool × List (List Bool) => stars [tabA 4 blo y.2, bools bn 4 nl, tabA 4 blf fs, trow 36 1 (encR g.terms.toNat) (.slice (some ⟨bf, 0, none⟩) N cf) blf, trow 36 1 (encR (g.terms + 1).toNat) (.slice (some ⟨bo, 0, none⟩) N co) blo]) .head hw (fun F hF => (follow_any g hm N hN bn bf bo cf co blf blo hblf hblo R w0 w F r hmem _ _ hsy nl fs f1 hln hdf hns hfs hd1 ho1 (hF.unjoin : Sat _ _ [tabA 4 blo f1, bools bn 4 nl, tabA 4 blf fs, trow 36 1 (encR g.terms.toNat) (.slice (some ⟨bf, 0, none⟩) N cf) blf, trow 36 1 (encR (g.terms + 1).toNat) (.slice (some ⟨bo, 0, none⟩) N co) blo, F] w)).mono fun e w' ⟨y, he, hp, hw⟩ => ⟨y, he, hp, Sat.join (M := [tabA 4 blo y.2, bools bn 4 nl, tabA 4 blf fs, trow 36 1 (encR g.terms.toNat) (.slice (some ⟨bf, 0, none⟩) N cf) blf, trow 36 1 (encR (g.terms + 1).toNat) (.slice (some ⟨bo, 0, none⟩) N co) blo]) (L := [F]) hw⟩))) rfl (fun x16 => ?_)
    refine OW_pure fun hx16 => ?_
    refine OW_weak (fun w hw => (hw.unjoin : Sat _ _ [tabA 4 blo x16.2, bools bn 4 nl, tabA 4 blf fs, trow 36 1 (encR g.terms.toNat) (.slice (some ⟨bf, 0, none⟩) N cf) blf, trow 36 1 (encR (g.terms + 1).toNat) (.slice (some ⟨bo, 0, none⟩) N co) blo, cel b4 53 [.slice (some ⟨bn, 0, none⟩) N N, .slice (some ⟨bf, 0, none⟩) N cf, .slice (some ⟨bo, 0, none⟩) N co], cel b1 24 [.int .i64 g.terms, .int .i64 g.names, .slice (some p) g.rules.length c], cel b5 41 [.int .i64 r.left, .slice a2 r.right.length c2], F] w)) ?_
    refine OW_q (q_move rfl) rfl ?_
    refine OW_part (t := 17) rfl (fun hg17 => ?_) (fun hg17 => ?_)
    · skip
      refine OW_skip rfl rfl rfl rfl ?_
      refine OW_q (q_pick_t rfl rfl) rfl ?_
      refine OW_q (q_assign rfl) rfl ?_
      refine OW_nil ?_
      refine EW_block_normal ?_
      refine EW_then ?_
      refine CW_region ?_
      first | refine OW_q (q_inc rfl rfl (by omega)) rfl ?_ | refine OW_q (q_add rfl rfl (by omega) (by omega)) rfl ?_
      refine OW_q (q_move rfl) rfl ?_
      refine OW_nil ?_
      refine EW_again ((k + 1, true, x16.2)) ⟨?_, ?_⟩ ⟨rfl, rfl, rfl, rfl, rfl, rfl, trivial⟩ (fun w hw => hw.sub (by (repeat (first | exact SubL.nil | exact Pick.head | apply Pick.tail | apply SubL.cons))))
      · show g.rules.length - (k + 1) < g.rules.length - k; omega
      · have hlt2 := hx16.2.2 hg17
        refine ⟨by show k + 1 ≤ _; omega, hx16.1.1, hx16.1.2, (fun h => by cases h), fun _ => ?_⟩
        show fls2 x16.2 < fls2 fo
        cases hgr : gr with
        | false => rw [← (h1 hgr).1]; exact hlt2
        | true => have := h2 hgr; omega
    · skip
      refine OW_wanted rfl rfl rfl ?_
      refine OW_q (q_move rfl) rfl ?_
      refine OW_q (q_pick_f rfl rfl) rfl ?_
      refine OW_q (q_assign rfl) rfl ?_
      refine OW_nil ?_
      refine EW_block_normal ?_
      refine EW_then ?_
      refine CW_region ?_
      first | refine OW_q (q_inc rfl rfl (by omega)) rfl ?_ | refine OW_q (q_add rfl rfl (by omega) (by omega)) rfl ?_
      refine OW_q (q_move rfl) rfl ?_
      refine OW_nil ?_
      refine EW_again ((k + 1, gr, x16.2)) ⟨?_, ?_⟩ ⟨rfl, rfl, rfl, rfl, rfl, rfl, trivial⟩ (fun w hw => hw.sub (by (repeat (first | exact SubL.nil | exact Pick.head | apply Pick.tail | apply SubL.cons))))
      · show g.rules.length - (k + 1) < g.rules.length - k; omega
      · have hs2 := hx16.2.1 hg17
        refine ⟨by show k + 1 ≤ _; omega, hx16.1.1, hx16.1.2, fun h => ⟨hs2.1.trans (h1 h).1, fun q hq => ?_⟩, fun h => by show fls2 x16.2 < fls2 fo; rw [hs2.1]; exact h2 h⟩
        rw [List.take_add_one, hx, List.mem_append] at hq
        rcases hq with hq | hq
        · exact (h1 h).2 q hq
        · simp only [Option.toList_some, List.mem_singleton] at hq
          rw [hq, ← (h1 h).1]
          exact hs2.2
  · skip
    have hend := take_all (l := g.rules) (k := k) (by simpa using h10)
    refine CW_exit ?_
    refine EW_then_exit ?_
    refine EW_out ?_
    refine EW_block_exit ?_
    refine EW_then ?_
    refine CW_seq ?_
    refine CW_region ?_
    refine OW_q (q_move rfl) rfl ?_
    refine OW_q (q_assign rfl) rfl ?_
    refine OW_nil ?_
    refine EW_then ?_
    refine CW_ret ?_
    refine ret1 Try.results50 rfl (fun w hw => ?_)
    exact ⟨(gr, f1), rfl, ⟨⟨hd1, ho1⟩, fun h => ⟨(h1 h).1, fun q hq => (h1 h).2 q (by rw [hend]; exact hq)⟩, h2⟩, hw.sub (by repeat (first | exact SubL.nil | exact Pick.head | apply Pick.tail | apply SubL.cons))⟩

theorem grow1 (g : Gram) (hm : mayB g = true) (N : Nat) (hN : g.names.toNat = N) (b1 b4 bn bf bo cf co : Nat) (blf blo : List Nat) (hblf : blf.length = N) (hblo : blo.length = N) (a : Option Addr) (c : Nat) (R : Nat → Prop) (w0 w : World) (F : HP) (hr : RulesAt (Rd R w0) (.slice a g.rules.length c) g.rules) (n0 : List Bool) (f0 fo : List (List Bool)) (hI : Inv1 g N n0 f0) (hw : Sat R w0 [stars [bools bn 4 n0, tabA 4 blf f0, trow 36 1 (encR g.terms.toNat) (.slice (some ⟨bf, 0, none⟩) N cf) blf, trow 36 1 (encR (g.terms + 1).toNat) (.slice (some ⟨bo, 0, none⟩) N co) blo, tabA 4 blo fo, cel b4 53 [.slice (some ⟨bn, 0, none⟩) N N, .slice (some ⟨bf, 0, none⟩) N cf, .slice (some ⟨bo, 0, none⟩) N co], cel b1 24 [.int .i64 g.terms, .int .i64 g.names, .slice a g.rules.length c]], F] w) : Calls Try.prog 46 #[.func (.func 47) #[] #[.pointer (some ⟨b1, 0, none⟩), .pointer (some ⟨b4, 0, none⟩)]] w (fun e w' => ∃ x : List Bool × List (List Bool), e = .returned (.tuple #[]) ∧ (Inv1 g N x.1 x.2 ∧ ∀ r ∈ g.rules, Cl1 g x.1 x.2 r) ∧ Sat R w0 [stars [bools bn 4 x.1, tabA 4 blf x.2, trow 36 1 (encR g.terms.toNat) (.slice (some ⟨bf, 0, none⟩) N cf) blf, trow 36 1 (encR (g.terms + 1).toNat) (.slice (some ⟨bo, 0, none⟩) N co) blo, tabA 4 blo fo, cel b4 53 [.slice (some ⟨bn, 0, none⟩) N N, .slice (some ⟨bf, 0, none⟩) N cf, .slice (some ⟨bo, 0, none⟩) N co], cel b1 24 [.int .i64 g.terms, .int .i64 g.names, .slice a g.rules.length c]], F] w') := by
  refine (grow_any (fun x : List Bool × List (List Bool) => stars [bools bn 4 x.1, tabA 4 blf x.2, trow 36 1 (encR g.terms.toNat) (.slice (some ⟨bf, 0, none⟩) N cf) blf, trow 36 1 (encR (g.terms + 1).toNat) (.slice (some ⟨bo, 0, none⟩) N co) blo, tabA 4 blo fo, cel b4 53 [.slice (some ⟨bn, 0, none⟩) N N, .slice (some ⟨bf, 0, none⟩) N cf, .slice (some ⟨bo, 0, none⟩) N co], cel b1 24 [.int .i64 g.terms, .int .i64 g.names, .slice a g.rules.length c]]) (fun x => Inv1 g N x.1 x.2) (fun x => fls x.1 + fls2 x.2) (fun x ch y => (ch = false → (y.1 = x.1 ∧ y.2 = x.2) ∧ ∀ r ∈ g.rules, Cl1 g x.1 x.2 r) ∧ (ch = true → fls y.1 + fls2 y.2 < fls x.1 + fls2 x.2)) 47 [.pointer (some ⟨b1, 0, none⟩), .pointer (some ⟨b4, 0, none⟩)] R w0 w F (n0, f0) Try.call47
    (fun x w F hI hw => ?_) (fun x y h => h.2 rfl) (fun x y h => Prod.ext (h.1 rfl).1.1 (h.1 rfl).1.2) hI hw).mono fun e w' ⟨x, he, hp, hw⟩ => ⟨x, he, ⟨hp.1, (hp.2.1 rfl).2⟩, hw⟩
  refine (of1_any g hm N hN b1 b4 bn bf bo cf co blf blo hblf hblo a c R w0 w F hr x.1 x.2 fo hI (hw.unjoin : Sat _ _ [bools bn 4 x.1, tabA 4 blf x.2, trow 36 1 (encR g.terms.toNat) (.slice (some ⟨bf, 0, none⟩) N cf) blf, trow 36 1 (encR (g.terms + 1).toNat) (.slice (some ⟨bo, 0, none⟩) N co) blo, tabA 4 blo fo, cel b4 53 [.slice (some ⟨bn, 0, none⟩) N N, .slice (some ⟨bf, 0, none⟩) N cf, .slice (some ⟨bo, 0, none⟩) N co], cel b1 24 [.int .i64 g.terms, .int .i64 g.names, .slice a g.rules.length c], F] w)).mono fun e w' ⟨y, he, hp, hw⟩ => ⟨(y.1, (y.2.1, y.2.2)), he, hp, ?_⟩
  exact Sat.join (M := [bools bn 4 y.2.1, tabA 4 blf y.2.2, trow 36 1 (encR g.terms.toNat) (.slice (some ⟨bf, 0, none⟩) N cf) blf, trow 36 1 (encR (g.terms + 1).toNat) (.slice (some ⟨bo, 0, none⟩) N co) blo, tabA 4 blo fo, cel b4 53 [.slice (some ⟨bn, 0, none⟩) N N, .slice (some ⟨bf, 0, none⟩) N cf, .slice (some ⟨bo, 0, none⟩) N co], cel b1 24 [.int .i64 g.terms, .int .i64 g.names, .slice a g.rules.length c]]) (L := [F]) hw

theorem grow2 (g : Gram) (hm : mayB g = true) (N : Nat) (hN : g.names.toNat = N) (b1 b4 bn bf bo cf co : Nat) (blf blo : List Nat) (hblf : blf.length = N) (hblo : blo.length = N) (a : Option Addr) (c : Nat) (R : Nat → Prop) (w0 w : World) (F : HP) (hr : RulesAt (Rd R w0) (.slice a g.rules.length c) g.rules) (nl : List Bool) (fs fo : List (List Bool)) (hln : nl.length = N) (hdf : Dim fs N g.terms.toNat) (hns : NS g nl) (hfs : FS g fs) (hdo : Dim fo N (g.terms + 1).toNat) (hos : OT2 g fo) (hw : Sat R w0 [stars [tabA 4 blo fo, bools bn 4 nl, tabA 4 blf fs, trow 36 1 (encR g.terms.toNat) (.slice (some ⟨bf, 0, none⟩) N cf) blf, trow 36 1 (encR (g.terms + 1).toNat) (.slice (some ⟨bo, 0, none⟩) N co) blo, cel b4 53 [.slice (some ⟨bn, 0, none⟩) N N, .slice (some ⟨bf, 0, none⟩) N cf, .slice (some ⟨bo, 0, none⟩) N co], cel b1 24 [.int .i64 g.terms, .int .i64 g.names, .slice a g.rules.length c]], F] w) : Calls Try.prog 46 #[.func (.func 50) #[] #[.pointer (some ⟨b1, 0, none⟩), .pointer (some ⟨b4, 0, none⟩)]] w (fun e w' => ∃ x : List (List Bool), e = .returned (.tuple #[]) ∧ ((Dim x N (g.terms + 1).toNat ∧ OT2 g x) ∧ ∀ r ∈ g.rules, Cl2 g nl fs x r) ∧ Sat R w0 [stars [tabA 4 blo x, bools bn 4 nl, tabA 4 blf fs, trow 36 1 (encR g.terms.toNat) (.slice (some ⟨bf, 0, none⟩) N cf) blf, trow 36 1 (encR (g.terms + 1).toNat) (.slice (some ⟨bo, 0, none⟩) N co) blo, cel b4 53 [.slice (some ⟨bn, 0, none⟩) N N, .slice (some ⟨bf, 0, none⟩) N cf, .slice (some ⟨bo, 0, none⟩) N co], cel b1 24 [.int .i64 g.terms, .int .i64 g.names, .slice a g.rules.length c]], F] w') := by
  refine (grow_any (fun x : List (List Bool) => stars [tabA 4 blo x, bools bn 4 nl, tabA 4 blf fs, trow 36 1 (encR g.terms.toNat) (.slice (some ⟨bf, 0, none⟩) N cf) blf, trow 36 1 (encR (g.terms + 1).toNat) (.slice (some ⟨bo, 0, none⟩) N co) blo, cel b4 53 [.slice (some ⟨bn, 0, none⟩) N N, .slice (some ⟨bf, 0, none⟩) N cf, .slice (some ⟨bo, 0, none⟩) N co], cel b1 24 [.int .i64 g.terms, .int .i64 g.names, .slice a g.rules.length c]]) (fun x => Dim x N (g.terms + 1).toNat ∧ OT2 g x) fls2 (fun x ch y => (ch = false → y = x ∧ ∀ r ∈ g.rules, Cl2 g nl fs x r) ∧ (ch = true → fls2 y < fls2 x)) 50 [.pointer (some ⟨b1, 0, none⟩), .pointer (some ⟨b4, 0, none⟩)] R w0 w F fo Try.call50
    (fun x w F hI hw => ?_) (fun x y h => h.2 rfl) (fun x y h => (h.1 rfl).1) ⟨hdo, hos⟩ hw).mono fun e w' ⟨x, he, hp, hw⟩ => ⟨x, he, ⟨hp.1, (hp.2.1 rfl).2⟩, hw⟩
  refine (of2_any g hm N hN b1 b4 bn bf bo cf co blf blo hblf hblo a c R w0 w F hr nl fs x hln hdf hns hfs hI.1 hI.2 (hw.unjoin : Sat _ _ [tabA 4 blo x, bools bn 4 nl, tabA 4 blf fs, trow 36 1 (encR g.terms.toNat) (.slice (some ⟨bf, 0, none⟩) N cf) blf, trow 36 1 (encR (g.terms + 1).toNat) (.slice (some ⟨bo, 0, none⟩) N co) blo, cel b4 53 [.slice (some ⟨bn, 0, none⟩) N N, .slice (some ⟨bf, 0, none⟩) N cf, .slice (some ⟨bo, 0, none⟩) N co], cel b1 24 [.int .i64 g.terms, .int .i64 g.names, .slice a g.rules.length c], F] w)).mono fun e w' ⟨y, he, hp, hw⟩ => ⟨y, he, hp, ?_⟩
  exact Sat.join (M := [tabA 4 blo y.2, bools bn 4 nl, tabA 4 blf fs, trow 36 1 (encR g.terms.toNat) (.slice (some ⟨bf, 0, none⟩) N cf) blf, trow 36 1 (encR (g.terms + 1).toNat) (.slice (some ⟨bo, 0, none⟩) N co) blo, cel b4 53 [.slice (some ⟨bn, 0, none⟩) N N, .slice (some ⟨bf, 0, none⟩) N cf, .slice (some ⟨bo, 0, none⟩) N co], cel b1 24 [.int .i64 g.terms, .int .i64 g.names, .slice a g.rules.length c]]) (L := [F]) hw

end Go.Sy
