/- Sets: what follows grows. No condition. -/
import Derived.Test.YteceklkjbcebkaaW12
namespace Go.Sy
open Go Go.RowKit Go.Proofs

def OT2 (g : Gram) (f : List (List Bool)) : Prop := OS g f ∧ at2 f 0 g.terms = true
theorem os_put {g : Gram} {f : List (List Bool)} (hg : 0 ≤ g.terms) (h : OT2 g f) {n t : Int} (hf : FollowI g n t) (h0 : 0 ≤ n) (h1 : n < f.length) (ht : 0 ≤ t) (ht1 : t < (row2 f n).length) : OT2 g (put2 f n t) := by
  refine ⟨fun m u hm hu hb => ?_, ?_⟩
  · rw [at2_put h0 h1 ht ht1 hm hu] at hb
    simp only [Bool.or_eq_true, Bool.and_eq_true, decide_eq_true_eq] at hb
    rcases hb with hb | ⟨rfl, rfl⟩
    · exact h.1 m u hm hu hb
    · exact hf
  · rw [at2_put h0 h1 ht ht1 (by omega) hg, h.2]; rfl
/-- A cell is set while a table grows: what comes of it. -/
theorem grow_put {g : Gram} {N M : Nat} {f1 f3 : List (List Bool)} {gr0 gr3 : Bool} {n t : Int} {C C' : Prop} (hg : 0 ≤ g.terms) (hd : Dim f3 N M) (ho : OT2 g f3) (hle : fls2 f3 ≤ fls2 f1) (h31 : gr3 = false → gr0 = false ∧ f3 = f1 ∧ C) (h32 : gr3 = true → gr0 = true ∨ fls2 f3 < fls2 f1)
    (h0 : 0 ≤ n) (h1 : n < (N : Int)) (ht : 0 ≤ t) (ht1 : t < (M : Int)) (hf : FollowI g n t) (hC : C → at2 f1 n t = true → C') :
    (at2 f3 n t = false → Dim (put2 f3 n t) N M ∧ OT2 g (put2 f3 n t) ∧ fls2 (put2 f3 n t) ≤ fls2 f1 ∧ (true = false → gr0 = false ∧ put2 f3 n t = f1 ∧ C') ∧ (true = true → gr0 = true ∨ fls2 (put2 f3 n t) < fls2 f1)) ∧
    (at2 f3 n t = true → Dim (put2 f3 n t) N M ∧ OT2 g (put2 f3 n t) ∧ fls2 (put2 f3 n t) ≤ fls2 f1 ∧ (gr3 = false → gr0 = false ∧ put2 f3 n t = f1 ∧ C') ∧ (gr3 = true → gr0 = true ∨ fls2 (put2 f3 n t) < fls2 f1)) := by
  have hl := hd.1
  have hr := hd.row h0 h1
  refine ⟨fun hc => ?_, fun hc => ?_⟩
  · have hlt := put2_less h0 (by omega) ht (by omega) hc
    exact ⟨hd.put h0 h1, os_put hg ho hf h0 (by omega) ht (by omega), by omega, (fun h => by cases h), fun _ => .inr (by omega)⟩
  · have e := put2_same h0 (by omega) ht (by omega) hc
    rw [e]
    exact ⟨hd, ho, hle, (fun h => ⟨(h31 h).1, (h31 h).2.1, hC (h31 h).2.2 (by rw [← (h31 h).2.1]; exact hc)⟩), h32⟩

set_option maxRecDepth 20000 in
theorem follow_any (g : Gram) (hm : mayB g = true) (N : Nat) (hN : g.names.toNat = N) (bn bf bo cf co : Nat) (blf blo : List Nat) (hblf : blf.length = N) (hblo : blo.length = N) (R : Nat → Prop) (w0 w : World) (F : HP) (r : Rule) (hmem : r ∈ g.rules) (gv rv : Value) (hsy : SymsAt (Rd R w0) rv r.right) (nl : List Bool) (fs fo : List (List Bool)) (hln : nl.length = N) (hdf : Dim fs N g.terms.toNat) (hns : NS g nl) (hfs : FS g fs) (hdo : Dim fo N (g.terms + 1).toNat) (hos : OT2 g fo) (hw : Sat R w0 [tabA 4 blo fo, bools bn 4 nl, tabA 4 blf fs, trow 36 1 (encR g.terms.toNat) (.slice (some ⟨bf, 0, none⟩) N cf) blf, trow 36 1 (encR (g.terms + 1).toNat) (.slice (some ⟨bo, 0, none⟩) N co) blo, F] w) : Calls Try.prog 51 #[.agg #[.int .i64 g.terms, .int .i64 g.names, gv], .agg #[.slice (some ⟨bn, 0, none⟩) N N, .slice (some ⟨bf, 0, none⟩) N cf, .slice (some ⟨bo, 0, none⟩) N co], .agg #[.int .i64 r.left, rv]] w (fun e w' => ∃ y : Bool × List (List Bool), e = .returned (.bool y.1) ∧ ((Dim y.2 N (g.terms + 1).toNat ∧ OT2 g y.2) ∧ (y.1 = false → y.2 = fo ∧ ∀ k s, r.right[k]? = some s → s.term = false → OC1 g nl fs fo r k s) ∧ (y.1 = true → fls2 y.2 < fls2 fo)) ∧ Sat R w0 [tabA 4 blo y.2, bools bn 4 nl, tabA 4 blf fs, trow 36 1 (encR g.terms.toNat) (.slice (some ⟨bf, 0, none⟩) N cf) blf, trow 36 1 (encR (g.terms + 1).toNat) (.slice (some ⟨bo, 0, none⟩) N co) blo, F] w') := by
  obtain ⟨a2, c2, rfl, hd1, hd2, hss⟩ := id hsy
  have hM := mayB_true.1 hm
  have hr1 := may_all hm r hmem
  have hlN : r.left < (N : Int) := by omega
  have hpos : Pos r.right := fun s hs ht => (hr1.2.2 s hs ht).1
  refine calls_CW (S := Sat R w0 [tabA 4 blo fo, bools bn 4 nl, tabA 4 blf fs, trow 36 1 (encR g.terms.toNat) (.slice (some ⟨bf, 0, none⟩) N cf) blf, trow 36 1 (encR (g.terms + 1).toNat) (.slice (some ⟨bo, 0, none⟩) N co) blo, F]) Try.func51 rfl Try.ntmps51 rfl (hw) ?_
  refine CW_seq ?_
  refine CW_region ?_
  refine OW_e (e_box rfl rfl) rfl (fun b3 => ?_)
  refine OW_e (e_box rfl rfl) rfl (fun b4 => ?_)
  refine OW_e (e_box rfl rfl) rfl (fun b5 => ?_)
  refine OW_q (q_assign rfl) rfl ?_
  refine OW_nil ?_
  refine EW_then ?_
  refine CW_seq ?_
  refine CW_region ?_
  refine OW_q (q_assign rfl) rfl ?_
  refine OW_nil ?_
  refine EW_then ?_
  refine CW_seq ?_
  refine CW_seq ?_
  refine CW_region ?_
  refine OW_q (q_fieldAddr Try.underlying41 rfl rfl Try.sizeOf39 rfl rfl) rfl ?_
  first | (refine OW_q (q_load1_own Try.isAgg39 rfl rfl (by (repeat (first | exact .head | apply Swap.tail))) (by rfl)) rfl ?_) | (refine OW_q (q_load1_ro Try.isAgg39 rfl (by first | assumption | exact Row.at_ (by assumption) rfl)) rfl ?_)
  refine OW_q (q_len Try.underlying39 rfl) rfl ?_
  refine OW_q (q_move rfl) rfl ?_
  refine OW_nil ?_
  refine EW_then ?_
  refine CW_block ?_
  refine CW_loopP (ι := Nat × Bool × List (List Bool)) (fun i_ => i_.1 ≤ r.right.length ∧ Dim i_.2.2 N (g.terms + 1).toNat ∧ OT2 g i_.2.2 ∧ (i_.2.1 = false → i_.2.2 = fo ∧ ∀ j s, j < i_.1 → r.right[j]? = some s → s.term = false → OC1 g nl fs fo r j s) ∧ (i_.2.1 = true → fls2 i_.2.2 < fls2 fo)) (fun i_ => [(3, .pointer (some ⟨b3, 0, none⟩)), (4, .pointer (some ⟨b4, 0, none⟩)), (5, .pointer (some ⟨b5, 0, none⟩)), (17, .slice a2 r.right.length c2), (18, .int .i64 (r.right.length : Int)), (19, .int .i64 (i_.1 : Int)), (7, .bool i_.2.1)]) (fun i_ => Sat R w0 [tabA 4 blo i_.2.2, bools bn 4 nl, tabA 4 blf fs, trow 36 1 (encR g.terms.toNat) (.slice (some ⟨bf, 0, none⟩) N cf) blf, trow 36 1 (encR (g.terms + 1).toNat) (.slice (some ⟨bo, 0, none⟩) N co) blo, cel b5 41 [.int .i64 r.left, .slice a2 r.right.length c2], cel b4 53 [.slice (some ⟨bn, 0, none⟩) N N, .slice (some ⟨bf, 0, none⟩) N cf, .slice (some ⟨bo, 0, none⟩) N co], cel b3 24 [.int .i64 g.terms, .int .i64 g.names, gv], F]) (fun i_ => r.right.length - i_.1) (0, false, fo) ?_ ⟨rfl, rfl, rfl, rfl, rfl, rfl, rfl, trivial⟩ (fun w hw => hw.sub (by (repeat (first | exact SubL.nil | exact Pick.head | apply Pick.tail | apply SubL.cons)))) ?_
  · exact ⟨Nat.zero_le _, hdo, hos, (fun _ => ⟨rfl, fun j s hj => absurd hj (Nat.not_lt_zero _)⟩), (fun h => by cases h)⟩
  intro i_ hpre
  obtain ⟨k, gr, f1⟩ := i_
  replace hpre : k ≤ r.right.length ∧ Dim f1 N (g.terms + 1).toNat ∧ OT2 g f1 ∧ (gr = false → f1 = fo ∧ ∀ j s, j < k → r.right[j]? = some s → s.term = false → OC1 g nl fs fo r j s) ∧ (gr = true → fls2 f1 < fls2 fo) := hpre
  change CW _ _ _ _ [(3, .pointer (some ⟨b3, 0, none⟩)), (4, .pointer (some ⟨b4, 0, none⟩)), (5, .pointer (some ⟨b5, 0, none⟩)), (17, .slice a2 r.right.length c2), (18, .int .i64 (r.right.length : Int)), (19, .int .i64 (k : Int)), (7, .bool gr)] (Sat R w0 [tabA 4 blo f1, bools bn 4 nl, tabA 4 blf fs, trow 36 1 (encR g.terms.toNat) (.slice (some ⟨bf, 0, none⟩) N cf) blf, trow 36 1 (encR (g.terms + 1).toNat) (.slice (some ⟨bo, 0, none⟩) N co) blo, cel b5 41 [.int .i64 r.left, .slice a2 r.right.length c2], cel b4 53 [.slice (some ⟨bn, 0, none⟩) N N, .slice (some ⟨bf, 0, none⟩) N cf, .slice (some ⟨bo, 0, none⟩) N co], cel b3 24 [.int .i64 g.terms, .int .i64 g.names, gv], F])
  obtain ⟨hk, hd1f, ho1, h1, h2⟩ := hpre
  have hf1N := hd1f.1
  refine CW_seq ?_
  refine CW_region ?_
  refine OW_q (q_lss rfl rfl) rfl ?_
  refine OW_nil ?_
  refine EW_then ?_
  refine CW_seq ?_
  refine CW_cond rfl (fun h20 => ?_) (fun h20 => ?_)
  · skip
    have hltj : k < r.right.length := by simpa using h20
    obtain ⟨s, hsj⟩ := get_of_lt hltj
    obtain ⟨p, rfl, hrow⟩ := hss k s hsj
    have hsm := List.mem_of_getElem? hsj
    have hsub : SymsAt (Rd R w0) (.slice (if c2 = k + 1 then some p else (some p).map (·.add ((k + 1) * 2))) (r.right.length - (k + 1)) (c2 - (k + 1))) (r.right.drop (k + 1)) := by
      have := SlAt.sub (lo := k + 1) (hi := r.right.length) hsy hltj (Nat.le_refl _)
      rwa [List.take_length] at this
    refine CW_skip ?_
    refine EW_then ?_
    refine CW_seq ?_
    refine CW_block ?_
    refine CW_seq ?_
    refine CW_region ?_
    refine OW_q (q_move rfl) rfl ?_
    refine OW_q (q_indexAddr Try.underlying39 Try.sizeOf62 rfl rfl (by first | omega | assumption)) rfl ?_
    refine OW_q (q_loadN_ro Try.isAgg62 Try.sizeOf62 rfl (by first | assumption | exact Row.at_ (by assumption) rfl) (by rfl)) rfl ?_
    refine OW_e (e_alloc Try.zeroValue62 rfl) rfl (fun b9 => ?_)
    refine OW_q (q_assign rfl) rfl ?_
    refine OW_e0 (e_storeN Try.sizeOf62 rfl rfl rfl rfl (by simp [Value.oneCell']) (by (repeat (first | exact .head | apply Swap.tail))) (by rfl)) (fun _ => ?_)
    refine OW_nil ?_
    refine EW_then ?_
    refine CW_seq ?_
    refine CW_seq ?_
    refine CW_region ?_
    refine OW_q (q_fieldAddr Try.underlying62 rfl rfl Try.sizeOf4 rfl rfl) rfl ?_
    first | (refine OW_q (q_load1_own Try.isAgg4 rfl rfl (by (repeat (first | exact .head | apply Swap.tail))) (by rfl)) rfl ?_) | (refine OW_q (q_load1_ro Try.isAgg4 rfl (by first | assumption | exact Row.at_ (by assumption) rfl)) rfl ?_)
    refine OW_nil ?_
    refine EW_then ?_
    refine CW_cond rfl (fun h25 => ?_) (fun h25 => ?_)
    · skip
      refine CW_exit ?_
      refine EW_then_exit ?_
      refine EW_block_exit ?_
      refine EW_then ?_
      refine CW_region ?_
      first | refine OW_q (q_inc rfl rfl (by omega)) rfl ?_ | refine OW_q (q_add rfl rfl (by omega) (by omega)) rfl ?_
      refine OW_q (q_move rfl) rfl ?_
      refine OW_nil ?_
      refine EW_again ((k + 1, gr, f1)) ⟨?_, ?_⟩ ⟨rfl, rfl, rfl, rfl, rfl, rfl, rfl, trivial⟩ (fun w hw => hw.sub (by (repeat (first | exact SubL.nil | exact Pick.head | apply Pick.tail | apply SubL.cons))))
      · show r.right.length - (k + 1) < r.right.length - k; omega
      · refine ⟨by show k + 1 ≤ _; omega, hd1f, ho1, fun h => ⟨(h1 h).1, fun j q hj hq hqt => ?_⟩, h2⟩
        by_cases e : j = k
        · subst e; rw [hsj] at hq; cases hq; rw [h25] at hqt; cases hqt
        · exact (h1 h).2 j q (by have : j < k + 1 := hj; omega) hq hqt
    · skip
      have ht : s.term = false := h25
      have hs1 := hr1.2.2 s hsm ht
      have hs1N : s.n < (N : Int) := by omega
      have hposd : Pos (r.right.drop (k + 1)) := fun q hq => hpos q (List.mem_of_mem_drop hq)
      obtain ⟨bi, hbl⟩ := get_of_lt (l := blo) (k := s.n.toNat) (by omega)
      obtain ⟨bl, hbll⟩ := get_of_lt (l := blo) (k := r.left.toNat) (by omega)
      refine CW_skip ?_
      refine EW_then ?_
      refine CW_seq ?_
      refine CW_drawS 14 [(0, false), (1, false), (2, false), (3, false), (4, false), (5, false), (6, false), (7, false), (8, true), (9, false), (10, false), (11, false), (12, false), (13, false)] (by kernel_rfl) (Blind.then (Blind.block (Blind.then (Blind.again (Blind.block (Blind.then (Blind.body (by intro c w h; simp at h)))))))) (by kernel_rfl) (fun w hw => hw.drew) ?_
      first | (refine DW_q rfl (fun w hw => hw.sub (by (repeat (first | exact SubL.nil | exact Pick.head | apply Pick.tail | apply SubL.cons)))) (q_loadN_own Try.isAgg53 Try.sizeOf53 rfl rfl (by (repeat (first | exact .head | apply Swap.tail))) (by rfl)) rfl ?_) | (refine DW_q rfl (fun w hw => hw.sub (by (repeat (first | exact SubL.nil | exact Pick.head | apply Pick.tail | apply SubL.cons)))) (q_loadN_ro Try.isAgg53 Try.sizeOf53 rfl (by first | assumption | exact Row.at_ (by assumption) rfl) (by rfl)) rfl ?_)
      refine DW_q rfl (fun w hw => hw.sub (by (repeat (first | exact SubL.nil | exact Pick.head | apply Pick.tail | apply SubL.cons)))) (q_fieldAddr Try.underlying24 rfl rfl Try.sizeOf3 rfl rfl) rfl ?_
      first | (refine DW_q rfl (fun w hw => hw.sub (by (repeat (first | exact SubL.nil | exact Pick.head | apply Pick.tail | apply SubL.cons)))) (q_load1_own Try.isAgg3 rfl rfl (by (repeat (first | exact .head | apply Swap.tail))) (by rfl)) rfl ?_) | (refine DW_q rfl (fun w hw => hw.sub (by (repeat (first | exact SubL.nil | exact Pick.head | apply Pick.tail | apply SubL.cons)))) (q_load1_ro Try.isAgg3 rfl (by first | assumption | exact Row.at_ (by assumption) rfl)) rfl ?_)
      refine DW_q rfl (fun w hw => hw.sub (by (repeat (first | exact SubL.nil | exact Pick.head | apply Pick.tail | apply SubL.cons)))) (q_fieldAddr Try.underlying41 rfl rfl Try.sizeOf39 rfl rfl) rfl ?_
      first | (refine DW_q rfl (fun w hw => hw.sub (by (repeat (first | exact SubL.nil | exact Pick.head | apply Pick.tail | apply SubL.cons)))) (q_load1_own Try.isAgg39 rfl rfl (by (repeat (first | exact .head | apply Swap.tail))) (by rfl)) rfl ?_) | (refine DW_q rfl (fun w hw => hw.sub (by (repeat (first | exact SubL.nil | exact Pick.head | apply Pick.tail | apply SubL.cons)))) (q_load1_ro Try.isAgg39 rfl (by first | assumption | exact Row.at_ (by assumption) rfl)) rfl ?_)
      refine DW_q rfl (fun w hw => hw.sub (by (repeat (first | exact SubL.nil | exact Pick.head | apply Pick.tail | apply SubL.cons)))) (q_move rfl) rfl ?_
      first | refine DW_q rfl (fun w hw => hw.sub (by (repeat (first | exact SubL.nil | exact Pick.head | apply Pick.tail | apply SubL.cons)))) (q_inc rfl rfl (by omega)) rfl ?_ | refine DW_q rfl (fun w hw => hw.sub (by (repeat (first | exact SubL.nil | exact Pick.head | apply Pick.tail | apply SubL.cons)))) (q_add rfl rfl (by omega) (by omega)) rfl ?_
      refine DW_q rfl (fun w hw => hw.sub (by repeat (first | exact SubL.nil | exact Pick.head | apply Pick.tail | apply SubL.cons))) (q_slice (l := k + 1) (h := r.right.length) Try.underlying39 Try.sizeOf62 rfl (.inr ⟨_, rfl, rfl⟩) (.inl ⟨rfl, rfl⟩) (by omega) (by omega) (by omega)) rfl ?_
      refine DW_e rfl (e_call Try.call48 rfl (fun w hw => lift_oldP (begin_any _ _ _ _ (r.right.drop (k + 1)) nl fs g.terms w (by omega) (by omega) (hsub.mono hw.rd_cl) (hw.boolsAt (A' := bools 0 0 []) (by repeat (first | exact .head | apply Swap.tail)) hln (Nat.le_refl _) (by omega)) (hw.tabAt (bl := blf) (by repeat (first | exact .head | apply Swap.tail)) (by repeat (first | exact .head | apply Swap.tail)) (by rw [hblf, hdf.1]) hdf.2 (by omega)) (fun q hq hqt => by have := hr1.2.2 q (List.mem_of_mem_drop hq) hqt; omega) (fun q hq hqt => may_term hm hmem (List.mem_of_mem_drop hq) hqt) (by rw [hln]; exact hdf)) hw)) rfl (fun _ w hw => hw.2.sub (by repeat (first | exact SubL.nil | exact Pick.head | apply Pick.tail | apply SubL.cons))) (fun x35 => ?_)
      refine DW_pure fun hx35 => ?_
      have hxo := hx35.2
      refine DW_q rfl (fun w hw => hw.sub (by (repeat (first | exact SubL.nil | exact Pick.head | apply Pick.tail | apply SubL.cons)))) (q_move rfl) rfl ?_
      refine DW_q rfl (fun w hw => hw.sub (by (repeat (first | exact SubL.nil | exact Pick.head | apply Pick.tail | apply SubL.cons)))) (q_extract rfl rfl) rfl ?_
      refine DW_q rfl (fun w hw => hw.sub (by (repeat (first | exact SubL.nil | exact Pick.head | apply Pick.tail | apply SubL.cons)))) (q_extract rfl rfl) rfl ?_
      refine DW_q rfl (fun w hw => hw.sub (by (repeat (first | exact SubL.nil | exact Pick.head | apply Pick.tail | apply SubL.cons)))) (q_assign rfl) rfl ?_
      refine DW_q rfl (fun w hw => hw.sub (by (repeat (first | exact SubL.nil | exact Pick.head | apply Pick.tail | apply SubL.cons)))) (q_assign rfl) rfl ?_
      refine DW_nil ?_
      refine EW_then ?_
      refine CW_seq ?_
      refine CW_seq ?_
      refine CW_region ?_
      refine OW_q (q_move rfl) rfl ?_
      refine OW_q (q_len Try.underlying36 rfl) rfl ?_
      refine OW_q (q_move rfl) rfl ?_
      refine OW_nil ?_
      refine EW_then ?_
      refine CW_block ?_
      refine CW_loopP (ι := Nat × Bool × List (List Bool)) (fun i_ => i_.1 ≤ g.terms.toNat ∧ Dim i_.2.2 N (g.terms + 1).toNat ∧ OT2 g i_.2.2 ∧ fls2 i_.2.2 ≤ fls2 f1 ∧ (i_.2.1 = false → gr = false ∧ i_.2.2 = f1 ∧ (∀ v : Int, 0 ≤ v → v < g.terms → v < (i_.1 : Int) → begB nl fs (r.right.drop (k + 1)) v = true → at2 f1 s.n v = true)) ∧ (i_.2.1 = true → gr = true ∨ fls2 i_.2.2 < fls2 f1)) (fun i_ => [(3, .pointer (some ⟨b3, 0, none⟩)), (4, .pointer (some ⟨b4, 0, none⟩)), (5, .pointer (some ⟨b5, 0, none⟩)), (17, .slice (some p) r.right.length c2), (18, .int .i64 (r.right.length : Int)), (19, .int .i64 (k : Int)), (7, .bool i_.2.1), (9, .pointer (some ⟨b9, 0, none⟩)), (11, .bool (nullB nl (r.right.drop (k + 1)))), (38, .slice (some ⟨x35.1, 0, none⟩) g.terms.toNat g.terms.toNat), (39, .int .i64 (g.terms.toNat : Int)), (40, .int .i64 (i_.1 : Int))]) (fun i_ => Sat R w0 [tabA 4 blo i_.2.2, bools bn 4 nl, tabA 4 blf fs, trow 36 1 (encR g.terms.toNat) (.slice (some ⟨bf, 0, none⟩) N cf) blf, trow 36 1 (encR (g.terms + 1).toNat) (.slice (some ⟨bo, 0, none⟩) N co) blo, bools x35.1 4 x35.2, cel b9 62 [vb s.term, vi s.n], cel b5 41 [.int .i64 r.left, .slice (some p) r.right.length c2], cel b4 53 [.slice (some ⟨bn, 0, none⟩) N N, .slice (some ⟨bf, 0, none⟩) N cf, .slice (some ⟨bo, 0, none⟩) N co], cel b3 24 [.int .i64 g.terms, .int .i64 g.names, gv], F]) (fun i_ => g.terms.toNat - i_.1) (0, gr, f1) ?_ ⟨rfl, rfl, rfl, rfl, rfl, rfl, rfl, rfl, rfl, rfl, rfl, rfl, trivial⟩ (fun w hw => hw.sub (by (repeat (first | exact SubL.nil | exact Pick.head | apply Pick.tail | apply SubL.cons)))) ?_
      · exact ⟨Nat.zero_le _, hd1f, ho1, Nat.le_refl _, (fun h => ⟨h, rfl, fun v h3 _ h4 => absurd h4 (by show ¬ v < 0; omega)⟩), (fun h => .inl h)⟩
      intro i_ hpre
      obtain ⟨tt, gr3, f3⟩ := i_
      replace hpre : tt ≤ g.terms.toNat ∧ Dim f3 N (g.terms + 1).toNat ∧ OT2 g f3 ∧ fls2 f3 ≤ fls2 f1 ∧ (gr3 = false → gr = false ∧ f3 = f1 ∧ (∀ v : Int, 0 ≤ v → v < g.terms → v < (tt : Int) → begB nl fs (r.right.drop (k + 1)) v = true → at2 f1 s.n v = true)) ∧ (gr3 = true → gr = true ∨ fls2 f3 < fls2 f1) := hpre
      change CW _ _ _ _ [(3, .pointer (some ⟨b3, 0, none⟩)), (4, .pointer (some ⟨b4, 0, none⟩)), (5, .pointer (some ⟨b5, 0, none⟩)), (17, .slice (some p) r.right.length c2), (18, .int .i64 (r.right.length : Int)), (19, .int .i64 (k : Int)), (7, .bool gr3), (9, .pointer (some ⟨b9, 0, none⟩)), (11, .bool (nullB nl (r.right.drop (k + 1)))), (38, .slice (some ⟨x35.1, 0, none⟩) g.terms.toNat g.terms.toNat), (39, .int .i64 (g.terms.toNat : Int)), (40, .int .i64 (tt : Int))] (Sat R w0 [tabA 4 blo f3, bools bn 4 nl, tabA 4 blf fs, trow 36 1 (encR g.terms.toNat) (.slice (some ⟨bf, 0, none⟩) N cf) blf, trow 36 1 (encR (g.terms + 1).toNat) (.slice (some ⟨bo, 0, none⟩) N co) blo, bools x35.1 4 x35.2, cel b9 62 [vb s.term, vi s.n], cel b5 41 [.int .i64 r.left, .slice (some p) r.right.length c2], cel b4 53 [.slice (some ⟨bn, 0, none⟩) N N, .slice (some ⟨bf, 0, none⟩) N cf, .slice (some ⟨bo, 0, none⟩) N co], cel b3 24 [.int .i64 g.terms, .int .i64 g.names, gv], F])
      obtain ⟨htt, hd3, ho3, hle3, h31, h32⟩ := hpre
      have hf3N := hd3.1
      refine CW_seq ?_
      refine CW_region ?_
      refine OW_q (q_lss rfl rfl) rfl ?_
      refine OW_nil ?_
      refine EW_then ?_
      refine CW_seq ?_
      refine CW_cond rfl (fun h41 => ?_) (fun h41 => ?_)
      · skip
        have hltt : tt < g.terms.toNat := by have := of_decide_eq_true h41; omega
        have hco := atB_get (is := x35.2) (n := (tt : Int)) (by omega) (by omega)
        rw [Int.toNat_natCast] at hco
        have hrl3 := hd3.row hs1.1 hs1N
        refine CW_skip ?_
        refine EW_then ?_
        refine CW_seq ?_
        refine CW_block ?_
        refine CW_seq ?_
        refine CW_region ?_
        refine OW_q (q_move rfl) rfl ?_
        refine OW_q (q_indexAddr Try.underlying36 Try.sizeOf4 rfl rfl (by first | omega | assumption)) rfl ?_
        refine OW_q (q_load_bools Try.isAgg4 rfl (by (repeat (first | exact .head | apply Swap.tail))) (by exact hco)) rfl ?_
        refine OW_q (q_assign rfl) rfl ?_
        refine OW_q (q_assign rfl) rfl ?_
        refine OW_nil ?_
        refine EW_then ?_
        refine CW_region ?_
        refine OW_q (q_move rfl) rfl ?_
        refine OW_q (q_move rfl) rfl ?_
        refine OW_part (t := 46) rfl (fun hg46 => ?_) (fun hg46 => ?_)
        · skip
          have hfi : FollowI g s.n (tt : Int) := .fst hmem hsj ht (begB_sound hns hfs (Int.natCast_nonneg tt) hposd (by rw [← hxo (tt : Int) (Int.natCast_nonneg tt) (by omega)]; exact hg46))
          refine OW_wanted rfl rfl rfl ?_
          refine OW_q (q_fieldAddr Try.underlying53 rfl rfl Try.sizeOf51 rfl rfl) rfl ?_
          refine OW_wanted rfl rfl rfl ?_
          first | (refine OW_q (q_load1_own Try.isAgg51 rfl rfl (by (repeat (first | exact .head | apply Swap.tail))) (by rfl)) rfl ?_) | (refine OW_q (q_load1_ro Try.isAgg51 rfl (by first | assumption | exact Row.at_ (by assumption) rfl)) rfl ?_)
          refine OW_wanted rfl rfl rfl ?_
          refine OW_q (q_fieldAddr Try.underlying62 rfl rfl Try.sizeOf3 rfl rfl) rfl ?_
          refine OW_wanted rfl rfl rfl ?_
          first | (refine OW_q (q_load1_own Try.isAgg3 rfl rfl (by (repeat (first | exact .head | apply Swap.tail))) (by rfl)) rfl ?_) | (refine OW_q (q_load1_ro Try.isAgg3 rfl (by first | assumption | exact Row.at_ (by assumption) rfl)) rfl ?_)
          refine OW_wanted rfl rfl rfl ?_
          refine OW_q (q_indexAddrI Try.underlying51 Try.sizeOf36 rfl rfl (by first | omega | assumption) (by first | omega | assumption)) rfl ?_
          refine OW_wanted rfl rfl rfl ?_
          refine OW_q (q_load_t1 Try.isAgg36 (fun _ => rfl) rfl (by repeat (first | exact .head | apply Swap.tail)) rfl hbl rfl) rfl ?_
          refine OW_wanted rfl rfl rfl ?_
          refine OW_q (q_move rfl) rfl ?_
          refine OW_wanted rfl rfl rfl ?_
          refine OW_e (e_call Try.call49 rfl (fun w hw => lift_hole (Hole.tab hbl (row2_get hs1.1 (by omega))) (hw.pick (by repeat (first | exact .head | apply Pick.tail))) (fun F hF => set_any bi (g.terms + 1).toNat (row2 f3 s.n) (tt : Int) R w0 w F hrl3 (Int.natCast_nonneg _) (by omega) hF))) rfl (fun x54 => ?_)
          refine OW_pure fun _ => ?_
          refine OW_weak (fun w hw => by rw [tabL_set hbl] at hw; exact hw) ?_
          refine OW_weak (fun w hw => (hw : Sat _ _ (tabA 4 blo (put2 f3 s.n (tt : Int)) :: _) w)) ?_
          refine OW_q (q_pick_t rfl rfl) rfl ?_
          refine OW_q (q_move rfl) rfl ?_
          refine OW_part (t := 56) rfl (fun hg56 => ?_) (fun hg56 => ?_)
          · skip
            refine OW_skip rfl rfl rfl rfl ?_
            refine OW_q (q_pick_t rfl rfl) rfl ?_
            refine OW_q (q_assign rfl) rfl ?_
            refine OW_nil ?_
            refine EW_block_normal ?_
            refine EW_then ?_
            refine CW_region ?_
            first | refine OW_q (q_inc rfl rfl (by omega)) rfl ?_ | refine OW_q (q_add rfl rfl (by omega) (by omega)) rfl ?_
            refine OW_q (q_move rfl) rfl ?_
            refine OW_nil ?_
            refine EW_again ((tt + 1, true, put2 f3 s.n (tt : Int))) ⟨?_, ?_⟩ ⟨rfl, rfl, rfl, rfl, rfl, rfl, rfl, rfl, rfl, rfl, rfl, rfl, trivial⟩ (fun w hw => hw.sub (by (repeat (first | exact SubL.nil | exact Pick.head | apply Pick.tail | apply SubL.cons))))
            · show g.terms.toNat - (tt + 1) < g.terms.toNat - tt; omega
            · have hp := grow_put (C' := ∀ v : Int, 0 ≤ v → v < g.terms → v < ((tt + 1 : Nat) : Int) → begB nl fs (r.right.drop (k + 1)) v = true → at2 f1 s.n v = true) hM.1 hd3 ho3 hle3 h31 h32 hs1.1 hs1N (Int.natCast_nonneg tt) (by omega) hfi (fun hC hc v hv0 hv1 hv2 hb => by
                have hv2' : v < ((tt + 1 : Nat) : Int) := hv2
                by_cases e : v = (tt : Int)
                · rw [e]; exact hc
                · exact hC v hv0 hv1 (by omega) hb)
              exact ⟨by show tt + 1 ≤ _; omega, hp.1 (by simpa [at2] using hg56)⟩
          · skip
            refine OW_wanted rfl rfl rfl ?_
            refine OW_q (q_move rfl) rfl ?_
            refine OW_q (q_pick_f rfl rfl) rfl ?_
            refine OW_q (q_assign rfl) rfl ?_
            refine OW_nil ?_
            refine EW_block_normal ?_
            refine EW_then ?_
            refine CW_region ?_
            first | refine OW_q (q_inc rfl rfl (by omega)) rfl ?_ | refine OW_q (q_add rfl rfl (by omega) (by omega)) rfl ?_
            refine OW_q (q_move rfl) rfl ?_
            refine OW_nil ?_
            refine EW_again ((tt + 1, gr3, put2 f3 s.n (tt : Int))) ⟨?_, ?_⟩ ⟨rfl, rfl, rfl, rfl, rfl, rfl, rfl, rfl, rfl, rfl, rfl, rfl, trivial⟩ (fun w hw => hw.sub (by (repeat (first | exact SubL.nil | exact Pick.head | apply Pick.tail | apply SubL.cons))))
            · show g.terms.toNat - (tt + 1) < g.terms.toNat - tt; omega
            · have hp := grow_put (C' := ∀ v : Int, 0 ≤ v → v < g.terms → v < ((tt + 1 : Nat) : Int) → begB nl fs (r.right.drop (k + 1)) v = true → at2 f1 s.n v = true) hM.1 hd3 ho3 hle3 h31 h32 hs1.1 hs1N (Int.natCast_nonneg tt) (by omega) hfi (fun hC hc v hv0 hv1 hv2 hb => by
                have hv2' : v < ((tt + 1 : Nat) : Int) := hv2
                by_cases e : v = (tt : Int)
                · rw [e]; exact hc
                · exact hC v hv0 hv1 (by omega) hb)
              exact ⟨by show tt + 1 ≤ _; omega, hp.2 (by simpa [at2] using hg56)⟩
        · skip
          refine OW_skip rfl rfl rfl rfl ?_
          refine OW_skip rfl rfl rfl rfl ?_
          refine OW_skip rfl rfl rfl rfl ?_
          refine OW_skip rfl rfl rfl rfl ?_
          refine OW_skip rfl rfl rfl rfl ?_
          refine OW_skip rfl rfl rfl rfl ?_
          refine OW_skip rfl rfl rfl rfl ?_
          refine OW_skip rfl rfl rfl rfl ?_
          refine OW_q (q_pick_f rfl rfl) rfl ?_
          refine OW_q (q_move rfl) rfl ?_
          refine OW_wanted rfl rfl rfl ?_
          refine OW_q (q_move rfl) rfl ?_
          refine OW_q (q_pick_f rfl rfl) rfl ?_
          refine OW_q (q_assign rfl) rfl ?_
          refine OW_nil ?_
          refine EW_block_normal ?_
          refine EW_then ?_
          refine CW_region ?_
          first | refine OW_q (q_inc rfl rfl (by omega)) rfl ?_ | refine OW_q (q_add rfl rfl (by omega) (by omega)) rfl ?_
          refine OW_q (q_move rfl) rfl ?_
          refine OW_nil ?_
          refine EW_again ((tt + 1, gr3, f3)) ⟨?_, ?_⟩ ⟨rfl, rfl, rfl, rfl, rfl, rfl, rfl, rfl, rfl, rfl, rfl, rfl, trivial⟩ (fun w hw => hw.sub (by (repeat (first | exact SubL.nil | exact Pick.head | apply Pick.tail | apply SubL.cons))))
          · show g.terms.toNat - (tt + 1) < g.terms.toNat - tt; omega
          · refine ⟨by show tt + 1 ≤ _; omega, hd3, ho3, hle3, fun h => ⟨(h31 h).1, (h31 h).2.1, fun v hv0 hv1 hv2 hb => ?_⟩, h32⟩
            have hv2' : v < ((tt + 1 : Nat) : Int) := hv2
            by_cases e : v = (tt : Int)
            · rw [e, ← hxo (tt : Int) (Int.natCast_nonneg tt) (by omega), hg46] at hb; cases hb
            · exact (h31 h).2.2 v hv0 hv1 (by omega) hb
      · skip
        have het : ¬ tt < g.terms.toNat := by have := of_decide_eq_false h41; omega
        refine CW_exit ?_
        refine EW_then_exit ?_
        refine EW_out ?_
        refine EW_block_exit ?_
        refine EW_then ?_
        refine CW_seq ?_
        refine CW_region ?_
        refine OW_q (q_fieldAddr Try.underlying53 rfl rfl Try.sizeOf51 rfl rfl) rfl ?_
        first | (refine OW_q (q_load1_own Try.isAgg51 rfl rfl (by (repeat (first | exact .head | apply Swap.tail))) (by rfl)) rfl ?_) | (refine OW_q (q_load1_ro Try.isAgg51 rfl (by first | assumption | exact Row.at_ (by assumption) rfl)) rfl ?_)
        refine OW_q (q_fieldAddr Try.underlying41 rfl rfl Try.sizeOf3 rfl rfl) rfl ?_
        first | (refine OW_q (q_load1_own Try.isAgg3 rfl rfl (by (repeat (first | exact .head | apply Swap.tail))) (by rfl)) rfl ?_) | (refine OW_q (q_load1_ro Try.isAgg3 rfl (by first | assumption | exact Row.at_ (by assumption) rfl)) rfl ?_)
        refine OW_q (q_indexAddrI Try.underlying51 Try.sizeOf36 rfl rfl (by first | omega | assumption) (by first | omega | assumption)) rfl ?_
        refine OW_q (q_load_t1 Try.isAgg36 (fun _ => rfl) rfl (by repeat (first | exact .head | apply Swap.tail)) rfl hbll rfl) rfl ?_
        refine OW_q (q_len Try.underlying36 rfl) rfl ?_
        refine OW_q (q_move rfl) rfl ?_
        refine OW_nil ?_
        refine EW_then ?_
        refine CW_block ?_
        refine CW_loopP (ι := Nat × Bool × List (List Bool)) (fun i_ => i_.1 ≤ (g.terms + 1).toNat ∧ Dim i_.2.2 N (g.terms + 1).toNat ∧ OT2 g i_.2.2 ∧ fls2 i_.2.2 ≤ fls2 f3 ∧ (i_.2.1 = false → gr3 = false ∧ i_.2.2 = f3 ∧ (∀ v : Int, 0 ≤ v → v ≤ g.terms → v < (i_.1 : Int) → nullB nl (r.right.drop (k + 1)) = true → at2 f3 r.left v = true → at2 f3 s.n v = true)) ∧ (i_.2.1 = true → gr3 = true ∨ fls2 i_.2.2 < fls2 f3)) (fun i_ => [(3, .pointer (some ⟨b3, 0, none⟩)), (4, .pointer (some ⟨b4, 0, none⟩)), (5, .pointer (some ⟨b5, 0, none⟩)), (17, .slice (some p) r.right.length c2), (18, .int .i64 (r.right.length : Int)), (19, .int .i64 (k : Int)), (7, .bool i_.2.1), (9, .pointer (some ⟨b9, 0, none⟩)), (11, .bool (nullB nl (r.right.drop (k + 1)))), (65, .slice (some ⟨bl, 0, none⟩) (g.terms + 1).toNat (g.terms + 1).toNat), (66, .int .i64 ((g.terms + 1).toNat : Int)), (67, .int .i64 (i_.1 : Int))]) (fun i_ => Sat R w0 [tabA 4 blo i_.2.2, bools bn 4 nl, tabA 4 blf fs, trow 36 1 (encR g.terms.toNat) (.slice (some ⟨bf, 0, none⟩) N cf) blf, trow 36 1 (encR (g.terms + 1).toNat) (.slice (some ⟨bo, 0, none⟩) N co) blo, cel b9 62 [vb s.term, vi s.n], cel b5 41 [.int .i64 r.left, .slice (some p) r.right.length c2], cel b4 53 [.slice (some ⟨bn, 0, none⟩) N N, .slice (some ⟨bf, 0, none⟩) N cf, .slice (some ⟨bo, 0, none⟩) N co], cel b3 24 [.int .i64 g.terms, .int .i64 g.names, gv], F]) (fun i_ => (g.terms + 1).toNat - i_.1) (0, gr3, f3) ?_ ⟨rfl, rfl, rfl, rfl, rfl, rfl, rfl, rfl, rfl, rfl, rfl, rfl, trivial⟩ (fun w hw => hw.sub (by (repeat (first | exact SubL.nil | exact Pick.head | apply Pick.tail | apply SubL.cons)))) ?_
        · exact ⟨Nat.zero_le _, hd3, ho3, Nat.le_refl _, (fun h => ⟨h, rfl, fun v h3 _ h4 => absurd h4 (by show ¬ v < 0; omega)⟩), (fun h => .inl h)⟩
        intro i_ hpre
        obtain ⟨uu, gr4, f4⟩ := i_
        replace hpre : uu ≤ (g.terms + 1).toNat ∧ Dim f4 N (g.terms + 1).toNat ∧ OT2 g f4 ∧ fls2 f4 ≤ fls2 f3 ∧ (gr4 = false → gr3 = false ∧ f4 = f3 ∧ (∀ v : Int, 0 ≤ v → v ≤ g.terms → v < (uu : Int) → nullB nl (r.right.drop (k + 1)) = true → at2 f3 r.left v = true → at2 f3 s.n v = true)) ∧ (gr4 = true → gr3 = true ∨ fls2 f4 < fls2 f3) := hpre
        change CW _ _ _ _ [(3, .pointer (some ⟨b3, 0, none⟩)), (4, .pointer (some ⟨b4, 0, none⟩)), (5, .pointer (some ⟨b5, 0, none⟩)), (17, .slice (some p) r.right.length c2), (18, .int .i64 (r.right.length : Int)), (19, .int .i64 (k : Int)), (7, .bool gr4), (9, .pointer (some ⟨b9, 0, none⟩)), (11, .bool (nullB nl (r.right.drop (k + 1)))), (65, .slice (some ⟨bl, 0, none⟩) (g.terms + 1).toNat (g.terms + 1).toNat), (66, .int .i64 ((g.terms + 1).toNat : Int)), (67, .int .i64 (uu : Int))] (Sat R w0 [tabA 4 blo f4, bools bn 4 nl, tabA 4 blf fs, trow 36 1 (encR g.terms.toNat) (.slice (some ⟨bf, 0, none⟩) N cf) blf, trow 36 1 (encR (g.terms + 1).toNat) (.slice (some ⟨bo, 0, none⟩) N co) blo, cel b9 62 [vb s.term, vi s.n], cel b5 41 [.int .i64 r.left, .slice (some p) r.right.length c2], cel b4 53 [.slice (some ⟨bn, 0, none⟩) N N, .slice (some ⟨bf, 0, none⟩) N cf, .slice (some ⟨bo, 0, none⟩) N co], cel b3 24 [.int .i64 g.terms, .int .i64 g.names, gv], F])
        obtain ⟨huu, hd4, ho4, hle4, h41, h42⟩ := hpre
        have hf4N := hd4.1
        refine CW_seq ?_
        refine CW_region ?_
        refine OW_q (q_lss rfl rfl) rfl ?_
        refine OW_nil ?_
        refine EW_then ?_
        refine CW_seq ?_
        refine CW_cond rfl (fun h68 => ?_) (fun h68 => ?_)
        · skip
          have hltu : uu < (g.terms + 1).toNat := by have := of_decide_eq_true h68; omega
          have hrl3 := hd4.row hs1.1 hs1N
          have hrll := hd4.row hr1.1 hlN
          have hco := atB_get (is := row2 f4 r.left) (n := (uu : Int)) (by omega) (by omega)
          rw [Int.toNat_natCast] at hco
          refine CW_skip ?_
          refine EW_then ?_
          refine CW_seq ?_
          refine CW_block ?_
          refine CW_seq ?_
          refine CW_region ?_
          refine OW_q (q_move rfl) rfl ?_
          refine OW_q (q_indexAddr Try.underlying36 Try.sizeOf4 rfl rfl (by first | omega | assumption)) rfl ?_
          refine OW_q (q_load_bools Try.isAgg4 rfl ((Hole.tab hbll (row2_get hr1.1 (by omega))).swap _) hco) rfl ?_
          refine OW_q (q_assign rfl) rfl ?_
          refine OW_q (q_assign rfl) rfl ?_
          refine OW_nil ?_
          refine EW_then ?_
          refine CW_region ?_
          refine OW_q (q_move rfl) rfl ?_
          refine OW_q (q_move rfl) rfl ?_
          refine OW_part (t := 73) rfl (fun hg73 => ?_) (fun hg73 => ?_)
          · skip
            have hnI : NullI g (r.right.drop (k + 1)) := nullB_sound hns hposd hg73
            refine OW_wanted rfl rfl rfl ?_
            refine OW_q (q_move rfl) rfl ?_
            refine OW_q (q_pick_t rfl rfl) rfl ?_
            refine OW_q (q_move rfl) rfl ?_
            refine OW_part (t := 76) rfl (fun hg76 => ?_) (fun hg76 => ?_)
            · skip
              have hfo : FollowI g s.n (uu : Int) := .fol hmem hsj ht hnI (ho4.1 r.left (uu : Int) hr1.1 (Int.natCast_nonneg uu) hg76)
              refine OW_wanted rfl rfl rfl ?_
              refine OW_q (q_fieldAddr Try.underlying53 rfl rfl Try.sizeOf51 rfl rfl) rfl ?_
              refine OW_wanted rfl rfl rfl ?_
              first | (refine OW_q (q_load1_own Try.isAgg51 rfl rfl (by (repeat (first | exact .head | apply Swap.tail))) (by rfl)) rfl ?_) | (refine OW_q (q_load1_ro Try.isAgg51 rfl (by first | assumption | exact Row.at_ (by assumption) rfl)) rfl ?_)
              refine OW_wanted rfl rfl rfl ?_
              refine OW_q (q_fieldAddr Try.underlying62 rfl rfl Try.sizeOf3 rfl rfl) rfl ?_
              refine OW_wanted rfl rfl rfl ?_
              first | (refine OW_q (q_load1_own Try.isAgg3 rfl rfl (by (repeat (first | exact .head | apply Swap.tail))) (by rfl)) rfl ?_) | (refine OW_q (q_load1_ro Try.isAgg3 rfl (by first | assumption | exact Row.at_ (by assumption) rfl)) rfl ?_)
              refine OW_wanted rfl rfl rfl ?_
              refine OW_q (q_indexAddrI Try.underlying51 Try.sizeOf36 rfl rfl (by first | omega | assumption) (by first | omega | assumption)) rfl ?_
              refine OW_wanted rfl rfl rfl ?_
              refine OW_q (q_load_t1 Try.isAgg36 (fun _ => rfl) rfl (by repeat (first | exact .head | apply Swap.tail)) rfl hbl rfl) rfl ?_
              refine OW_wanted rfl rfl rfl ?_
              refine OW_q (q_move rfl) rfl ?_
              refine OW_wanted rfl rfl rfl ?_
              refine OW_e (e_call Try.call49 rfl (fun w hw => lift_hole (Hole.tab hbl (row2_get hs1.1 (by omega))) (hw.pick (by repeat (first | exact .head | apply Pick.tail))) (fun F hF => set_any bi (g.terms + 1).toNat (row2 f4 s.n) (uu : Int) R w0 w F hrl3 (Int.natCast_nonneg _) (by omega) hF))) rfl (fun x84 => ?_)
              refine OW_pure fun _ => ?_
              refine OW_weak (fun w hw => by rw [tabL_set hbl] at hw; exact hw) ?_
              refine OW_weak (fun w hw => (hw : Sat _ _ (tabA 4 blo (put2 f4 s.n (uu : Int)) :: _) w)) ?_
              refine OW_q (q_pick_t rfl rfl) rfl ?_
              refine OW_q (q_move rfl) rfl ?_
              refine OW_part (t := 86) rfl (fun hg86 => ?_) (fun hg86 => ?_)
              · skip
                refine OW_skip rfl rfl rfl rfl ?_
                refine OW_q (q_pick_t rfl rfl) rfl ?_
                refine OW_q (q_assign rfl) rfl ?_
                refine OW_nil ?_
                refine EW_block_normal ?_
                refine EW_then ?_
                refine CW_region ?_
                first | refine OW_q (q_inc rfl rfl (by omega)) rfl ?_ | refine OW_q (q_add rfl rfl (by omega) (by omega)) rfl ?_
                refine OW_q (q_move rfl) rfl ?_
                refine OW_nil ?_
                refine EW_again ((uu + 1, true, put2 f4 s.n (uu : Int))) ⟨?_, ?_⟩ ⟨rfl, rfl, rfl, rfl, rfl, rfl, rfl, rfl, rfl, rfl, rfl, rfl, trivial⟩ (fun w hw => hw.sub (by (repeat (first | exact SubL.nil | exact Pick.head | apply Pick.tail | apply SubL.cons))))
                · show (g.terms + 1).toNat - (uu + 1) < (g.terms + 1).toNat - uu; omega
                · have hp := grow_put (C' := ∀ v : Int, 0 ≤ v → v ≤ g.terms → v < ((uu + 1 : Nat) : Int) → nullB nl (r.right.drop (k + 1)) = true → at2 f3 r.left v = true → at2 f3 s.n v = true) hM.1 hd4 ho4 hle4 h41 h42 hs1.1 hs1N (Int.natCast_nonneg uu) (by omega) hfo (fun hC hc v hv0 hv1 hv2 hb hl => by
                    have hv2' : v < ((uu + 1 : Nat) : Int) := hv2
                    by_cases e : v = (uu : Int)
                    · rw [e]; exact hc
                    · exact hC v hv0 hv1 (by omega) hb hl)
                  exact ⟨by show uu + 1 ≤ _; omega, hp.1 (by simpa [at2] using hg86)⟩
              · skip
                refine OW_wanted rfl rfl rfl ?_
                refine OW_q (q_move rfl) rfl ?_
                refine OW_q (q_pick_f rfl rfl) rfl ?_
                refine OW_q (q_assign rfl) rfl ?_
                refine OW_nil ?_
                refine EW_block_normal ?_
                refine EW_then ?_
                refine CW_region ?_
                first | refine OW_q (q_inc rfl rfl (by omega)) rfl ?_ | refine OW_q (q_add rfl rfl (by omega) (by omega)) rfl ?_
                refine OW_q (q_move rfl) rfl ?_
                refine OW_nil ?_
                refine EW_again ((uu + 1, gr4, put2 f4 s.n (uu : Int))) ⟨?_, ?_⟩ ⟨rfl, rfl, rfl, rfl, rfl, rfl, rfl, rfl, rfl, rfl, rfl, rfl, trivial⟩ (fun w hw => hw.sub (by (repeat (first | exact SubL.nil | exact Pick.head | apply Pick.tail | apply SubL.cons))))
                · show (g.terms + 1).toNat - (uu + 1) < (g.terms + 1).toNat - uu; omega
                · have hp := grow_put (C' := ∀ v : Int, 0 ≤ v → v ≤ g.terms → v < ((uu + 1 : Nat) : Int) → nullB nl (r.right.drop (k + 1)) = true → at2 f3 r.left v = true → at2 f3 s.n v = true) hM.1 hd4 ho4 hle4 h41 h42 hs1.1 hs1N (Int.natCast_nonneg uu) (by omega) hfo (fun hC hc v hv0 hv1 hv2 hb hl => by
                    have hv2' : v < ((uu + 1 : Nat) : Int) := hv2
                    by_cases e : v = (uu : Int)
                    · rw [e]; exact hc
                    · exact hC v hv0 hv1 (by omega) hb hl)
                  exact ⟨by show uu + 1 ≤ _; omega, hp.2 (by simpa [at2] using hg86)⟩
            · skip
              refine OW_skip rfl rfl rfl rfl ?_
              refine OW_skip rfl rfl rfl rfl ?_
              refine OW_skip rfl rfl rfl rfl ?_
              refine OW_skip rfl rfl rfl rfl ?_
              refine OW_skip rfl rfl rfl rfl ?_
              refine OW_skip rfl rfl rfl rfl ?_
              refine OW_skip rfl rfl rfl rfl ?_
              refine OW_skip rfl rfl rfl rfl ?_
              refine OW_q (q_pick_f rfl rfl) rfl ?_
              refine OW_q (q_move rfl) rfl ?_
              refine OW_wanted rfl rfl rfl ?_
              refine OW_q (q_move rfl) rfl ?_
              refine OW_q (q_pick_f rfl rfl) rfl ?_
              refine OW_q (q_assign rfl) rfl ?_
              refine OW_nil ?_
              refine EW_block_normal ?_
              refine EW_then ?_
              refine CW_region ?_
              first | refine OW_q (q_inc rfl rfl (by omega)) rfl ?_ | refine OW_q (q_add rfl rfl (by omega) (by omega)) rfl ?_
              refine OW_q (q_move rfl) rfl ?_
              refine OW_nil ?_
              refine EW_again ((uu + 1, gr4, f4)) ⟨?_, ?_⟩ ⟨rfl, rfl, rfl, rfl, rfl, rfl, rfl, rfl, rfl, rfl, rfl, rfl, trivial⟩ (fun w hw => hw.sub (by (repeat (first | exact SubL.nil | exact Pick.head | apply Pick.tail | apply SubL.cons))))
              · show (g.terms + 1).toNat - (uu + 1) < (g.terms + 1).toNat - uu; omega
              · refine ⟨by show uu + 1 ≤ _; omega, hd4, ho4, hle4, fun h => ⟨(h41 h).1, (h41 h).2.1, fun v hv0 hv1 hv2 hb hl => ?_⟩, h42⟩
                have hv2' : v < ((uu + 1 : Nat) : Int) := hv2
                by_cases e : v = (uu : Int)
                · rw [e, ← (h41 h).2.1] at hl; have hg : at2 f4 r.left (uu : Int) = false := hg76; rw [hg] at hl; cases hl
                · exact (h41 h).2.2 v hv0 hv1 (by omega) hb hl
          · skip
            refine OW_skip rfl rfl rfl rfl ?_
            refine OW_q (q_pick_f rfl rfl) rfl ?_
            refine OW_q (q_move rfl) rfl ?_
            refine OW_skip rfl rfl rfl rfl ?_
            refine OW_skip rfl rfl rfl rfl ?_
            refine OW_skip rfl rfl rfl rfl ?_
            refine OW_skip rfl rfl rfl rfl ?_
            refine OW_skip rfl rfl rfl rfl ?_
            refine OW_skip rfl rfl rfl rfl ?_
            refine OW_skip rfl rfl rfl rfl ?_
            refine OW_skip rfl rfl rfl rfl ?_
            refine OW_q (q_pick_f rfl rfl) rfl ?_
            refine OW_q (q_move rfl) rfl ?_
            refine OW_wanted rfl rfl rfl ?_
            refine OW_q (q_move rfl) rfl ?_
            refine OW_q (q_pick_f rfl rfl) rfl ?_
            refine OW_q (q_assign rfl) rfl ?_
            refine OW_nil ?_
            refine EW_block_normal ?_
            refine EW_then ?_
            refine CW_region ?_
            first | refine OW_q (q_inc rfl rfl (by omega)) rfl ?_ | refine OW_q (q_add rfl rfl (by omega) (by omega)) rfl ?_
            refine OW_q (q_move rfl) rfl ?_
            refine OW_nil ?_
            refine EW_again ((uu + 1, gr4, f4)) ⟨?_, ?_⟩ ⟨rfl, rfl, rfl, rfl, rfl, rfl, rfl, rfl, rfl, rfl, rfl, rfl, trivial⟩ (fun w hw => hw.sub (by (repeat (first | exact SubL.nil | exact Pick.head | apply Pick.tail | apply SubL.cons))))
            · show (g.terms + 1).toNat - (uu + 1) < (g.terms + 1).toNat - uu; omega
            · refine ⟨by show uu + 1 ≤ _; omega, hd4, ho4, hle4, fun h => ⟨(h41 h).1, (h41 h).2.1, fun v hv0 hv1 hv2 hb hl => ?_⟩, h42⟩
              rw [hg73] at hb; cases hb
        · skip
          have heu : ¬ uu < (g.terms + 1).toNat := by have := of_decide_eq_false h68; omega
          refine CW_exit ?_
          refine EW_then_exit ?_
          refine EW_out ?_
          refine EW_block_exit ?_
          refine EW_block_normal ?_
          refine EW_then ?_
          refine CW_region ?_
          first | refine OW_q (q_inc rfl rfl (by omega)) rfl ?_ | refine OW_q (q_add rfl rfl (by omega) (by omega)) rfl ?_
          refine OW_q (q_move rfl) rfl ?_
          refine OW_nil ?_
          refine EW_again ((k + 1, gr4, f4)) ⟨?_, ?_⟩ ⟨rfl, rfl, rfl, rfl, rfl, rfl, rfl, trivial⟩ (fun w hw => hw.sub (by (repeat (first | exact SubL.nil | exact Pick.head | apply Pick.tail | apply SubL.cons))))
          · show r.right.length - (k + 1) < r.right.length - k; omega
          · refine ⟨by show k + 1 ≤ _; omega, hd4, ho4, fun h => ?_, fun h => ?_⟩
            · have q4 := h41 h
              have q3 := h31 q4.1
              have q1 := h1 q3.1
              refine ⟨q4.2.1.trans (q3.2.1.trans q1.1), fun j q hj hq hqt => ?_⟩
              by_cases e : j = k
              · subst e
                rw [hsj] at hq
                cases hq
                rw [← q1.1]
                refine fun v hv0 => ⟨fun hv1 hb => q3.2.2 v hv0 hv1 (by omega) hb, fun hv1 hb hl => ?_⟩
                have := q4.2.2 v hv0 hv1 (by omega) hb
                rw [q3.2.1] at this
                exact this hl
              · exact q1.2 j q (by have : j < k + 1 := hj; omega) hq hqt
            · show fls2 f4 < fls2 fo
              have e0 : gr = false → fls2 f1 = fls2 fo := fun h => by rw [(h1 h).1]
              have : gr = true ∨ fls2 f4 < fls2 f1 := by
                rcases h42 h with h4 | h4
                · rcases h32 h4 with h5 | h5
                  · exact .inl h5
                  · exact .inr (by omega)
                · exact .inr (by omega)
              cases hgr : gr with
              | false =>
                rcases this with h5 | h5
                · rw [hgr] at h5; cases h5
                · have := e0 hgr; omega
              | true => have := h2 hgr; omega
  · skip
    have hek : ¬ k < r.right.length := by simpa using h20
    refine CW_exit ?_
    refine EW_then_exit ?_
    refine EW_out ?_
    refine EW_block_exit ?_
    refine EW_then ?_
    refine CW_seq ?_
    refine CW_region ?_
    refine OW_q (q_move rfl) rfl ?_
    refine OW_q (q_assign rfl) rfl ?_
    refine OW_nil ?_
    refine EW_then ?_
    refine CW_ret ?_
    refine ret1 Try.results51 rfl (fun w hw => ?_)
    exact ⟨(gr, f1), rfl, ⟨⟨hd1f, ho1⟩, fun h => ⟨(h1 h).1, fun j s hj => (h1 h).2 j s (by have := (List.getElem?_eq_some_iff.1 hj).1; omega) hj⟩, h2⟩, hw.sub (by repeat (first | exact SubL.nil | exact Pick.head | apply Pick.tail | apply SubL.cons))⟩

end Go.Sy
