/- Sets: with which terms symbols may begin. No condition. -/
import Derived.Test.YteceklkjbcebkaaW10
namespace Go.Sy
open Go Go.RowKit Go.Proofs

theorem or_step {out out1 f : List Bool} {k : Nat} {T : Int} {b : Bool} (hk : (k : Int) < T) (hl : out1.length = T.toNat) (hinv : ∀ t : Int, 0 ≤ t → t < T → atB out1 t = (atB out t || (decide (t < (k : Int)) && atB f t)))
    (hb : b = (atB out1 (k : Int) || atB f (k : Int))) : ∀ t : Int, 0 ≤ t → t < T → atB (out1.set k b) t = (atB out t || (decide (t < ((k + 1 : Nat) : Int)) && atB f t)) := by
  intro t h0 h1
  have hs := atB_set' (l := out1) (t := (k : Int)) (u := t) (by omega) (by omega) h0 b
  rw [Int.toNat_natCast] at hs
  rw [hs]
  split
  · rename_i e
    subst e
    have hi := hinv (k : Int) h0 h1
    rw [hb, hi, show decide ((k : Int) < ((k + 1 : Nat) : Int)) = true by rw [decide_eq_true_eq]; omega]
    simp
  · rename_i e
    rw [hinv t h0 h1]
    have : decide (t < ((k + 1 : Nat) : Int)) = decide (t < (k : Int)) := by
      rw [decide_eq_decide]; omega
    rw [this]

theorem rtb {v : Value} {b c : Bool} (h : b = c) : Ending.returned (.tuple #[v, .bool b]) = .returned (.tuple #[v, .bool c]) := by rw [h]

set_option maxRecDepth 20000 in
theorem begin_any (nv fv ov sv : Value) (l : List Sym) (nl : List Bool) (fs : List (List Bool)) (T : Int) (w : World) (hT0 : 0 ≤ T) (hT1 : T ≤ 9) (hs : SymsAt (Cl w) sv l) (hb : BoolsAt (Cl w) nv nl) (hf : TabAt (Cl w) fv fs) (hl : ∀ s ∈ l, s.term = false → 0 ≤ s.n ∧ s.n < (nl.length : Int)) (htm : ∀ s ∈ l, s.term = true → 0 ≤ s.n ∧ s.n < T) (hdim : Dim fs nl.length T.toNat) : Calls Try.prog 48 #[.agg #[nv, fv, ov], .int .i64 T, sv] w (fun e w' => ∃ x : Nat × List Bool, e = .returned (.tuple #[.slice (some ⟨x.1, 0, none⟩) T.toNat T.toNat, .bool (nullB nl l)]) ∧ (x.2.length = T.toNat ∧ ∀ t : Int, 0 ≤ t → t < T → atB x.2 t = begB nl fs l t) ∧ Sat (Old w) w [bools x.1 4 x.2] w') := by
  obtain ⟨a, c, rfl, hc1, hc2, hss⟩ := hs.mono old_rd
  obtain ⟨a2, c2, rfl, hd1, hd2, hbb⟩ := hb.mono old_rd
  obtain ⟨a3, c3, rfl, he1, he2, hff⟩ := hf.mono old_rd
  clear hs hb hf
  have hdl := hdim.1
  refine calls_CW Try.func48 rfl Try.ntmps48 rfl (Sat.start w) ?_
  refine CW_seq ?_
  refine CW_region ?_
  refine OW_e (e_box rfl rfl) rfl (fun b3 => ?_)
  refine OW_q (q_assign rfl) rfl ?_
  refine OW_q (q_assign rfl) rfl ?_
  refine OW_nil ?_
  refine EW_then ?_
  refine CW_seq ?_
  refine CW_region ?_
  refine OW_q (q_move rfl) rfl ?_
  refine OW_e (e_makeB Try.underlying36 Try.typeInfo4 rfl rfl (by decide) rfl rfl (by omega) (by omega)) rfl (fun b14 => ?_)
  refine OW_q (q_assign rfl) rfl ?_
  refine OW_nil ?_
  refine EW_then ?_
  refine CW_seq ?_
  refine CW_seq ?_
  refine CW_region ?_
  refine OW_q (q_move rfl) rfl ?_
  refine OW_q (q_len Try.underlying39 rfl) rfl ?_
  refine OW_q (q_move rfl) rfl ?_
  refine OW_nil ?_
  refine EW_then ?_
  refine CW_block ?_
  refine CW_loopP (ι := Nat × List Bool) (fun i_ => i_.1 ≤ l.length ∧ nullB nl (l.take i_.1) = true ∧ i_.2.length = T.toNat ∧ (∀ t : Int, 0 ≤ t → t < T → atB i_.2 t = begB nl fs (l.take i_.1) t)) (fun i_ => [(3, .pointer (some ⟨b3, 0, none⟩)), (8, .slice (some ⟨b14, 0, none⟩) T.toNat T.toNat), (15, .slice a l.length c), (16, .int .i64 (l.length : Int)), (17, .int .i64 (i_.1 : Int))]) (fun i_ => Sat (Old w) w [bools b14 4 i_.2, cel b3 53 [.slice a2 nl.length c2, .slice a3 fs.length c3, ov]]) (fun i_ => l.length - i_.1) (0, List.replicate T.toNat false) ?_ ⟨rfl, rfl, rfl, rfl, rfl, trivial⟩ (fun w hw => hw.sub (by (repeat (first | exact SubL.nil | exact Pick.head | apply Pick.tail | apply SubL.cons)))) ?_
  · exact ⟨Nat.zero_le _, rfl, List.length_replicate, fun t h0 h1 => by
      show atB (List.replicate T.toNat false) t = false
      unfold atB
      rw [List.getD_eq_getElem?_getD, List.getElem?_replicate]
      split <;> rfl⟩
  intro i_ hpre
  obtain ⟨j, out⟩ := i_
  replace hpre : j ≤ l.length ∧ nullB nl (l.take j) = true ∧ out.length = T.toNat ∧ (∀ t : Int, 0 ≤ t → t < T → atB out t = begB nl fs (l.take j) t) := hpre
  change CW _ _ _ _ [(3, .pointer (some ⟨b3, 0, none⟩)), (8, .slice (some ⟨b14, 0, none⟩) T.toNat T.toNat), (15, .slice a l.length c), (16, .int .i64 (l.length : Int)), (17, .int .i64 (j : Int))] (Sat (Old w) w [bools b14 4 out, cel b3 53 [.slice a2 nl.length c2, .slice a3 fs.length c3, ov]])
  obtain ⟨hj, hok, hlo, hinv⟩ := hpre
  refine CW_seq ?_
  refine CW_region ?_
  refine OW_q (q_lss rfl rfl) rfl ?_
  refine OW_nil ?_
  refine EW_then ?_
  refine CW_seq ?_
  refine CW_cond rfl (fun h18 => ?_) (fun h18 => ?_)
  · skip
    have hltj : j < l.length := by simpa using h18
    obtain ⟨s, hsj⟩ := get_of_lt hltj
    obtain ⟨p, rfl, hrow⟩ := hss j s hsj
    have hmem := hl s (List.mem_of_getElem? hsj)
    have hmemt := htm s (List.mem_of_getElem? hsj)
    refine CW_skip ?_
    refine EW_then ?_
    refine CW_seq ?_
    refine CW_block ?_
    refine CW_seq ?_
    refine CW_region ?_
    refine OW_q (q_indexAddr Try.underlying39 Try.sizeOf62 rfl rfl (by first | omega | assumption)) rfl ?_
    refine OW_q (q_loadN_ro Try.isAgg62 Try.sizeOf62 rfl (by first | assumption | exact Row.at_ (by assumption) rfl) (by rfl)) rfl ?_
    refine OW_e (e_alloc Try.zeroValue62 rfl) rfl (fun b10 => ?_)
    refine OW_e0 (e_storeN Try.sizeOf62 rfl rfl rfl rfl (by simp [Value.oneCell']) (by (repeat (first | exact .head | apply Swap.tail))) (by rfl)) (fun _ => ?_)
    refine OW_nil ?_
    refine EW_then ?_
    refine CW_seq ?_
    refine CW_seq ?_
    refine CW_region ?_
    refine OW_q (q_fieldAddr Try.underlying62 rfl rfl Try.sizeOf4 rfl rfl) rfl ?_
    first | (refine OW_q (q_load1_own Try.isAgg4 rfl rfl (by (repeat (first | exact .head | apply Swap.tail))) (by rfl)) rfl ?_) | (refine OW_q (q_load1_ro Try.isAgg4 rfl (by first | assumption | exact Row.at_ (by assumption) rfl)) rfl ?_)
    refine OW_nil ?_
    refine EW_then ?_
    refine CW_cond rfl (fun h22 => ?_) (fun h22 => ?_)
    · skip
      have ht : s.term = true := h22
      have hb1 := hmemt ht
      refine CW_seq ?_
      refine CW_region ?_
      refine OW_q (q_move rfl) rfl ?_
      refine OW_q (q_fieldAddr Try.underlying62 rfl rfl Try.sizeOf3 rfl rfl) rfl ?_
      first | (refine OW_q (q_load1_own Try.isAgg3 rfl rfl (by (repeat (first | exact .head | apply Swap.tail))) (by rfl)) rfl ?_) | (refine OW_q (q_load1_ro Try.isAgg3 rfl (by first | assumption | exact Row.at_ (by assumption) rfl)) rfl ?_)
      refine OW_q (q_indexAddrI Try.underlying36 Try.sizeOf4 rfl rfl (by first | omega | assumption) (by first | omega | assumption)) rfl ?_
      refine OW_e0 (e_store_bools Try.sizeOf4 rfl rfl (by (repeat (first | exact .head | apply Swap.tail))) (by omega)) (fun _ => ?_)
      refine OW_nil ?_
      refine EW_then ?_
      refine CW_seq ?_
      refine CW_region ?_
      refine OW_q (q_move rfl) rfl ?_
      refine OW_q (q_assign rfl) rfl ?_
      refine OW_q (q_assign rfl) rfl ?_
      refine OW_nil ?_
      refine EW_then ?_
      refine CW_ret ?_
      refine EW_then_ret ?_
      refine EW_block_ret ?_
      refine EW_then_ret ?_
      refine EW_out_ret ?_
      refine EW_block_ret ?_
      refine EW_then_ret ?_
      refine ret2 Try.results48 rfl rfl (fun w hw => ?_)
      refine ⟨(b14, out.set s.n.toNat true), rtb (by rw [nullB_split hsj, ht]; simp), ⟨by show (List.set _ _ _).length = _; rw [List.length_set]; exact hlo, fun t h0 h1 => ?_⟩, hw.sub (by repeat (first | exact SubL.nil | exact Pick.head | apply Pick.tail | apply SubL.cons))⟩
      show atB (out.set s.n.toNat true) t = _
      rw [begB_split hsj, atB_set' hb1.1 (by omega) h0, ht, hok, ← hinv t h0 h1]
      by_cases e : t = s.n
      · rw [if_pos e, e]; simp
      · rw [if_neg e]; simp [show ¬ s.n = t from fun h => e h.symm]
    · skip
      have ht : s.term = false := h22
      have hs1 := hmem ht
      have hcelln := atB_get hs1.1 hs1.2
      obtain ⟨qn, rfl, hqn⟩ := hbb s.n.toNat _ hcelln
      have hrow2 := row2_get (tab := fs) (n := s.n) hs1.1 (by omega)
      obtain ⟨q, rfl, rv, hq, hqb⟩ := hff s.n.toNat _ hrow2
      obtain ⟨a4, c4, rfl, hk1, hk2, hkk⟩ := hqb
      have hlen4 := hdim.row hs1.1 hs1.2
      refine CW_skip ?_
      refine EW_then ?_
      refine CW_seq ?_
      refine CW_seq ?_
      refine CW_region ?_
      refine OW_q (q_fieldAddr Try.underlying53 rfl rfl Try.sizeOf51 rfl rfl) rfl ?_
      first | (refine OW_q (q_load1_own Try.isAgg51 rfl rfl (by (repeat (first | exact .head | apply Swap.tail))) (by rfl)) rfl ?_) | (refine OW_q (q_load1_ro Try.isAgg51 rfl (by first | assumption | exact Row.at_ (by assumption) rfl)) rfl ?_)
      refine OW_q (q_fieldAddr Try.underlying62 rfl rfl Try.sizeOf3 rfl rfl) rfl ?_
      first | (refine OW_q (q_load1_own Try.isAgg3 rfl rfl (by (repeat (first | exact .head | apply Swap.tail))) (by rfl)) rfl ?_) | (refine OW_q (q_load1_ro Try.isAgg3 rfl (by first | assumption | exact Row.at_ (by assumption) rfl)) rfl ?_)
      refine OW_q (q_indexAddrI Try.underlying51 Try.sizeOf36 rfl rfl (by first | omega | assumption) (by first | omega | assumption)) rfl ?_
      refine OW_q (q_load1_ro Try.isAgg36 rfl (by first | assumption | exact Row.at_ (by assumption) rfl)) rfl ?_
      refine OW_q (q_len Try.underlying36 rfl) rfl ?_
      refine OW_q (q_move rfl) rfl ?_
      refine OW_nil ?_
      refine EW_then ?_
      refine CW_block ?_
      refine CW_loopP (ι := Nat × List Bool) (fun i_ => i_.1 ≤ T.toNat ∧ i_.2.length = T.toNat ∧ (∀ t : Int, 0 ≤ t → t < T → atB i_.2 t = (atB out t || (decide (t < (i_.1 : Int)) && atB (row2 fs s.n) t)))) (fun i_ => [(3, .pointer (some ⟨b3, 0, none⟩)), (8, .slice (some ⟨b14, 0, none⟩) T.toNat T.toNat), (10, .pointer (some ⟨b10, 0, none⟩)), (15, .slice (some p) l.length c), (16, .int .i64 (l.length : Int)), (17, .int .i64 (j : Int)), (33, .slice a4 (row2 fs s.n).length c4), (34, .int .i64 ((row2 fs s.n).length : Int)), (35, .int .i64 (i_.1 : Int))]) (fun i_ => Sat (Old w) w [bools b14 4 i_.2, cel b10 62 [vb s.term, vi s.n], cel b3 53 [.slice (some qn) nl.length c2, .slice (some q) fs.length c3, ov]]) (fun i_ => T.toNat - i_.1) (0, out) ?_ ⟨rfl, rfl, rfl, rfl, rfl, rfl, rfl, rfl, rfl, trivial⟩ (fun w hw => hw.sub (by (repeat (first | exact SubL.nil | exact Pick.head | apply Pick.tail | apply SubL.cons)))) ?_
      · exact ⟨Nat.zero_le _, hlo, fun t h0 _ => by rw [show decide (t < (((0 : Nat), out).1 : Int)) = false by rw [decide_eq_false_iff_not]; show ¬ t < 0; omega]; simp⟩
      intro i_ hpre
      obtain ⟨k, out1⟩ := i_
      replace hpre : k ≤ T.toNat ∧ out1.length = T.toNat ∧ (∀ t : Int, 0 ≤ t → t < T → atB out1 t = (atB out t || (decide (t < (k : Int)) && atB (row2 fs s.n) t))) := hpre
      change CW _ _ _ _ [(3, .pointer (some ⟨b3, 0, none⟩)), (8, .slice (some ⟨b14, 0, none⟩) T.toNat T.toNat), (10, .pointer (some ⟨b10, 0, none⟩)), (15, .slice (some p) l.length c), (16, .int .i64 (l.length : Int)), (17, .int .i64 (j : Int)), (33, .slice a4 (row2 fs s.n).length c4), (34, .int .i64 ((row2 fs s.n).length : Int)), (35, .int .i64 (k : Int))] (Sat (Old w) w [bools b14 4 out1, cel b10 62 [vb s.term, vi s.n], cel b3 53 [.slice (some qn) nl.length c2, .slice (some q) fs.length c3, ov]])
      obtain ⟨hk, hlo1, hinv1⟩ := hpre
      refine CW_seq ?_
      refine CW_region ?_
      refine OW_q (q_lss rfl rfl) rfl ?_
      refine OW_nil ?_
      refine EW_then ?_
      refine CW_seq ?_
      refine CW_cond rfl (fun h36 => ?_) (fun h36 => ?_)
      · skip
        have hltk : k < (row2 fs s.n).length := by simpa using h36
        have hcf := atB_get (is := row2 fs s.n) (n := (k : Int)) (by omega) (by omega)
        rw [Int.toNat_natCast] at hcf
        have hco := atB_get (is := out1) (n := (k : Int)) (by omega) (by omega)
        rw [Int.toNat_natCast] at hco
        obtain ⟨q4, rfl, hq4⟩ := hkk k _ hcf
        refine CW_skip ?_
        refine EW_then ?_
        refine CW_seq ?_
        refine CW_block ?_
        refine CW_seq ?_
        refine CW_region ?_
        refine OW_q (q_move rfl) rfl ?_
        refine OW_q (q_indexAddr Try.underlying36 Try.sizeOf4 rfl rfl (by first | omega | assumption)) rfl ?_
        refine OW_q (q_load1_ro Try.isAgg4 rfl (by first | assumption | exact Row.at_ (by assumption) rfl)) rfl ?_
        refine OW_q (q_assign rfl) rfl ?_
        refine OW_q (q_assign rfl) rfl ?_
        refine OW_nil ?_
        refine EW_then ?_
        refine CW_region ?_
        refine OW_q (q_move rfl) rfl ?_
        refine OW_q (q_move rfl) rfl ?_
        refine OW_q (q_move rfl) rfl ?_
        refine OW_q (q_move rfl) rfl ?_
        refine OW_q (q_indexAddr Try.underlying36 Try.sizeOf4 rfl rfl (by first | omega | assumption)) rfl ?_
        refine OW_q (q_load_bools Try.isAgg4 rfl (by (repeat (first | exact .head | apply Swap.tail))) (by assumption)) rfl ?_
        refine OW_q (q_move rfl) rfl ?_
        refine OW_part (t := 46) rfl (fun hg46 => ?_) (fun hg46 => ?_)
        · skip
          refine OW_skip rfl rfl rfl rfl ?_
          refine OW_q (q_pick_t rfl rfl) rfl ?_
          refine OW_q (q_indexAddr Try.underlying36 Try.sizeOf4 rfl rfl (by first | omega | assumption)) rfl ?_
          refine OW_e0 (e_store_bools Try.sizeOf4 rfl rfl (by (repeat (first | exact .head | apply Swap.tail))) (by omega)) (fun _ => ?_)
          refine OW_nil ?_
          refine EW_block_normal ?_
          refine EW_then ?_
          refine CW_region ?_
          first | refine OW_q (q_inc rfl rfl (by omega)) rfl ?_ | refine OW_q (q_add rfl rfl (by omega) (by omega)) rfl ?_
          refine OW_q (q_move rfl) rfl ?_
          refine OW_nil ?_
          refine EW_again ((k + 1, out1.set k true)) ⟨?_, ?_⟩ ⟨rfl, rfl, rfl, rfl, rfl, rfl, rfl, rfl, rfl, trivial⟩ (fun w hw => hw.sub (by (repeat (first | exact SubL.nil | exact Pick.head | apply Pick.tail | apply SubL.cons))))
          · show T.toNat - (k + 1) < T.toNat - k; omega
          · exact ⟨by show k + 1 ≤ _; omega, by show (List.set _ _ _).length = _; rw [List.length_set]; exact hlo1, or_step (by omega) hlo1 hinv1 (by rw [hg46]; rfl)⟩
        · skip
          refine OW_wanted rfl rfl rfl ?_
          refine OW_q (q_move rfl) rfl ?_
          refine OW_q (q_pick_f rfl rfl) rfl ?_
          refine OW_q (q_indexAddr Try.underlying36 Try.sizeOf4 rfl rfl (by first | omega | assumption)) rfl ?_
          refine OW_e0 (e_store_bools Try.sizeOf4 rfl rfl (by (repeat (first | exact .head | apply Swap.tail))) (by omega)) (fun _ => ?_)
          refine OW_nil ?_
          refine EW_block_normal ?_
          refine EW_then ?_
          refine CW_region ?_
          first | refine OW_q (q_inc rfl rfl (by omega)) rfl ?_ | refine OW_q (q_add rfl rfl (by omega) (by omega)) rfl ?_
          refine OW_q (q_move rfl) rfl ?_
          refine OW_nil ?_
          refine EW_again ((k + 1, out1.set k (atB (row2 fs s.n) (k : Int)))) ⟨?_, ?_⟩ ⟨rfl, rfl, rfl, rfl, rfl, rfl, rfl, rfl, rfl, trivial⟩ (fun w hw => hw.sub (by (repeat (first | exact SubL.nil | exact Pick.head | apply Pick.tail | apply SubL.cons))))
          · show T.toNat - (k + 1) < T.toNat - k; omega
          · exact ⟨by show k + 1 ≤ _; omega, by show (List.set _ _ _).length = _; rw [List.length_set]; exact hlo1, or_step (by omega) hlo1 hinv1 (by rw [hg46]; rfl)⟩
      · skip
        have hek : ¬ k < (row2 fs s.n).length := by simpa using h36
        refine CW_exit ?_
        refine EW_then_exit ?_
        refine EW_out ?_
        refine EW_block_exit ?_
        refine EW_then ?_
        refine CW_seq ?_
        refine CW_region ?_
        refine OW_q (q_fieldAddr Try.underlying53 rfl rfl Try.sizeOf36 rfl rfl) rfl ?_
        first | (refine OW_q (q_load1_own Try.isAgg36 rfl rfl (by (repeat (first | exact .head | apply Swap.tail))) (by rfl)) rfl ?_) | (refine OW_q (q_load1_ro Try.isAgg36 rfl (by first | assumption | exact Row.at_ (by assumption) rfl)) rfl ?_)
        refine OW_q (q_fieldAddr Try.underlying62 rfl rfl Try.sizeOf3 rfl rfl) rfl ?_
        first | (refine OW_q (q_load1_own Try.isAgg3 rfl rfl (by (repeat (first | exact .head | apply Swap.tail))) (by rfl)) rfl ?_) | (refine OW_q (q_load1_ro Try.isAgg3 rfl (by first | assumption | exact Row.at_ (by assumption) rfl)) rfl ?_)
        refine OW_q (q_indexAddrI Try.underlying36 Try.sizeOf4 rfl rfl (by first | omega | assumption) (by first | omega | assumption)) rfl ?_
        refine OW_q (q_load1_ro Try.isAgg4 rfl (by first | assumption | exact Row.at_ (by assumption) rfl)) rfl ?_
        refine OW_q (q_not rfl) rfl ?_
        refine OW_nil ?_
        refine EW_then ?_
        refine CW_cond rfl (fun h57 => ?_) (fun h57 => ?_)
        · skip
          refine CW_seq ?_
          refine CW_region ?_
          refine OW_q (q_move rfl) rfl ?_
          refine OW_q (q_assign rfl) rfl ?_
          refine OW_q (q_assign rfl) rfl ?_
          refine OW_nil ?_
          refine EW_then ?_
          refine CW_ret ?_
          refine EW_block_ret ?_
          refine EW_then_ret ?_
          refine EW_out_ret ?_
          refine EW_block_ret ?_
          refine EW_then_ret ?_
          refine ret2 Try.results48 rfl rfl (fun w hw => ?_)
          have hnl : atB nl s.n = false := by simpa using h57
          refine ⟨(b14, out1), rtb (by rw [nullB_split hsj, hnl]; simp), ⟨hlo1, fun t h0 h1 => ?_⟩, hw.sub (by repeat (first | exact SubL.nil | exact Pick.head | apply Pick.tail | apply SubL.cons))⟩
          show atB out1 t = _
          rw [begB_split hsj, hnl, ht, hok, hinv1 t h0 h1, hinv t h0 h1, show decide (t < (k : Int)) = true by rw [decide_eq_true_eq]; omega]
          simp [at2]
        · skip
          refine CW_skip ?_
          refine EW_block_normal ?_
          refine EW_then ?_
          refine CW_region ?_
          first | refine OW_q (q_inc rfl rfl (by omega)) rfl ?_ | refine OW_q (q_add rfl rfl (by omega) (by omega)) rfl ?_
          refine OW_q (q_move rfl) rfl ?_
          refine OW_nil ?_
          refine EW_again ((j + 1, out1)) ⟨?_, ?_⟩ ⟨rfl, rfl, rfl, rfl, rfl, trivial⟩ (fun w hw => hw.sub (by (repeat (first | exact SubL.nil | exact Pick.head | apply Pick.tail | apply SubL.cons))))
          · show l.length - (j + 1) < l.length - j; omega
          · have hnl : atB nl s.n = true := by simpa using h57
            refine ⟨by show j + 1 ≤ _; omega, by show nullB nl (l.take (j + 1)) = true; rw [nullB_take hsj, hok, ht, hnl]; rfl, hlo1, fun t h0 h1 => ?_⟩
            show atB out1 t = begB nl fs (l.take (j + 1)) t
            rw [begB_take hsj, hok, ht, hinv1 t h0 h1, hinv t h0 h1, show decide (t < (k : Int)) = true by rw [decide_eq_true_eq]; omega]
            simp [at2]
  · skip
    have hend := take_all (l := l) (k := j) (by simpa using h18)
    rw [hend] at hok hinv
    refine CW_exit ?_
    refine EW_then_exit ?_
    refine EW_out ?_
    refine EW_block_exit ?_
    refine EW_then ?_
    refine CW_seq ?_
    refine CW_region ?_
    refine OW_q (q_move rfl) rfl ?_
    refine OW_q (q_assign rfl) rfl ?_
    refine OW_q (q_assign rfl) rfl ?_
    refine OW_nil ?_
    refine EW_then ?_
    refine CW_ret ?_
    refine ret2 Try.results48 rfl rfl (fun w hw => ?_)
    exact ⟨(b14, out), rtb hok.symm, ⟨hlo, hinv⟩, hw.sub (by repeat (first | exact SubL.nil | exact Pick.head | apply Pick.tail | apply SubL.cons))⟩

end Go.Sy
