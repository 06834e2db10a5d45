/- Package reach: the walks of what makes and what comes. No condition. -/
import Derived.Test.YteceklkjbcebkabW1
import Derived.Test.YteceklkjbcebkabPReach
import Derived.Test.YteceklkjbcebkabSyu
namespace Go.Sy
open Go Go.RowKit Go.Proofs

set_option maxRecDepth 20000 in
theorem rall_any (sv bv : Value) (l : List Sym) (is : List Bool) (w : World) (hs : SymsAt (Cl w) sv l) (hb : BoolsAt (Cl w) bv is) (hl : ∀ s ∈ l, s.term = false → 0 ≤ s.n ∧ s.n < (is.length : Int)) : Calls Try.prog 72 #[sv, bv] w (fun e w' => e = .returned (.bool (allB is l)) ∧ Sat (Old w) w [] w') := by
  obtain ⟨a, c, rfl, hc1, hc2, hss⟩ := hs.mono old_rd
  obtain ⟨a2, c2, rfl, hd1, hd2, hbb⟩ := hb.mono old_rd
  clear hs hb
  refine calls_CW Try.func72 rfl Try.ntmps72 rfl (Sat.start w) ?_
  refine CW_seq ?_
  refine CW_region ?_
  refine OW_q (q_assign rfl) rfl ?_
  refine OW_nil ?_
  refine EW_then ?_
  refine CW_seq ?_
  refine CW_seq ?_
  refine CW_region ?_
  refine OW_q (q_move rfl) rfl ?_
  refine OW_q (q_len Try.underlying46 rfl) rfl ?_
  refine OW_q (q_move rfl) rfl ?_
  refine OW_nil ?_
  refine EW_then ?_
  refine CW_block ?_
  refine CW_loopP (ι := Nat) (fun j => j ≤ l.length ∧ allB is (l.take j) = true) (fun j => [(1, .slice a2 is.length c2), (7, .slice a l.length c), (8, .int .i64 (l.length : Int)), (9, .int .i64 (j : Int))]) (fun j => Sat (Old w) w []) (fun j => l.length - j) 0 ?_ ⟨rfl, rfl, rfl, rfl, trivial⟩ (fun w hw => hw.sub (by (repeat (first | exact SubL.nil | exact Pick.head | apply Pick.tail | apply SubL.cons)))) ?_
  · exact ⟨Nat.zero_le _, rfl⟩
  intro j hpre
  change CW _ _ _ _ [(1, .slice a2 is.length c2), (7, .slice a l.length c), (8, .int .i64 (l.length : Int)), (9, .int .i64 (j : Int))] (Sat (Old w) w [])
  obtain ⟨hj, hok⟩ := hpre
  refine CW_seq ?_
  refine CW_region ?_
  refine OW_q (q_lss rfl rfl) rfl ?_
  refine OW_nil ?_
  refine EW_then ?_
  refine CW_seq ?_
  refine CW_cond rfl (fun h10 => ?_) (fun h10 => ?_)
  · skip
    have hltj : j < l.length := by simpa using h10
    obtain ⟨s, hsj⟩ := get_of_lt hltj
    obtain ⟨p, rfl, hrow⟩ := hss j s hsj
    have hmem := hl s (List.mem_of_getElem? hsj)
    refine CW_skip ?_
    refine EW_then ?_
    refine CW_seq ?_
    refine CW_block ?_
    refine CW_seq ?_
    refine CW_region ?_
    refine OW_q (q_indexAddr Try.underlying46 Try.sizeOf51 rfl rfl (by first | omega | assumption)) rfl ?_
    refine OW_q (q_loadN_ro Try.isAgg51 Try.sizeOf51 rfl (by first | assumption | exact Row.at_ (by assumption) rfl) (by rfl)) rfl ?_
    refine OW_e (e_alloc Try.zeroValue51 rfl) rfl (fun b6 => ?_)
    refine OW_e0 (e_storeN Try.sizeOf51 rfl rfl rfl rfl (by simp [Value.oneCell']) (by (repeat (first | exact .head | apply Swap.tail))) (by rfl)) (fun _ => ?_)
    refine OW_nil ?_
    refine EW_then ?_
    refine CW_seq ?_
    refine CW_region ?_
    refine OW_q (q_fieldAddr Try.underlying51 rfl rfl Try.sizeOf4 rfl rfl) rfl ?_
    first | (refine OW_q (q_load1_own Try.isAgg4 rfl rfl (by (repeat (first | exact .head | apply Swap.tail))) (by rfl)) rfl ?_) | (refine OW_q (q_load1_ro Try.isAgg4 rfl (by first | assumption | exact Row.at_ (by assumption) rfl)) rfl ?_)
    refine OW_q (q_not rfl) rfl ?_
    refine OW_q (q_move rfl) rfl ?_
    refine OW_part (t := 16) rfl (fun hg16 => ?_) (fun hg16 => ?_)
    · skip
      have ht : s.term = false := by simpa using hg16
      have hs1 := hmem ht
      have hcell := atB_get hs1.1 hs1.2
      obtain ⟨q, rfl, hq⟩ := hbb s.n.toNat _ hcell
      refine OW_wanted rfl rfl rfl ?_
      refine OW_q (q_move rfl) rfl ?_
      refine OW_wanted rfl rfl rfl ?_
      refine OW_q (q_fieldAddr Try.underlying51 rfl rfl Try.sizeOf3 rfl rfl) rfl ?_
      refine OW_wanted rfl rfl rfl ?_
      first | (refine OW_q (q_load1_own Try.isAgg3 rfl rfl (by (repeat (first | exact .head | apply Swap.tail))) (by rfl)) rfl ?_) | (refine OW_q (q_load1_ro Try.isAgg3 rfl (by first | assumption | exact Row.at_ (by assumption) rfl)) rfl ?_)
      refine OW_wanted rfl rfl rfl ?_
      refine OW_q (q_indexAddrI Try.underlying54 Try.sizeOf4 rfl rfl (by first | omega | assumption) (by first | omega | assumption)) rfl ?_
      refine OW_wanted rfl rfl rfl ?_
      refine OW_q (q_load1_ro Try.isAgg4 rfl (by first | assumption | exact Row.at_ (by assumption) rfl)) rfl ?_
      refine OW_wanted rfl rfl rfl ?_
      refine OW_q (q_not rfl) rfl ?_
      refine OW_q (q_pick_t rfl rfl) rfl ?_
      refine OW_nil ?_
      refine EW_then ?_
      refine CW_cond rfl (fun h23 => ?_) (fun h23 => ?_)
      · skip
        refine CW_seq ?_
        refine CW_region ?_
        refine OW_q (q_assign rfl) rfl ?_
        refine OW_nil ?_
        refine EW_then ?_
        refine CW_ret ?_
        refine EW_block_ret ?_
        refine EW_then_ret ?_
        refine EW_out_ret ?_
        refine EW_block_ret ?_
        refine EW_then_ret ?_
        refine ret1 Try.results72 rfl (fun w hw => ?_)
        refine ⟨rf fun hm => ?_, hw.sub .nil⟩
        have := allB_iff.1 hm s (List.mem_of_getElem? hsj) ht
        rw [this] at h23
        cases h23
      · skip
        refine CW_skip ?_
        refine EW_block_normal ?_
        refine EW_then ?_
        refine CW_region ?_
        first | refine OW_q (q_inc rfl rfl (by omega)) rfl ?_ | refine OW_q (q_add rfl rfl (by omega) (by omega)) rfl ?_
        refine OW_q (q_move rfl) rfl ?_
        refine OW_nil ?_
        refine EW_again (j + 1) ⟨?_, ?_⟩ ⟨rfl, rfl, rfl, rfl, trivial⟩ (fun w hw => hw.sub (by (repeat (first | exact SubL.nil | exact Pick.head | apply Pick.tail | apply SubL.cons))))
        · show l.length - (j + 1) < l.length - j; omega
        · refine ⟨by omega, ?_⟩
          unfold allB at hok ⊢
          rw [all_take_succ _ hsj, hok]
          simp only [Bool.true_and]
          first | (simp_all; done) | (simp at h23; simp [h23])
    · skip
      have ht : s.term = true := by simpa using hg16
      refine OW_skip rfl rfl rfl rfl ?_
      refine OW_skip rfl rfl rfl rfl ?_
      refine OW_skip rfl rfl rfl rfl ?_
      refine OW_skip rfl rfl rfl rfl ?_
      refine OW_skip rfl rfl rfl rfl ?_
      refine OW_skip rfl rfl rfl rfl ?_
      refine OW_q (q_pick_f rfl rfl) rfl ?_
      refine OW_nil ?_
      refine EW_then ?_
      refine CW_false rfl rfl ?_
      refine CW_skip ?_
      refine EW_block_normal ?_
      refine EW_then ?_
      refine CW_region ?_
      first | refine OW_q (q_inc rfl rfl (by omega)) rfl ?_ | refine OW_q (q_add rfl rfl (by omega) (by omega)) rfl ?_
      refine OW_q (q_move rfl) rfl ?_
      refine OW_nil ?_
      refine EW_again (j + 1) ⟨?_, ?_⟩ ⟨rfl, rfl, rfl, rfl, trivial⟩ (fun w hw => hw.sub (by (repeat (first | exact SubL.nil | exact Pick.head | apply Pick.tail | apply SubL.cons))))
      · show l.length - (j + 1) < l.length - j; omega
      · refine ⟨by omega, ?_⟩
        unfold allB at hok ⊢
        rw [all_take_succ _ hsj, hok]
        simp only [Bool.true_and]
        first | (simp_all; done) | (simp at h23; simp [h23])
  · skip
    have hend := take_all (l := l) (k := j) (by simpa using h10)
    rw [hend] at hok
    refine CW_exit ?_
    refine EW_then_exit ?_
    refine EW_out ?_
    refine EW_block_exit ?_
    refine EW_then ?_
    refine CW_seq ?_
    refine CW_region ?_
    refine OW_q (q_assign rfl) rfl ?_
    refine OW_nil ?_
    refine EW_then ?_
    refine CW_ret ?_
    refine ret1 Try.results72 rfl (fun w hw => ?_)
    exact ⟨rt hok, hw.sub .nil⟩

set_option maxRecDepth 20000 in
theorem makes1_any (g : Gram) (r : Rule) (rv : Value) (N : Nat) (hN : N ≤ 12) (hl0 : 0 ≤ r.left) (hl1 : r.left < (N : Int)) (hsn : ∀ s ∈ r.right, s.term = false → 0 ≤ s.n ∧ s.n < (N : Int)) (hmem : r ∈ g.rules) (R : Nat → Prop) (w0 w : World) (F : HP) (hr : SymsAt (Rd R w0) rv r.right) (b4 bs : Nat) (is : List Bool) (hlen : is.length = N) (hleast : LeastM g is) (hw : Sat R w0 [bools bs 4 is, cel b4 54 [.slice (some ⟨bs, 0, none⟩) N N], F] w) : Calls Try.prog 71 #[.agg #[.int .i64 r.left, rv], .pointer (some ⟨b4, 0, none⟩)] w (fun e w' => ∃ y : Bool × List Bool, e = .returned (.bool y.1) ∧ (y.2.length = N ∧ LeastM g y.2 ∧ (y.1 = false → y.2 = is ∧ (allB is r.right = true → atB is r.left = true)) ∧ (y.1 = true → fls y.2 < fls is)) ∧ Sat R w0 [bools bs 4 y.2, cel b4 54 [.slice (some ⟨bs, 0, none⟩) N N], F] w') := by
  obtain ⟨a2, c2, rfl, hd1, hd2, hss⟩ := id hr
  have hcell := atB_get (is := is) hl0 (by omega)
  refine calls_CW (S := Sat R w0 [bools bs 4 is, cel b4 54 [.slice (some ⟨bs, 0, none⟩) N N], F]) Try.func71 rfl Try.ntmps71 rfl (hw) ?_
  refine CW_seq ?_
  refine CW_region ?_
  refine OW_e (e_box rfl rfl) rfl (fun b2 => ?_)
  refine OW_q (q_assign rfl) rfl ?_
  refine OW_nil ?_
  refine EW_then ?_
  refine CW_seq ?_
  refine CW_seq ?_
  refine CW_region ?_
  first | (refine OW_q (q_load1_own Try.isAgg54 rfl rfl (by (repeat (first | exact .head | apply Swap.tail))) (by rfl)) rfl ?_) | (refine OW_q (q_load1_ro Try.isAgg54 rfl (by first | assumption | exact Row.at_ (by assumption) rfl)) rfl ?_)
  refine OW_q (q_fieldAddr Try.underlying49 rfl rfl Try.sizeOf3 rfl rfl) rfl ?_
  first | (refine OW_q (q_load1_own Try.isAgg3 rfl rfl (by (repeat (first | exact .head | apply Swap.tail))) (by rfl)) rfl ?_) | (refine OW_q (q_load1_ro Try.isAgg3 rfl (by first | assumption | exact Row.at_ (by assumption) rfl)) rfl ?_)
  refine OW_q (q_indexAddrI Try.underlying54 Try.sizeOf4 rfl rfl (by first | omega | assumption) (by first | omega | assumption)) rfl ?_
  refine OW_q (q_load_bools Try.isAgg4 rfl (by (repeat (first | exact .head | apply Swap.tail))) (by assumption)) rfl ?_
  refine OW_q (q_move rfl) rfl ?_
  refine OW_part (t := 9) rfl (fun hg9 => ?_) (fun hg9 => ?_)
  · skip
    refine OW_skip rfl rfl rfl rfl ?_
    refine OW_skip rfl rfl rfl rfl ?_
    refine OW_skip rfl rfl rfl rfl ?_
    refine OW_skip rfl rfl rfl rfl ?_
    refine OW_skip rfl rfl rfl rfl ?_
    refine OW_q (q_pick_t rfl rfl) rfl ?_
    refine OW_nil ?_
    refine EW_then ?_
    refine CW_true rfl rfl ?_
    refine CW_seq ?_
    refine CW_region ?_
    refine OW_q (q_assign rfl) rfl ?_
    refine OW_nil ?_
    refine EW_then ?_
    refine CW_ret ?_
    refine EW_then_ret ?_
    refine ret1 Try.results71 rfl (fun w hw => ?_)
    exact ⟨(false, is), rfl, ⟨hlen, hleast, fun _ => ⟨rfl, fun _ => hg9⟩, fun h => by cases h⟩, hw.sub (by repeat (first | exact SubL.nil | exact Pick.head | apply Pick.tail | apply SubL.cons))⟩
  · skip
    refine OW_wanted rfl rfl rfl ?_
    refine OW_q (q_fieldAddr Try.underlying49 rfl rfl Try.sizeOf46 rfl rfl) rfl ?_
    refine OW_wanted rfl rfl rfl ?_
    first | (refine OW_q (q_load1_own Try.isAgg46 rfl rfl (by (repeat (first | exact .head | apply Swap.tail))) (by rfl)) rfl ?_) | (refine OW_q (q_load1_ro Try.isAgg46 rfl (by first | assumption | exact Row.at_ (by assumption) rfl)) rfl ?_)
    refine OW_wanted rfl rfl rfl ?_
    first | (refine OW_q (q_load1_own Try.isAgg54 rfl rfl (by (repeat (first | exact .head | apply Swap.tail))) (by rfl)) rfl ?_) | (refine OW_q (q_load1_ro Try.isAgg54 rfl (by first | assumption | exact Row.at_ (by assumption) rfl)) rfl ?_)
    refine OW_wanted rfl rfl rfl ?_
    refine OW_e (e_call Try.call72 rfl (fun w hw => lift_ro (rall_any _ _ r.right is w (hr.mono hw.rd_cl) (hw.boolsAt (A' := bools 0 0 []) (by repeat (first | exact .head | apply Swap.tail)) hlen (Nat.le_refl _) (by omega)) (fun s hs ht => by have := hsn s hs ht; omega)) hw)) rfl (fun x13 => ?_)
    refine OW_wanted rfl rfl rfl ?_
    refine OW_q (q_not rfl) rfl ?_
    refine OW_q (q_pick_f rfl rfl) rfl ?_
    refine OW_nil ?_
    refine EW_then ?_
    refine CW_cond rfl (fun h15 => ?_) (fun h15 => ?_)
    · skip
      refine CW_seq ?_
      refine CW_region ?_
      refine OW_q (q_assign rfl) rfl ?_
      refine OW_nil ?_
      refine EW_then ?_
      refine CW_ret ?_
      refine EW_then_ret ?_
      refine ret1 Try.results71 rfl (fun w hw => ?_)
      have ha : allB is r.right = false := by simpa using h15
      exact ⟨(false, is), rfl, ⟨hlen, hleast, fun _ => ⟨rfl, fun h => by rw [ha] at h; cases h⟩, fun h => by cases h⟩, hw.sub (by repeat (first | exact SubL.nil | exact Pick.head | apply Pick.tail | apply SubL.cons))⟩
    · skip
      refine CW_skip ?_
      refine EW_then ?_
      refine CW_seq ?_
      refine CW_region ?_
      first | (refine OW_q (q_load1_own Try.isAgg54 rfl rfl (by (repeat (first | exact .head | apply Swap.tail))) (by rfl)) rfl ?_) | (refine OW_q (q_load1_ro Try.isAgg54 rfl (by first | assumption | exact Row.at_ (by assumption) rfl)) rfl ?_)
      refine OW_q (q_fieldAddr Try.underlying49 rfl rfl Try.sizeOf3 rfl rfl) rfl ?_
      first | (refine OW_q (q_load1_own Try.isAgg3 rfl rfl (by (repeat (first | exact .head | apply Swap.tail))) (by rfl)) rfl ?_) | (refine OW_q (q_load1_ro Try.isAgg3 rfl (by first | assumption | exact Row.at_ (by assumption) rfl)) rfl ?_)
      refine OW_q (q_indexAddrI Try.underlying54 Try.sizeOf4 rfl rfl (by first | omega | assumption) (by first | omega | assumption)) rfl ?_
      refine OW_e0 (e_store_bools Try.sizeOf4 rfl rfl (by (repeat (first | exact .head | apply Swap.tail))) (by omega)) (fun _ => ?_)
      refine OW_nil ?_
      refine EW_then ?_
      refine CW_seq ?_
      refine CW_region ?_
      refine OW_q (q_assign rfl) rfl ?_
      refine OW_nil ?_
      refine EW_then ?_
      refine CW_ret ?_
      refine ret1 Try.results71 rfl (fun w hw => ?_)
      have ha : allB is r.right = true := by simpa using h15
      exact ⟨(true, is.set r.left.toNat true), rfl, ⟨by simpa using hlen, leastM_set hleast hmem hl0 (fun s hs ht => (hsn s hs ht).1) ha, fun h => (by cases h), fun _ => fls_set (by rw [hcell, hg9])⟩, hw.sub (by repeat (first | exact SubL.nil | exact Pick.head | apply Pick.tail | apply SubL.cons))⟩

set_option maxRecDepth 20000 in
theorem comes1_any (g : Gram) (r : Rule) (rv : Value) (N : Nat) (hN : N ≤ 12) (hl0 : 0 ≤ r.left) (hl1 : r.left < (N : Int)) (hsn : ∀ s ∈ r.right, s.term = false → 0 ≤ s.n ∧ s.n < (N : Int)) (hmem : r ∈ g.rules) (R : Nat → Prop) (w0 w : World) (F : HP) (hr : SymsAt (Rd R w0) rv r.right) (b1 b2 bs bm : Nat) (is m : List Bool) (hlen : is.length = N) (hlm : m.length = N) (hleast : LeastC g m is) (hw : Sat R w0 [bools bs 4 is, cel b1 54 [.slice (some ⟨bs, 0, none⟩) N N], cel b2 54 [.slice (some ⟨bm, 0, none⟩) N N], bools bm 4 m, F] w) : Calls Try.prog 73 #[.agg #[.int .i64 r.left, rv], .pointer (some ⟨b1, 0, none⟩), .pointer (some ⟨b2, 0, none⟩)] w (fun e w' => ∃ y : Bool × List Bool, e = .returned (.bool y.1) ∧ (y.2.length = N ∧ LeastC g m y.2 ∧ (y.1 = false → y.2 = is ∧ (atB is r.left = true → allB m r.right = true → ∀ s ∈ r.right, s.term = false → atB is s.n = true)) ∧ (y.1 = true → fls y.2 < fls is) ∧ (∀ n, atB is n = true → atB y.2 n = true)) ∧ Sat R w0 [bools bs 4 y.2, cel b1 54 [.slice (some ⟨bs, 0, none⟩) N N], cel b2 54 [.slice (some ⟨bm, 0, none⟩) N N], bools bm 4 m, F] w') := by
  obtain ⟨a2, c2, rfl, hd1, hd2, hss⟩ := id hr
  refine calls_CW (S := Sat R w0 [bools bs 4 is, cel b1 54 [.slice (some ⟨bs, 0, none⟩) N N], cel b2 54 [.slice (some ⟨bm, 0, none⟩) N N], bools bm 4 m, F]) Try.func73 rfl Try.ntmps73 rfl (hw) ?_
  refine CW_seq ?_
  refine CW_region ?_
  refine OW_e (e_box rfl rfl) rfl (fun b3 => ?_)
  refine OW_q (q_assign rfl) rfl ?_
  refine OW_nil ?_
  refine EW_then ?_
  refine CW_seq ?_
  refine CW_region ?_
  refine OW_q (q_assign rfl) rfl ?_
  refine OW_nil ?_
  refine EW_then ?_
  refine CW_seq ?_
  refine CW_seq ?_
  refine CW_region ?_
  refine OW_q (q_fieldAddr Try.underlying49 rfl rfl Try.sizeOf46 rfl rfl) rfl ?_
  first | (refine OW_q (q_load1_own Try.isAgg46 rfl rfl (by (repeat (first | exact .head | apply Swap.tail))) (by rfl)) rfl ?_) | (refine OW_q (q_load1_ro Try.isAgg46 rfl (by first | assumption | exact Row.at_ (by assumption) rfl)) rfl ?_)
  refine OW_q (q_len Try.underlying46 rfl) rfl ?_
  refine OW_q (q_move rfl) rfl ?_
  refine OW_nil ?_
  refine EW_then ?_
  refine CW_block ?_
  refine CW_loopP (ι := Nat × Bool × List Bool) (fun i_ => i_.1 ≤ r.right.length ∧ i_.2.2.length = N ∧ LeastC g m i_.2.2 ∧ (i_.2.1 = false → i_.2.2 = is ∧ (atB is r.left = true → allB m r.right = true → ∀ s ∈ r.right.take i_.1, s.term = false → atB is s.n = true)) ∧ (i_.2.1 = true → fls i_.2.2 < fls is) ∧ (∀ n, atB is n = true → atB i_.2.2 n = true)) (fun i_ => [(1, .pointer (some ⟨b1, 0, none⟩)), (2, .pointer (some ⟨b2, 0, none⟩)), (3, .pointer (some ⟨b3, 0, none⟩)), (5, .bool i_.2.1), (9, .slice a2 r.right.length c2), (10, .int .i64 (r.right.length : Int)), (11, .int .i64 (i_.1 : Int))]) (fun i_ => Sat R w0 [bools bs 4 i_.2.2, cel b1 54 [.slice (some ⟨bs, 0, none⟩) N N], cel b2 54 [.slice (some ⟨bm, 0, none⟩) N N], bools bm 4 m, F, cel b3 49 [.int .i64 r.left, .slice a2 r.right.length c2]]) (fun i_ => r.right.length - i_.1) (0, false, is) ?_ ⟨rfl, rfl, rfl, rfl, rfl, rfl, rfl, trivial⟩ (fun w hw => hw.sub (by (repeat (first | exact SubL.nil | exact Pick.head | apply Pick.tail | apply SubL.cons)))) ?_
  · exact ⟨Nat.zero_le _, hlen, hleast, (fun _ => ⟨rfl, fun _ _ s hs => by simp at hs⟩), (fun h => by cases h), fun _ h => h⟩
  intro i_ hpre
  obtain ⟨j, gr, is1⟩ := i_
  replace hpre : j ≤ r.right.length ∧ is1.length = N ∧ LeastC g m is1 ∧ (gr = false → is1 = is ∧ (atB is r.left = true → allB m r.right = true → ∀ s ∈ r.right.take j, s.term = false → atB is s.n = true)) ∧ (gr = true → fls is1 < fls is) ∧ (∀ n, atB is n = true → atB is1 n = true) := hpre
  change CW _ _ _ _ [(1, .pointer (some ⟨b1, 0, none⟩)), (2, .pointer (some ⟨b2, 0, none⟩)), (3, .pointer (some ⟨b3, 0, none⟩)), (5, .bool gr), (9, .slice a2 r.right.length c2), (10, .int .i64 (r.right.length : Int)), (11, .int .i64 (j : Int))] (Sat R w0 [bools bs 4 is1, cel b1 54 [.slice (some ⟨bs, 0, none⟩) N N], cel b2 54 [.slice (some ⟨bm, 0, none⟩) N N], bools bm 4 m, F, cel b3 49 [.int .i64 r.left, .slice a2 r.right.length c2]])
  obtain ⟨hj, hlen1, hleast1, h1, h2, hmono⟩ := hpre
  have hcl := atB_get (is := is1) hl0 (by omega)
  refine CW_seq ?_
  refine CW_region ?_
  refine OW_q (q_lss rfl rfl) rfl ?_
  refine OW_nil ?_
  refine EW_then ?_
  refine CW_seq ?_
  refine CW_cond rfl (fun h12 => ?_) (fun h12 => ?_)
  · skip
    have hltj : j < r.right.length := by simpa using h12
    obtain ⟨s, hsj⟩ := get_of_lt hltj
    obtain ⟨p, rfl, hrow⟩ := hss j s hsj
    have hsm := List.mem_of_getElem? hsj
    have hmem1 := hsn s hsm
    refine CW_skip ?_
    refine EW_then ?_
    refine CW_seq ?_
    refine CW_block ?_
    refine CW_seq ?_
    refine CW_region ?_
    refine OW_q (q_indexAddr Try.underlying46 Try.sizeOf51 rfl rfl (by first | omega | assumption)) rfl ?_
    refine OW_q (q_loadN_ro Try.isAgg51 Try.sizeOf51 rfl (by first | assumption | exact Row.at_ (by assumption) rfl) (by rfl)) rfl ?_
    refine OW_e (e_alloc Try.zeroValue51 rfl) rfl (fun b7 => ?_)
    refine OW_e0 (e_storeN Try.sizeOf51 rfl rfl rfl rfl (by simp [Value.oneCell']) (by (repeat (first | exact .head | apply Swap.tail))) (by rfl)) (fun _ => ?_)
    refine OW_nil ?_
    refine EW_then ?_
    refine CW_seq ?_
    refine CW_region ?_
    first | (refine OW_q (q_load1_own Try.isAgg54 rfl rfl (by (repeat (first | exact .head | apply Swap.tail))) (by rfl)) rfl ?_) | (refine OW_q (q_load1_ro Try.isAgg54 rfl (by first | assumption | exact Row.at_ (by assumption) rfl)) rfl ?_)
    refine OW_q (q_fieldAddr Try.underlying49 rfl rfl Try.sizeOf3 rfl rfl) rfl ?_
    first | (refine OW_q (q_load1_own Try.isAgg3 rfl rfl (by (repeat (first | exact .head | apply Swap.tail))) (by rfl)) rfl ?_) | (refine OW_q (q_load1_ro Try.isAgg3 rfl (by first | assumption | exact Row.at_ (by assumption) rfl)) rfl ?_)
    refine OW_q (q_indexAddrI Try.underlying54 Try.sizeOf4 rfl rfl (by first | omega | assumption) (by first | omega | assumption)) rfl ?_
    refine OW_q (q_load_bools Try.isAgg4 rfl (by (repeat (first | exact .head | apply Swap.tail))) (by assumption)) rfl ?_
    refine OW_q (q_move rfl) rfl ?_
    refine OW_part (t := 20) rfl (fun hg20 => ?_) (fun hg20 => ?_)
    · skip
      refine OW_wanted rfl rfl rfl ?_
      refine OW_q (q_fieldAddr Try.underlying51 rfl rfl Try.sizeOf4 rfl rfl) rfl ?_
      refine OW_wanted rfl rfl rfl ?_
      first | (refine OW_q (q_load1_own Try.isAgg4 rfl rfl (by (repeat (first | exact .head | apply Swap.tail))) (by rfl)) rfl ?_) | (refine OW_q (q_load1_ro Try.isAgg4 rfl (by first | assumption | exact Row.at_ (by assumption) rfl)) rfl ?_)
      refine OW_wanted rfl rfl rfl ?_
      refine OW_q (q_not rfl) rfl ?_
      refine OW_q (q_pick_t rfl rfl) rfl ?_
      refine OW_q (q_move rfl) rfl ?_
      refine OW_part (t := 25) rfl (fun hg25 => ?_) (fun hg25 => ?_)
      · skip
        have ht : s.term = false := by simpa using hg25
        have hs1 := hmem1 ht
        have hcell := atB_get (is := is1) hs1.1 (by omega)
        refine OW_wanted rfl rfl rfl ?_
        first | (refine OW_q (q_load1_own Try.isAgg54 rfl rfl (by (repeat (first | exact .head | apply Swap.tail))) (by rfl)) rfl ?_) | (refine OW_q (q_load1_ro Try.isAgg54 rfl (by first | assumption | exact Row.at_ (by assumption) rfl)) rfl ?_)
        refine OW_wanted rfl rfl rfl ?_
        refine OW_q (q_fieldAddr Try.underlying51 rfl rfl Try.sizeOf3 rfl rfl) rfl ?_
        refine OW_wanted rfl rfl rfl ?_
        first | (refine OW_q (q_load1_own Try.isAgg3 rfl rfl (by (repeat (first | exact .head | apply Swap.tail))) (by rfl)) rfl ?_) | (refine OW_q (q_load1_ro Try.isAgg3 rfl (by first | assumption | exact Row.at_ (by assumption) rfl)) rfl ?_)
        refine OW_wanted rfl rfl rfl ?_
        refine OW_q (q_indexAddrI Try.underlying54 Try.sizeOf4 rfl rfl (by first | omega | assumption) (by first | omega | assumption)) rfl ?_
        refine OW_wanted rfl rfl rfl ?_
        refine OW_q (q_load_bools Try.isAgg4 rfl (by (repeat (first | exact .head | apply Swap.tail))) (by assumption)) rfl ?_
        refine OW_wanted rfl rfl rfl ?_
        refine OW_q (q_not rfl) rfl ?_
        refine OW_q (q_pick_t rfl rfl) rfl ?_
        refine OW_q (q_move rfl) rfl ?_
        refine OW_part (t := 33) rfl (fun hg33 => ?_) (fun hg33 => ?_)
        · skip
          refine OW_wanted rfl rfl rfl ?_
          refine OW_q (q_fieldAddr Try.underlying49 rfl rfl Try.sizeOf46 rfl rfl) rfl ?_
          refine OW_wanted rfl rfl rfl ?_
          first | (refine OW_q (q_load1_own Try.isAgg46 rfl rfl (by (repeat (first | exact .head | apply Swap.tail))) (by rfl)) rfl ?_) | (refine OW_q (q_load1_ro Try.isAgg46 rfl (by first | assumption | exact Row.at_ (by assumption) rfl)) rfl ?_)
          refine OW_wanted rfl rfl rfl ?_
          first | (refine OW_q (q_load1_own Try.isAgg54 rfl rfl (by (repeat (first | exact .head | apply Swap.tail))) (by rfl)) rfl ?_) | (refine OW_q (q_load1_ro Try.isAgg54 rfl (by first | assumption | exact Row.at_ (by assumption) rfl)) rfl ?_)
          refine OW_wanted rfl rfl rfl ?_
          refine OW_e (e_call Try.call72 rfl (fun w hw => lift_ro (rall_any _ _ r.right m w (hr.mono hw.rd_cl) (hw.boolsAt (A' := bools 0 0 []) (l := m) (by repeat (first | exact .head | apply Swap.tail)) hlm (Nat.le_refl _) (by omega)) (fun s hs ht => by have := hsn s hs ht; omega)) hw)) rfl (fun x37 => ?_)
          refine OW_q (q_pick_t rfl rfl) rfl ?_
          refine OW_nil ?_
          refine EW_then ?_
          refine CW_cond rfl (fun h38 => ?_) (fun h38 => ?_)
          · skip
            refine CW_region ?_
            first | (refine OW_q (q_load1_own Try.isAgg54 rfl rfl (by (repeat (first | exact .head | apply Swap.tail))) (by rfl)) rfl ?_) | (refine OW_q (q_load1_ro Try.isAgg54 rfl (by first | assumption | exact Row.at_ (by assumption) rfl)) rfl ?_)
            refine OW_q (q_fieldAddr Try.underlying51 rfl rfl Try.sizeOf3 rfl rfl) rfl ?_
            first | (refine OW_q (q_load1_own Try.isAgg3 rfl rfl (by (repeat (first | exact .head | apply Swap.tail))) (by rfl)) rfl ?_) | (refine OW_q (q_load1_ro Try.isAgg3 rfl (by first | assumption | exact Row.at_ (by assumption) rfl)) rfl ?_)
            refine OW_q (q_indexAddrI Try.underlying54 Try.sizeOf4 rfl rfl (by first | omega | assumption) (by first | omega | assumption)) rfl ?_
            refine OW_e0 (e_store_bools Try.sizeOf4 rfl rfl (by (repeat (first | exact .head | apply Swap.tail))) (by omega)) (fun _ => ?_)
            refine OW_q (q_assign rfl) rfl ?_
            refine OW_nil ?_
            refine EW_block_normal ?_
            refine EW_then ?_
            refine CW_region ?_
            first | refine OW_q (q_inc rfl rfl (by omega)) rfl ?_ | refine OW_q (q_add rfl rfl (by omega) (by omega)) rfl ?_
            refine OW_q (q_move rfl) rfl ?_
            refine OW_nil ?_
            refine EW_again ((j + 1, true, is1.set s.n.toNat true)) ⟨?_, ?_⟩ ⟨rfl, rfl, rfl, rfl, rfl, rfl, rfl, trivial⟩ (fun w hw => hw.sub (by (repeat (first | exact SubL.nil | exact Pick.head | apply Pick.tail | apply SubL.cons))))
            · show r.right.length - (j + 1) < r.right.length - j; omega
            · have ha : allB m r.right = true := by simpa using h38
              refine ⟨by show j + 1 ≤ _; omega, by show (List.set _ _ _).length = _; simpa using hlen1, leastC_set hleast1 hmem hsm ht hl0 hs1.1 hg20 ha, (fun h => by cases h), (fun _ => ?_), fun n h => atB_set _ (hmono n h)⟩
              have hlt := fls_set (is := is1) (m := s.n.toNat) (by rw [hcell]; simpa using hg33)
              show fls (is1.set s.n.toNat true) < fls is
              cases hgr : gr with
              | false => rw [(h1 hgr).1] at hlt ⊢; exact hlt
              | true => have := h2 hgr; omega
          · skip
            refine CW_skip ?_
            refine EW_block_normal ?_
            refine EW_then ?_
            refine CW_region ?_
            first | refine OW_q (q_inc rfl rfl (by omega)) rfl ?_ | refine OW_q (q_add rfl rfl (by omega) (by omega)) rfl ?_
            refine OW_q (q_move rfl) rfl ?_
            refine OW_nil ?_
            refine EW_again ((j + 1, gr, is1)) ⟨?_, ?_⟩ ⟨rfl, rfl, rfl, rfl, rfl, rfl, rfl, trivial⟩ (fun w hw => hw.sub (by (repeat (first | exact SubL.nil | exact Pick.head | apply Pick.tail | apply SubL.cons))))
            · show r.right.length - (j + 1) < r.right.length - j; omega
            · refine ⟨by show j + 1 ≤ _; omega, hlen1, hleast1, fun hgr => ⟨(h1 hgr).1, fun h3 h4 q hq hqt => ?_⟩, h2, hmono⟩
              have e := (h1 hgr).1
              rw [List.take_add_one, hsj, List.mem_append] at hq
              rcases hq with hq | hq
              · exact (h1 hgr).2 h3 h4 q hq hqt
              · simp only [Option.toList_some, List.mem_singleton] at hq
                rw [hq] at hqt ⊢
                rw [← e] at h3 ⊢
                first | (simp_all; done) | (exfalso; simp_all; done)
        · skip
          refine OW_skip rfl rfl rfl rfl ?_
          refine OW_skip rfl rfl rfl rfl ?_
          refine OW_skip rfl rfl rfl rfl ?_
          refine OW_skip rfl rfl rfl rfl ?_
          refine OW_q (q_pick_f rfl rfl) rfl ?_
          refine OW_nil ?_
          refine EW_then ?_
          refine CW_false rfl rfl ?_
          refine CW_skip ?_
          refine EW_block_normal ?_
          refine EW_then ?_
          refine CW_region ?_
          first | refine OW_q (q_inc rfl rfl (by omega)) rfl ?_ | refine OW_q (q_add rfl rfl (by omega) (by omega)) rfl ?_
          refine OW_q (q_move rfl) rfl ?_
          refine OW_nil ?_
          refine EW_again ((j + 1, gr, is1)) ⟨?_, ?_⟩ ⟨rfl, rfl, rfl, rfl, rfl, rfl, rfl, trivial⟩ (fun w hw => hw.sub (by (repeat (first | exact SubL.nil | exact Pick.head | apply Pick.tail | apply SubL.cons))))
          · show r.right.length - (j + 1) < r.right.length - j; omega
          · refine ⟨by show j + 1 ≤ _; omega, hlen1, hleast1, fun hgr => ⟨(h1 hgr).1, fun h3 h4 q hq hqt => ?_⟩, h2, hmono⟩
            have e := (h1 hgr).1
            rw [List.take_add_one, hsj, List.mem_append] at hq
            rcases hq with hq | hq
            · exact (h1 hgr).2 h3 h4 q hq hqt
            · simp only [Option.toList_some, List.mem_singleton] at hq
              rw [hq] at hqt ⊢
              rw [← e] at h3 ⊢
              first | (simp_all; done) | (exfalso; simp_all; done)
      · skip
        refine OW_skip rfl rfl rfl rfl ?_
        refine OW_skip rfl rfl rfl rfl ?_
        refine OW_skip rfl rfl rfl rfl ?_
        refine OW_skip rfl rfl rfl rfl ?_
        refine OW_skip rfl rfl rfl rfl ?_
        refine OW_skip rfl rfl rfl rfl ?_
        refine OW_q (q_pick_f rfl rfl) rfl ?_
        refine OW_q (q_move rfl) rfl ?_
        refine OW_skip rfl rfl rfl rfl ?_
        refine OW_skip rfl rfl rfl rfl ?_
        refine OW_skip rfl rfl rfl rfl ?_
        refine OW_skip rfl rfl rfl rfl ?_
        refine OW_q (q_pick_f rfl rfl) rfl ?_
        refine OW_nil ?_
        refine EW_then ?_
        refine CW_false rfl rfl ?_
        refine CW_skip ?_
        refine EW_block_normal ?_
        refine EW_then ?_
        refine CW_region ?_
        first | refine OW_q (q_inc rfl rfl (by omega)) rfl ?_ | refine OW_q (q_add rfl rfl (by omega) (by omega)) rfl ?_
        refine OW_q (q_move rfl) rfl ?_
        refine OW_nil ?_
        refine EW_again ((j + 1, gr, is1)) ⟨?_, ?_⟩ ⟨rfl, rfl, rfl, rfl, rfl, rfl, rfl, trivial⟩ (fun w hw => hw.sub (by (repeat (first | exact SubL.nil | exact Pick.head | apply Pick.tail | apply SubL.cons))))
        · show r.right.length - (j + 1) < r.right.length - j; omega
        · refine ⟨by show j + 1 ≤ _; omega, hlen1, hleast1, fun hgr => ⟨(h1 hgr).1, fun h3 h4 q hq hqt => ?_⟩, h2, hmono⟩
          have e := (h1 hgr).1
          rw [List.take_add_one, hsj, List.mem_append] at hq
          rcases hq with hq | hq
          · exact (h1 hgr).2 h3 h4 q hq hqt
          · simp only [Option.toList_some, List.mem_singleton] at hq
            rw [hq] at hqt ⊢
            rw [← e] at h3 ⊢
            first | (simp_all; done) | (exfalso; simp_all; done)
    · skip
      refine OW_skip rfl rfl rfl rfl ?_
      refine OW_skip rfl rfl rfl rfl ?_
      refine OW_skip rfl rfl rfl rfl ?_
      refine OW_q (q_pick_f rfl rfl) rfl ?_
      refine OW_q (q_move rfl) rfl ?_
      refine OW_skip rfl rfl rfl rfl ?_
      refine OW_skip rfl rfl rfl rfl ?_
      refine OW_skip rfl rfl rfl rfl ?_
      refine OW_skip rfl rfl rfl rfl ?_
      refine OW_skip rfl rfl rfl rfl ?_
      refine OW_skip rfl rfl rfl rfl ?_
      refine OW_q (q_pick_f rfl rfl) rfl ?_
      refine OW_q (q_move rfl) rfl ?_
      refine OW_skip rfl rfl rfl rfl ?_
      refine OW_skip rfl rfl rfl rfl ?_
      refine OW_skip rfl rfl rfl rfl ?_
      refine OW_skip rfl rfl rfl rfl ?_
      refine OW_q (q_pick_f rfl rfl) rfl ?_
      refine OW_nil ?_
      refine EW_then ?_
      refine CW_false rfl rfl ?_
      refine CW_skip ?_
      refine EW_block_normal ?_
      refine EW_then ?_
      refine CW_region ?_
      first | refine OW_q (q_inc rfl rfl (by omega)) rfl ?_ | refine OW_q (q_add rfl rfl (by omega) (by omega)) rfl ?_
      refine OW_q (q_move rfl) rfl ?_
      refine OW_nil ?_
      refine EW_again ((j + 1, gr, is1)) ⟨?_, ?_⟩ ⟨rfl, rfl, rfl, rfl, rfl, rfl, rfl, trivial⟩ (fun w hw => hw.sub (by (repeat (first | exact SubL.nil | exact Pick.head | apply Pick.tail | apply SubL.cons))))
      · show r.right.length - (j + 1) < r.right.length - j; omega
      · refine ⟨by show j + 1 ≤ _; omega, hlen1, hleast1, fun hgr => ⟨(h1 hgr).1, fun h3 h4 q hq hqt => ?_⟩, h2, hmono⟩
        have e := (h1 hgr).1
        rw [List.take_add_one, hsj, List.mem_append] at hq
        rcases hq with hq | hq
        · exact (h1 hgr).2 h3 h4 q hq hqt
        · simp only [Option.toList_some, List.mem_singleton] at hq
          rw [hq] at hqt ⊢
          rw [← e] at h3 ⊢
          first | (simp_all; done) | (exfalso; simp_all; done)
  · skip
    have hend := take_all (l := r.right) (k := j) (by simpa using h12)
    refine CW_exit ?_
    refine EW_then_exit ?_
    refine EW_out ?_
    refine EW_block_exit ?_
    refine EW_then ?_
    refine CW_seq ?_
    refine CW_region ?_
    refine OW_q (q_move rfl) rfl ?_
    refine OW_q (q_assign rfl) rfl ?_
    refine OW_nil ?_
    refine EW_then ?_
    refine CW_ret ?_
    refine ret1 Try.results73 rfl (fun w hw => ?_)
    exact ⟨(gr, is1), rfl, ⟨hlen1, hleast1, fun h => ⟨(h1 h).1, fun h3 h4 s hs => (h1 h).2 h3 h4 s (by rw [hend]; exact hs)⟩, h2, hmono⟩, hw.sub (by repeat (first | exact SubL.nil | exact Pick.head | apply Pick.tail | apply SubL.cons))⟩

set_option maxRecDepth 20000 in
theorem fix_any {ι : Type} (A : ι → HP) (I : ι → Prop) (μ : ι → Nat) (stp : Rule → ι → Bool → ι → Prop) (fid : FuncId) (caps : List Value) (gv : Value) (g : Gram) (R : Nat → Prop) (w0 w : World) (F : HP) (x0 : ι)
    (hc : ∀ args w, (callFunc fid args).run Try.prog w = .ok (.enter fid args) w) (hg : GramAt (Rd R w0) gv g)
    (hstep : ∀ r ∈ g.rules, ∀ rv x w F, SymsAt (Rd R w0) rv r.right → I x → Sat R w0 [A x, F] w → Calls Try.prog fid (Value.agg #[.int .i64 r.left, rv] :: caps).toArray w (fun e w' => ∃ y : Bool × ι, e = .returned (.bool y.1) ∧ (I y.2 ∧ stp r x y.1 y.2) ∧ Sat R w0 [A y.2, F] w'))
    (hdec : ∀ r x y, stp r x true y → μ y < μ x) (hsame : ∀ r x y, stp r x false y → y = x) (hI : I x0) (hw : Sat R w0 [A x0, F] w) :
    Calls Try.prog 70 #[gv, .func (.func fid) #[] caps.toArray] w (fun e w' => ∃ x, e = .returned (.tuple #[]) ∧ (I x ∧ ∀ r ∈ g.rules, stp r x false x) ∧ Sat R w0 [A x, F] w') := by
  obtain ⟨rv, rfl, hr⟩ := hg
  obtain ⟨a, c, rfl, hc1, hc2, hrs⟩ := hr
  refine calls_CW (S := Sat R w0 [A x0, F]) Try.func70 rfl Try.ntmps70 rfl (hw) ?_
  refine CW_seq ?_
  refine CW_region ?_
  refine OW_e (e_box rfl rfl) rfl (fun b2 => ?_)
  refine OW_nil ?_
  refine EW_then ?_
  refine CW_seq ?_
  refine CW_region ?_
  refine OW_q (q_assign rfl) rfl ?_
  refine OW_nil ?_
  refine EW_then ?_
  refine CW_block ?_
  refine CW_loopP (ι := Bool × ι) (fun i_ => I i_.2 ∧ (i_.1 = false → ∀ r ∈ g.rules, stp r i_.2 false i_.2)) (fun i_ => [(1, .func (.func fid) #[] caps.toArray), (2, .pointer (some ⟨b2, 0, none⟩)), (4, .bool i_.1)]) (fun i_ => Sat R w0 [A i_.2, cel b2 24 [.int .i64 g.terms, .int .i64 g.names, .slice a g.rules.length c], F]) (fun i_ => 2 * μ i_.2 + (if i_.1 = true then 1 else 0)) (true, x0) ?_ ⟨rfl, rfl, rfl, trivial⟩ (fun w hw => hw.sub (by (repeat (first | exact SubL.nil | exact Pick.head | apply Pick.tail | apply SubL.cons)))) ?_
  · exact ⟨hI, fun h => by cases h⟩
  intro i_ hpre
  obtain ⟨again, x⟩ := i_
  replace hpre : I x ∧ (again = false → ∀ r ∈ g.rules, stp r x false x) := hpre
  change CW _ _ _ _ [(1, .func (.func fid) #[] caps.toArray), (2, .pointer (some ⟨b2, 0, none⟩)), (4, .bool again)] (Sat R w0 [A x, cel b2 24 [.int .i64 g.terms, .int .i64 g.names, .slice a g.rules.length c], F])
  obtain ⟨hI0, hcl0⟩ := hpre
  refine CW_seq ?_
  refine CW_seq ?_
  refine CW_region ?_
  refine OW_q (q_move rfl) rfl ?_
  refine OW_nil ?_
  refine EW_then ?_
  refine CW_cond rfl (fun h7 => ?_) (fun h7 => ?_)
  · skip
    refine CW_skip ?_
    refine EW_then ?_
    refine CW_block ?_
    refine CW_seq ?_
    refine CW_region ?_
    refine OW_q (q_assign rfl) rfl ?_
    refine OW_nil ?_
    refine EW_then ?_
    refine CW_seq ?_
    refine CW_region ?_
    refine OW_q (q_fieldAddr Try.underlying24 rfl rfl Try.sizeOf22 rfl rfl) rfl ?_
    first | (refine OW_q (q_load1_own Try.isAgg22 rfl rfl (by (repeat (first | exact .head | apply Swap.tail))) (by rfl)) rfl ?_) | (refine OW_q (q_load1_ro Try.isAgg22 rfl (by first | assumption | exact Row.at_ (by assumption) rfl)) rfl ?_)
    refine OW_q (q_len Try.underlying22 rfl) rfl ?_
    refine OW_q (q_move rfl) rfl ?_
    refine OW_nil ?_
    refine EW_then ?_
    refine CW_block ?_
    refine CW_loopP (ι := Nat × Bool × ι) (fun i_ => i_.1 ≤ g.rules.length ∧ I i_.2.2 ∧ (i_.2.1 = false → i_.2.2 = x ∧ ∀ q ∈ g.rules.take i_.1, stp q x false x) ∧ (i_.2.1 = true → μ i_.2.2 < μ x)) (fun i_ => [(1, .func (.func fid) #[] caps.toArray), (2, .pointer (some ⟨b2, 0, none⟩)), (4, .bool i_.2.1), (9, .slice a g.rules.length c), (10, .int .i64 (g.rules.length : Int)), (11, .int .i64 (i_.1 : Int))]) (fun i_ => Sat R w0 [A i_.2.2, cel b2 24 [.int .i64 g.terms, .int .i64 g.names, .slice a g.rules.length c], F]) (fun i_ => g.rules.length - i_.1) (0, false, x) ?_ ⟨rfl, rfl, rfl, rfl, rfl, rfl, trivial⟩ (fun w hw => hw.sub (by (repeat (first | exact SubL.nil | exact Pick.head | apply Pick.tail | apply SubL.cons)))) ?_
    · exact ⟨Nat.zero_le _, hI0, (fun _ => ⟨rfl, fun q hq => by simp at hq⟩), fun h => by cases h⟩
    intro i_ hpre
    obtain ⟨k, ag, x1⟩ := i_
    replace hpre : k ≤ g.rules.length ∧ I x1 ∧ (ag = false → x1 = x ∧ ∀ q ∈ g.rules.take k, stp q x false x) ∧ (ag = true → μ x1 < μ x) := hpre
    change CW _ _ _ _ [(1, .func (.func fid) #[] caps.toArray), (2, .pointer (some ⟨b2, 0, none⟩)), (4, .bool ag), (9, .slice a g.rules.length c), (10, .int .i64 (g.rules.length : Int)), (11, .int .i64 (k : Int))] (Sat R w0 [A x1, cel b2 24 [.int .i64 g.terms, .int .i64 g.names, .slice a g.rules.length c], F])
    obtain ⟨hk, hI1, h1, h2⟩ := hpre
    refine CW_seq ?_
    refine CW_region ?_
    refine OW_q (q_lss rfl rfl) rfl ?_
    refine OW_nil ?_
    refine EW_then ?_
    refine CW_seq ?_
    refine CW_cond rfl (fun h12 => ?_) (fun h12 => ?_)
    · skip
      have hlt : k < g.rules.length := by simpa using h12
      obtain ⟨r, hx⟩ := get_of_lt hlt
      have hmem := List.mem_of_getElem? hx
      obtain ⟨p, rfl, rv2, hsy, hrow⟩ := hrs k r hx
      obtain ⟨a2, c2, hrv2, _⟩ := id hsy
      subst hrv2
      refine CW_skip ?_
      refine EW_then ?_
      refine CW_seq ?_
      refine CW_block ?_
      refine CW_seq ?_
      refine CW_region ?_
      refine OW_q (q_indexAddr Try.underlying22 Try.sizeOf49 rfl rfl (by first | omega | assumption)) rfl ?_
      refine OW_q (q_loadN_ro Try.isAgg49 Try.sizeOf49 rfl (by first | assumption | exact Row.at_ (by assumption) rfl) (by rfl)) rfl ?_
      refine OW_e (e_alloc Try.zeroValue49 rfl) rfl (fun b6 => ?_)
      refine OW_e0 (e_storeN Try.sizeOf49 rfl rfl rfl rfl (by simp [Value.oneCell']) (by (repeat (first | exact .head | apply Swap.tail))) (by rfl)) (fun _ => ?_)
      refine OW_nil ?_
      refine EW_then ?_
      refine CW_region ?_
      refine OW_q (q_move rfl) rfl ?_
      first | (refine OW_q (q_loadN_own Try.isAgg49 Try.sizeOf49 rfl rfl (by (repeat (first | exact .head | apply Swap.tail))) (by rfl)) rfl ?_) | (refine OW_q (q_loadN_ro Try.isAgg49 Try.sizeOf49 rfl (by first | assumption | exact Row.at_ (by assumption) rfl) (by rfl)) rfl ?_)
      refine OW_e (e_callv hc rfl rfl (fun w hw => lift_mut (by repeat (first | exact .head | apply Pick.tail)) hw (fun F hF => hstep r hmem _ x1 w F hsy hI1 hF))) rfl (fun x17 => ?_)
      refine OW_pure fun hx17 => ?_
      refine OW_q (q_move rfl) rfl ?_
      refine OW_part (t := 18) rfl (fun hg18 => ?_) (fun hg18 => ?_)
      · skip
        refine OW_skip rfl rfl rfl rfl ?_
        refine OW_q (q_pick_t rfl rfl) rfl ?_
        refine OW_q (q_assign rfl) rfl ?_
        refine OW_nil ?_
        refine EW_block_normal ?_
        refine EW_then ?_
        refine CW_region ?_
        first | refine OW_q (q_inc rfl rfl (by omega)) rfl ?_ | refine OW_q (q_add rfl rfl (by omega) (by omega)) rfl ?_
        refine OW_q (q_move rfl) rfl ?_
        refine OW_nil ?_
        refine EW_again ((k + 1, true, x17.2)) ⟨?_, ?_⟩ ⟨rfl, rfl, rfl, rfl, rfl, rfl, trivial⟩ (fun w hw => hw.sub (by (repeat (first | exact SubL.nil | exact Pick.head | apply Pick.tail | apply SubL.cons))))
        · show g.rules.length - (k + 1) < g.rules.length - k; omega
        · have hd := hdec _ _ _ (by have := hx17.2; rw [hg18] at this; exact this)
          refine ⟨by show k + 1 ≤ _; omega, hx17.1, (fun h => by cases h), fun _ => ?_⟩
          show μ x17.2 < μ x
          cases hag : ag with
          | false => rw [(h1 hag).1] at hd; exact hd
          | true => have := h2 hag; omega
      · skip
        have esame := hsame _ _ _ (by have := hx17.2; rw [hg18] at this; exact this)
        refine OW_weak (fun w hw => by rw [esame] at hw; exact hw) ?_
        refine OW_wanted rfl rfl rfl ?_
        refine OW_q (q_move rfl) rfl ?_
        refine OW_q (q_pick_f rfl rfl) rfl ?_
        refine OW_q (q_assign rfl) rfl ?_
        refine OW_nil ?_
        refine EW_block_normal ?_
        refine EW_then ?_
        refine CW_region ?_
        first | refine OW_q (q_inc rfl rfl (by omega)) rfl ?_ | refine OW_q (q_add rfl rfl (by omega) (by omega)) rfl ?_
        refine OW_q (q_move rfl) rfl ?_
        refine OW_nil ?_
        refine EW_again ((k + 1, ag, x1)) ⟨?_, ?_⟩ ⟨rfl, rfl, rfl, rfl, rfl, rfl, trivial⟩ (fun w hw => hw.sub (by (repeat (first | exact SubL.nil | exact Pick.head | apply Pick.tail | apply SubL.cons))))
        · show g.rules.length - (k + 1) < g.rules.length - k; omega
        · refine ⟨by show k + 1 ≤ _; omega, hI1, fun hag => ⟨(h1 hag).1, fun q hq => ?_⟩, h2⟩
          rw [List.take_add_one, hx, List.mem_append] at hq
          rcases hq with hq | hq
          · exact (h1 hag).2 q hq
          · simp only [Option.toList_some, List.mem_singleton] at hq
            rw [hq]
            have hs := hx17.2
            rw [hg18, esame, (h1 hag).1] at hs
            exact hs
    · skip
      have hend := take_all (l := g.rules) (k := k) (by simpa using h12)
      refine CW_exit ?_
      refine EW_then_exit ?_
      refine EW_out ?_
      refine EW_block_exit ?_
      refine EW_block_normal ?_
      refine EW_again ((ag, x1)) ⟨?_, ?_⟩ ⟨rfl, rfl, rfl, trivial⟩ (fun w hw => hw.sub (by (repeat (first | exact SubL.nil | exact Pick.head | apply Pick.tail | apply SubL.cons))))
      · show 2 * μ x1 + _ < 2 * μ x + _
        rw [h7]
        cases hag : ag with
        | false => rw [(h1 hag).1]; simp
        | true => have := h2 hag; simp; omega
      · refine ⟨hI1, fun hag q hq => ?_⟩
        have e := (h1 hag).1
        show stp q x1 false x1
        rw [e]
        refine (h1 hag).2 q ?_
        rw [hend]; exact hq
  · skip
    refine CW_exit ?_
    refine EW_then_exit ?_
    refine EW_out ?_
    refine EW_block_exit ?_
    refine end0 Try.results70 (fun w hw => ?_)
    exact ⟨x, rfl, ⟨hI0, hcl0 h7⟩, hw.sub (by repeat (first | exact SubL.nil | exact Pick.head | apply Pick.tail | apply SubL.cons))⟩

end Go.Sy
