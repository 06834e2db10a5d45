/- ReachTells: the program tells which names make, which come, which begin with themselves, as the reference. No condition. -/
import Derived.Test.YteceklkjbcebkaaW20
namespace Go.Sy
open Go Go.RowKit Go.Proofs

theorem way_put {g : Gram} {nl c : List Bool} {n a b : Int} (h : ∀ x : Int, 0 ≤ x → atB c x = true → Way (Eg g nl) n x) (ha : 0 ≤ a) (hb0 : 0 ≤ b) (hb1 : b < c.length) (he : Eg g nl a b) (hc : a = n ∨ atB c a = true) : ∀ x : Int, 0 ≤ x → atB (c.set b.toNat true) x = true → Way (Eg g nl) n x := by
  intro x hx h2
  rw [atB_set' hb0 hb1 hx] at h2
  split at h2
  · rename_i e
    rw [e]
    rcases hc with rfl | hc
    · exact .one he
    · exact .more (h a ha hc) he
  · exact h x hx h2
theorem left_unique {g : Gram} {N : Nat} {o1 o2 nl1 nl2 : List Bool} (l1 : o1.length = N) (l2 : o2.length = N) (h1 : NS g nl1) (h2 : NC g nl1) (h3 : NS g nl2) (h4 : NC g nl2) (m1 : nl1.length = N) (m2 : nl2.length = N)
    (w1 : ∀ i : Int, 0 ≤ i → i < (N : Int) → (atB o1 i = true ↔ Way (Eg g nl1) i i)) (w2 : ∀ i : Int, 0 ≤ i → i < (N : Int) → (atB o2 i = true ↔ Way (Eg g nl2) i i)) : o1 = o2 := by
  obtain rfl : nl1 = nl2 := bools_ext m1 m2 (fun _ h => nl_le h1 h4 h) (fun _ h => nl_le h3 h2 h)
  refine bools_ext l1 l2 (fun n h => ?_) (fun n h => ?_)
  · have hlt := (List.getElem?_eq_some_iff.1 h).1
    exact (w2 n (Int.natCast_nonneg n) (by omega)).2 ((w1 n (Int.natCast_nonneg n) (by omega)).1 (by rw [atB_nat h]))
  · have hlt := (List.getElem?_eq_some_iff.1 h).1
    exact (w1 n (Int.natCast_nonneg n) (by omega)).2 ((w2 n (Int.natCast_nonneg n) (by omega)).1 (by rw [atB_nat h]))

set_option maxRecDepth 20000 in
theorem left3_any (gv : Value) (g : Gram) (w : World) (hg : GramAt (Cl w) gv g) (hm : mayB g = true) : Calls Try.prog 33 #[gv] w (fun e w' => ∃ x : Nat × List Bool × List Bool, e = .returned (.slice (some ⟨x.1, 0, none⟩) g.names.toNat g.names.toNat) ∧ (x.2.1.length = g.names.toNat ∧ x.2.2.length = g.names.toNat ∧ NS g x.2.2 ∧ NC g x.2.2 ∧ ∀ i : Int, 0 ≤ i → i < (g.names.toNat : Int) → (atB x.2.1 i = true ↔ Way (Eg g x.2.2) i i)) ∧ Sat (Old w) w [bools x.1 4 x.2.1] w') := by
  have hg0 := hg
  obtain ⟨rv, rfl, hr⟩ := hg.mono old_rd
  obtain ⟨a, c, rfl, hc1, hc2, hrs⟩ := hr
  have hg1 := hg.mono old_rd
  have hM := mayB_true.1 hm
  have hall := may_all hm
  have hE : ∀ nl a b, Eg g nl a b → (0 ≤ a ∧ a < (g.names.toNat : Int)) ∧ 0 ≤ b ∧ b < (g.names.toNat : Int) := fun nl a b h => fstB_rng (fun r hr => by have := hall r hr; exact ⟨⟨this.1, by omega⟩, fun s hs ht => by have := this.2.2 s hs ht; omega⟩) h
  refine calls_CW Try.func33 rfl Try.ntmps33 rfl (Sat.start w) ?_
  refine CW_seq ?_
  refine CW_region ?_
  refine OW_e (e_box rfl rfl) rfl (fun b1 => ?_)
  refine OW_q (q_assign rfl) rfl ?_
  refine OW_nil ?_
  refine EW_then ?_
  refine CW_seq ?_
  refine CW_region ?_
  first | (refine OW_q (q_loadN_own Try.isAgg24 Try.sizeOf24 rfl rfl (by (repeat (first | exact .head | apply Swap.tail))) (by rfl)) rfl ?_) | (refine OW_q (q_loadN_ro Try.isAgg24 Try.sizeOf24 rfl (by first | assumption | exact Row.at_ (by assumption) rfl) (by rfl)) rfl ?_)
  refine OW_e (e_call Try.call28 rfl (fun w hw => lift_oldP (ref2Of_any _ g w (hg0.mono (fun _ _ h => hw.rd (Rd.old h))) hm) hw)) rfl (fun x11 => ?_)
  refine OW_pure fun hx11 => ?_
  have hnl : x11.nl.length = g.names.toNat := hx11.1.1
  refine OW_e (e_alloc Try.zeroValue53 rfl) rfl (fun b3 => ?_)
  refine OW_e0 (e_storeN Try.sizeOf53 rfl rfl rfl rfl (by simp [Value.oneCell']) (by (repeat (first | exact .head | apply Swap.tail))) (by rfl)) (fun _ => ?_)
  refine OW_nil ?_
  refine EW_then ?_
  refine CW_seq ?_
  refine CW_region ?_
  refine OW_q (q_fieldAddr Try.underlying24 rfl rfl Try.sizeOf3 rfl rfl) rfl ?_
  first | (refine OW_q (q_load1_own Try.isAgg3 rfl rfl (by (repeat (first | exact .head | apply Swap.tail))) (by rfl)) rfl ?_) | (refine OW_q (q_load1_ro Try.isAgg3 rfl (by first | assumption | exact Row.at_ (by assumption) rfl)) rfl ?_)
  refine OW_e (e_makeB Try.underlying36 Try.typeInfo4 rfl rfl (by decide) rfl rfl (by omega) (by omega)) rfl (fun b14 => ?_)
  refine OW_q (q_assign rfl) rfl ?_
  refine OW_nil ?_
  refine EW_then ?_
  refine CW_seq ?_
  refine CW_seq ?_
  refine CW_region ?_
  refine OW_q (q_assign rfl) rfl ?_
  refine OW_nil ?_
  refine EW_then ?_
  refine CW_block ?_
  refine CW_loopP (ι := Nat × List Bool) (fun i_ => i_.1 ≤ g.names.toNat ∧ i_.2.length = g.names.toNat ∧ ∀ i : Int, 0 ≤ i → i < (i_.1 : Int) → (atB i_.2 i = true ↔ Way (Eg g x11.nl) i i)) (fun i_ => [(1, .pointer (some ⟨b1, 0, none⟩)), (3, .pointer (some ⟨b3, 0, none⟩)), (4, .slice (some ⟨b14, 0, none⟩) g.names.toNat g.names.toNat), (5, .int .i64 (i_.1 : Int))]) (fun i_ => Sat (Old w) w [bools b14 4 i_.2, bools x11.bn 4 x11.nl, cel b3 53 [.slice (some ⟨x11.bn, 0, none⟩) g.names.toNat g.names.toNat, .slice (some ⟨x11.bf, 0, none⟩) g.names.toNat x11.cf, .slice (some ⟨x11.bo, 0, none⟩) g.names.toNat x11.co], cel b1 24 [.int .i64 g.terms, .int .i64 g.names, .slice a g.rules.length c]]) (fun i_ => g.names.toNat - i_.1) (0, List.replicate g.names.toNat false) ?_ ⟨rfl, rfl, rfl, rfl, trivial⟩ (fun w hw => hw.sub (by (repeat (first | exact SubL.nil | exact Pick.head | apply Pick.tail | apply SubL.cons)))) ?_
  · exact ⟨Nat.zero_le _, List.length_replicate, fun i h0 h1 => absurd h1 (by show ¬ i < 0; omega)⟩
  intro i_ hpre
  obtain ⟨n, out⟩ := i_
  replace hpre : n ≤ g.names.toNat ∧ out.length = g.names.toNat ∧ ∀ i : Int, 0 ≤ i → i < (n : Int) → (atB out i = true ↔ Way (Eg g x11.nl) i i) := hpre
  change CW _ _ _ _ [(1, .pointer (some ⟨b1, 0, none⟩)), (3, .pointer (some ⟨b3, 0, none⟩)), (4, .slice (some ⟨b14, 0, none⟩) g.names.toNat g.names.toNat), (5, .int .i64 (n : Int))] (Sat (Old w) w [bools b14 4 out, bools x11.bn 4 x11.nl, cel b3 53 [.slice (some ⟨x11.bn, 0, none⟩) g.names.toNat g.names.toNat, .slice (some ⟨x11.bf, 0, none⟩) g.names.toNat x11.cf, .slice (some ⟨x11.bo, 0, none⟩) g.names.toNat x11.co], cel b1 24 [.int .i64 g.terms, .int .i64 g.names, .slice a g.rules.length c]])
  obtain ⟨hn, hlo, hoo⟩ := hpre
  refine CW_seq ?_
  refine CW_seq ?_
  refine CW_region ?_
  refine OW_q (q_move rfl) rfl ?_
  refine OW_q (q_fieldAddr Try.underlying24 rfl rfl Try.sizeOf3 rfl rfl) rfl ?_
  first | (refine OW_q (q_load1_own Try.isAgg3 rfl rfl (by (repeat (first | exact .head | apply Swap.tail))) (by rfl)) rfl ?_) | (refine OW_q (q_load1_ro Try.isAgg3 rfl (by first | assumption | exact Row.at_ (by assumption) rfl)) rfl ?_)
  refine OW_q (q_lss rfl rfl) rfl ?_
  refine OW_nil ?_
  refine EW_then ?_
  refine CW_cond rfl (fun h18 => ?_) (fun h18 => ?_)
  · skip
    have hltn : n < g.names.toNat := by have := of_decide_eq_true h18; omega
    refine CW_skip ?_
    refine EW_then ?_
    refine CW_seq ?_
    refine CW_block ?_
    refine CW_seq ?_
    refine CW_region ?_
    refine OW_q (q_fieldAddr Try.underlying24 rfl rfl Try.sizeOf3 rfl rfl) rfl ?_
    first | (refine OW_q (q_load1_own Try.isAgg3 rfl rfl (by (repeat (first | exact .head | apply Swap.tail))) (by rfl)) rfl ?_) | (refine OW_q (q_load1_ro Try.isAgg3 rfl (by first | assumption | exact Row.at_ (by assumption) rfl)) rfl ?_)
    refine OW_e (e_makeB Try.underlying36 Try.typeInfo4 rfl rfl (by decide) rfl rfl (by omega) (by omega)) rfl (fun b23 => ?_)
    refine OW_q (q_assign rfl) rfl ?_
    refine OW_nil ?_
    refine EW_then ?_
    refine CW_seq ?_
    refine CW_seq ?_
    refine CW_region ?_
    refine OW_q (q_assign rfl) rfl ?_
    refine OW_nil ?_
    refine EW_then ?_
    refine CW_block ?_
    refine CW_loopP (ι := Nat × List Bool) (fun i_ => i_.1 ≤ g.names.toNat + 1 ∧ i_.2.length = g.names.toNat ∧ (∀ b : Int, 0 ≤ b → atB i_.2 b = true → Way (Eg g x11.nl) (n : Int) b) ∧ (ClosedK (KW g.rules x11.nl g.names.toNat (n : Int)) i_.2 ∨ fls i_.2 + i_.1 ≤ g.names.toNat)) (fun i_ => [(1, .pointer (some ⟨b1, 0, none⟩)), (3, .pointer (some ⟨b3, 0, none⟩)), (4, .slice (some ⟨b14, 0, none⟩) g.names.toNat g.names.toNat), (5, .int .i64 (n : Int)), (6, .slice (some ⟨b23, 0, none⟩) g.names.toNat g.names.toNat), (7, .int .i64 (i_.1 : Int))]) (fun i_ => Sat (Old w) w [bools b23 4 i_.2, bools b14 4 out, bools x11.bn 4 x11.nl, cel b3 53 [.slice (some ⟨x11.bn, 0, none⟩) g.names.toNat g.names.toNat, .slice (some ⟨x11.bf, 0, none⟩) g.names.toNat x11.cf, .slice (some ⟨x11.bo, 0, none⟩) g.names.toNat x11.co], cel b1 24 [.int .i64 g.terms, .int .i64 g.names, .slice a g.rules.length c]]) (fun i_ => g.names.toNat + 1 - i_.1) (0, List.replicate g.names.toNat false) ?_ ⟨rfl, rfl, rfl, rfl, rfl, rfl, trivial⟩ (fun w hw => hw.sub (by (repeat (first | exact SubL.nil | exact Pick.head | apply Pick.tail | apply SubL.cons)))) ?_
    · exact ⟨Nat.zero_le _, List.length_replicate, (fun b _ h => by rw [atB_new] at h; cases h), .inr (by have := fls_le (List.replicate g.names.toNat false); rw [List.length_replicate] at this; exact this)⟩
    intro i_ hpre
    obtain ⟨j, cm⟩ := i_
    replace hpre : j ≤ g.names.toNat + 1 ∧ cm.length = g.names.toNat ∧ (∀ b : Int, 0 ≤ b → atB cm b = true → Way (Eg g x11.nl) (n : Int) b) ∧ (ClosedK (KW g.rules x11.nl g.names.toNat (n : Int)) cm ∨ fls cm + j ≤ g.names.toNat) := hpre
    change CW _ _ _ _ [(1, .pointer (some ⟨b1, 0, none⟩)), (3, .pointer (some ⟨b3, 0, none⟩)), (4, .slice (some ⟨b14, 0, none⟩) g.names.toNat g.names.toNat), (5, .int .i64 (n : Int)), (6, .slice (some ⟨b23, 0, none⟩) g.names.toNat g.names.toNat), (7, .int .i64 (j : Int))] (Sat (Old w) w [bools b23 4 cm, bools b14 4 out, bools x11.bn 4 x11.nl, cel b3 53 [.slice (some ⟨x11.bn, 0, none⟩) g.names.toNat g.names.toNat, .slice (some ⟨x11.bf, 0, none⟩) g.names.toNat x11.cf, .slice (some ⟨x11.bo, 0, none⟩) g.names.toNat x11.co], cel b1 24 [.int .i64 g.terms, .int .i64 g.names, .slice a g.rules.length c]])
    obtain ⟨hj, hlc, hsnd, hcl⟩ := hpre
    refine CW_seq ?_
    refine CW_seq ?_
    refine CW_region ?_
    refine OW_q (q_move rfl) rfl ?_
    refine OW_q (q_fieldAddr Try.underlying24 rfl rfl Try.sizeOf3 rfl rfl) rfl ?_
    first | (refine OW_q (q_load1_own Try.isAgg3 rfl rfl (by (repeat (first | exact .head | apply Swap.tail))) (by rfl)) rfl ?_) | (refine OW_q (q_load1_ro Try.isAgg3 rfl (by first | assumption | exact Row.at_ (by assumption) rfl)) rfl ?_)
    refine OW_q (q_leq rfl rfl) rfl ?_
    refine OW_nil ?_
    refine EW_then ?_
    refine CW_cond rfl (fun h27 => ?_) (fun h27 => ?_)
    · skip
      have hjle : j ≤ g.names.toNat := by have := of_decide_eq_true h27; omega
      refine CW_skip ?_
      refine EW_then ?_
      refine CW_seq ?_
      refine CW_block ?_
      refine CW_seq ?_
      refine CW_region ?_
      refine OW_q (q_assign rfl) rfl ?_
      refine OW_nil ?_
      refine EW_then ?_
      refine CW_block ?_
      refine CW_loopP (ι := Nat × List Bool) (fun i_ => i_.1 ≤ g.names.toNat ∧ (∀ b : Int, 0 ≤ b → atB i_.2 b = true → Way (Eg g x11.nl) (n : Int) b) ∧ RI (KW g.rules x11.nl g.names.toNat (n : Int)) (((List.range g.names.toNat).take i_.1).flatMap (wayR g.rules x11.nl g.names.toNat (n : Int))) cm i_.2) (fun i_ => [(1, .pointer (some ⟨b1, 0, none⟩)), (3, .pointer (some ⟨b3, 0, none⟩)), (4, .slice (some ⟨b14, 0, none⟩) g.names.toNat g.names.toNat), (5, .int .i64 (n : Int)), (6, .slice (some ⟨b23, 0, none⟩) g.names.toNat g.names.toNat), (7, .int .i64 (j : Int)), (8, .int .i64 (i_.1 : Int))]) (fun i_ => Sat (Old w) w [bools b23 4 i_.2, bools b14 4 out, bools x11.bn 4 x11.nl, cel b3 53 [.slice (some ⟨x11.bn, 0, none⟩) g.names.toNat g.names.toNat, .slice (some ⟨x11.bf, 0, none⟩) g.names.toNat x11.cf, .slice (some ⟨x11.bo, 0, none⟩) g.names.toNat x11.co], cel b1 24 [.int .i64 g.terms, .int .i64 g.names, .slice a g.rules.length c]]) (fun i_ => g.names.toNat - i_.1) (0, cm) ?_ ⟨rfl, rfl, rfl, rfl, rfl, rfl, rfl, trivial⟩ (fun w hw => hw.sub (by (repeat (first | exact SubL.nil | exact Pick.head | apply Pick.tail | apply SubL.cons)))) ?_
      · exact ⟨Nat.zero_le _, hsnd, RI.start _ _⟩
      intro i_ hpre
      obtain ⟨xa, cm1⟩ := i_
      replace hpre : xa ≤ g.names.toNat ∧ (∀ b : Int, 0 ≤ b → atB cm1 b = true → Way (Eg g x11.nl) (n : Int) b) ∧ RI (KW g.rules x11.nl g.names.toNat (n : Int)) (((List.range g.names.toNat).take xa).flatMap (wayR g.rules x11.nl g.names.toNat (n : Int))) cm cm1 := hpre
      change CW _ _ _ _ [(1, .pointer (some ⟨b1, 0, none⟩)), (3, .pointer (some ⟨b3, 0, none⟩)), (4, .slice (some ⟨b14, 0, none⟩) g.names.toNat g.names.toNat), (5, .int .i64 (n : Int)), (6, .slice (some ⟨b23, 0, none⟩) g.names.toNat g.names.toNat), (7, .int .i64 (j : Int)), (8, .int .i64 (xa : Int))] (Sat (Old w) w [bools b23 4 cm1, bools b14 4 out, bools x11.bn 4 x11.nl, cel b3 53 [.slice (some ⟨x11.bn, 0, none⟩) g.names.toNat g.names.toNat, .slice (some ⟨x11.bf, 0, none⟩) g.names.toNat x11.cf, .slice (some ⟨x11.bo, 0, none⟩) g.names.toNat x11.co], cel b1 24 [.int .i64 g.terms, .int .i64 g.names, .slice a g.rules.length c]])
      obtain ⟨hxa, hsnd1, hri1⟩ := hpre
      refine CW_seq ?_
      refine CW_seq ?_
      refine CW_region ?_
      refine OW_q (q_move rfl) rfl ?_
      refine OW_q (q_fieldAddr Try.underlying24 rfl rfl Try.sizeOf3 rfl rfl) rfl ?_
      first | (refine OW_q (q_load1_own Try.isAgg3 rfl rfl (by (repeat (first | exact .head | apply Swap.tail))) (by rfl)) rfl ?_) | (refine OW_q (q_load1_ro Try.isAgg3 rfl (by first | assumption | exact Row.at_ (by assumption) rfl)) rfl ?_)
      refine OW_q (q_lss rfl rfl) rfl ?_
      refine OW_nil ?_
      refine EW_then ?_
      refine CW_cond rfl (fun h33 => ?_) (fun h33 => ?_)
      · skip
        have hltx : xa < g.names.toNat := by have := of_decide_eq_true h33; omega
        refine CW_skip ?_
        refine EW_then ?_
        refine CW_seq ?_
        refine CW_block ?_
        refine CW_seq ?_
        refine CW_region ?_
        refine OW_q (q_assign rfl) rfl ?_
        refine OW_nil ?_
        refine EW_then ?_
        refine CW_block ?_
        refine CW_loopP (ι := Nat × List Bool) (fun i_ => i_.1 ≤ g.names.toNat ∧ (∀ b : Int, 0 ≤ b → atB i_.2 b = true → Way (Eg g x11.nl) (n : Int) b) ∧ RI (KW g.rules x11.nl g.names.toNat (n : Int)) (DWy g.rules x11.nl g.names.toNat (n : Int) xa i_.1) cm i_.2) (fun i_ => [(1, .pointer (some ⟨b1, 0, none⟩)), (3, .pointer (some ⟨b3, 0, none⟩)), (4, .slice (some ⟨b14, 0, none⟩) g.names.toNat g.names.toNat), (5, .int .i64 (n : Int)), (6, .slice (some ⟨b23, 0, none⟩) g.names.toNat g.names.toNat), (7, .int .i64 (j : Int)), (8, .int .i64 (xa : Int)), (9, .int .i64 (i_.1 : Int))]) (fun i_ => Sat (Old w) w [bools b23 4 i_.2, bools b14 4 out, bools x11.bn 4 x11.nl, cel b3 53 [.slice (some ⟨x11.bn, 0, none⟩) g.names.toNat g.names.toNat, .slice (some ⟨x11.bf, 0, none⟩) g.names.toNat x11.cf, .slice (some ⟨x11.bo, 0, none⟩) g.names.toNat x11.co], cel b1 24 [.int .i64 g.terms, .int .i64 g.names, .slice a g.rules.length c]]) (fun i_ => g.names.toNat - i_.1) (0, cm1) ?_ ⟨rfl, rfl, rfl, rfl, rfl, rfl, rfl, rfl, trivial⟩ (fun w hw => hw.sub (by (repeat (first | exact SubL.nil | exact Pick.head | apply Pick.tail | apply SubL.cons)))) ?_
        · exact ⟨Nat.zero_le _, hsnd1, by show RI _ (DWy g.rules x11.nl g.names.toNat (n : Int) xa 0) _ _; rw [DWy_zero]; exact hri1⟩
        intro i_ hpre
        obtain ⟨yb, cm2⟩ := i_
        replace hpre : yb ≤ g.names.toNat ∧ (∀ b : Int, 0 ≤ b → atB cm2 b = true → Way (Eg g x11.nl) (n : Int) b) ∧ RI (KW g.rules x11.nl g.names.toNat (n : Int)) (DWy g.rules x11.nl g.names.toNat (n : Int) xa yb) cm cm2 := hpre
        change CW _ _ _ _ [(1, .pointer (some ⟨b1, 0, none⟩)), (3, .pointer (some ⟨b3, 0, none⟩)), (4, .slice (some ⟨b14, 0, none⟩) g.names.toNat g.names.toNat), (5, .int .i64 (n : Int)), (6, .slice (some ⟨b23, 0, none⟩) g.names.toNat g.names.toNat), (7, .int .i64 (j : Int)), (8, .int .i64 (xa : Int)), (9, .int .i64 (yb : Int))] (Sat (Old w) w [bools b23 4 cm2, bools b14 4 out, bools x11.bn 4 x11.nl, cel b3 53 [.slice (some ⟨x11.bn, 0, none⟩) g.names.toNat g.names.toNat, .slice (some ⟨x11.bf, 0, none⟩) g.names.toNat x11.cf, .slice (some ⟨x11.bo, 0, none⟩) g.names.toNat x11.co], cel b1 24 [.int .i64 g.terms, .int .i64 g.names, .slice a g.rules.length c]])
        obtain ⟨hyb, hsnd2, hri2⟩ := hpre
        have hlc2 : cm2.length = g.names.toNat := hri2.len.trans hlc
        refine CW_seq ?_
        refine CW_seq ?_
        refine CW_region ?_
        refine OW_q (q_move rfl) rfl ?_
        refine OW_q (q_fieldAddr Try.underlying24 rfl rfl Try.sizeOf3 rfl rfl) rfl ?_
        first | (refine OW_q (q_load1_own Try.isAgg3 rfl rfl (by (repeat (first | exact .head | apply Swap.tail))) (by rfl)) rfl ?_) | (refine OW_q (q_load1_ro Try.isAgg3 rfl (by first | assumption | exact Row.at_ (by assumption) rfl)) rfl ?_)
        refine OW_q (q_lss rfl rfl) rfl ?_
        refine OW_nil ?_
        refine EW_then ?_
        refine CW_cond rfl (fun h39 => ?_) (fun h39 => ?_)
        · skip
          have hlty : yb < g.names.toNat := by have := of_decide_eq_true h39; omega
          have hcx := atB_get (is := cm2) (n := (xa : Int)) (Int.natCast_nonneg xa) (by omega)
          rw [Int.toNat_natCast] at hcx
          refine CW_skip ?_
          refine EW_then ?_
          refine CW_seq ?_
          refine CW_block ?_
          refine CW_seq ?_
          refine CW_region ?_
          refine OW_q (q_move rfl) rfl ?_
          refine OW_q (q_move rfl) rfl ?_
          refine OW_q (q_eqi rfl rfl) rfl ?_
          refine OW_q (q_move rfl) rfl ?_
          refine OW_part (t := 45) rfl (fun hg45 => ?_) (fun hg45 => ?_)
          · skip
            refine OW_skip rfl rfl rfl rfl ?_
            refine OW_skip rfl rfl rfl rfl ?_
            refine OW_skip rfl rfl rfl rfl ?_
            refine OW_skip rfl rfl rfl rfl ?_
            refine OW_q (q_pick_t rfl rfl) rfl ?_
            refine OW_q (q_move rfl) rfl ?_
            refine OW_wanted rfl rfl rfl ?_
            first | (refine OW_q (q_loadN_own Try.isAgg24 Try.sizeOf24 rfl rfl (by (repeat (first | exact .head | apply Swap.tail))) (by rfl)) rfl ?_) | (refine OW_q (q_loadN_ro Try.isAgg24 Try.sizeOf24 rfl (by first | assumption | exact Row.at_ (by assumption) rfl) (by rfl)) rfl ?_)
            refine OW_wanted rfl rfl rfl ?_
            first | (refine OW_q (q_loadN_own Try.isAgg53 Try.sizeOf53 rfl rfl (by (repeat (first | exact .head | apply Swap.tail))) (by rfl)) rfl ?_) | (refine OW_q (q_loadN_ro Try.isAgg53 Try.sizeOf53 rfl (by first | assumption | exact Row.at_ (by assumption) rfl) (by rfl)) rfl ?_)
            refine OW_wanted rfl rfl rfl ?_
            refine OW_q (q_move rfl) rfl ?_
            refine OW_wanted rfl rfl rfl ?_
            refine OW_q (q_move rfl) rfl ?_
            refine OW_wanted rfl rfl rfl ?_
            refine OW_e (e_call Try.call56 rfl (fun w hw => lift_ro (first_any _ _ _ _ g x11.nl (xa : Int) (yb : Int) w (hg0.mono (fun _ _ h => hw.rd (Rd.old h))) hm (hw.boolsAt (A' := bools 0 0 []) (by repeat (first | exact .head | apply Swap.tail)) hnl (Nat.le_refl _) (by omega)) hnl) hw)) rfl (fun x56 => ?_)
            refine OW_q (q_pick_t rfl rfl) rfl ?_
            refine OW_nil ?_
            refine EW_then ?_
            refine CW_cond rfl (fun h57 => ?_) (fun h57 => ?_)
            · skip
              refine CW_region ?_
              refine OW_q (q_move rfl) rfl ?_
              refine OW_q (q_move rfl) rfl ?_
              refine OW_q (q_indexAddr Try.underlying36 Try.sizeOf4 rfl rfl (by first | omega | assumption)) rfl ?_
              refine OW_e0 (e_store_bools Try.sizeOf4 rfl rfl (by (repeat (first | exact .head | apply Swap.tail))) (by omega)) (fun _ => ?_)
              refine OW_nil ?_
              refine EW_block_normal ?_
              refine EW_then ?_
              refine CW_region ?_
              refine OW_q (q_move rfl) rfl ?_
              first | refine OW_q (q_inc rfl rfl (by omega)) rfl ?_ | refine OW_q (q_add rfl rfl (by omega) (by omega)) rfl ?_
              refine OW_q (q_assign rfl) rfl ?_
              refine OW_nil ?_
              refine EW_again ((yb + 1, cm2.set yb true)) ⟨?_, ?_⟩ ⟨rfl, rfl, rfl, rfl, rfl, rfl, rfl, rfl, trivial⟩ (fun w hw => hw.sub (by (repeat (first | exact SubL.nil | exact Pick.head | apply Pick.tail | apply SubL.cons))))
              · show g.names.toNat - (yb + 1) < g.names.toNat - yb; omega
              · have hst := hri2.step (KW_mem (rs := g.rules) (nl := x11.nl) (n := (n : Int)) hltx hlty) (Int.natCast_nonneg yb) (by show (yb : Int) < (cm.length : Int); omega)
                have hcc : (wayK g.rules x11.nl (n : Int) (xa : Int) yb).cond cm2 = true := by
                  show ((decide ((xa : Int) = (n : Int)) || atB cm2 (xa : Int)) && fstB g.rules x11.nl (xa : Int) (yb : Int)) = true
                  have e45 : (xa : Int) = (n : Int) := by simpa using hg45
                  rw [h57, e45]; simp
                rw [if_pos hcc, ← DWy_step hlty] at hst
                exact ⟨by show yb + 1 ≤ _; omega, way_put (b := (yb : Int)) hsnd2 (Int.natCast_nonneg xa) (Int.natCast_nonneg yb) (by omega) h57 (.inl (by simpa using hg45)), hst⟩
            · skip
              refine CW_skip ?_
              refine EW_block_normal ?_
              refine EW_then ?_
              refine CW_region ?_
              refine OW_q (q_move rfl) rfl ?_
              first | refine OW_q (q_inc rfl rfl (by omega)) rfl ?_ | refine OW_q (q_add rfl rfl (by omega) (by omega)) rfl ?_
              refine OW_q (q_assign rfl) rfl ?_
              refine OW_nil ?_
              refine EW_again ((yb + 1, cm2)) ⟨?_, ?_⟩ ⟨rfl, rfl, rfl, rfl, rfl, rfl, rfl, rfl, trivial⟩ (fun w hw => hw.sub (by (repeat (first | exact SubL.nil | exact Pick.head | apply Pick.tail | apply SubL.cons))))
              · show g.names.toNat - (yb + 1) < g.names.toNat - yb; omega
              · have hst := hri2.step (KW_mem (rs := g.rules) (nl := x11.nl) (n := (n : Int)) hltx hlty) (Int.natCast_nonneg yb) (by show (yb : Int) < (cm.length : Int); omega)
                have hcc : (wayK g.rules x11.nl (n : Int) (xa : Int) yb).cond cm2 = false := by
                  show ((decide ((xa : Int) = (n : Int)) || atB cm2 (xa : Int)) && fstB g.rules x11.nl (xa : Int) (yb : Int)) = false
                  rw [h57]; simp
                rw [if_neg (by rw [hcc]; decide), ← DWy_step hlty] at hst
                exact ⟨by show yb + 1 ≤ _; omega, hsnd2, hst⟩
          · skip
            refine OW_wanted rfl rfl rfl ?_
            refine OW_q (q_move rfl) rfl ?_
            refine OW_wanted rfl rfl rfl ?_
            refine OW_q (q_move rfl) rfl ?_
            refine OW_wanted rfl rfl rfl ?_
            refine OW_q (q_indexAddr Try.underlying36 Try.sizeOf4 rfl rfl (by first | omega | assumption)) rfl ?_
            refine OW_wanted rfl rfl rfl ?_
            refine OW_q (q_load_bools Try.isAgg4 rfl (by (repeat (first | exact .head | apply Swap.tail))) (by exact hcx)) rfl ?_
            refine OW_q (q_pick_f rfl rfl) rfl ?_
            refine OW_q (q_move rfl) rfl ?_
            refine OW_part (t := 51) rfl (fun hg51 => ?_) (fun hg51 => ?_)
            · skip
              refine OW_wanted rfl rfl rfl ?_
              first | (refine OW_q (q_loadN_own Try.isAgg24 Try.sizeOf24 rfl rfl (by (repeat (first | exact .head | apply Swap.tail))) (by rfl)) rfl ?_) | (refine OW_q (q_loadN_ro Try.isAgg24 Try.sizeOf24 rfl (by first | assumption | exact Row.at_ (by assumption) rfl) (by rfl)) rfl ?_)
              refine OW_wanted rfl rfl rfl ?_
              first | (refine OW_q (q_loadN_own Try.isAgg53 Try.sizeOf53 rfl rfl (by (repeat (first | exact .head | apply Swap.tail))) (by rfl)) rfl ?_) | (refine OW_q (q_loadN_ro Try.isAgg53 Try.sizeOf53 rfl (by first | assumption | exact Row.at_ (by assumption) rfl) (by rfl)) rfl ?_)
              refine OW_wanted rfl rfl rfl ?_
              refine OW_q (q_move rfl) rfl ?_
              refine OW_wanted rfl rfl rfl ?_
              refine OW_q (q_move rfl) rfl ?_
              refine OW_wanted rfl rfl rfl ?_
              refine OW_e (e_call Try.call56 rfl (fun w hw => lift_ro (first_any _ _ _ _ g x11.nl (xa : Int) (yb : Int) w (hg0.mono (fun _ _ h => hw.rd (Rd.old h))) hm (hw.boolsAt (A' := bools 0 0 []) (by repeat (first | exact .head | apply Swap.tail)) hnl (Nat.le_refl _) (by omega)) hnl) hw)) rfl (fun x56 => ?_)
              refine OW_q (q_pick_t rfl rfl) rfl ?_
              refine OW_nil ?_
              refine EW_then ?_
              refine CW_cond rfl (fun h57 => ?_) (fun h57 => ?_)
              · skip
                refine CW_region ?_
                refine OW_q (q_move rfl) rfl ?_
                refine OW_q (q_move rfl) rfl ?_
                refine OW_q (q_indexAddr Try.underlying36 Try.sizeOf4 rfl rfl (by first | omega | assumption)) rfl ?_
                refine OW_e0 (e_store_bools Try.sizeOf4 rfl rfl (by (repeat (first | exact .head | apply Swap.tail))) (by omega)) (fun _ => ?_)
                refine OW_nil ?_
                refine EW_block_normal ?_
                refine EW_then ?_
                refine CW_region ?_
                refine OW_q (q_move rfl) rfl ?_
                first | refine OW_q (q_inc rfl rfl (by omega)) rfl ?_ | refine OW_q (q_add rfl rfl (by omega) (by omega)) rfl ?_
                refine OW_q (q_assign rfl) rfl ?_
                refine OW_nil ?_
                refine EW_again ((yb + 1, cm2.set yb true)) ⟨?_, ?_⟩ ⟨rfl, rfl, rfl, rfl, rfl, rfl, rfl, rfl, trivial⟩ (fun w hw => hw.sub (by (repeat (first | exact SubL.nil | exact Pick.head | apply Pick.tail | apply SubL.cons))))
                · show g.names.toNat - (yb + 1) < g.names.toNat - yb; omega
                · have hst := hri2.step (KW_mem (rs := g.rules) (nl := x11.nl) (n := (n : Int)) hltx hlty) (Int.natCast_nonneg yb) (by show (yb : Int) < (cm.length : Int); omega)
                  have hcc : (wayK g.rules x11.nl (n : Int) (xa : Int) yb).cond cm2 = true := by
                    show ((decide ((xa : Int) = (n : Int)) || atB cm2 (xa : Int)) && fstB g.rules x11.nl (xa : Int) (yb : Int)) = true
                    have e51 : atB cm2 (xa : Int) = true := hg51
                    rw [h57, e51]; simp
                  rw [if_pos hcc, ← DWy_step hlty] at hst
                  exact ⟨by show yb + 1 ≤ _; omega, way_put (b := (yb : Int)) hsnd2 (Int.natCast_nonneg xa) (Int.natCast_nonneg yb) (by omega) h57 (.inr hg51), hst⟩
              · skip
                refine CW_skip ?_
                refine EW_block_normal ?_
                refine EW_then ?_
                refine CW_region ?_
                refine OW_q (q_move rfl) rfl ?_
                first | refine OW_q (q_inc rfl rfl (by omega)) rfl ?_ | refine OW_q (q_add rfl rfl (by omega) (by omega)) rfl ?_
                refine OW_q (q_assign rfl) rfl ?_
                refine OW_nil ?_
                refine EW_again ((yb + 1, cm2)) ⟨?_, ?_⟩ ⟨rfl, rfl, rfl, rfl, rfl, rfl, rfl, rfl, trivial⟩ (fun w hw => hw.sub (by (repeat (first | exact SubL.nil | exact Pick.head | apply Pick.tail | apply SubL.cons))))
                · show g.names.toNat - (yb + 1) < g.names.toNat - yb; omega
                · have hst := hri2.step (KW_mem (rs := g.rules) (nl := x11.nl) (n := (n : Int)) hltx hlty) (Int.natCast_nonneg yb) (by show (yb : Int) < (cm.length : Int); omega)
                  have hcc : (wayK g.rules x11.nl (n : Int) (xa : Int) yb).cond cm2 = false := by
                    show ((decide ((xa : Int) = (n : Int)) || atB cm2 (xa : Int)) && fstB g.rules x11.nl (xa : Int) (yb : Int)) = false
                    rw [h57]; simp
                  rw [if_neg (by rw [hcc]; decide), ← DWy_step hlty] at hst
                  exact ⟨by show yb + 1 ≤ _; omega, hsnd2, hst⟩
            · skip
              refine OW_skip rfl rfl rfl rfl ?_
              refine OW_skip rfl rfl rfl rfl ?_
              refine OW_skip rfl rfl rfl rfl ?_
              refine OW_skip rfl rfl rfl rfl ?_
              refine OW_skip rfl rfl rfl rfl ?_
              refine OW_q (q_pick_f rfl rfl) rfl ?_
              refine OW_nil ?_
              refine EW_then ?_
              refine CW_false rfl rfl ?_
              refine CW_skip ?_
              refine EW_block_normal ?_
              refine EW_then ?_
              refine CW_region ?_
              refine OW_q (q_move rfl) rfl ?_
              first | refine OW_q (q_inc rfl rfl (by omega)) rfl ?_ | refine OW_q (q_add rfl rfl (by omega) (by omega)) rfl ?_
              refine OW_q (q_assign rfl) rfl ?_
              refine OW_nil ?_
              refine EW_again ((yb + 1, cm2)) ⟨?_, ?_⟩ ⟨rfl, rfl, rfl, rfl, rfl, rfl, rfl, rfl, trivial⟩ (fun w hw => hw.sub (by (repeat (first | exact SubL.nil | exact Pick.head | apply Pick.tail | apply SubL.cons))))
              · show g.names.toNat - (yb + 1) < g.names.toNat - yb; omega
              · have hst := hri2.step (KW_mem (rs := g.rules) (nl := x11.nl) (n := (n : Int)) hltx hlty) (Int.natCast_nonneg yb) (by show (yb : Int) < (cm.length : Int); omega)
                have hcc : (wayK g.rules x11.nl (n : Int) (xa : Int) yb).cond cm2 = false := by
                  show ((decide ((xa : Int) = (n : Int)) || atB cm2 (xa : Int)) && fstB g.rules x11.nl (xa : Int) (yb : Int)) = false
                  have e45 : ¬ (xa : Int) = (n : Int) := by simpa using hg45
                  have e51 : atB cm2 (xa : Int) = false := hg51
                  rw [e51]; simp [e45]
                rw [if_neg (by rw [hcc]; decide), ← DWy_step hlty] at hst
                exact ⟨by show yb + 1 ≤ _; omega, hsnd2, hst⟩
        · skip
          have hye : g.names.toNat ≤ yb := by have := of_decide_eq_false h39; omega
          refine CW_exit ?_
          refine EW_then_exit ?_
          refine EW_out ?_
          refine EW_block_exit ?_
          refine EW_block_normal ?_
          refine EW_then ?_
          refine CW_region ?_
          refine OW_q (q_move rfl) rfl ?_
          first | refine OW_q (q_inc rfl rfl (by omega)) rfl ?_ | refine OW_q (q_add rfl rfl (by omega) (by omega)) rfl ?_
          refine OW_q (q_assign rfl) rfl ?_
          refine OW_nil ?_
          refine EW_again ((xa + 1, cm2)) ⟨?_, ?_⟩ ⟨rfl, rfl, rfl, rfl, rfl, rfl, rfl, trivial⟩ (fun w hw => hw.sub (by (repeat (first | exact SubL.nil | exact Pick.head | apply Pick.tail | apply SubL.cons))))
          · show g.names.toNat - (xa + 1) < g.names.toNat - xa; omega
          · exact ⟨by show xa + 1 ≤ _; omega, hsnd2, by show RI _ (((List.range g.names.toNat).take (xa + 1)).flatMap _) _ _; rw [DWy_next hltx (b := yb) (by omega)]; exact hri2⟩
      · skip
        have hxe : g.names.toNat ≤ xa := by have := of_decide_eq_false h33; omega
        refine CW_exit ?_
        refine EW_then_exit ?_
        refine EW_out ?_
        refine EW_block_exit ?_
        refine EW_block_normal ?_
        refine EW_then ?_
        refine CW_region ?_
        refine OW_q (q_move rfl) rfl ?_
        first | refine OW_q (q_inc rfl rfl (by omega)) rfl ?_ | refine OW_q (q_add rfl rfl (by omega) (by omega)) rfl ?_
        refine OW_q (q_assign rfl) rfl ?_
        refine OW_nil ?_
        refine EW_again ((j + 1, cm1)) ⟨?_, ?_⟩ ⟨rfl, rfl, rfl, rfl, rfl, rfl, trivial⟩ (fun w hw => hw.sub (by (repeat (first | exact SubL.nil | exact Pick.head | apply Pick.tail | apply SubL.cons))))
        · show g.names.toNat + 1 - (j + 1) < g.names.toNat + 1 - j; omega
        · exact ⟨by show j + 1 ≤ _; omega, hri1.len.trans hlc, hsnd1, (by rw [List.take_of_length_le (by rw [List.length_range]; omega)] at hri1; exact RI.round (all := KW g.rules x11.nl g.names.toNat (n : Int)) hri1 hcl)⟩
    · skip
      have hclw : ClosedK (KW g.rules x11.nl g.names.toNat (n : Int)) cm := by
        rcases hcl with h | h
        · exact h
        · have := of_decide_eq_false h27; omega
      have hcn := atB_get (is := cm) (n := (n : Int)) (Int.natCast_nonneg n) (by omega)
      rw [Int.toNat_natCast] at hcn
      refine CW_exit ?_
      refine EW_then_exit ?_
      refine EW_out ?_
      refine EW_block_exit ?_
      refine EW_then ?_
      refine CW_region ?_
      refine OW_q (q_move rfl) rfl ?_
      refine OW_q (q_move rfl) rfl ?_
      refine OW_q (q_move rfl) rfl ?_
      refine OW_q (q_move rfl) rfl ?_
      refine OW_q (q_indexAddr Try.underlying36 Try.sizeOf4 rfl rfl (by first | omega | assumption)) rfl ?_
      refine OW_q (q_load_bools Try.isAgg4 rfl (by (repeat (first | exact .head | apply Swap.tail))) (by exact hcn)) rfl ?_
      refine OW_q (q_indexAddr Try.underlying36 Try.sizeOf4 rfl rfl (by first | omega | assumption)) rfl ?_
      refine OW_e0 (e_store_bools Try.sizeOf4 rfl rfl (by (repeat (first | exact .head | apply Swap.tail))) (by omega)) (fun _ => ?_)
      refine OW_nil ?_
      refine EW_block_normal ?_
      refine EW_then ?_
      refine CW_region ?_
      refine OW_q (q_move rfl) rfl ?_
      first | refine OW_q (q_inc rfl rfl (by omega)) rfl ?_ | refine OW_q (q_add rfl rfl (by omega) (by omega)) rfl ?_
      refine OW_q (q_assign rfl) rfl ?_
      refine OW_nil ?_
      refine EW_again ((n + 1, out.set n (atB cm (n : Int)))) ⟨?_, ?_⟩ ⟨rfl, rfl, rfl, rfl, trivial⟩ (fun w hw => hw.sub (by (repeat (first | exact SubL.nil | exact Pick.head | apply Pick.tail | apply SubL.cons))))
      · show g.names.toNat - (n + 1) < g.names.toNat - n; omega
      · refine ⟨by show n + 1 ≤ _; omega, by show (List.set _ _ _).length = _; rw [List.length_set]; exact hlo, fun i h0 h1 => ?_⟩
        have h1' : i < ((n + 1 : Nat) : Int) := h1
        have e2 : atB (out.set n (atB cm (n : Int))) i = if i = (n : Int) then atB cm (n : Int) else atB out i := atB_set' (t := (n : Int)) (Int.natCast_nonneg n) (by omega) h0 _
        show atB (out.set n (atB cm (n : Int))) i = true ↔ _
        rw [e2]
        split
        · rename_i e
          subst e
          exact ⟨fun h => hsnd _ h0 h, fun h => ways_of hclw (hE x11.nl) h⟩
        · exact hoo i h0 (by omega)
  · skip
    obtain rfl : n = g.names.toNat := by have := of_decide_eq_false h18; omega
    refine CW_exit ?_
    refine EW_then_exit ?_
    refine EW_out ?_
    refine EW_block_exit ?_
    refine EW_then ?_
    refine CW_seq ?_
    refine CW_region ?_
    refine OW_q (q_move rfl) rfl ?_
    refine OW_q (q_assign rfl) rfl ?_
    refine OW_nil ?_
    refine EW_then ?_
    refine CW_ret ?_
    refine ret1 Try.results33 rfl (fun w hw => ?_)
    exact ⟨(b14, out, x11.nl), rfl, ⟨hlo, hnl, hx11.2.1.1, hx11.2.2.1, hoo⟩, hw.sub (by repeat (first | exact SubL.nil | exact Pick.head | apply Pick.tail | apply SubL.cons))⟩

set_option maxRecDepth 20000 in
theorem reachTells_no (gv : Value) (g : Gram) (w : World) (hg : GramAt (Cl w) gv g) (hm : mayB g = false) : Calls Try.prog 12 #[gv] w (fun e w' => e = .returned (.bool true) ∧ Sat (Old w) w [] w') := by
  have hg0 := hg
  obtain ⟨rv, rfl, hr⟩ := hg.mono old_rd
  obtain ⟨a, c, rfl, hc1, hc2, hrs⟩ := hr
  clear hg
  refine calls_CW Try.func12 rfl Try.ntmps12 rfl (Sat.start w) ?_
  refine CW_seq ?_
  refine CW_region ?_
  refine OW_e (e_box rfl rfl) rfl (fun b1 => ?_)
  refine OW_q (q_assign rfl) rfl ?_
  refine OW_nil ?_
  refine EW_then ?_
  refine CW_seq ?_
  refine CW_region ?_
  first | (refine OW_q (q_loadN_own Try.isAgg24 Try.sizeOf24 rfl rfl (by (repeat (first | exact .head | apply Swap.tail))) (by rfl)) rfl ?_) | (refine OW_q (q_loadN_ro Try.isAgg24 Try.sizeOf24 rfl (by first | assumption | exact Row.at_ (by assumption) rfl) (by rfl)) rfl ?_)
  refine OW_e (e_call Try.call18 rfl (fun w hw => lift_ro (makes_no _ g w (hg0.mono (fun _ _ h => hw.rd (Rd.old h))) hm) hw)) rfl (fun x11 => ?_)
  refine OW_q (q_move rfl) rfl ?_
  refine OW_q (q_extract rfl rfl) rfl ?_
  refine OW_q (q_extract rfl rfl) rfl ?_
  refine OW_q (q_assign rfl) rfl ?_
  refine OW_q (q_assign rfl) rfl ?_
  refine OW_nil ?_
  refine EW_then ?_
  refine CW_seq ?_
  refine CW_region ?_
  first | (refine OW_q (q_loadN_own Try.isAgg24 Try.sizeOf24 rfl rfl (by (repeat (first | exact .head | apply Swap.tail))) (by rfl)) rfl ?_) | (refine OW_q (q_loadN_ro Try.isAgg24 Try.sizeOf24 rfl (by first | assumption | exact Row.at_ (by assumption) rfl) (by rfl)) rfl ?_)
  refine OW_e (e_call Try.call19 rfl (fun w hw => lift_ro (comes_no _ g w (hg0.mono (fun _ _ h => hw.rd (Rd.old h))) hm) hw)) rfl (fun x16 => ?_)
  refine OW_q (q_move rfl) rfl ?_
  refine OW_q (q_extract rfl rfl) rfl ?_
  refine OW_q (q_extract rfl rfl) rfl ?_
  refine OW_q (q_assign rfl) rfl ?_
  refine OW_q (q_assign rfl) rfl ?_
  refine OW_nil ?_
  refine EW_then ?_
  refine CW_seq ?_
  refine CW_region ?_
  first | (refine OW_q (q_loadN_own Try.isAgg24 Try.sizeOf24 rfl rfl (by (repeat (first | exact .head | apply Swap.tail))) (by rfl)) rfl ?_) | (refine OW_q (q_loadN_ro Try.isAgg24 Try.sizeOf24 rfl (by first | assumption | exact Row.at_ (by assumption) rfl) (by rfl)) rfl ?_)
  refine OW_e (e_call Try.call29 rfl (fun w hw => lift_ro (left_no _ g w (hg0.mono (fun _ _ h => hw.rd (Rd.old h))) hm) hw)) rfl (fun x21 => ?_)
  refine OW_q (q_move rfl) rfl ?_
  refine OW_q (q_extract rfl rfl) rfl ?_
  refine OW_q (q_extract rfl rfl) rfl ?_
  refine OW_q (q_assign rfl) rfl ?_
  refine OW_q (q_assign rfl) rfl ?_
  refine OW_nil ?_
  refine EW_then ?_
  refine CW_seq ?_
  refine CW_seq ?_
  refine CW_region ?_
  first | (refine OW_q (q_loadN_own Try.isAgg24 Try.sizeOf24 rfl rfl (by (repeat (first | exact .head | apply Swap.tail))) (by rfl)) rfl ?_) | (refine OW_q (q_loadN_ro Try.isAgg24 Try.sizeOf24 rfl (by first | assumption | exact Row.at_ (by assumption) rfl) (by rfl)) rfl ?_)
  refine OW_e (e_call Try.call14 rfl (fun w hw => lift_ro (may1_any _ g w (hg0.mono (fun _ _ h => hw.rd (Rd.old h)))) hw)) rfl (fun x25 => ?_)
  refine OW_q (q_not rfl) rfl ?_
  refine OW_nil ?_
  refine EW_then ?_
  refine CW_true rfl (by simp [hm]) ?_
  refine CW_seq ?_
  refine CW_region ?_
  refine OW_q (q_move rfl) rfl ?_
  refine OW_q (q_eqi rfl rfl) rfl ?_
  refine OW_q (q_move rfl) rfl ?_
  refine OW_part (t := 29) rfl (fun hg29 => ?_) (fun hg29 => ?_)
  · skip
    refine OW_wanted rfl rfl rfl ?_
    refine OW_q (q_move rfl) rfl ?_
    refine OW_wanted rfl rfl rfl ?_
    refine OW_q (q_eqi rfl rfl) rfl ?_
    refine OW_q (q_pick_t rfl rfl) rfl ?_
    refine OW_q (q_move rfl) rfl ?_
    refine OW_part (t := 33) rfl (fun hg33 => ?_) (fun hg33 => ?_)
    · skip
      refine OW_wanted rfl rfl rfl ?_
      refine OW_q (q_move rfl) rfl ?_
      refine OW_wanted rfl rfl rfl ?_
      refine OW_q (q_eqi rfl rfl) rfl ?_
      refine OW_q (q_pick_t rfl rfl) rfl ?_
      refine OW_q (q_move rfl) rfl ?_
      refine OW_part (t := 37) rfl (fun hg37 => ?_) (fun hg37 => ?_)
      · skip
        refine OW_wanted rfl rfl rfl ?_
        refine OW_q (q_move rfl) rfl ?_
        refine OW_wanted rfl rfl rfl ?_
        refine OW_q (q_len Try.underlying36 rfl) rfl ?_
        refine OW_wanted rfl rfl rfl ?_
        refine OW_q (q_move rfl) rfl ?_
        refine OW_wanted rfl rfl rfl ?_
        refine OW_q (q_len Try.underlying36 rfl) rfl ?_
        refine OW_wanted rfl rfl rfl ?_
        first | refine OW_q (q_inc rfl rfl (by omega)) rfl ?_ | refine OW_q (q_add rfl rfl (by omega) (by omega)) rfl ?_
        refine OW_wanted rfl rfl rfl ?_
        refine OW_q (q_move rfl) rfl ?_
        refine OW_wanted rfl rfl rfl ?_
        refine OW_q (q_len Try.underlying36 rfl) rfl ?_
        refine OW_wanted rfl rfl rfl ?_
        first | refine OW_q (q_inc rfl rfl (by omega)) rfl ?_ | refine OW_q (q_add rfl rfl (by omega) (by omega)) rfl ?_
        refine OW_wanted rfl rfl rfl ?_
        refine OW_q (q_eqi rfl rfl) rfl ?_
        refine OW_q (q_pick_t rfl rfl) rfl ?_
        refine OW_q (q_assign rfl) rfl ?_
        refine OW_nil ?_
        refine EW_then ?_
        refine CW_ret ?_
        refine EW_then_ret ?_
        refine ret1 Try.results12 rfl (fun w hw => ?_)
        exact ⟨rfl, hw.sub .nil⟩
      · skip
        exact absurd hg37 (by decide) --stop
    · skip
      exact absurd hg33 (by decide) --stop
  · skip
    exact absurd hg29 (by decide) --stop

set_option maxRecDepth 20000 in
theorem reachTells_yes (gv : Value) (g : Gram) (w : World) (hg : GramAt (Cl w) gv g) (hm : mayB g = true) : Calls Try.prog 12 #[gv] w (fun e w' => e = .returned (.bool true) ∧ Sat (Old w) w [] w') := by
  have hg0 := hg
  obtain ⟨rv, rfl, hr⟩ := hg.mono old_rd
  obtain ⟨a, c, rfl, hc1, hc2, hrs⟩ := hr
  clear hg
  have hM := mayB_true.1 hm
  have hn64 : g.names.toNat ≤ 9223372036854775807 := by omega
  refine calls_CW Try.func12 rfl Try.ntmps12 rfl (Sat.start w) ?_
  refine CW_seq ?_
  refine CW_region ?_
  refine OW_e (e_box rfl rfl) rfl (fun b1 => ?_)
  refine OW_q (q_assign rfl) rfl ?_
  refine OW_nil ?_
  refine EW_then ?_
  refine CW_seq ?_
  refine CW_region ?_
  first | (refine OW_q (q_loadN_own Try.isAgg24 Try.sizeOf24 rfl rfl (by (repeat (first | exact .head | apply Swap.tail))) (by rfl)) rfl ?_) | (refine OW_q (q_loadN_ro Try.isAgg24 Try.sizeOf24 rfl (by first | assumption | exact Row.at_ (by assumption) rfl) (by rfl)) rfl ?_)
  refine OW_e (e_call Try.call18 rfl (fun w hw => lift_oldP (makes_yes _ g w (hg0.mono (fun _ _ h => hw.rd (Rd.old h))) hm) hw)) rfl (fun x11 => ?_)
  refine OW_pure fun hx11 => ?_
  refine OW_q (q_move rfl) rfl ?_
  refine OW_q (q_extract rfl rfl) rfl ?_
  refine OW_q (q_extract rfl rfl) rfl ?_
  refine OW_q (q_assign rfl) rfl ?_
  refine OW_q (q_assign rfl) rfl ?_
  refine OW_nil ?_
  refine EW_then ?_
  refine CW_seq ?_
  refine CW_region ?_
  first | (refine OW_q (q_loadN_own Try.isAgg24 Try.sizeOf24 rfl rfl (by (repeat (first | exact .head | apply Swap.tail))) (by rfl)) rfl ?_) | (refine OW_q (q_loadN_ro Try.isAgg24 Try.sizeOf24 rfl (by first | assumption | exact Row.at_ (by assumption) rfl) (by rfl)) rfl ?_)
  refine OW_e (e_call Try.call19 rfl (fun w hw => lift_oldP (comes_yes _ g w (hg0.mono (fun _ _ h => hw.rd (Rd.old h))) hm) hw)) rfl (fun x16 => ?_)
  refine OW_pure fun hx16 => ?_
  refine OW_q (q_move rfl) rfl ?_
  refine OW_q (q_extract rfl rfl) rfl ?_
  refine OW_q (q_extract rfl rfl) rfl ?_
  refine OW_q (q_assign rfl) rfl ?_
  refine OW_q (q_assign rfl) rfl ?_
  refine OW_nil ?_
  refine EW_then ?_
  refine CW_seq ?_
  refine CW_region ?_
  first | (refine OW_q (q_loadN_own Try.isAgg24 Try.sizeOf24 rfl rfl (by (repeat (first | exact .head | apply Swap.tail))) (by rfl)) rfl ?_) | (refine OW_q (q_loadN_ro Try.isAgg24 Try.sizeOf24 rfl (by first | assumption | exact Row.at_ (by assumption) rfl) (by rfl)) rfl ?_)
  refine OW_e (e_call Try.call29 rfl (fun w hw => lift_oldP (left_yes _ g w (hg0.mono (fun _ _ h => hw.rd (Rd.old h))) hm) hw)) rfl (fun x21 => ?_)
  refine OW_pure fun hx21 => ?_
  refine OW_q (q_move rfl) rfl ?_
  refine OW_q (q_extract rfl rfl) rfl ?_
  refine OW_q (q_extract rfl rfl) rfl ?_
  refine OW_q (q_assign rfl) rfl ?_
  refine OW_q (q_assign rfl) rfl ?_
  refine OW_nil ?_
  refine EW_then ?_
  refine CW_seq ?_
  refine CW_seq ?_
  refine CW_region ?_
  first | (refine OW_q (q_loadN_own Try.isAgg24 Try.sizeOf24 rfl rfl (by (repeat (first | exact .head | apply Swap.tail))) (by rfl)) rfl ?_) | (refine OW_q (q_loadN_ro Try.isAgg24 Try.sizeOf24 rfl (by first | assumption | exact Row.at_ (by assumption) rfl) (by rfl)) rfl ?_)
  refine OW_e (e_call Try.call14 rfl (fun w hw => lift_ro (may1_any _ g w (hg0.mono (fun _ _ h => hw.rd (Rd.old h)))) hw)) rfl (fun x25 => ?_)
  refine OW_q (q_not rfl) rfl ?_
  refine OW_nil ?_
  refine EW_then ?_
  refine CW_false rfl (by simp [hm]) ?_
  refine CW_skip ?_
  refine EW_then ?_
  refine CW_seq ?_
  refine CW_seq ?_
  refine CW_region ?_
  refine OW_q (q_move rfl) rfl ?_
  refine OW_q (q_nei rfl rfl) rfl ?_
  refine OW_q (q_move rfl) rfl ?_
  refine OW_part (t := 50) rfl (fun hg50 => ?_) (fun hg50 => ?_)
  · skip
    exact absurd hg50 (by decide) --stop
  · skip
    refine OW_wanted rfl rfl rfl ?_
    refine OW_q (q_move rfl) rfl ?_
    refine OW_wanted rfl rfl rfl ?_
    refine OW_q (q_nei rfl rfl) rfl ?_
    refine OW_q (q_pick_f rfl rfl) rfl ?_
    refine OW_q (q_move rfl) rfl ?_
    refine OW_part (t := 54) rfl (fun hg54 => ?_) (fun hg54 => ?_)
    · skip
      exact absurd hg54 (by decide) --stop
    · skip
      refine OW_wanted rfl rfl rfl ?_
      refine OW_q (q_move rfl) rfl ?_
      refine OW_wanted rfl rfl rfl ?_
      refine OW_q (q_nei rfl rfl) rfl ?_
      refine OW_q (q_pick_f rfl rfl) rfl ?_
      refine OW_nil ?_
      refine EW_then ?_
      refine CW_false rfl (by decide) ?_
      refine CW_skip ?_
      refine EW_then ?_
      refine CW_seq ?_
      refine CW_region ?_
      refine OW_q (q_move rfl) rfl ?_
      first | (refine OW_q (q_loadN_own Try.isAgg24 Try.sizeOf24 rfl rfl (by (repeat (first | exact .head | apply Swap.tail))) (by rfl)) rfl ?_) | (refine OW_q (q_loadN_ro Try.isAgg24 Try.sizeOf24 rfl (by first | assumption | exact Row.at_ (by assumption) rfl) (by rfl)) rfl ?_)
      refine OW_e (e_call Try.call31 rfl (fun w hw => lift_oldP (makes3_any _ g w (hg0.mono (fun _ _ h => hw.rd (Rd.old h))) hm) hw)) rfl (fun x60 => ?_)
      refine OW_pure fun hx60 => ?_
      refine OW_e (e_call Try.call30 rfl (fun w hw => lift_ro (truths_any _ _ x11.2 x60.2 w (hw.boolsAt (A' := bools 0 0 []) (by repeat (first | exact .head | apply Swap.tail)) hx11.1 (Nat.le_refl _) hn64) (hw.boolsAt (A' := bools 0 0 []) (by repeat (first | exact .head | apply Swap.tail)) hx60.1 (Nat.le_refl _) hn64)) hw)) rfl (fun x61 => ?_)
      refine OW_q (q_move rfl) rfl ?_
      refine OW_part (t := 62) rfl (fun hg62 => ?_) (fun hg62 => ?_)
      · skip
        refine OW_wanted rfl rfl rfl ?_
        refine OW_q (q_move rfl) rfl ?_
        refine OW_wanted rfl rfl rfl ?_
        first | (refine OW_q (q_loadN_own Try.isAgg24 Try.sizeOf24 rfl rfl (by (repeat (first | exact .head | apply Swap.tail))) (by rfl)) rfl ?_) | (refine OW_q (q_loadN_ro Try.isAgg24 Try.sizeOf24 rfl (by first | assumption | exact Row.at_ (by assumption) rfl) (by rfl)) rfl ?_)
        refine OW_wanted rfl rfl rfl ?_
        refine OW_e (e_call Try.call32 rfl (fun w hw => lift_oldP (comes3_any _ g w (hg0.mono (fun _ _ h => hw.rd (Rd.old h))) hm) hw)) rfl (fun x65 => ?_)
        refine OW_pure fun hx65 => ?_
        refine OW_wanted rfl rfl rfl ?_
        refine OW_e (e_call Try.call30 rfl (fun w hw => lift_ro (truths_any _ _ x16.2 x65.2 w (hw.boolsAt (A' := bools 0 0 []) (by repeat (first | exact .head | apply Swap.tail)) hx16.1 (Nat.le_refl _) hn64) (hw.boolsAt (A' := bools 0 0 []) (by repeat (first | exact .head | apply Swap.tail)) hx65.1 (Nat.le_refl _) hn64)) hw)) rfl (fun x66 => ?_)
        refine OW_q (q_pick_t rfl rfl) rfl ?_
        refine OW_q (q_move rfl) rfl ?_
        refine OW_part (t := 68) rfl (fun hg68 => ?_) (fun hg68 => ?_)
        · skip
          refine OW_wanted rfl rfl rfl ?_
          refine OW_q (q_move rfl) rfl ?_
          refine OW_wanted rfl rfl rfl ?_
          first | (refine OW_q (q_loadN_own Try.isAgg24 Try.sizeOf24 rfl rfl (by (repeat (first | exact .head | apply Swap.tail))) (by rfl)) rfl ?_) | (refine OW_q (q_loadN_ro Try.isAgg24 Try.sizeOf24 rfl (by first | assumption | exact Row.at_ (by assumption) rfl) (by rfl)) rfl ?_)
          refine OW_wanted rfl rfl rfl ?_
          refine OW_e (e_call Try.call33 rfl (fun w hw => lift_oldP (left3_any _ g w (hg0.mono (fun _ _ h => hw.rd (Rd.old h))) hm) hw)) rfl (fun x71 => ?_)
          refine OW_pure fun hx71 => ?_
          refine OW_wanted rfl rfl rfl ?_
          refine OW_e (e_call Try.call30 rfl (fun w hw => lift_ro (truths_any _ _ x21.2.1 x71.2.1 w (hw.tbools (by repeat (first | exact .head | apply Swap.tail))) (hw.boolsAt (A' := bools 0 0 []) (by repeat (first | exact .head | apply Swap.tail)) hx71.1 (Nat.le_refl _) hn64)) hw)) rfl (fun x72 => ?_)
          refine OW_q (q_pick_t rfl rfl) rfl ?_
          refine OW_q (q_assign rfl) rfl ?_
          refine OW_nil ?_
          refine EW_then ?_
          refine CW_ret ?_
          refine ret1 Try.results12 rfl (fun w hw => ?_)
          have hu := left_unique hx21.1 hx71.1 hx21.2.2.1 hx21.2.2.2.1 hx71.2.2.1 hx71.2.2.2.1 hx21.2.1 hx71.2.1 hx21.2.2.2.2 hx71.2.2.2.2
          exact ⟨(rt (B := decide (x21.2.1 = x71.2.1)) (by simpa using hu)).symm, hw.sub .nil⟩
        · skip
          obtain ⟨m1, hm1, hm2, hm3, hm4, hm5, hm6⟩ := hx16.2
          obtain ⟨m2, hn1, hn2, hn3, hn4, hn5, hn6⟩ := hx65.2
          obtain rfl : m1 = m2 := makes_unique hm1 hn1 hm2 hm3 hn2 hn3
          exact absurd (comes_unique hx16.1 hx65.1 hm4 hm5 hm6 hn4 hn5 hn6) (by simpa using hg68) --stop
      · skip
        exact absurd (makes_unique hx11.1 hx60.1 hx11.2.1 hx11.2.2 hx60.2.1 hx60.2.2) (by simpa using hg62) --stop


theorem reachTells_any (gv : Value) (g : Gram) (w : World) (hg : GramAt (Cl w) gv g) : Calls Try.prog 12 #[gv] w (fun e w' => e = .returned (.bool true) ∧ Sat (Old w) w [] w') := by
  cases hm : mayB g
  · exact reachTells_no gv g w hg hm
  · exact reachTells_yes gv g w hg hm
end Go.Sy
