/- Package pollardingref3: what makes and what comes, by rounds. No condition. -/
import Derived.Test.YteceklkjbcebkabW8
import Derived.Test.YteceklkjbcebkabPCol
import Derived.Test.YteceklkjbcebkabSyw
namespace Go.Sy
open Go Go.RowKit Go.Proofs

theorem fls_zero : ∀ {c : List Bool}, fls c = 0 → ∀ b ∈ c, b = true
  | [], _, _, h => by cases h
  | x :: c, h, b, hb => by
    simp only [fls] at h
    rcases List.mem_cons.1 hb with rfl | hb
    · cases b with
      | true => rfl
      | false => simp at h
    · exact fls_zero (by omega) b hb
theorem fls_zero_at {c : List Bool} (h : fls c = 0) {n : Int} (h0 : 0 ≤ n) (h1 : n < c.length) : atB c n = true := fls_zero h _ (List.mem_of_getElem? (atB_get h0 h1))
theorem closedK_zero {ks : List Con} {c : List Bool} (h : fls c = 0) (hr : ∀ k ∈ ks, 0 ≤ k.tgt ∧ k.tgt < (c.length : Int)) : ClosedK ks c := fun k hk _ => fls_zero_at h (hr k hk).1 (hr k hk).2
theorem closedK_end {ks : List Con} {c : List Bool} {j N : Nat} (h : ClosedK ks c ∨ fls c + j ≤ N) (hj : N ≤ j) (hr : ∀ k ∈ ks, 0 ≤ k.tgt ∧ k.tgt < (c.length : Int)) : ClosedK ks c := by
  rcases h with h | h
  · exact h
  · exact closedK_zero (by omega) hr
theorem RI.skips {all done ks : List Con} {c0 c1 : List Bool} (h : RI all done c0 c1) (hk : ∀ k ∈ ks, k.cond c1 = false) : RI all (done ++ ks) c0 c1 :=
  ⟨h.len, h.le, h.keep, fun e => ⟨(h.same e).1, fun q hq hqc => by
    rcases List.mem_append.1 hq with hq | hq
    · exact (h.same e).2 q hq hqc
    · rw [← (h.same e).1, hk q hq] at hqc; cases hqc⟩⟩

def makesK (r : Rule) : Con := ⟨fun c => allB c r.right, r.left⟩
def KM (g : Gram) : List Con := g.rules.map makesK
theorem KM_take {g : Gram} {i : Nat} {r : Rule} (h : g.rules[i]? = some r) : (KM g).take (i + 1) = (KM g).take i ++ [makesK r] := by
  rw [List.take_add_one]; unfold KM; rw [List.getElem?_map, h]; rfl
theorem closedM_of {g : Gram} {c : List Bool} (h : ClosedK (KM g) c) : ClosedM g c := fun r hr ha => h (makesK r) (List.mem_map.2 ⟨r, hr, rfl⟩) ha
theorem KM_rng {g : Gram} {N : Nat} (h : ∀ r ∈ g.rules, 0 ≤ r.left ∧ r.left < (N : Int)) : ∀ k ∈ KM g, 0 ≤ k.tgt ∧ k.tgt < (N : Int) := fun k hk => by
  obtain ⟨r, hr, rfl⟩ := List.mem_map.1 hk
  exact h r hr

def comesK (m : List Bool) (r : Rule) (s : Sym) : Con := ⟨fun c => atB c r.left && allB m r.right, s.n⟩
def comKs (m : List Bool) (r : Rule) (l : List Sym) : List Con := (l.filter (fun s => !s.term)).map (comesK m r)
def KC (g : Gram) (m : List Bool) : List Con := g.rules.flatMap fun r => comKs m r r.right
def DC (g : Gram) (m : List Bool) (i : Nat) (r : Rule) (k : Nat) : List Con := ((g.rules.take i).flatMap fun q => comKs m q q.right) ++ comKs m r (r.right.take k)
theorem DC_zero {g : Gram} {m : List Bool} {i : Nat} {r : Rule} : DC g m i r 0 = (g.rules.take i).flatMap fun q => comKs m q q.right := by
  unfold DC; rw [show comKs m r (r.right.take 0) = [] from rfl, List.append_nil]
theorem DC_next {g : Gram} {m : List Bool} {i : Nat} {r : Rule} (hx : g.rules[i]? = some r) : (g.rules.take (i + 1)).flatMap (fun q => comKs m q q.right) = ((g.rules.take i).flatMap fun q => comKs m q q.right) ++ comKs m r r.right := by
  rw [List.take_add_one, hx, List.flatMap_append]; simp
theorem DC_term {g : Gram} {m : List Bool} {i k : Nat} {r : Rule} {s : Sym} (hs : r.right[k]? = some s) (ht : s.term = true) : DC g m i r (k + 1) = DC g m i r k := by
  unfold DC comKs; rw [List.take_add_one, hs, List.filter_append]; simp [ht]
theorem DC_name {g : Gram} {m : List Bool} {i k : Nat} {r : Rule} {s : Sym} (hs : r.right[k]? = some s) (ht : s.term = false) : DC g m i r (k + 1) = DC g m i r k ++ [comesK m r s] := by
  unfold DC comKs; rw [List.take_add_one, hs, List.filter_append]; simp [ht]
theorem KC_mem {g : Gram} {m : List Bool} {r : Rule} {s : Sym} (hr : r ∈ g.rules) (hs : s ∈ r.right) (ht : s.term = false) : comesK m r s ∈ KC g m :=
  List.mem_flatMap.2 ⟨r, hr, List.mem_map.2 ⟨s, List.mem_filter.2 ⟨hs, by rw [ht]; rfl⟩, rfl⟩⟩
theorem closedC_of {g : Gram} {m c : List Bool} (h : ClosedK (KC g m) c) : ClosedC g m c := fun r hr hl ha s hs ht => h (comesK m r s) (KC_mem hr hs ht) (by show (atB c r.left && allB m r.right) = true; rw [hl, ha]; rfl)
theorem KC_rng {g : Gram} {m : List Bool} {N : Nat} (h : ∀ r ∈ g.rules, ∀ s ∈ r.right, s.term = false → 0 ≤ s.n ∧ s.n < (N : Int)) : ∀ k ∈ KC g m, 0 ≤ k.tgt ∧ k.tgt < (N : Int) := fun k hk => by
  obtain ⟨r, hr, hk⟩ := List.mem_flatMap.1 hk
  obtain ⟨s, hs, rfl⟩ := List.mem_map.1 hk
  have := List.mem_filter.1 hs
  exact h r hr s this.1 (by simpa using this.2)

set_option maxRecDepth 20000 in
theorem all3_any (sv bv : Value) (l : List Sym) (is : List Bool) (w : World) (hs : SymsAt (Cl w) sv l) (hb : BoolsAt (Cl w) bv is) (hl : ∀ s ∈ l, s.term = false → 0 ≤ s.n ∧ s.n < (is.length : Int)) : Calls Try.prog 58 #[sv, bv] w (fun e w' => e = .returned (.bool (allB is l)) ∧ Sat (Old w) w [] w') := by
  obtain ⟨a, c, rfl, hc1, hc2, hss⟩ := hs.mono old_rd
  obtain ⟨a2, c2, rfl, hd1, hd2, hbb⟩ := hb.mono old_rd
  clear hs hb
  refine calls_CW Try.func58 rfl Try.ntmps58 rfl (Sat.start w) ?_
  refine CW_seq ?_
  refine CW_region ?_
  refine OW_q (q_assign rfl) rfl ?_
  refine OW_nil ?_
  refine EW_then ?_
  refine CW_seq ?_
  refine CW_seq ?_
  refine CW_region ?_
  refine OW_q (q_assign rfl) rfl ?_
  refine OW_nil ?_
  refine EW_then ?_
  refine CW_block ?_
  refine CW_loopP (ι := Nat) (fun j => j ≤ l.length ∧ allB is (l.take j) = true) (fun j => [(0, .slice a l.length c), (1, .slice a2 is.length c2), (5, .int .i64 (j : Int))]) (fun j => Sat (Old w) w []) (fun j => l.length - j) 0 ?_ ⟨rfl, rfl, rfl, trivial⟩ (fun w hw => hw.sub (by (repeat (first | exact SubL.nil | exact Pick.head | apply Pick.tail | apply SubL.cons)))) ?_
  · exact ⟨Nat.zero_le _, rfl⟩
  intro j hpre
  change CW _ _ _ _ [(0, .slice a l.length c), (1, .slice a2 is.length c2), (5, .int .i64 (j : Int))] (Sat (Old w) w [])
  obtain ⟨hj, hok⟩ := hpre
  refine CW_seq ?_
  refine CW_seq ?_
  refine CW_region ?_
  refine OW_q (q_move rfl) rfl ?_
  refine OW_q (q_move rfl) rfl ?_
  refine OW_q (q_len Try.underlying46 rfl) rfl ?_
  refine OW_q (q_lss rfl rfl) rfl ?_
  refine OW_nil ?_
  refine EW_then ?_
  refine CW_cond rfl (fun h9 => ?_) (fun h9 => ?_)
  · skip
    have hltj : j < l.length := by simpa using h9
    obtain ⟨s, hsj⟩ := get_of_lt hltj
    obtain ⟨p, rfl, hrow⟩ := hss j s hsj
    have hmem := hl s (List.mem_of_getElem? hsj)
    refine CW_skip ?_
    refine EW_then ?_
    refine CW_seq ?_
    refine CW_block ?_
    refine CW_seq ?_
    refine CW_region ?_
    refine OW_q (q_move rfl) rfl ?_
    refine OW_q (q_move rfl) rfl ?_
    refine OW_q (q_indexAddr Try.underlying46 Try.sizeOf51 rfl rfl (by first | omega | assumption)) rfl ?_
    refine OW_q (q_fieldAddr Try.underlying51 rfl rfl Try.sizeOf4 rfl rfl) rfl ?_
    refine OW_q (q_load1_ro Try.isAgg4 rfl (by first | assumption | exact Row.at_ (by assumption) rfl)) rfl ?_
    refine OW_q (q_not rfl) rfl ?_
    refine OW_q (q_move rfl) rfl ?_
    refine OW_part (t := 18) rfl (fun hg18 => ?_) (fun hg18 => ?_)
    · skip
      have ht : s.term = false := by simpa using hg18
      have hs1 := hmem ht
      have hcell := atB_get hs1.1 hs1.2
      obtain ⟨q, rfl, hq⟩ := hbb s.n.toNat _ hcell
      refine OW_wanted rfl rfl rfl ?_
      refine OW_q (q_move rfl) rfl ?_
      refine OW_wanted rfl rfl rfl ?_
      refine OW_q (q_move rfl) rfl ?_
      refine OW_wanted rfl rfl rfl ?_
      refine OW_q (q_move rfl) rfl ?_
      refine OW_wanted rfl rfl rfl ?_
      refine OW_q (q_indexAddr Try.underlying46 Try.sizeOf51 rfl rfl (by first | omega | assumption)) rfl ?_
      refine OW_wanted rfl rfl rfl ?_
      refine OW_q (q_fieldAddr Try.underlying51 rfl rfl Try.sizeOf3 rfl rfl) rfl ?_
      refine OW_wanted rfl rfl rfl ?_
      refine OW_q (q_load1_ro Try.isAgg3 rfl (by first | assumption | exact Row.at_ (by assumption) rfl)) rfl ?_
      refine OW_wanted rfl rfl rfl ?_
      refine OW_q (q_indexAddrI Try.underlying54 Try.sizeOf4 rfl rfl (by first | omega | assumption) (by first | omega | assumption)) rfl ?_
      refine OW_wanted rfl rfl rfl ?_
      refine OW_q (q_load1_ro Try.isAgg4 rfl (by first | assumption | exact Row.at_ (by assumption) rfl)) rfl ?_
      refine OW_wanted rfl rfl rfl ?_
      refine OW_q (q_not rfl) rfl ?_
      refine OW_q (q_pick_t rfl rfl) rfl ?_
      refine OW_nil ?_
      refine EW_then ?_
      refine CW_cond rfl (fun h28 => ?_) (fun h28 => ?_)
      · skip
        refine CW_seq ?_
        refine CW_region ?_
        refine OW_q (q_assign rfl) rfl ?_
        refine OW_nil ?_
        refine EW_then ?_
        refine CW_ret ?_
        refine EW_block_ret ?_
        refine EW_then_ret ?_
        refine EW_out_ret ?_
        refine EW_block_ret ?_
        refine EW_then_ret ?_
        refine ret1 Try.results58 rfl (fun w hw => ?_)
        refine ⟨rf fun hm => ?_, hw.sub .nil⟩
        have := allB_iff.1 hm s (List.mem_of_getElem? hsj) ht
        rw [this] at h28
        cases h28
      · skip
        refine CW_skip ?_
        refine EW_block_normal ?_
        refine EW_then ?_
        refine CW_region ?_
        refine OW_q (q_move rfl) rfl ?_
        first | refine OW_q (q_inc rfl rfl (by omega)) rfl ?_ | refine OW_q (q_add rfl rfl (by omega) (by omega)) rfl ?_
        refine OW_q (q_assign rfl) rfl ?_
        refine OW_nil ?_
        refine EW_again (j + 1) ⟨?_, ?_⟩ ⟨rfl, rfl, rfl, trivial⟩ (fun w hw => hw.sub (by (repeat (first | exact SubL.nil | exact Pick.head | apply Pick.tail | apply SubL.cons))))
        · show l.length - (j + 1) < l.length - j; omega
        · refine ⟨by omega, ?_⟩
          unfold allB at hok ⊢
          rw [all_take_succ _ hsj, hok]
          simp only [Bool.true_and]
          first | (simp_all; done) | (simp at h28; simp [h28])
    · skip
      have ht : s.term = true := by simpa using hg18
      refine OW_skip rfl rfl rfl rfl ?_
      refine OW_skip rfl rfl rfl rfl ?_
      refine OW_skip rfl rfl rfl rfl ?_
      refine OW_skip rfl rfl rfl rfl ?_
      refine OW_skip rfl rfl rfl rfl ?_
      refine OW_skip rfl rfl rfl rfl ?_
      refine OW_skip rfl rfl rfl rfl ?_
      refine OW_skip rfl rfl rfl rfl ?_
      refine OW_skip rfl rfl rfl rfl ?_
      refine OW_q (q_pick_f rfl rfl) rfl ?_
      refine OW_nil ?_
      refine EW_then ?_
      refine CW_false rfl rfl ?_
      refine CW_skip ?_
      refine EW_block_normal ?_
      refine EW_then ?_
      refine CW_region ?_
      refine OW_q (q_move rfl) rfl ?_
      first | refine OW_q (q_inc rfl rfl (by omega)) rfl ?_ | refine OW_q (q_add rfl rfl (by omega) (by omega)) rfl ?_
      refine OW_q (q_assign rfl) rfl ?_
      refine OW_nil ?_
      refine EW_again (j + 1) ⟨?_, ?_⟩ ⟨rfl, rfl, rfl, trivial⟩ (fun w hw => hw.sub (by (repeat (first | exact SubL.nil | exact Pick.head | apply Pick.tail | apply SubL.cons))))
      · show l.length - (j + 1) < l.length - j; omega
      · refine ⟨by omega, ?_⟩
        unfold allB at hok ⊢
        rw [all_take_succ _ hsj, hok]
        simp only [Bool.true_and]
        first | (simp_all; done) | (simp at h28; simp [h28])
  · skip
    have hend := take_all (l := l) (k := j) (by simpa using h9)
    rw [hend] at hok
    refine CW_exit ?_
    refine EW_then_exit ?_
    refine EW_out ?_
    refine EW_block_exit ?_
    refine EW_then ?_
    refine CW_seq ?_
    refine CW_region ?_
    refine OW_q (q_assign rfl) rfl ?_
    refine OW_nil ?_
    refine EW_then ?_
    refine CW_ret ?_
    refine ret1 Try.results58 rfl (fun w hw => ?_)
    exact ⟨rt hok, hw.sub .nil⟩

set_option maxRecDepth 20000 in
theorem makes3_any (gv : Value) (g : Gram) (w : World) (hg : GramAt (Cl w) gv g) (hm : mayB g = true) : Calls Try.prog 40 #[gv] w (fun e w' => ∃ x : Nat × List Bool, e = .returned (.slice (some ⟨x.1, 0, none⟩) g.names.toNat g.names.toNat) ∧ (x.2.length = g.names.toNat ∧ LeastM g x.2 ∧ ClosedM g x.2) ∧ Sat (Old w) w [bools x.1 4 x.2] w') := by
  have hg0 := hg
  obtain ⟨rv, rfl, hr⟩ := hg.mono old_rd
  obtain ⟨a, c, rfl, hc1, hc2, hrs⟩ := hr
  have hg1 := hg.mono old_rd
  have hM := mayB_true.1 hm
  have hall := may_all hm
  refine calls_CW Try.func40 rfl Try.ntmps40 rfl (Sat.start w) ?_
  refine CW_seq ?_
  refine CW_region ?_
  refine OW_e (e_box rfl rfl) rfl (fun b1 => ?_)
  refine OW_q (q_assign rfl) rfl ?_
  refine OW_nil ?_
  refine EW_then ?_
  refine CW_seq ?_
  refine CW_region ?_
  refine OW_q (q_fieldAddr Try.underlying24 rfl rfl Try.sizeOf3 rfl rfl) rfl ?_
  first | (refine OW_q (q_load1_own Try.isAgg3 rfl rfl (by (repeat (first | exact .head | apply Swap.tail))) (by rfl)) rfl ?_) | (refine OW_q (q_load1_ro Try.isAgg3 rfl (by first | assumption | exact Row.at_ (by assumption) rfl)) rfl ?_)
  refine OW_e (e_makeB Try.underlying54 Try.typeInfo4 rfl rfl (by decide) rfl rfl (by omega) (by omega)) rfl (fun b8 => ?_)
  refine OW_q (q_assign rfl) rfl ?_
  refine OW_nil ?_
  refine EW_then ?_
  refine CW_seq ?_
  refine CW_seq ?_
  refine CW_region ?_
  refine OW_q (q_assign rfl) rfl ?_
  refine OW_nil ?_
  refine EW_then ?_
  refine CW_block ?_
  refine CW_loopP (ι := Nat × List Bool) (fun i_ => i_.1 ≤ g.names.toNat ∧ i_.2.length = g.names.toNat ∧ LeastM g i_.2 ∧ (ClosedK (KM g) i_.2 ∨ fls i_.2 + i_.1 ≤ g.names.toNat)) (fun i_ => [(1, .pointer (some ⟨b1, 0, none⟩)), (3, .slice (some ⟨b8, 0, none⟩) g.names.toNat g.names.toNat), (4, .int .i64 (i_.1 : Int))]) (fun i_ => Sat (Old w) w [bools b8 4 i_.2, cel b1 24 [.int .i64 g.terms, .int .i64 g.names, .slice a g.rules.length c]]) (fun i_ => g.names.toNat - i_.1) (0, List.replicate g.names.toNat false) ?_ ⟨rfl, rfl, rfl, trivial⟩ (fun w hw => hw.sub (by (repeat (first | exact SubL.nil | exact Pick.head | apply Pick.tail | apply SubL.cons)))) ?_
  · exact ⟨Nat.zero_le _, List.length_replicate, leastM_new g _, .inr (by have := fls_le (List.replicate g.names.toNat false); rw [List.length_replicate] at this; exact this)⟩
  intro i_ hpre
  obtain ⟨j, is⟩ := i_
  replace hpre : j ≤ g.names.toNat ∧ is.length = g.names.toNat ∧ LeastM g is ∧ (ClosedK (KM g) is ∨ fls is + j ≤ g.names.toNat) := hpre
  change CW _ _ _ _ [(1, .pointer (some ⟨b1, 0, none⟩)), (3, .slice (some ⟨b8, 0, none⟩) g.names.toNat g.names.toNat), (4, .int .i64 (j : Int))] (Sat (Old w) w [bools b8 4 is, cel b1 24 [.int .i64 g.terms, .int .i64 g.names, .slice a g.rules.length c]])
  obtain ⟨hj, hln, hl, hcl⟩ := hpre
  refine CW_seq ?_
  refine CW_seq ?_
  refine CW_region ?_
  refine OW_q (q_move rfl) rfl ?_
  refine OW_q (q_fieldAddr Try.underlying24 rfl rfl Try.sizeOf3 rfl rfl) rfl ?_
  first | (refine OW_q (q_load1_own Try.isAgg3 rfl rfl (by (repeat (first | exact .head | apply Swap.tail))) (by rfl)) rfl ?_) | (refine OW_q (q_load1_ro Try.isAgg3 rfl (by first | assumption | exact Row.at_ (by assumption) rfl)) rfl ?_)
  refine OW_q (q_lss rfl rfl) rfl ?_
  refine OW_nil ?_
  refine EW_then ?_
  refine CW_cond rfl (fun h12 => ?_) (fun h12 => ?_)
  · skip
    have hjlt : j < g.names.toNat := by have := of_decide_eq_true h12; omega
    refine CW_skip ?_
    refine EW_then ?_
    refine CW_seq ?_
    refine CW_block ?_
    refine CW_seq ?_
    refine CW_region ?_
    refine OW_q (q_assign rfl) rfl ?_
    refine OW_nil ?_
    refine EW_then ?_
    refine CW_block ?_
    refine CW_loopP (ι := Nat × List Bool) (fun i_ => i_.1 ≤ g.rules.length ∧ LeastM g i_.2 ∧ RI (KM g) ((KM g).take i_.1) is i_.2) (fun i_ => [(1, .pointer (some ⟨b1, 0, none⟩)), (3, .slice (some ⟨b8, 0, none⟩) g.names.toNat g.names.toNat), (4, .int .i64 (j : Int)), (5, .int .i64 (i_.1 : Int))]) (fun i_ => Sat (Old w) w [bools b8 4 i_.2, cel b1 24 [.int .i64 g.terms, .int .i64 g.names, .slice a g.rules.length c]]) (fun i_ => g.rules.length - i_.1) (0, is) ?_ ⟨rfl, rfl, rfl, rfl, trivial⟩ (fun w hw => hw.sub (by (repeat (first | exact SubL.nil | exact Pick.head | apply Pick.tail | apply SubL.cons)))) ?_
    · exact ⟨Nat.zero_le _, hl, RI.start _ _⟩
    intro i_ hpre
    obtain ⟨i, is1⟩ := i_
    replace hpre : i ≤ g.rules.length ∧ LeastM g is1 ∧ RI (KM g) ((KM g).take i) is is1 := hpre
    change CW _ _ _ _ [(1, .pointer (some ⟨b1, 0, none⟩)), (3, .slice (some ⟨b8, 0, none⟩) g.names.toNat g.names.toNat), (4, .int .i64 (j : Int)), (5, .int .i64 (i : Int))] (Sat (Old w) w [bools b8 4 is1, cel b1 24 [.int .i64 g.terms, .int .i64 g.names, .slice a g.rules.length c]])
    obtain ⟨hi, hl1, hri⟩ := hpre
    have hln1 : is1.length = g.names.toNat := hri.len.trans hln
    refine CW_seq ?_
    refine CW_seq ?_
    refine CW_region ?_
    refine OW_q (q_move rfl) rfl ?_
    refine OW_q (q_fieldAddr Try.underlying24 rfl rfl Try.sizeOf22 rfl rfl) rfl ?_
    first | (refine OW_q (q_load1_own Try.isAgg22 rfl rfl (by (repeat (first | exact .head | apply Swap.tail))) (by rfl)) rfl ?_) | (refine OW_q (q_load1_ro Try.isAgg22 rfl (by first | assumption | exact Row.at_ (by assumption) rfl)) rfl ?_)
    refine OW_q (q_len Try.underlying22 rfl) rfl ?_
    refine OW_q (q_lss rfl rfl) rfl ?_
    refine OW_nil ?_
    refine EW_then ?_
    refine CW_cond rfl (fun h19 => ?_) (fun h19 => ?_)
    · skip
      have hlt : i < g.rules.length := by have := of_decide_eq_true h19; omega
      obtain ⟨r, hx⟩ := get_of_lt hlt
      have hmem := List.mem_of_getElem? hx
      obtain ⟨p, rfl, rv2, hsy, hrow⟩ := hrs i r hx
      have hr1 := hall r hmem
      have hlN : r.left < (g.names.toNat : Int) := by omega
      refine CW_skip ?_
      refine EW_then ?_
      refine CW_seq ?_
      refine CW_block ?_
      refine CW_seq ?_
      refine CW_region ?_
      refine OW_q (q_fieldAddr Try.underlying24 rfl rfl Try.sizeOf22 rfl rfl) rfl ?_
      first | (refine OW_q (q_load1_own Try.isAgg22 rfl rfl (by (repeat (first | exact .head | apply Swap.tail))) (by rfl)) rfl ?_) | (refine OW_q (q_load1_ro Try.isAgg22 rfl (by first | assumption | exact Row.at_ (by assumption) rfl)) rfl ?_)
      refine OW_q (q_move rfl) rfl ?_
      refine OW_q (q_indexAddr Try.underlying22 Try.sizeOf49 rfl rfl (by first | omega | assumption)) rfl ?_
      refine OW_q (q_fieldAddr Try.underlying49 rfl rfl Try.sizeOf46 rfl rfl) rfl ?_
      refine OW_q (q_load1_ro Try.isAgg46 rfl (by first | assumption | exact Row.at_ (by assumption) rfl)) rfl ?_
      refine OW_q (q_move rfl) rfl ?_
      refine OW_e (e_call Try.call58 rfl (fun w hw => lift_ro (all3_any _ _ r.right is1 w (hsy.mono hw.rd_cl) (hw.boolsAt (A' := bools 0 0 []) (by repeat (first | exact .head | apply Swap.tail)) hln1 (Nat.le_refl _) (by omega)) (fun s hs ht => by have := hr1.2.2 s hs ht; omega)) hw)) rfl (fun x29 => ?_)
      refine OW_nil ?_
      refine EW_then ?_
      refine CW_cond rfl (fun h29 => ?_) (fun h29 => ?_)
      · skip
        refine CW_region ?_
        refine OW_q (q_move rfl) rfl ?_
        refine OW_q (q_fieldAddr Try.underlying24 rfl rfl Try.sizeOf22 rfl rfl) rfl ?_
        first | (refine OW_q (q_load1_own Try.isAgg22 rfl rfl (by (repeat (first | exact .head | apply Swap.tail))) (by rfl)) rfl ?_) | (refine OW_q (q_load1_ro Try.isAgg22 rfl (by first | assumption | exact Row.at_ (by assumption) rfl)) rfl ?_)
        refine OW_q (q_move rfl) rfl ?_
        refine OW_q (q_indexAddr Try.underlying22 Try.sizeOf49 rfl rfl (by first | omega | assumption)) rfl ?_
        refine OW_q (q_fieldAddr Try.underlying49 rfl rfl Try.sizeOf3 rfl rfl) rfl ?_
        refine OW_q (q_load1_ro Try.isAgg3 rfl (by first | assumption | exact Row.at_ (by assumption) rfl)) rfl ?_
        refine OW_q (q_indexAddrI Try.underlying54 Try.sizeOf4 rfl rfl (by first | omega | assumption) (by first | omega | assumption)) rfl ?_
        refine OW_e0 (e_store_bools Try.sizeOf4 rfl rfl (by (repeat (first | exact .head | apply Swap.tail))) (by omega)) (fun _ => ?_)
        refine OW_nil ?_
        refine EW_block_normal ?_
        refine EW_then ?_
        refine CW_region ?_
        refine OW_q (q_move rfl) rfl ?_
        first | refine OW_q (q_inc rfl rfl (by omega)) rfl ?_ | refine OW_q (q_add rfl rfl (by omega) (by omega)) rfl ?_
        refine OW_q (q_assign rfl) rfl ?_
        refine OW_nil ?_
        refine EW_again ((i + 1, is1.set r.left.toNat true)) ⟨?_, ?_⟩ ⟨rfl, rfl, rfl, rfl, trivial⟩ (fun w hw => hw.sub (by (repeat (first | exact SubL.nil | exact Pick.head | apply Pick.tail | apply SubL.cons))))
        · show g.rules.length - (i + 1) < g.rules.length - i; omega
        · have hst := hri.step (k := makesK r) (List.mem_map.2 ⟨r, hmem, rfl⟩) hr1.1 (by show r.left < (is.length : Int); omega)
          have hcc : (makesK r).cond is1 = true := h29
          rw [if_pos hcc, ← KM_take hx] at hst
          exact ⟨by show i + 1 ≤ _; omega, leastM_set hl1 hmem hr1.1 (fun s hs ht => (hr1.2.2 s hs ht).1) h29, hst⟩
      · skip
        refine CW_skip ?_
        refine EW_block_normal ?_
        refine EW_then ?_
        refine CW_region ?_
        refine OW_q (q_move rfl) rfl ?_
        first | refine OW_q (q_inc rfl rfl (by omega)) rfl ?_ | refine OW_q (q_add rfl rfl (by omega) (by omega)) rfl ?_
        refine OW_q (q_assign rfl) rfl ?_
        refine OW_nil ?_
        refine EW_again ((i + 1, is1)) ⟨?_, ?_⟩ ⟨rfl, rfl, rfl, rfl, trivial⟩ (fun w hw => hw.sub (by (repeat (first | exact SubL.nil | exact Pick.head | apply Pick.tail | apply SubL.cons))))
        · show g.rules.length - (i + 1) < g.rules.length - i; omega
        · have hst := hri.step (k := makesK r) (List.mem_map.2 ⟨r, hmem, rfl⟩) hr1.1 (by show r.left < (is.length : Int); omega)
          rw [if_neg (c := (makesK r).cond is1 = true) (fun hc => by have hc' : allB is1 r.right = true := hc; rw [h29] at hc'; cases hc'), ← KM_take hx] at hst
          exact ⟨by show i + 1 ≤ _; omega, hl1, hst⟩
    · skip
      have hie : ¬ i < g.rules.length := by have := of_decide_eq_false h19; omega
      refine CW_exit ?_
      refine EW_then_exit ?_
      refine EW_out ?_
      refine EW_block_exit ?_
      refine EW_block_normal ?_
      refine EW_then ?_
      refine CW_region ?_
      refine OW_q (q_move rfl) rfl ?_
      first | refine OW_q (q_inc rfl rfl (by omega)) rfl ?_ | refine OW_q (q_add rfl rfl (by omega) (by omega)) rfl ?_
      refine OW_q (q_assign rfl) rfl ?_
      refine OW_nil ?_
      refine EW_again ((j + 1, is1)) ⟨?_, ?_⟩ ⟨rfl, rfl, rfl, trivial⟩ (fun w hw => hw.sub (by (repeat (first | exact SubL.nil | exact Pick.head | apply Pick.tail | apply SubL.cons))))
      · show g.names.toNat - (j + 1) < g.names.toNat - j; omega
      · exact ⟨by show j + 1 ≤ _; omega, hri.len.trans hln, hl1, (by rw [List.take_of_length_le (by unfold KM; rw [List.length_map]; omega)] at hri; exact hri.round hcl)⟩
  · skip
    have hcm := closedM_of (closedK_end hcl (by have := of_decide_eq_false h12; omega) (by rw [hln]; exact KM_rng fun r hr => by have := hall r hr; omega))
    refine CW_exit ?_
    refine EW_then_exit ?_
    refine EW_out ?_
    refine EW_block_exit ?_
    refine EW_then ?_
    refine CW_seq ?_
    refine CW_region ?_
    refine OW_q (q_move rfl) rfl ?_
    refine OW_q (q_assign rfl) rfl ?_
    refine OW_nil ?_
    refine EW_then ?_
    refine CW_ret ?_
    refine ret1 Try.results40 rfl (fun w hw => ?_)
    exact ⟨(b8, is), rfl, ⟨hln, hl, hcm⟩, hw.sub (by repeat (first | exact SubL.nil | exact Pick.head | apply Pick.tail | apply SubL.cons))⟩

set_option maxRecDepth 20000 in
theorem comes3_any (gv : Value) (g : Gram) (w : World) (hg : GramAt (Cl w) gv g) (hm : mayB g = true) : Calls Try.prog 41 #[gv] w (fun e w' => ∃ x : Nat × List Bool, e = .returned (.slice (some ⟨x.1, 0, none⟩) g.names.toNat g.names.toNat) ∧ (x.2.length = g.names.toNat ∧ ∃ m : List Bool, m.length = g.names.toNat ∧ LeastM g m ∧ ClosedM g m ∧ LeastC g m x.2 ∧ ClosedC g m x.2 ∧ (atB m 0 = true → atB x.2 0 = true)) ∧ Sat (Old w) w [bools x.1 4 x.2] w') := by
  have hg0 := hg
  obtain ⟨rv, rfl, hr⟩ := hg.mono old_rd
  obtain ⟨a, c, rfl, hc1, hc2, hrs⟩ := hr
  have hg1 := hg.mono old_rd
  have hM := mayB_true.1 hm
  have hall := may_all hm
  refine calls_CW Try.func41 rfl Try.ntmps41 rfl (Sat.start w) ?_
  refine CW_seq ?_
  refine CW_region ?_
  refine OW_e (e_box rfl rfl) rfl (fun b1 => ?_)
  refine OW_q (q_assign rfl) rfl ?_
  refine OW_nil ?_
  refine EW_then ?_
  refine CW_seq ?_
  refine CW_region ?_
  first | (refine OW_q (q_loadN_own Try.isAgg24 Try.sizeOf24 rfl rfl (by (repeat (first | exact .head | apply Swap.tail))) (by rfl)) rfl ?_) | (refine OW_q (q_loadN_ro Try.isAgg24 Try.sizeOf24 rfl (by first | assumption | exact Row.at_ (by assumption) rfl) (by rfl)) rfl ?_)
  refine OW_e (e_call Try.call40 rfl (fun w hw => lift_oldP (makes3_any _ g w (hg0.mono (fun _ _ h => hw.rd (Rd.old h))) hm) hw)) rfl (fun x10 => ?_)
  refine OW_pure fun hx10 => ?_
  have hc0 : x10.2[(0 : Int).toNat]? = some (atB x10.2 0) := atB_get (by omega) (by omega)
  refine OW_q (q_assign rfl) rfl ?_
  refine OW_nil ?_
  refine EW_then ?_
  refine CW_seq ?_
  refine CW_region ?_
  refine OW_q (q_fieldAddr Try.underlying24 rfl rfl Try.sizeOf3 rfl rfl) rfl ?_
  first | (refine OW_q (q_load1_own Try.isAgg3 rfl rfl (by (repeat (first | exact .head | apply Swap.tail))) (by rfl)) rfl ?_) | (refine OW_q (q_load1_ro Try.isAgg3 rfl (by first | assumption | exact Row.at_ (by assumption) rfl)) rfl ?_)
  refine OW_e (e_makeB Try.underlying54 Try.typeInfo4 rfl rfl (by decide) rfl rfl (by omega) (by omega)) rfl (fun b13 => ?_)
  refine OW_q (q_assign rfl) rfl ?_
  refine OW_nil ?_
  refine EW_then ?_
  refine CW_seq ?_
  refine CW_region ?_
  refine OW_q (q_move rfl) rfl ?_
  refine OW_q (q_move rfl) rfl ?_
  refine OW_q (q_indexAddrI Try.underlying54 Try.sizeOf4 rfl rfl (by first | omega | assumption) (by first | omega | assumption)) rfl ?_
  refine OW_q (q_load_bools Try.isAgg4 rfl (by (repeat (first | exact .head | apply Swap.tail))) (by assumption)) rfl ?_
  refine OW_q (q_indexAddrI Try.underlying54 Try.sizeOf4 rfl rfl (by first | omega | assumption) (by first | omega | assumption)) rfl ?_
  refine OW_e0 (e_store_bools Try.sizeOf4 rfl rfl (by (repeat (first | exact .head | apply Swap.tail))) (by simp; omega)) (fun _ => ?_)
  refine OW_nil ?_
  refine EW_then ?_
  refine CW_seq ?_
  refine CW_seq ?_
  refine CW_region ?_
  refine OW_q (q_assign rfl) rfl ?_
  refine OW_nil ?_
  refine EW_then ?_
  refine CW_block ?_
  refine CW_loopP (ι := Nat × List Bool) (fun i_ => i_.1 ≤ g.names.toNat ∧ i_.2.length = g.names.toNat ∧ LeastC g x10.2 i_.2 ∧ (atB x10.2 0 = true → atB i_.2 0 = true) ∧ (ClosedK (KC g x10.2) i_.2 ∨ fls i_.2 + i_.1 ≤ g.names.toNat)) (fun i_ => [(1, .pointer (some ⟨b1, 0, none⟩)), (3, .slice (some ⟨x10.1, 0, none⟩) g.names.toNat g.names.toNat), (4, .slice (some ⟨b13, 0, none⟩) g.names.toNat g.names.toNat), (5, .int .i64 (i_.1 : Int))]) (fun i_ => Sat (Old w) w [bools b13 4 i_.2, bools x10.1 4 x10.2, cel b1 24 [.int .i64 g.terms, .int .i64 g.names, .slice a g.rules.length c]]) (fun i_ => g.names.toNat - i_.1) (0, ((List.replicate g.names.toNat false).set 0 (atB x10.2 0))) ?_ ⟨rfl, rfl, rfl, rfl, trivial⟩ (fun w hw => hw.sub (by (repeat (first | exact SubL.nil | exact Pick.head | apply Pick.tail | apply SubL.cons)))) ?_
  · exact ⟨Nat.zero_le _, by simp, leastC_new g _ _, (fun h => by
      show atB ((List.replicate g.names.toNat false).set 0 (atB x10.2 0)) 0 = true
      have e := atB_set' (l := List.replicate g.names.toNat false) (t := 0) (u := 0) (by omega) (by simp; omega) (by omega) (atB x10.2 0)
      rw [if_pos rfl] at e
      exact e.trans h), .inr (by have := fls_le ((List.replicate g.names.toNat false).set 0 (atB x10.2 0)); rw [List.length_set, List.length_replicate] at this; exact this)⟩
  intro i_ hpre
  obtain ⟨j, is⟩ := i_
  replace hpre : j ≤ g.names.toNat ∧ is.length = g.names.toNat ∧ LeastC g x10.2 is ∧ (atB x10.2 0 = true → atB is 0 = true) ∧ (ClosedK (KC g x10.2) is ∨ fls is + j ≤ g.names.toNat) := hpre
  change CW _ _ _ _ [(1, .pointer (some ⟨b1, 0, none⟩)), (3, .slice (some ⟨x10.1, 0, none⟩) g.names.toNat g.names.toNat), (4, .slice (some ⟨b13, 0, none⟩) g.names.toNat g.names.toNat), (5, .int .i64 (j : Int))] (Sat (Old w) w [bools b13 4 is, bools x10.1 4 x10.2, cel b1 24 [.int .i64 g.terms, .int .i64 g.names, .slice a g.rules.length c]])
  obtain ⟨hj, hln, hl, h00, hcl⟩ := hpre
  refine CW_seq ?_
  refine CW_seq ?_
  refine CW_region ?_
  refine OW_q (q_move rfl) rfl ?_
  refine OW_q (q_fieldAddr Try.underlying24 rfl rfl Try.sizeOf3 rfl rfl) rfl ?_
  first | (refine OW_q (q_load1_own Try.isAgg3 rfl rfl (by (repeat (first | exact .head | apply Swap.tail))) (by rfl)) rfl ?_) | (refine OW_q (q_load1_ro Try.isAgg3 rfl (by first | assumption | exact Row.at_ (by assumption) rfl)) rfl ?_)
  refine OW_q (q_lss rfl rfl) rfl ?_
  refine OW_nil ?_
  refine EW_then ?_
  refine CW_cond rfl (fun h22 => ?_) (fun h22 => ?_)
  · skip
    have hjlt : j < g.names.toNat := by have := of_decide_eq_true h22; omega
    refine CW_skip ?_
    refine EW_then ?_
    refine CW_seq ?_
    refine CW_block ?_
    refine CW_seq ?_
    refine CW_region ?_
    refine OW_q (q_assign rfl) rfl ?_
    refine OW_nil ?_
    refine EW_then ?_
    refine CW_block ?_
    refine CW_loopP (ι := Nat × List Bool) (fun i_ => i_.1 ≤ g.rules.length ∧ LeastC g x10.2 i_.2 ∧ (atB x10.2 0 = true → atB i_.2 0 = true) ∧ RI (KC g x10.2) ((g.rules.take i_.1).flatMap fun q => comKs x10.2 q q.right) is i_.2) (fun i_ => [(1, .pointer (some ⟨b1, 0, none⟩)), (3, .slice (some ⟨x10.1, 0, none⟩) g.names.toNat g.names.toNat), (4, .slice (some ⟨b13, 0, none⟩) g.names.toNat g.names.toNat), (5, .int .i64 (j : Int)), (6, .int .i64 (i_.1 : Int))]) (fun i_ => Sat (Old w) w [bools b13 4 i_.2, bools x10.1 4 x10.2, cel b1 24 [.int .i64 g.terms, .int .i64 g.names, .slice a g.rules.length c]]) (fun i_ => g.rules.length - i_.1) (0, is) ?_ ⟨rfl, rfl, rfl, rfl, rfl, trivial⟩ (fun w hw => hw.sub (by (repeat (first | exact SubL.nil | exact Pick.head | apply Pick.tail | apply SubL.cons)))) ?_
    · exact ⟨Nat.zero_le _, hl, h00, RI.start _ _⟩
    intro i_ hpre
    obtain ⟨i, is1⟩ := i_
    replace hpre : i ≤ g.rules.length ∧ LeastC g x10.2 is1 ∧ (atB x10.2 0 = true → atB is1 0 = true) ∧ RI (KC g x10.2) ((g.rules.take i).flatMap fun q => comKs x10.2 q q.right) is is1 := hpre
    change CW _ _ _ _ [(1, .pointer (some ⟨b1, 0, none⟩)), (3, .slice (some ⟨x10.1, 0, none⟩) g.names.toNat g.names.toNat), (4, .slice (some ⟨b13, 0, none⟩) g.names.toNat g.names.toNat), (5, .int .i64 (j : Int)), (6, .int .i64 (i : Int))] (Sat (Old w) w [bools b13 4 is1, bools x10.1 4 x10.2, cel b1 24 [.int .i64 g.terms, .int .i64 g.names, .slice a g.rules.length c]])
    obtain ⟨hi, hl1, h01, hri⟩ := hpre
    have hln1 : is1.length = g.names.toNat := hri.len.trans hln
    refine CW_seq ?_
    refine CW_seq ?_
    refine CW_region ?_
    refine OW_q (q_move rfl) rfl ?_
    refine OW_q (q_fieldAddr Try.underlying24 rfl rfl Try.sizeOf22 rfl rfl) rfl ?_
    first | (refine OW_q (q_load1_own Try.isAgg22 rfl rfl (by (repeat (first | exact .head | apply Swap.tail))) (by rfl)) rfl ?_) | (refine OW_q (q_load1_ro Try.isAgg22 rfl (by first | assumption | exact Row.at_ (by assumption) rfl)) rfl ?_)
    refine OW_q (q_len Try.underlying22 rfl) rfl ?_
    refine OW_q (q_lss rfl rfl) rfl ?_
    refine OW_nil ?_
    refine EW_then ?_
    refine CW_cond rfl (fun h29 => ?_) (fun h29 => ?_)
    · skip
      have hlt : i < g.rules.length := by have := of_decide_eq_true h29; omega
      obtain ⟨r, hx⟩ := get_of_lt hlt
      have hmem := List.mem_of_getElem? hx
      obtain ⟨p, rfl, rv2, hsy, hrow⟩ := hrs i r hx
      have hr1 := hall r hmem
      have hlN : r.left < (g.names.toNat : Int) := by omega
      obtain ⟨a2, c2, rfl, hd1, hd2, hss⟩ := id hsy
      have hcl1 := atB_get (is := is1) hr1.1 (by omega)
      refine CW_skip ?_
      refine EW_then ?_
      refine CW_seq ?_
      refine CW_block ?_
      refine CW_seq ?_
      refine CW_region ?_
      refine OW_q (q_fieldAddr Try.underlying24 rfl rfl Try.sizeOf22 rfl rfl) rfl ?_
      first | (refine OW_q (q_load1_own Try.isAgg22 rfl rfl (by (repeat (first | exact .head | apply Swap.tail))) (by rfl)) rfl ?_) | (refine OW_q (q_load1_ro Try.isAgg22 rfl (by first | assumption | exact Row.at_ (by assumption) rfl)) rfl ?_)
      refine OW_q (q_move rfl) rfl ?_
      refine OW_q (q_indexAddr Try.underlying22 Try.sizeOf49 rfl rfl (by first | omega | assumption)) rfl ?_
      refine OW_q (q_loadN_ro Try.isAgg49 Try.sizeOf49 rfl (by first | assumption | exact Row.at_ (by assumption) rfl) (by rfl)) rfl ?_
      refine OW_e (e_alloc Try.zeroValue49 rfl) rfl (fun b7 => ?_)
      refine OW_e0 (e_storeN Try.sizeOf49 rfl rfl rfl rfl (by simp [Value.oneCell']) (by (repeat (first | exact .head | apply Swap.tail))) (by rfl)) (fun _ => ?_)
      refine OW_nil ?_
      refine EW_then ?_
      refine CW_seq ?_
      refine CW_seq ?_
      refine CW_region ?_
      refine OW_q (q_move rfl) rfl ?_
      refine OW_q (q_fieldAddr Try.underlying49 rfl rfl Try.sizeOf3 rfl rfl) rfl ?_
      first | (refine OW_q (q_load1_own Try.isAgg3 rfl rfl (by (repeat (first | exact .head | apply Swap.tail))) (by rfl)) rfl ?_) | (refine OW_q (q_load1_ro Try.isAgg3 rfl (by first | assumption | exact Row.at_ (by assumption) rfl)) rfl ?_)
      refine OW_q (q_indexAddrI Try.underlying54 Try.sizeOf4 rfl rfl (by first | omega | assumption) (by first | omega | assumption)) rfl ?_
      refine OW_q (q_load_bools Try.isAgg4 rfl (by (repeat (first | exact .head | apply Swap.tail))) (by assumption)) rfl ?_
      refine OW_q (q_not rfl) rfl ?_
      refine OW_q (q_move rfl) rfl ?_
      refine OW_part (t := 43) rfl (fun hg43 => ?_) (fun hg43 => ?_)
      · skip
        refine OW_skip rfl rfl rfl rfl ?_
        refine OW_skip rfl rfl rfl rfl ?_
        refine OW_skip rfl rfl rfl rfl ?_
        refine OW_skip rfl rfl rfl rfl ?_
        refine OW_skip rfl rfl rfl rfl ?_
        refine OW_q (q_pick_t rfl rfl) rfl ?_
        refine OW_nil ?_
        refine EW_then ?_
        refine CW_true rfl rfl ?_
        refine CW_exit ?_
        refine EW_then_exit ?_
        refine EW_block_exit ?_
        refine EW_then ?_
        refine CW_region ?_
        refine OW_q (q_move rfl) rfl ?_
        first | refine OW_q (q_inc rfl rfl (by omega)) rfl ?_ | refine OW_q (q_add rfl rfl (by omega) (by omega)) rfl ?_
        refine OW_q (q_assign rfl) rfl ?_
        refine OW_nil ?_
        refine EW_again ((i + 1, is1)) ⟨?_, ?_⟩ ⟨rfl, rfl, rfl, rfl, rfl, trivial⟩ (fun w hw => hw.sub (by (repeat (first | exact SubL.nil | exact Pick.head | apply Pick.tail | apply SubL.cons))))
        · show g.rules.length - (i + 1) < g.rules.length - i; omega
        · show _ ∧ _ ∧ _ ∧ RI _ ((g.rules.take (i + 1)).flatMap _) _ _
          rw [DC_next hx]
          exact ⟨by show i + 1 ≤ _; omega, hl1, h01, hri.skips (fun k hk => by
            obtain ⟨s, _, rfl⟩ := List.mem_map.1 hk
            show (atB is1 r.left && allB x10.2 r.right) = false
            simp at hg43; rw [hg43]; rfl)⟩
      · skip
        refine OW_wanted rfl rfl rfl ?_
        refine OW_q (q_fieldAddr Try.underlying49 rfl rfl Try.sizeOf46 rfl rfl) rfl ?_
        refine OW_wanted rfl rfl rfl ?_
        first | (refine OW_q (q_load1_own Try.isAgg46 rfl rfl (by (repeat (first | exact .head | apply Swap.tail))) (by rfl)) rfl ?_) | (refine OW_q (q_load1_ro Try.isAgg46 rfl (by first | assumption | exact Row.at_ (by assumption) rfl)) rfl ?_)
        refine OW_wanted rfl rfl rfl ?_
        refine OW_q (q_move rfl) rfl ?_
        refine OW_wanted rfl rfl rfl ?_
        refine OW_e (e_call Try.call58 rfl (fun w hw => lift_ro (all3_any _ _ r.right x10.2 w (hsy.mono hw.rd_cl) (hw.boolsAt (A' := bools 0 0 []) (by repeat (first | exact .head | apply Swap.tail)) hx10.1 (Nat.le_refl _) (by omega)) (fun s hs ht => by have := hr1.2.2 s hs ht; omega)) hw)) rfl (fun x47 => ?_)
        refine OW_wanted rfl rfl rfl ?_
        refine OW_q (q_not rfl) rfl ?_
        refine OW_q (q_pick_f rfl rfl) rfl ?_
        refine OW_nil ?_
        refine EW_then ?_
        refine CW_cond rfl (fun h49 => ?_) (fun h49 => ?_)
        · skip
          refine CW_exit ?_
          refine EW_then_exit ?_
          refine EW_block_exit ?_
          refine EW_then ?_
          refine CW_region ?_
          refine OW_q (q_move rfl) rfl ?_
          first | refine OW_q (q_inc rfl rfl (by omega)) rfl ?_ | refine OW_q (q_add rfl rfl (by omega) (by omega)) rfl ?_
          refine OW_q (q_assign rfl) rfl ?_
          refine OW_nil ?_
          refine EW_again ((i + 1, is1)) ⟨?_, ?_⟩ ⟨rfl, rfl, rfl, rfl, rfl, trivial⟩ (fun w hw => hw.sub (by (repeat (first | exact SubL.nil | exact Pick.head | apply Pick.tail | apply SubL.cons))))
          · show g.rules.length - (i + 1) < g.rules.length - i; omega
          · show _ ∧ _ ∧ _ ∧ RI _ ((g.rules.take (i + 1)).flatMap _) _ _
            rw [DC_next hx]
            exact ⟨by show i + 1 ≤ _; omega, hl1, h01, hri.skips (fun k hk => by
              obtain ⟨s, _, rfl⟩ := List.mem_map.1 hk
              show (atB is1 r.left && allB x10.2 r.right) = false
              simp at h49; rw [h49]; simp)⟩
        · skip
          refine CW_skip ?_
          refine EW_then ?_
          refine CW_seq ?_
          refine CW_region ?_
          refine OW_q (q_assign rfl) rfl ?_
          refine OW_nil ?_
          refine EW_then ?_
          refine CW_block ?_
          refine CW_loopP (ι := Nat × List Bool) (fun i_ => i_.1 ≤ r.right.length ∧ LeastC g x10.2 i_.2 ∧ (atB x10.2 0 = true → atB i_.2 0 = true) ∧ atB i_.2 r.left = true ∧ RI (KC g x10.2) (DC g x10.2 i r i_.1) is i_.2) (fun i_ => [(1, .pointer (some ⟨b1, 0, none⟩)), (3, .slice (some ⟨x10.1, 0, none⟩) g.names.toNat g.names.toNat), (4, .slice (some ⟨b13, 0, none⟩) g.names.toNat g.names.toNat), (5, .int .i64 (j : Int)), (6, .int .i64 (i : Int)), (7, .pointer (some ⟨b7, 0, none⟩)), (8, .int .i64 (i_.1 : Int))]) (fun i_ => Sat (Old w) w [bools b13 4 i_.2, bools x10.1 4 x10.2, cel b1 24 [.int .i64 g.terms, .int .i64 g.names, .slice (some p) g.rules.length c], cel b7 49 [.int .i64 r.left, .slice a2 r.right.length c2]]) (fun i_ => r.right.length - i_.1) (0, is1) ?_ ⟨rfl, rfl, rfl, rfl, rfl, rfl, rfl, trivial⟩ (fun w hw => hw.sub (by (repeat (first | exact SubL.nil | exact Pick.head | apply Pick.tail | apply SubL.cons)))) ?_
          · exact ⟨Nat.zero_le _, hl1, h01, (by simpa using hg43), (by show RI _ (DC g x10.2 i r 0) _ _; rw [DC_zero]; exact hri)⟩
          intro i_ hpre
          obtain ⟨k, is2⟩ := i_
          replace hpre : k ≤ r.right.length ∧ LeastC g x10.2 is2 ∧ (atB x10.2 0 = true → atB is2 0 = true) ∧ atB is2 r.left = true ∧ RI (KC g x10.2) (DC g x10.2 i r k) is is2 := hpre
          change CW _ _ _ _ [(1, .pointer (some ⟨b1, 0, none⟩)), (3, .slice (some ⟨x10.1, 0, none⟩) g.names.toNat g.names.toNat), (4, .slice (some ⟨b13, 0, none⟩) g.names.toNat g.names.toNat), (5, .int .i64 (j : Int)), (6, .int .i64 (i : Int)), (7, .pointer (some ⟨b7, 0, none⟩)), (8, .int .i64 (k : Int))] (Sat (Old w) w [bools b13 4 is2, bools x10.1 4 x10.2, cel b1 24 [.int .i64 g.terms, .int .i64 g.names, .slice (some p) g.rules.length c], cel b7 49 [.int .i64 r.left, .slice a2 r.right.length c2]])
          obtain ⟨hk, hl2, h02, hleft, hri2⟩ := hpre
          have hln2 : is2.length = g.names.toNat := hri2.len.trans hln
          have hall3 : allB x10.2 r.right = true := by simpa using h49
          refine CW_seq ?_
          refine CW_seq ?_
          refine CW_region ?_
          refine OW_q (q_move rfl) rfl ?_
          refine OW_q (q_fieldAddr Try.underlying49 rfl rfl Try.sizeOf46 rfl rfl) rfl ?_
          first | (refine OW_q (q_load1_own Try.isAgg46 rfl rfl (by (repeat (first | exact .head | apply Swap.tail))) (by rfl)) rfl ?_) | (refine OW_q (q_load1_ro Try.isAgg46 rfl (by first | assumption | exact Row.at_ (by assumption) rfl)) rfl ?_)
          refine OW_q (q_len Try.underlying46 rfl) rfl ?_
          refine OW_q (q_lss rfl rfl) rfl ?_
          refine OW_nil ?_
          refine EW_then ?_
          refine CW_cond rfl (fun h54 => ?_) (fun h54 => ?_)
          · skip
            have hltk : k < r.right.length := by have := of_decide_eq_true h54; omega
            obtain ⟨s, hsj⟩ := get_of_lt hltk
            obtain ⟨p2, rfl, hrowS⟩ := hss k s hsj
            have hsm := List.mem_of_getElem? hsj
            refine CW_skip ?_
            refine EW_then ?_
            refine CW_seq ?_
            refine CW_block ?_
            refine CW_seq ?_
            refine CW_region ?_
            refine OW_q (q_fieldAddr Try.underlying49 rfl rfl Try.sizeOf46 rfl rfl) rfl ?_
            first | (refine OW_q (q_load1_own Try.isAgg46 rfl rfl (by (repeat (first | exact .head | apply Swap.tail))) (by rfl)) rfl ?_) | (refine OW_q (q_load1_ro Try.isAgg46 rfl (by first | assumption | exact Row.at_ (by assumption) rfl)) rfl ?_)
            refine OW_q (q_move rfl) rfl ?_
            refine OW_q (q_indexAddr Try.underlying46 Try.sizeOf51 rfl rfl (by first | omega | assumption)) rfl ?_
            refine OW_q (q_fieldAddr Try.underlying51 rfl rfl Try.sizeOf4 rfl rfl) rfl ?_
            refine OW_q (q_load1_ro Try.isAgg4 rfl (by first | assumption | exact Row.at_ (by assumption) rfl)) rfl ?_
            refine OW_q (q_not rfl) rfl ?_
            refine OW_nil ?_
            refine EW_then ?_
            refine CW_cond rfl (fun h63 => ?_) (fun h63 => ?_)
            · skip
              have hs1N := hr1.2.2 s hsm (by simpa using h63)
              refine CW_region ?_
              refine OW_q (q_move rfl) rfl ?_
              refine OW_q (q_fieldAddr Try.underlying49 rfl rfl Try.sizeOf46 rfl rfl) rfl ?_
              first | (refine OW_q (q_load1_own Try.isAgg46 rfl rfl (by (repeat (first | exact .head | apply Swap.tail))) (by rfl)) rfl ?_) | (refine OW_q (q_load1_ro Try.isAgg46 rfl (by first | assumption | exact Row.at_ (by assumption) rfl)) rfl ?_)
              refine OW_q (q_move rfl) rfl ?_
              refine OW_q (q_indexAddr Try.underlying46 Try.sizeOf51 rfl rfl (by first | omega | assumption)) rfl ?_
              refine OW_q (q_fieldAddr Try.underlying51 rfl rfl Try.sizeOf3 rfl rfl) rfl ?_
              refine OW_q (q_load1_ro Try.isAgg3 rfl (by first | assumption | exact Row.at_ (by assumption) rfl)) rfl ?_
              refine OW_q (q_indexAddrI Try.underlying54 Try.sizeOf4 rfl rfl (by first | omega | assumption) (by first | omega | assumption)) rfl ?_
              refine OW_e0 (e_store_bools Try.sizeOf4 rfl rfl (by (repeat (first | exact .head | apply Swap.tail))) (by omega)) (fun _ => ?_)
              refine OW_nil ?_
              refine EW_block_normal ?_
              refine EW_then ?_
              refine CW_region ?_
              refine OW_q (q_move rfl) rfl ?_
              first | refine OW_q (q_inc rfl rfl (by omega)) rfl ?_ | refine OW_q (q_add rfl rfl (by omega) (by omega)) rfl ?_
              refine OW_q (q_assign rfl) rfl ?_
              refine OW_nil ?_
              refine EW_again ((k + 1, is2.set s.n.toNat true)) ⟨?_, ?_⟩ ⟨rfl, rfl, rfl, rfl, rfl, rfl, rfl, trivial⟩ (fun w hw => hw.sub (by (repeat (first | exact SubL.nil | exact Pick.head | apply Pick.tail | apply SubL.cons))))
              · show r.right.length - (k + 1) < r.right.length - k; omega
              · have ht : s.term = false := by simpa using h63
                have hs1 := hr1.2.2 s hsm ht
                have hst := hri2.step (KC_mem hmem hsm ht) hs1.1 (by show s.n < (is.length : Int); omega)
                have hcc : (comesK x10.2 r s).cond is2 = true := by show (atB is2 r.left && allB x10.2 r.right) = true; rw [hleft, hall3]; rfl
                rw [if_pos hcc, ← DC_name hsj ht] at hst
                exact ⟨by show k + 1 ≤ _; omega, leastC_set hl2 hmem hsm ht hr1.1 hs1.1 hleft hall3, (fun h => atB_set _ (h02 h)), atB_set _ hleft, hst⟩
            · skip
              refine CW_skip ?_
              refine EW_block_normal ?_
              refine EW_then ?_
              refine CW_region ?_
              refine OW_q (q_move rfl) rfl ?_
              first | refine OW_q (q_inc rfl rfl (by omega)) rfl ?_ | refine OW_q (q_add rfl rfl (by omega) (by omega)) rfl ?_
              refine OW_q (q_assign rfl) rfl ?_
              refine OW_nil ?_
              refine EW_again ((k + 1, is2)) ⟨?_, ?_⟩ ⟨rfl, rfl, rfl, rfl, rfl, rfl, rfl, trivial⟩ (fun w hw => hw.sub (by (repeat (first | exact SubL.nil | exact Pick.head | apply Pick.tail | apply SubL.cons))))
              · show r.right.length - (k + 1) < r.right.length - k; omega
              · exact ⟨by show k + 1 ≤ _; omega, hl2, h02, hleft, by show RI _ (DC g x10.2 i r (k + 1)) _ _; rw [DC_term hsj (by simpa using h63)]; exact hri2⟩
          · skip
            have hke : ¬ k < r.right.length := by have := of_decide_eq_false h54; omega
            refine CW_exit ?_
            refine EW_then_exit ?_
            refine EW_out ?_
            refine EW_block_exit ?_
            refine EW_block_normal ?_
            refine EW_then ?_
            refine CW_region ?_
            refine OW_q (q_move rfl) rfl ?_
            first | refine OW_q (q_inc rfl rfl (by omega)) rfl ?_ | refine OW_q (q_add rfl rfl (by omega) (by omega)) rfl ?_
            refine OW_q (q_assign rfl) rfl ?_
            refine OW_nil ?_
            refine EW_again ((i + 1, is2)) ⟨?_, ?_⟩ ⟨rfl, rfl, rfl, rfl, rfl, trivial⟩ (fun w hw => hw.sub (by (repeat (first | exact SubL.nil | exact Pick.head | apply Pick.tail | apply SubL.cons))))
            · show g.rules.length - (i + 1) < g.rules.length - i; omega
            · show _ ∧ _ ∧ _ ∧ RI _ ((g.rules.take (i + 1)).flatMap _) _ _
              rw [DC_next hx]
              unfold DC at hri2
              rw [show r.right.take k = r.right from List.take_of_length_le (by omega)] at hri2
              exact ⟨by show i + 1 ≤ _; omega, hl2, h02, hri2⟩
    · skip
      have hie : ¬ i < g.rules.length := by have := of_decide_eq_false h29; omega
      refine CW_exit ?_
      refine EW_then_exit ?_
      refine EW_out ?_
      refine EW_block_exit ?_
      refine EW_block_normal ?_
      refine EW_then ?_
      refine CW_region ?_
      refine OW_q (q_move rfl) rfl ?_
      first | refine OW_q (q_inc rfl rfl (by omega)) rfl ?_ | refine OW_q (q_add rfl rfl (by omega) (by omega)) rfl ?_
      refine OW_q (q_assign rfl) rfl ?_
      refine OW_nil ?_
      refine EW_again ((j + 1, is1)) ⟨?_, ?_⟩ ⟨rfl, rfl, rfl, rfl, trivial⟩ (fun w hw => hw.sub (by (repeat (first | exact SubL.nil | exact Pick.head | apply Pick.tail | apply SubL.cons))))
      · show g.names.toNat - (j + 1) < g.names.toNat - j; omega
      · exact ⟨by show j + 1 ≤ _; omega, hri.len.trans hln, hl1, h01, (by rw [List.take_of_length_le (by omega)] at hri; exact RI.round (all := KC g x10.2) hri hcl)⟩
  · skip
    have hcc := closedC_of (closedK_end hcl (by have := of_decide_eq_false h22; omega) (by rw [hln]; exact KC_rng fun r hr s hs ht => by have := (hall r hr).2.2 s hs ht; omega))
    refine CW_exit ?_
    refine EW_then_exit ?_
    refine EW_out ?_
    refine EW_block_exit ?_
    refine EW_then ?_
    refine CW_seq ?_
    refine CW_region ?_
    refine OW_q (q_move rfl) rfl ?_
    refine OW_q (q_assign rfl) rfl ?_
    refine OW_nil ?_
    refine EW_then ?_
    refine CW_ret ?_
    refine ret1 Try.results41 rfl (fun w hw => ?_)
    exact ⟨(b13, is), rfl, ⟨hln, x10.2, hx10.1, hx10.2.1, hx10.2.2, hl, hcc, h00⟩, hw.sub (by repeat (first | exact SubL.nil | exact Pick.head | apply Pick.tail | apply SubL.cons))⟩

end Go.Sy
