/- Walks and plain laws, part 10. No condition. -/
import Derived.Test.YteceklkjbcebkabM3
import Derived.Test.YteceklkjbcebkabM5
import Derived.Test.YteceklkjbcebkabM7
import Derived.Test.YteceklkjbcebkabM9
/- Package pollardingref3: what makes and what comes, by rounds. No condition. -/
namespace Go.Sy
open Go Go.RowKit Go.Proofs

theorem fls_zero : ∀ {c : List Bool}, fls c = 0 → ∀ b ∈ c, b = true
 | [], _, _, h => by cases h
 | x :: c, h, b, hb => by
   simp only [fls] at h
   rcases List.mem_cons.1 hb with rfl | hb
   · cases b with
     | true => rfl
     | false => simp at h
   · exact fls_zero (by omega) b hb
theorem fls_zero_at {c : List Bool} (h : fls c = 0) {n : Int} (h0 : 0 ≤ n) (h1 : n < c.length) : atB c n = true := fls_zero h _ (List.mem_of_getElem? (atB_get h0 h1))
theorem closedK_zero {ks : List Con} {c : List Bool} (h : fls c = 0) (hr : ∀ k ∈ ks, 0 ≤ k.tgt ∧ k.tgt < (c.length : Int)) : ClosedK ks c := fun k hk _ => fls_zero_at h (hr k hk).1 (hr k hk).2
theorem closedK_end {ks : List Con} {c : List Bool} {j N : Nat} (h : ClosedK ks c ∨ fls c + j ≤ N) (hj : N ≤ j) (hr : ∀ k ∈ ks, 0 ≤ k.tgt ∧ k.tgt < (c.length : Int)) : ClosedK ks c := by
 rcases h with h | h
 · exact h
 · exact closedK_zero (by omega) hr
theorem RI.skips {all done ks : List Con} {c0 c1 : List Bool} (h : RI all done c0 c1) (hk : ∀ k ∈ ks, k.cond c1 = false) : RI all (done ++ ks) c0 c1 :=
 ⟨h.len, h.le, h.keep, fun e => ⟨(h.same e).1, fun q hq hqc => by
   rcases List.mem_append.1 hq with hq | hq
   · exact (h.same e).2 q hq hqc
   · rw [← (h.same e).1, hk q hq] at hqc; cases hqc⟩⟩

def makesK (r : Rule) : Con := ⟨fun c => allB c r.right, r.left⟩
def KM (g : Gram) : List Con := g.rules.map makesK
theorem KM_take {g : Gram} {i : Nat} {r : Rule} (h : g.rules[i]? = some r) : (KM g).take (i + 1) = (KM g).take i ++ [makesK r] := by
 rw [List.take_add_one]; unfold KM; rw [List.getElem?_map, h]; rfl
theorem closedM_of {g : Gram} {c : List Bool} (h : ClosedK (KM g) c) : ClosedM g c := fun r hr ha => h (makesK r) (List.mem_map.2 ⟨r, hr, rfl⟩) ha
theorem KM_rng {g : Gram} {N : Nat} (h : ∀ r ∈ g.rules, 0 ≤ r.left ∧ r.left < (N : Int)) : ∀ k ∈ KM g, 0 ≤ k.tgt ∧ k.tgt < (N : Int) := fun k hk => by
 obtain ⟨r, hr, rfl⟩ := List.mem_map.1 hk
 exact h r hr

def comesK (m : List Bool) (r : Rule) (s : Sym) : Con := ⟨fun c => atB c r.left && allB m r.right, s.n⟩
def comKs (m : List Bool) (r : Rule) (l : List Sym) : List Con := (l.filter (fun s => !s.term)).map (comesK m r)
def KC (g : Gram) (m : List Bool) : List Con := g.rules.flatMap fun r => comKs m r r.right
def DC (g : Gram) (m : List Bool) (i : Nat) (r : Rule) (k : Nat) : List Con := ((g.rules.take i).flatMap fun q => comKs m q q.right) ++ comKs m r (r.right.take k)
theorem DC_zero {g : Gram} {m : List Bool} {i : Nat} {r : Rule} : DC g m i r 0 = (g.rules.take i).flatMap fun q => comKs m q q.right := by
 unfold DC; rw [show comKs m r (r.right.take 0) = [] from rfl, List.append_nil]
theorem DC_next {g : Gram} {m : List Bool} {i : Nat} {r : Rule} (hx : g.rules[i]? = some r) : (g.rules.take (i + 1)).flatMap (fun q => comKs m q q.right) = ((g.rules.take i).flatMap fun q => comKs m q q.right) ++ comKs m r r.right := by
 rw [List.take_add_one, hx, List.flatMap_append]; simp
theorem DC_term {g : Gram} {m : List Bool} {i k : Nat} {r : Rule} {s : Sym} (hs : r.right[k]? = some s) (ht : s.term = true) : DC g m i r (k + 1) = DC g m i r k := by
 unfold DC comKs; rw [List.take_add_one, hs, List.filter_append]; simp [ht]
theorem DC_name {g : Gram} {m : List Bool} {i k : Nat} {r : Rule} {s : Sym} (hs : r.right[k]? = some s) (ht : s.term = false) : DC g m i r (k + 1) = DC g m i r k ++ [comesK m r s] := by
 unfold DC comKs; rw [List.take_add_one, hs, List.filter_append]; simp [ht]
theorem KC_mem {g : Gram} {m : List Bool} {r : Rule} {s : Sym} (hr : r ∈ g.rules) (hs : s ∈ r.right) (ht : s.term = false) : comesK m r s ∈ KC g m :=
 List.mem_flatMap.2 ⟨r, hr, List.mem_map.2 ⟨s, List.mem_filter.2 ⟨hs, by rw [ht]; rfl⟩, rfl⟩⟩
theorem closedC_of {g : Gram} {m c : List Bool} (h : ClosedK (KC g m) c) : ClosedC g m c := fun r hr hl ha s hs ht => h (comesK m r s) (KC_mem hr hs ht) (by show (atB c r.left && allB m r.right) = true; rw [hl, ha]; rfl)
theorem KC_rng {g : Gram} {m : List Bool} {N : Nat} (h : ∀ r ∈ g.rules, ∀ s ∈ r.right, s.term = false → 0 ≤ s.n ∧ s.n < (N : Int)) : ∀ k ∈ KC g m, 0 ≤ k.tgt ∧ k.tgt < (N : Int) := fun k hk => by
 obtain ⟨r, hr, hk⟩ := List.mem_flatMap.1 hk
 obtain ⟨s, hs, rfl⟩ := List.mem_map.1 hk
 have := List.mem_filter.1 hs
 exact h r hr s this.1 (by simpa using this.2)

set_option maxRecDepth 20000 in
theorem all3_any (sv bv : Value) (l : List Sym) (is : List Bool) (w : World) (hs : SymsAt (Cl w) sv l) (hb : BoolsAt (Cl w) bv is) (hl : ∀ s ∈ l, s.term = false → 0 ≤ s.n ∧ s.n < (is.length : Int)) : Calls Try.prog 58 #[sv, bv] w (fun e w' => e = .returned (.bool (allB is l)) ∧ Sat (Old w) w [] w') := by
 obtain ⟨a, c, rfl, hc1, hc2, hss⟩ := hs.mono old_rd
 obtain ⟨a2, c2, rfl, hd1, hd2, hbb⟩ := hb.mono old_rd
 clear hs hb
 refine calls_CW Try.func58 rfl Try.ntmps58 rfl (Sat.start w) ?_
 refine nx3 ?_
 refine aO ?_
 refine nx2 ?_
 refine CW_seq ?_
 refine nx3 ?_
 refine aO ?_
 refine nx2 ?_
 refine CW_block ?_
 refine CW_loopP (ι := Nat) (fun j => j ≤ l.length ∧ allB is (l.take j) = true) (fun j => [(0, .slice a l.length c), (1, .slice a2 is.length c2), (5, .int .i64 (j : Int))]) (fun j => Sat (Old w) w []) (fun j => l.length - j) 0 ?_ ⟨rfl, rfl, rfl, trivial⟩ sft ?_
 · exact ⟨Nat.zero_le _, rfl⟩
 intro j hpre
 change CW _ _ _ _ [(0, .slice a l.length c), (1, .slice a2 is.length c2), (5, .int .i64 (j : Int))] (Sat (Old w) w [])
 obtain ⟨hj, hok⟩ := hpre
 refine CW_seq ?_
 refine nx3 ?_
 refine mO ?_
 refine mO ?_
 refine OW_q (q_len Try.underlying46 rfl) rfl ?_
 refine OW_q (q_lss rfl rfl) rfl ?_
 refine nx2 ?_
 refine CW_cond rfl (fun h9 => ?_) (fun h9 => ?_)
 · skip
   have hltj : j < l.length := by simpa using h9
   obtain ⟨s, hsj⟩ := get_of_lt hltj
   obtain ⟨p, rfl, hrow⟩ := hss j s hsj
   have hmem := hl s (List.mem_of_getElem? hsj)
   refine CW_skip ?_
   refine EW_then ?_
   refine CW_seq ?_
   refine CW_block ?_
   refine nx3 ?_
   refine mO ?_
   refine mO ?_
   refine OW_q (q_indexAddr Try.underlying46 Try.sizeOf51 rfl rfl (by omega)) rfl ?_
   refine OW_q (q_fieldAddr Try.underlying51 rfl rfl Try.sizeOf4 rfl rfl) rfl ?_
   refine OW_q (q_load1_ro Try.isAgg4 rfl (by exact Row.at_ (by assumption) rfl)) rfl ?_
   refine OW_q (q_not rfl) rfl ?_
   refine mO ?_
   refine OW_part (t := 18) rfl (fun hg18 => ?_) (fun hg18 => ?_)
   · skip
     have ht : s.term = false := by simpa using hg18
     have hs1 := hmem ht
     have hcell := atB_get hs1.1 hs1.2
     obtain ⟨q, rfl, hq⟩ := hbb s.n.toNat _ hcell
     refine wO ?_
     refine mO ?_
     refine wO ?_
     refine mO ?_
     refine wO ?_
     refine mO ?_
     refine wO ?_
     refine OW_q (q_indexAddr Try.underlying46 Try.sizeOf51 rfl rfl (by omega)) rfl ?_
     refine wO ?_
     refine OW_q (q_fieldAddr Try.underlying51 rfl rfl Try.sizeOf3 rfl rfl) rfl ?_
     refine wO ?_
     refine OW_q (q_load1_ro Try.isAgg3 rfl (by exact Row.at_ (by assumption) rfl)) rfl ?_
     refine wO ?_
     refine OW_q (q_indexAddrI Try.underlying54 Try.sizeOf4 rfl rfl (by omega) (by omega)) rfl ?_
     refine wO ?_
     refine OW_q (q_load1_ro Try.isAgg4 rfl (by assumption)) rfl ?_
     refine wO ?_
     refine OW_q (q_not rfl) rfl ?_
     refine OW_q (q_pick_t rfl rfl) rfl ?_
     refine nx2 ?_
     refine CW_cond rfl (fun h28 => ?_) (fun h28 => ?_)
     · skip
       refine nx3 ?_
       refine aO ?_
       refine nx2 ?_
       refine CW_ret ?_
       refine EW_block_ret ?_
       refine EW_then_ret ?_
       refine EW_out_ret ?_
       refine EW_block_ret ?_
       refine EW_then_ret ?_
       refine ret1 Try.results58 rfl (fun w hw => ?_)
       refine ⟨rf fun hm => ?_, hw.sub .nil⟩
       have := allB_iff.1 hm s (List.mem_of_getElem? hsj) ht
       rw [this] at h28
       cases h28
     refine CW_skip ?_
     refine EW_block_normal ?_
     refine EW_then ?_
     refine CW_region ?_
     refine mO ?_
     refine OW_q (q_add rfl rfl (by omega) (by omega)) rfl ?_
     refine aO ?_
     refine OW_nil ?_
     refine EW_again (j + 1) ⟨?_, ?_⟩ ⟨rfl, rfl, rfl, trivial⟩ sft
     · show l.length - (j + 1) < l.length - j; omega
     · refine ⟨by omega, ?_⟩
       unfold allB at hok ⊢
       rw [all_take_succ _ hsj, hok]
       simp only [Bool.true_and]
       simp_all; done
   have ht : s.term = true := by simpa using hg18
   refine kO ?_
   refine kO ?_
   refine kO ?_
   refine kO ?_
   refine kO ?_
   refine kO ?_
   refine kO ?_
   refine kO ?_
   refine kO ?_
   refine OW_q (q_pick_f rfl rfl) rfl ?_
   refine nx2 ?_
   refine CW_false rfl rfl ?_
   refine CW_skip ?_
   refine EW_block_normal ?_
   refine EW_then ?_
   refine CW_region ?_
   refine mO ?_
   refine OW_q (q_add rfl rfl (by omega) (by omega)) rfl ?_
   refine aO ?_
   refine OW_nil ?_
   refine EW_again (j + 1) ⟨?_, ?_⟩ ⟨rfl, rfl, rfl, trivial⟩ sft
   · show l.length - (j + 1) < l.length - j; omega
   · refine ⟨by omega, ?_⟩
     unfold allB at hok ⊢
     rw [all_take_succ _ hsj, hok]
     simp only [Bool.true_and]
     simp_all; done
 have hend := take_all (l := l) (k := j) (by simpa using h9)
 rw [hend] at hok
 refine CW_exit ?_
 refine EW_then_exit ?_
 refine EW_out ?_
 refine EW_block_exit ?_
 refine EW_then ?_
 refine nx3 ?_
 refine aO ?_
 refine nx2 ?_
 refine CW_ret ?_
 refine ret1 Try.results58 rfl (fun w hw => ?_)
 exact ⟨rt hok, hw.sub .nil⟩

set_option maxRecDepth 20000 in
theorem makes3_any (gv : Value) (g : Gram) (w : World) (hg : GramAt (Cl w) gv g) (hm : mayB g = true) : Calls Try.prog 40 #[gv] w (fun e w' => ∃ x : Nat × List Bool, e = .returned (.slice (some ⟨x.1, 0, none⟩) g.names.toNat g.names.toNat) ∧ (x.2.length = g.names.toNat ∧ LeastM g x.2 ∧ ClosedM g x.2) ∧ Sat (Old w) w [bools x.1 4 x.2] w') := by
 have hg0 := hg
 obtain ⟨rv, rfl, hr⟩ := hg.mono old_rd
 obtain ⟨a, c, rfl, hc1, hc2, hrs⟩ := hr
 have hg1 := hg.mono old_rd
 have hM := mayB_true.1 hm
 have hall := may_all hm
 refine calls_CW Try.func40 rfl Try.ntmps40 rfl (Sat.start w) ?_
 refine nx3 ?_
 refine OW_e (e_box rfl rfl) rfl (fun b1 => ?_)
 refine aO ?_
 refine nx4 ?_
 refine OW_q (q_fieldAddr Try.underlying24 rfl rfl Try.sizeOf3 rfl rfl) rfl ?_
 refine OW_q (q_load1_own Try.isAgg3 rfl rfl swt (by rfl)) rfl ?_
 refine OW_e (e_makeB Try.underlying54 Try.typeInfo4 rfl rfl (by decide) rfl rfl (by omega) (by omega)) rfl (fun b8 => ?_)
 refine aO ?_
 refine nx2 ?_
 refine CW_seq ?_
 refine nx3 ?_
 refine aO ?_
 refine nx2 ?_
 refine CW_block ?_
 refine CW_loopP (ι := Nat × List Bool) (fun i_ => i_.1 ≤ g.names.toNat ∧ i_.2.length = g.names.toNat ∧ LeastM g i_.2 ∧ (ClosedK (KM g) i_.2 ∨ fls i_.2 + i_.1 ≤ g.names.toNat)) (fun i_ => [(1, .pointer (some ⟨b1, 0, none⟩)), (3, .slice (some ⟨b8, 0, none⟩) g.names.toNat g.names.toNat), (4, .int .i64 (i_.1 : Int))]) (fun i_ => Sat (Old w) w [bools b8 4 i_.2, cel b1 24 [.int .i64 g.terms, .int .i64 g.names, .slice a g.rules.length c]]) (fun i_ => g.names.toNat - i_.1) (0, List.replicate g.names.toNat false) ?_ ⟨rfl, rfl, rfl, trivial⟩ sft ?_
 · exact ⟨Nat.zero_le _, List.length_replicate, leastM_new g _, .inr (by have := fls_le (List.replicate g.names.toNat false); rw [List.length_replicate] at this; exact this)⟩
 intro i_ hpre
 obtain ⟨j, is⟩ := i_
 replace hpre : j ≤ g.names.toNat ∧ is.length = g.names.toNat ∧ LeastM g is ∧ (ClosedK (KM g) is ∨ fls is + j ≤ g.names.toNat) := hpre
 change CW _ _ _ _ [(1, .pointer (some ⟨b1, 0, none⟩)), (3, .slice (some ⟨b8, 0, none⟩) g.names.toNat g.names.toNat), (4, .int .i64 (j : Int))] (Sat (Old w) w [bools b8 4 is, cel b1 24 [.int .i64 g.terms, .int .i64 g.names, .slice a g.rules.length c]])
 obtain ⟨hj, hln, hl, hcl⟩ := hpre
 refine CW_seq ?_
 refine nx3 ?_
 refine mO ?_
 refine OW_q (q_fieldAddr Try.underlying24 rfl rfl Try.sizeOf3 rfl rfl) rfl ?_
 refine OW_q (q_load1_own Try.isAgg3 rfl rfl swt (by rfl)) rfl ?_
 refine OW_q (q_lss rfl rfl) rfl ?_
 refine nx2 ?_
 refine CW_cond rfl (fun h12 => ?_) (fun h12 => ?_)
 · skip
   have hjlt : j < g.names.toNat := by have := of_decide_eq_true h12; omega
   refine CW_skip ?_
   refine EW_then ?_
   refine CW_seq ?_
   refine CW_block ?_
   refine nx3 ?_
   refine aO ?_
   refine nx2 ?_
   refine CW_block ?_
   refine CW_loopP (ι := Nat × List Bool) (fun i_ => i_.1 ≤ g.rules.length ∧ LeastM g i_.2 ∧ RI (KM g) ((KM g).take i_.1) is i_.2) (fun i_ => [(1, .pointer (some ⟨b1, 0, none⟩)), (3, .slice (some ⟨b8, 0, none⟩) g.names.toNat g.names.toNat), (4, .int .i64 (j : Int)), (5, .int .i64 (i_.1 : Int))]) (fun i_ => Sat (Old w) w [bools b8 4 i_.2, cel b1 24 [.int .i64 g.terms, .int .i64 g.names, .slice a g.rules.length c]]) (fun i_ => g.rules.length - i_.1) (0, is) ?_ ⟨rfl, rfl, rfl, rfl, trivial⟩ sft ?_
   · exact ⟨Nat.zero_le _, hl, RI.start _ _⟩
   intro i_ hpre
   obtain ⟨i, is1⟩ := i_
   replace hpre : i ≤ g.rules.length ∧ LeastM g is1 ∧ RI (KM g) ((KM g).take i) is is1 := hpre
   change CW _ _ _ _ [(1, .pointer (some ⟨b1, 0, none⟩)), (3, .slice (some ⟨b8, 0, none⟩) g.names.toNat g.names.toNat), (4, .int .i64 (j : Int)), (5, .int .i64 (i : Int))] (Sat (Old w) w [bools b8 4 is1, cel b1 24 [.int .i64 g.terms, .int .i64 g.names, .slice a g.rules.length c]])
   obtain ⟨hi, hl1, hri⟩ := hpre
   have hln1 : is1.length = g.names.toNat := hri.len.trans hln
   refine CW_seq ?_
   refine nx3 ?_
   refine mO ?_
   refine OW_q (q_fieldAddr Try.underlying24 rfl rfl Try.sizeOf22 rfl rfl) rfl ?_
   refine OW_q (q_load1_own Try.isAgg22 rfl rfl swt (by rfl)) rfl ?_
   refine OW_q (q_len Try.underlying22 rfl) rfl ?_
   refine OW_q (q_lss rfl rfl) rfl ?_
   refine nx2 ?_
   refine CW_cond rfl (fun h19 => ?_) (fun h19 => ?_)
   · skip
     have hlt : i < g.rules.length := by have := of_decide_eq_true h19; omega
     obtain ⟨r, hx⟩ := get_of_lt hlt
     have hmem := List.mem_of_getElem? hx
     obtain ⟨p, rfl, rv2, hsy, hrow⟩ := hrs i r hx
     have hr1 := hall r hmem
     have hlN : r.left < (g.names.toNat : Int) := by omega
     refine CW_skip ?_
     refine EW_then ?_
     refine CW_seq ?_
     refine CW_block ?_
     refine nx3 ?_
     refine OW_q (q_fieldAddr Try.underlying24 rfl rfl Try.sizeOf22 rfl rfl) rfl ?_
     refine OW_q (q_load1_own Try.isAgg22 rfl rfl swt (by rfl)) rfl ?_
     refine mO ?_
     refine OW_q (q_indexAddr Try.underlying22 Try.sizeOf49 rfl rfl (by omega)) rfl ?_
     refine OW_q (q_fieldAddr Try.underlying49 rfl rfl Try.sizeOf46 rfl rfl) rfl ?_
     refine OW_q (q_load1_ro Try.isAgg46 rfl (by exact Row.at_ (by assumption) rfl)) rfl ?_
     refine mO ?_
     refine OW_e (e_call Try.call58 rfl (fun w hw => lift_ro (all3_any _ _ r.right is1 w (hsy.mono hw.rd_cl) (hw.boolsAt (A' := bools 0 0 []) swt hln1 (Nat.le_refl _) (by omega)) (fun s hs ht => by have := hr1.2.2 s hs ht; omega)) hw)) rfl (fun x29 => ?_)
     refine nx2 ?_
     refine CW_cond rfl (fun h29 => ?_) (fun h29 => ?_)
     · skip
       refine CW_region ?_
       refine mO ?_
       refine OW_q (q_fieldAddr Try.underlying24 rfl rfl Try.sizeOf22 rfl rfl) rfl ?_
       refine OW_q (q_load1_own Try.isAgg22 rfl rfl swt (by rfl)) rfl ?_
       refine mO ?_
       refine OW_q (q_indexAddr Try.underlying22 Try.sizeOf49 rfl rfl (by omega)) rfl ?_
       refine OW_q (q_fieldAddr Try.underlying49 rfl rfl Try.sizeOf3 rfl rfl) rfl ?_
       refine OW_q (q_load1_ro Try.isAgg3 rfl (by exact Row.at_ (by assumption) rfl)) rfl ?_
       refine OW_q (q_indexAddrI Try.underlying54 Try.sizeOf4 rfl rfl (by omega) (by omega)) rfl ?_
       refine OW_e0 (e_store_bools Try.sizeOf4 rfl rfl swt (by omega)) (fun _ => ?_)
       refine OW_nil ?_
       refine EW_block_normal ?_
       refine EW_then ?_
       refine CW_region ?_
       refine mO ?_
       refine OW_q (q_add rfl rfl (by omega) (by omega)) rfl ?_
       refine aO ?_
       refine OW_nil ?_
       refine EW_again ((i + 1, is1.set r.left.toNat true)) ⟨?_, ?_⟩ ⟨rfl, rfl, rfl, rfl, trivial⟩ sft
       · show g.rules.length - (i + 1) < g.rules.length - i; omega
       · have hst := hri.step (k := makesK r) (List.mem_map.2 ⟨r, hmem, rfl⟩) hr1.1 (by show r.left < (is.length : Int); omega)
         have hcc : (makesK r).cond is1 = true := h29
         rw [if_pos hcc, ← KM_take hx] at hst
         exact ⟨by show i + 1 ≤ _; omega, leastM_set hl1 hmem hr1.1 (fun s hs ht => (hr1.2.2 s hs ht).1) h29, hst⟩
     refine CW_skip ?_
     refine EW_block_normal ?_
     refine EW_then ?_
     refine CW_region ?_
     refine mO ?_
     refine OW_q (q_add rfl rfl (by omega) (by omega)) rfl ?_
     refine aO ?_
     refine OW_nil ?_
     refine EW_again ((i + 1, is1)) ⟨?_, ?_⟩ ⟨rfl, rfl, rfl, rfl, trivial⟩ sft
     · show g.rules.length - (i + 1) < g.rules.length - i; omega
     · have hst := hri.step (k := makesK r) (List.mem_map.2 ⟨r, hmem, rfl⟩) hr1.1 (by show r.left < (is.length : Int); omega)
       rw [if_neg (c := (makesK r).cond is1 = true) (fun hc => by have hc' : allB is1 r.right = true := hc; rw [h29] at hc'; cases hc'), ← KM_take hx] at hst
       exact ⟨by show i + 1 ≤ _; omega, hl1, hst⟩
   have hie : ¬ i < g.rules.length := by have := of_decide_eq_false h19; omega
   refine CW_exit ?_
   refine EW_then_exit ?_
   refine EW_out ?_
   refine EW_block_exit ?_
   refine EW_block_normal ?_
   refine EW_then ?_
   refine CW_region ?_
   refine mO ?_
   refine OW_q (q_add rfl rfl (by omega) (by omega)) rfl ?_
   refine aO ?_
   refine OW_nil ?_
   refine EW_again ((j + 1, is1)) ⟨?_, ?_⟩ ⟨rfl, rfl, rfl, trivial⟩ sft
   · show g.names.toNat - (j + 1) < g.names.toNat - j; omega
   · exact ⟨by show j + 1 ≤ _; omega, hri.len.trans hln, hl1, (by rw [List.take_of_length_le (by unfold KM; rw [List.length_map]; omega)] at hri; exact hri.round hcl)⟩
 have hcm := closedM_of (closedK_end hcl (by have := of_decide_eq_false h12; omega) (by rw [hln]; exact KM_rng fun r hr => by have := hall r hr; omega))
 refine CW_exit ?_
 refine EW_then_exit ?_
 refine EW_out ?_
 refine EW_block_exit ?_
 refine EW_then ?_
 refine nx3 ?_
 refine mO ?_
 refine aO ?_
 refine nx2 ?_
 refine CW_ret ?_
 refine ret1 Try.results40 rfl (fun w hw => ?_)
 exact ⟨(b8, is), rfl, ⟨hln, hl, hcm⟩, hw.sub sbt⟩

set_option maxRecDepth 20000 in
theorem comes3_any (gv : Value) (g : Gram) (w : World) (hg : GramAt (Cl w) gv g) (hm : mayB g = true) : Calls Try.prog 41 #[gv] w (fun e w' => ∃ x : Nat × List Bool, e = .returned (.slice (some ⟨x.1, 0, none⟩) g.names.toNat g.names.toNat) ∧ (x.2.length = g.names.toNat ∧ ∃ m : List Bool, m.length = g.names.toNat ∧ LeastM g m ∧ ClosedM g m ∧ LeastC g m x.2 ∧ ClosedC g m x.2 ∧ (atB m 0 = true → atB x.2 0 = true)) ∧ Sat (Old w) w [bools x.1 4 x.2] w') := by
 have hg0 := hg
 obtain ⟨rv, rfl, hr⟩ := hg.mono old_rd
 obtain ⟨a, c, rfl, hc1, hc2, hrs⟩ := hr
 have hg1 := hg.mono old_rd
 have hM := mayB_true.1 hm
 have hall := may_all hm
 refine calls_CW Try.func41 rfl Try.ntmps41 rfl (Sat.start w) ?_
 refine nx3 ?_
 refine OW_e (e_box rfl rfl) rfl (fun b1 => ?_)
 refine aO ?_
 refine nx4 ?_
 refine OW_q (q_loadN_own Try.isAgg24 Try.sizeOf24 rfl rfl swt (by rfl)) rfl ?_
 refine OW_e (e_call Try.call40 rfl (fun w hw => lift_oldP (makes3_any _ g w (hg0.mono (fun _ _ h => hw.rd (Rd.old h))) hm) hw)) rfl (fun x10 => ?_)
 refine OW_pure fun hx10 => ?_
 have hc0 : x10.2[(0 : Int).toNat]? = some (atB x10.2 0) := atB_get (by omega) (by omega)
 refine aO ?_
 refine nx4 ?_
 refine OW_q (q_fieldAddr Try.underlying24 rfl rfl Try.sizeOf3 rfl rfl) rfl ?_
 refine OW_q (q_load1_own Try.isAgg3 rfl rfl swt (by rfl)) rfl ?_
 refine OW_e (e_makeB Try.underlying54 Try.typeInfo4 rfl rfl (by decide) rfl rfl (by omega) (by omega)) rfl (fun b13 => ?_)
 refine aO ?_
 refine nx4 ?_
 refine mO ?_
 refine mO ?_
 refine OW_q (q_indexAddrI Try.underlying54 Try.sizeOf4 rfl rfl (by omega) (by omega)) rfl ?_
 refine OW_q (q_load_bools Try.isAgg4 rfl swt (by assumption)) rfl ?_
 refine OW_q (q_indexAddrI Try.underlying54 Try.sizeOf4 rfl rfl (by omega) (by omega)) rfl ?_
 refine OW_e0 (e_store_bools Try.sizeOf4 rfl rfl swt (by simp; omega)) (fun _ => ?_)
 refine nx2 ?_
 refine CW_seq ?_
 refine nx3 ?_
 refine aO ?_
 refine nx2 ?_
 refine CW_block ?_
 refine CW_loopP (ι := Nat × List Bool) (fun i_ => i_.1 ≤ g.names.toNat ∧ i_.2.length = g.names.toNat ∧ LeastC g x10.2 i_.2 ∧ (atB x10.2 0 = true → atB i_.2 0 = true) ∧ (ClosedK (KC g x10.2) i_.2 ∨ fls i_.2 + i_.1 ≤ g.names.toNat)) (fun i_ => [(1, .pointer (some ⟨b1, 0, none⟩)), (3, .slice (some ⟨x10.1, 0, none⟩) g.names.toNat g.names.toNat), (4, .slice (some ⟨b13, 0, none⟩) g.names.toNat g.names.toNat), (5, .int .i64 (i_.1 : Int))]) (fun i_ => Sat (Old w) w [bools b13 4 i_.2, bools x10.1 4 x10.2, cel b1 24 [.int .i64 g.terms, .int .i64 g.names, .slice a g.rules.length c]]) (fun i_ => g.names.toNat - i_.1) (0, ((List.replicate g.names.toNat false).set 0 (atB x10.2 0))) ?_ ⟨rfl, rfl, rfl, rfl, trivial⟩ sft ?_
 · exact ⟨Nat.zero_le _, by simp, leastC_new g _ _, (fun h => by
     show atB ((List.replicate g.names.toNat false).set 0 (atB x10.2 0)) 0 = true
     have e := atB_set' (l := List.replicate g.names.toNat false) (t := 0) (u := 0) (by omega) (by simp; omega) (by omega) (atB x10.2 0)
     rw [if_pos rfl] at e
     exact e.trans h), .inr (by have := fls_le ((List.replicate g.names.toNat false).set 0 (atB x10.2 0)); rw [List.length_set, List.length_replicate] at this; exact this)⟩
 intro i_ hpre
 obtain ⟨j, is⟩ := i_
 replace hpre : j ≤ g.names.toNat ∧ is.length = g.names.toNat ∧ LeastC g x10.2 is ∧ (atB x10.2 0 = true → atB is 0 = true) ∧ (ClosedK (KC g x10.2) is ∨ fls is + j ≤ g.names.toNat) := hpre
 change CW _ _ _ _ [(1, .pointer (some ⟨b1, 0, none⟩)), (3, .slice (some ⟨x10.1, 0, none⟩) g.names.toNat g.names.toNat), (4, .slice (some ⟨b13, 0, none⟩) g.names.toNat g.names.toNat), (5, .int .i64 (j : Int))] (Sat (Old w) w [bools b13 4 is, bools x10.1 4 x10.2, cel b1 24 [.int .i64 g.terms, .int .i64 g.names, .slice a g.rules.length c]])
 obtain ⟨hj, hln, hl, h00, hcl⟩ := hpre
 refine CW_seq ?_
 refine nx3 ?_
 refine mO ?_
 refine OW_q (q_fieldAddr Try.underlying24 rfl rfl Try.sizeOf3 rfl rfl) rfl ?_
 refine OW_q (q_load1_own Try.isAgg3 rfl rfl swt (by rfl)) rfl ?_
 refine OW_q (q_lss rfl rfl) rfl ?_
 refine nx2 ?_
 refine CW_cond rfl (fun h22 => ?_) (fun h22 => ?_)
 · skip
   have hjlt : j < g.names.toNat := by have := of_decide_eq_true h22; omega
   refine CW_skip ?_
   refine EW_then ?_
   refine CW_seq ?_
   refine CW_block ?_
   refine nx3 ?_
   refine aO ?_
   refine nx2 ?_
   refine CW_block ?_
   refine CW_loopP (ι := Nat × List Bool) (fun i_ => i_.1 ≤ g.rules.length ∧ LeastC g x10.2 i_.2 ∧ (atB x10.2 0 = true → atB i_.2 0 = true) ∧ RI (KC g x10.2) ((g.rules.take i_.1).flatMap fun q => comKs x10.2 q q.right) is i_.2) (fun i_ => [(1, .pointer (some ⟨b1, 0, none⟩)), (3, .slice (some ⟨x10.1, 0, none⟩) g.names.toNat g.names.toNat), (4, .slice (some ⟨b13, 0, none⟩) g.names.toNat g.names.toNat), (5, .int .i64 (j : Int)), (6, .int .i64 (i_.1 : Int))]) (fun i_ => Sat (Old w) w [bools b13 4 i_.2, bools x10.1 4 x10.2, cel b1 24 [.int .i64 g.terms, .int .i64 g.names, .slice a g.rules.length c]]) (fun i_ => g.rules.length - i_.1) (0, is) ?_ ⟨rfl, rfl, rfl, rfl, rfl, trivial⟩ sft ?_
   · exact ⟨Nat.zero_le _, hl, h00, RI.start _ _⟩
   intro i_ hpre
   obtain ⟨i, is1⟩ := i_
   replace hpre : i ≤ g.rules.length ∧ LeastC g x10.2 is1 ∧ (atB x10.2 0 = true → atB is1 0 = true) ∧ RI (KC g x10.2) ((g.rules.take i).flatMap fun q => comKs x10.2 q q.right) is is1 := hpre
   change CW _ _ _ _ [(1, .pointer (some ⟨b1, 0, none⟩)), (3, .slice (some ⟨x10.1, 0, none⟩) g.names.toNat g.names.toNat), (4, .slice (some ⟨b13, 0, none⟩) g.names.toNat g.names.toNat), (5, .int .i64 (j : Int)), (6, .int .i64 (i : Int))] (Sat (Old w) w [bools b13 4 is1, bools x10.1 4 x10.2, cel b1 24 [.int .i64 g.terms, .int .i64 g.names, .slice a g.rules.length c]])
   obtain ⟨hi, hl1, h01, hri⟩ := hpre
   have hln1 : is1.length = g.names.toNat := hri.len.trans hln
   refine CW_seq ?_
   refine nx3 ?_
   refine mO ?_
   refine OW_q (q_fieldAddr Try.underlying24 rfl rfl Try.sizeOf22 rfl rfl) rfl ?_
   refine OW_q (q_load1_own Try.isAgg22 rfl rfl swt (by rfl)) rfl ?_
   refine OW_q (q_len Try.underlying22 rfl) rfl ?_
   refine OW_q (q_lss rfl rfl) rfl ?_
   refine nx2 ?_
   refine CW_cond rfl (fun h29 => ?_) (fun h29 => ?_)
   · skip
     have hlt : i < g.rules.length := by have := of_decide_eq_true h29; omega
     obtain ⟨r, hx⟩ := get_of_lt hlt
     have hmem := List.mem_of_getElem? hx
     obtain ⟨p, rfl, rv2, hsy, hrow⟩ := hrs i r hx
     have hr1 := hall r hmem
     have hlN : r.left < (g.names.toNat : Int) := by omega
     obtain ⟨a2, c2, rfl, hd1, hd2, hss⟩ := id hsy
     have hcl1 := atB_get (is := is1) hr1.1 (by omega)
     refine CW_skip ?_
     refine EW_then ?_
     refine CW_seq ?_
     refine CW_block ?_
     refine nx3 ?_
     refine OW_q (q_fieldAddr Try.underlying24 rfl rfl Try.sizeOf22 rfl rfl) rfl ?_
     refine OW_q (q_load1_own Try.isAgg22 rfl rfl swt (by rfl)) rfl ?_
     refine mO ?_
     refine OW_q (q_indexAddr Try.underlying22 Try.sizeOf49 rfl rfl (by omega)) rfl ?_
     refine OW_q (q_loadN_ro Try.isAgg49 Try.sizeOf49 rfl (by assumption) (by rfl)) rfl ?_
     refine OW_e (e_alloc Try.zeroValue49 rfl) rfl (fun b7 => ?_)
     refine OW_e0 (e_storeN Try.sizeOf49 rfl rfl rfl rfl (by simp [Value.oneCell']) swt (by rfl)) (fun _ => ?_)
     refine nx2 ?_
     refine CW_seq ?_
     refine nx3 ?_
     refine mO ?_
     refine OW_q (q_fieldAddr Try.underlying49 rfl rfl Try.sizeOf3 rfl rfl) rfl ?_
     refine OW_q (q_load1_own Try.isAgg3 rfl rfl swt (by rfl)) rfl ?_
     refine OW_q (q_indexAddrI Try.underlying54 Try.sizeOf4 rfl rfl (by omega) (by omega)) rfl ?_
     refine OW_q (q_load_bools Try.isAgg4 rfl swt (by assumption)) rfl ?_
     refine OW_q (q_not rfl) rfl ?_
     refine mO ?_
     refine OW_part (t := 43) rfl (fun hg43 => ?_) (fun hg43 => ?_)
     · skip
       refine kO ?_
       refine kO ?_
       refine kO ?_
       refine kO ?_
       refine kO ?_
       refine OW_q (q_pick_t rfl rfl) rfl ?_
       refine nx2 ?_
       refine CW_true rfl rfl ?_
       refine CW_exit ?_
       refine EW_then_exit ?_
       refine EW_block_exit ?_
       refine EW_then ?_
       refine CW_region ?_
       refine mO ?_
       refine OW_q (q_add rfl rfl (by omega) (by omega)) rfl ?_
       refine aO ?_
       refine OW_nil ?_
       refine EW_again ((i + 1, is1)) ⟨?_, ?_⟩ ⟨rfl, rfl, rfl, rfl, rfl, trivial⟩ sft
       · show g.rules.length - (i + 1) < g.rules.length - i; omega
       · show _ ∧ _ ∧ _ ∧ RI _ ((g.rules.take (i + 1)).flatMap _) _ _
         rw [DC_next hx]
         exact ⟨by show i + 1 ≤ _; omega, hl1, h01, hri.skips (fun k hk => by
           obtain ⟨s, _, rfl⟩ := List.mem_map.1 hk
           show (atB is1 r.left && allB x10.2 r.right) = false
           simp at hg43; rw [hg43]; rfl)⟩
     refine wO ?_
     refine OW_q (q_fieldAddr Try.underlying49 rfl rfl Try.sizeOf46 rfl rfl) rfl ?_
     refine wO ?_
     refine OW_q (q_load1_own Try.isAgg46 rfl rfl swt (by rfl)) rfl ?_
     refine wO ?_
     refine mO ?_
     refine wO ?_
     refine OW_e (e_call Try.call58 rfl (fun w hw => lift_ro (all3_any _ _ r.right x10.2 w (hsy.mono hw.rd_cl) (hw.boolsAt (A' := bools 0 0 []) swt hx10.1 (Nat.le_refl _) (by omega)) (fun s hs ht => by have := hr1.2.2 s hs ht; omega)) hw)) rfl (fun x47 => ?_)
     refine wO ?_
     refine OW_q (q_not rfl) rfl ?_
     refine OW_q (q_pick_f rfl rfl) rfl ?_
     refine nx2 ?_
     refine CW_cond rfl (fun h49 => ?_) (fun h49 => ?_)
     · skip
       refine CW_exit ?_
       refine EW_then_exit ?_
       refine EW_block_exit ?_
       refine EW_then ?_
       refine CW_region ?_
       refine mO ?_
       refine OW_q (q_add rfl rfl (by omega) (by omega)) rfl ?_
       refine aO ?_
       refine OW_nil ?_
       refine EW_again ((i + 1, is1)) ⟨?_, ?_⟩ ⟨rfl, rfl, rfl, rfl, rfl, trivial⟩ sft
       · show g.rules.length - (i + 1) < g.rules.length - i; omega
       · show _ ∧ _ ∧ _ ∧ RI _ ((g.rules.take (i + 1)).flatMap _) _ _
         rw [DC_next hx]
         exact ⟨by show i + 1 ≤ _; omega, hl1, h01, hri.skips (fun k hk => by
           obtain ⟨s, _, rfl⟩ := List.mem_map.1 hk
           show (atB is1 r.left && allB x10.2 r.right) = false
           simp at h49; rw [h49]; simp)⟩
     refine CW_skip ?_
     refine EW_then ?_
     refine nx3 ?_
     refine aO ?_
     refine nx2 ?_
     refine CW_block ?_
     refine CW_loopP (ι := Nat × List Bool) (fun i_ => i_.1 ≤ r.right.length ∧ LeastC g x10.2 i_.2 ∧ (atB x10.2 0 = true → atB i_.2 0 = true) ∧ atB i_.2 r.left = true ∧ RI (KC g x10.2) (DC g x10.2 i r i_.1) is i_.2) (fun i_ => [(1, .pointer (some ⟨b1, 0, none⟩)), (3, .slice (some ⟨x10.1, 0, none⟩) g.names.toNat g.names.toNat), (4, .slice (some ⟨b13, 0, none⟩) g.names.toNat g.names.toNat), (5, .int .i64 (j : Int)), (6, .int .i64 (i : Int)), (7, .pointer (some ⟨b7, 0, none⟩)), (8, .int .i64 (i_.1 : Int))]) (fun i_ => Sat (Old w) w [bools b13 4 i_.2, bools x10.1 4 x10.2, cel b1 24 [.int .i64 g.terms, .int .i64 g.names, .slice (some p) g.rules.length c], cel b7 49 [.int .i64 r.left, .slice a2 r.right.length c2]]) (fun i_ => r.right.length - i_.1) (0, is1) ?_ ⟨rfl, rfl, rfl, rfl, rfl, rfl, rfl, trivial⟩ sft ?_
     · exact ⟨Nat.zero_le _, hl1, h01, (by simpa using hg43), (by show RI _ (DC g x10.2 i r 0) _ _; rw [DC_zero]; exact hri)⟩
     intro i_ hpre
     obtain ⟨k, is2⟩ := i_
     replace hpre : k ≤ r.right.length ∧ LeastC g x10.2 is2 ∧ (atB x10.2 0 = true → atB is2 0 = true) ∧ atB is2 r.left = true ∧ RI (KC g x10.2) (DC g x10.2 i r k) is is2 := hpre
     change CW _ _ _ _ [(1, .pointer (some ⟨b1, 0, none⟩)), (3, .slice (some ⟨x10.1, 0, none⟩) g.names.toNat g.names.toNat), (4, .slice (some ⟨b13, 0, none⟩) g.names.toNat g.names.toNat), (5, .int .i64 (j : Int)), (6, .int .i64 (i : Int)), (7, .pointer (some ⟨b7, 0, none⟩)), (8, .int .i64 (k : Int))] (Sat (Old w) w [bools b13 4 is2, bools x10.1 4 x10.2, cel b1 24 [.int .i64 g.terms, .int .i64 g.names, .slice (some p) g.rules.length c], cel b7 49 [.int .i64 r.left, .slice a2 r.right.length c2]])
     obtain ⟨hk, hl2, h02, hleft, hri2⟩ := hpre
     have hln2 : is2.length = g.names.toNat := hri2.len.trans hln
     have hall3 : allB x10.2 r.right = true := by simpa using h49
     refine CW_seq ?_
     refine nx3 ?_
     refine mO ?_
     refine OW_q (q_fieldAddr Try.underlying49 rfl rfl Try.sizeOf46 rfl rfl) rfl ?_
     refine OW_q (q_load1_own Try.isAgg46 rfl rfl swt (by rfl)) rfl ?_
     refine OW_q (q_len Try.underlying46 rfl) rfl ?_
     refine OW_q (q_lss rfl rfl) rfl ?_
     refine nx2 ?_
     refine CW_cond rfl (fun h54 => ?_) (fun h54 => ?_)
     · skip
       have hltk : k < r.right.length := by have := of_decide_eq_true h54; omega
       obtain ⟨s, hsj⟩ := get_of_lt hltk
       obtain ⟨p2, rfl, hrowS⟩ := hss k s hsj
       have hsm := List.mem_of_getElem? hsj
       refine CW_skip ?_
       refine EW_then ?_
       refine CW_seq ?_
       refine CW_block ?_
       refine nx3 ?_
       refine OW_q (q_fieldAddr Try.underlying49 rfl rfl Try.sizeOf46 rfl rfl) rfl ?_
       refine OW_q (q_load1_own Try.isAgg46 rfl rfl swt (by rfl)) rfl ?_
       refine mO ?_
       refine OW_q (q_indexAddr Try.underlying46 Try.sizeOf51 rfl rfl (by omega)) rfl ?_
       refine OW_q (q_fieldAddr Try.underlying51 rfl rfl Try.sizeOf4 rfl rfl) rfl ?_
       refine OW_q (q_load1_ro Try.isAgg4 rfl (by exact Row.at_ (by assumption) rfl)) rfl ?_
       refine OW_q (q_not rfl) rfl ?_
       refine nx2 ?_
       refine CW_cond rfl (fun h63 => ?_) (fun h63 => ?_)
       · skip
         have hs1N := hr1.2.2 s hsm (by simpa using h63)
         refine CW_region ?_
         refine mO ?_
         refine OW_q (q_fieldAddr Try.underlying49 rfl rfl Try.sizeOf46 rfl rfl) rfl ?_
         refine OW_q (q_load1_own Try.isAgg46 rfl rfl swt (by rfl)) rfl ?_
         refine mO ?_
         refine OW_q (q_indexAddr Try.underlying46 Try.sizeOf51 rfl rfl (by omega)) rfl ?_
         refine OW_q (q_fieldAddr Try.underlying51 rfl rfl Try.sizeOf3 rfl rfl) rfl ?_
         refine OW_q (q_load1_ro Try.isAgg3 rfl (by exact Row.at_ (by assumption) rfl)) rfl ?_
         refine OW_q (q_indexAddrI Try.underlying54 Try.sizeOf4 rfl rfl (by omega) (by omega)) rfl ?_
         refine OW_e0 (e_store_bools Try.sizeOf4 rfl rfl swt (by omega)) (fun _ => ?_)
         refine OW_nil ?_
         refine EW_block_normal ?_
         refine EW_then ?_
         refine CW_region ?_
         refine mO ?_
         refine OW_q (q_add rfl rfl (by omega) (by omega)) rfl ?_
         refine aO ?_
         refine OW_nil ?_
         refine EW_again ((k + 1, is2.set s.n.toNat true)) ⟨?_, ?_⟩ ⟨rfl, rfl, rfl, rfl, rfl, rfl, rfl, trivial⟩ sft
         · show r.right.length - (k + 1) < r.right.length - k; omega
         · have ht : s.term = false := by simpa using h63
           have hs1 := hr1.2.2 s hsm ht
           have hst := hri2.step (KC_mem hmem hsm ht) hs1.1 (by show s.n < (is.length : Int); omega)
           have hcc : (comesK x10.2 r s).cond is2 = true := by show (atB is2 r.left && allB x10.2 r.right) = true; rw [hleft, hall3]; rfl
           rw [if_pos hcc, ← DC_name hsj ht] at hst
           exact ⟨by show k + 1 ≤ _; omega, leastC_set hl2 hmem hsm ht hr1.1 hs1.1 hleft hall3, (fun h => atB_set _ (h02 h)), atB_set _ hleft, hst⟩
       refine CW_skip ?_
       refine EW_block_normal ?_
       refine EW_then ?_
       refine CW_region ?_
       refine mO ?_
       refine OW_q (q_add rfl rfl (by omega) (by omega)) rfl ?_
       refine aO ?_
       refine OW_nil ?_
       refine EW_again ((k + 1, is2)) ⟨?_, ?_⟩ ⟨rfl, rfl, rfl, rfl, rfl, rfl, rfl, trivial⟩ sft
       · show r.right.length - (k + 1) < r.right.length - k; omega
       · exact ⟨by show k + 1 ≤ _; omega, hl2, h02, hleft, by show RI _ (DC g x10.2 i r (k + 1)) _ _; rw [DC_term hsj (by simpa using h63)]; exact hri2⟩
     have hke : ¬ k < r.right.length := by have := of_decide_eq_false h54; omega
     refine CW_exit ?_
     refine EW_then_exit ?_
     refine EW_out ?_
     refine EW_block_exit ?_
     refine EW_block_normal ?_
     refine EW_then ?_
     refine CW_region ?_
     refine mO ?_
     refine OW_q (q_add rfl rfl (by omega) (by omega)) rfl ?_
     refine aO ?_
     refine OW_nil ?_
     refine EW_again ((i + 1, is2)) ⟨?_, ?_⟩ ⟨rfl, rfl, rfl, rfl, rfl, trivial⟩ sft
     · show g.rules.length - (i + 1) < g.rules.length - i; omega
     · show _ ∧ _ ∧ _ ∧ RI _ ((g.rules.take (i + 1)).flatMap _) _ _
       rw [DC_next hx]
       unfold DC at hri2
       rw [show r.right.take k = r.right from List.take_of_length_le (by omega)] at hri2
       exact ⟨by show i + 1 ≤ _; omega, hl2, h02, hri2⟩
   have hie : ¬ i < g.rules.length := by have := of_decide_eq_false h29; omega
   refine CW_exit ?_
   refine EW_then_exit ?_
   refine EW_out ?_
   refine EW_block_exit ?_
   refine EW_block_normal ?_
   refine EW_then ?_
   refine CW_region ?_
   refine mO ?_
   refine OW_q (q_add rfl rfl (by omega) (by omega)) rfl ?_
   refine aO ?_
   refine OW_nil ?_
   refine EW_again ((j + 1, is1)) ⟨?_, ?_⟩ ⟨rfl, rfl, rfl, rfl, trivial⟩ sft
   · show g.names.toNat - (j + 1) < g.names.toNat - j; omega
   · exact ⟨by show j + 1 ≤ _; omega, hri.len.trans hln, hl1, h01, (by rw [List.take_of_length_le (by omega)] at hri; exact RI.round (all := KC g x10.2) hri hcl)⟩
 have hcc := closedC_of (closedK_end hcl (by have := of_decide_eq_false h22; omega) (by rw [hln]; exact KC_rng fun r hr s hs ht => by have := (hall r hr).2.2 s hs ht; omega))
 refine CW_exit ?_
 refine EW_then_exit ?_
 refine EW_out ?_
 refine EW_block_exit ?_
 refine EW_then ?_
 refine nx3 ?_
 refine mO ?_
 refine aO ?_
 refine nx2 ?_
 refine CW_ret ?_
 refine ret1 Try.results41 rfl (fun w hw => ?_)
 exact ⟨(b13, is), rfl, ⟨hln, x10.2, hx10.1, hx10.2.1, hx10.2.2, hl, hcc, h00⟩, hw.sub sbt⟩

end Go.Sy
/- pollardingref8.one: names that begin with themselves, and prunes. No condition. -/
namespace Go.Sy
open Go Go.RowKit Go.Proofs

set_option maxRecDepth 20000 in
theorem one5_any (gv : Value) (g : Gram) (s : SStep) (k : Nat) (q : Rule) (w : World) (hm : mayB g = true) (hs : mayS g s = true) (hop : s.op = 5) (hq : g.rules[k]? = some q) (hg : GramAt (Cl w) gv g) : Calls Try.prog 22 #[gv, stepV s, .int .i64 (k : Int)] w (fun e w' => ∃ x : Value × List RV × List Bool × List Bool, e = .returned x.1 ∧ ((s.op = 5 → MksOk g x.2.2.1 ∧ CmsOk g x.2.2.2) ∧ plainR x.2.1 = oneR g s x.2.2.1 x.2.2.2 k q) ∧ Sat (Old w) w [rulesA x.1 x.2.1, symsA x.2.1] w') := by
 have hg0 := hg
 obtain ⟨rv, rfl, hr⟩ := hg.mono old_rd
 obtain ⟨a, c, rfl, hc1, hc2, hrs⟩ := id hr
 clear hg
 have hM := mayB_true.1 hm
 have hlk := (List.getElem?_eq_some_iff.1 hq).1
 have hq8 := (may_rule hm hq).2.2
 obtain ⟨p, rfl, rvq, hsy, hrow⟩ := hrs k q hq
 obtain ⟨ya, yc, rfl, hy1, hy2, hys⟩ := id hsy
 have hkn : ((g.names.toNat : Nat) : Int) = g.names := by omega
 have hqr := may_rule hm hq
 refine calls_CW Try.func22 rfl Try.ntmps22 rfl (Sat.start w) ?_
 refine nx3 ?_
 refine OW_e (e_box rfl rfl) rfl (fun b3 => ?_)
 refine OW_e (e_box rfl rfl) rfl (fun b4 => ?_)
 refine aO ?_
 refine nx2 ?_
 refine CW_seqJ (ι := Nat × Option Addr × Nat) (fun i_ => q.right.length ≤ i_.2.2 ∧ i_.2.2 ≤ 9223372036854775807 ∧ (0 < q.right.length → ∃ g, i_.2.1 = some ⟨g, 0, none⟩)) (fun i_ => [(2, .int .i64 (k : Int)), (3, .pointer (some ⟨b3, 0, none⟩)), (4, .pointer (some ⟨b4, 0, none⟩)), (7, .pointer (some ⟨i_.1, 0, none⟩))]) (fun i_ => Sat (Old w) w [cel i_.1 49 [.int .i64 q.left, .slice i_.2.1 q.right.length i_.2.2], trow 51 2 encY (.slice i_.2.1 q.right.length i_.2.2) q.right, cel b4 26 [.int .i64 s.op, .int .i64 s.a, .int .i64 s.b, .int .i64 s.c], cel b3 24 [.int .i64 g.terms, .int .i64 g.names, .slice (some p) g.rules.length c]]) ?_ ?_
 · skip
   refine CW_drawT (Sat (Old w) w [cel b4 26 [.int .i64 s.op, .int .i64 s.a, .int .i64 s.b, .int .i64 s.c], cel b3 24 [.int .i64 g.terms, .int .i64 g.names, .slice (some p) g.rules.length c]]) [15] (.q 0 false (.q 1 true (.q 2 false (.q 3 false (.q 4 false (.q 5 true (.q 6 false (.q 7 true (.q 8 false (.q 9 false (.q 10 false (.q 11 true (.alt 12 (.q 13 false (.e 14 (.e 15 .nil))) 14 (.e 12 (.q 13 false (.e 15 .nil)))))))))))))))) (by kernel_rfl) (Blind.again Blind.bodyP) (by kernel_rfl) (fun w hw => hw.drew) ?_
   refine DT_p rfl (.inr (fun w hw => (by exact hw.sub sbt))) (q_fieldAddr Try.underlying24 rfl rfl Try.sizeOf22 rfl rfl) rfl ?_
   refine DT_q rfl (fun w hw => (by exact hw.sub sbt)) (q_load1_own Try.isAgg22 rfl rfl swt (by rfl)) rfl ?_
   refine DT_p rfl (.inr (fun w hw => (by exact hw.sub sbt))) (q_move rfl) rfl ?_
   refine DT_p rfl (.inr (fun w hw => (by exact hw.sub sbt))) (q_indexAddr Try.underlying22 Try.sizeOf49 rfl rfl (by omega)) rfl ?_
   refine DT_p rfl (.inr (fun w hw => (by exact hw.sub sbt))) (q_fieldAddr Try.underlying49 rfl rfl Try.sizeOf3 rfl rfl) rfl ?_
   refine DT_q rfl (fun w hw => (by exact hw.sub sbt)) (q_load1_ro Try.isAgg3 rfl (by exact Row.at0 hrow)) rfl ?_
   refine DT_p rfl (.inr (fun w hw => (by exact hw.sub sbt))) (q_fieldAddr Try.underlying24 rfl rfl Try.sizeOf22 rfl rfl) rfl ?_
   refine DT_q rfl (fun w hw => (by exact hw.sub sbt)) (q_load1_own Try.isAgg22 rfl rfl swt (by rfl)) rfl ?_
   refine DT_p rfl (.inr (fun w hw => (by exact hw.sub sbt))) (q_move rfl) rfl ?_
   refine DT_p rfl (.inr (fun w hw => (by exact hw.sub sbt))) (q_indexAddr Try.underlying22 Try.sizeOf49 rfl rfl (by omega)) rfl ?_
   refine DT_p rfl (.inr (fun w hw => (by exact hw.sub sbt))) (q_fieldAddr Try.underlying49 rfl rfl Try.sizeOf46 rfl rfl) rfl ?_
   refine DT_q rfl (fun w hw => (by exact hw.sub sbt)) (q_load1_ro Try.isAgg46 rfl (by exact hrow.at_ (j := 1) rfl)) rfl ?_
   refine DT_alt ?_ ?_
   · skip
     refine DT_e rfl (e_call Try.call23 rfl (fun w hw => lift_old (copied_any _ q.right w (by omega) (hsy.mono fun _ _ h => hw.rd h)) hw)) rfl (.inr (fun _ w hw => (by exact hw.sub sbt))) (fun x30 => ?_)
     refine DT_fact (fun w hw => hw.tform (v := x30) (l := q.right) (enc := encY) swt) (fun hf => ?_)
     obtain ⟨ax, cx, rfl, hcx1, hcx2, hbx⟩ := hf
     refine DT_p rfl (.inr (fun w hw => (by exact hw.sub sbt))) (q_build (ps := #[(0, .int .i64 q.left), (1, .slice ax q.right.length cx)]) (v := .agg #[.int .i64 q.left, .slice ax q.right.length cx]) rfl (fun w => by kernel_rfl)) rfl ?_
     refine DT_e rfl (e_alloc Try.zeroValue49 rfl) rfl (.inr (fun _ w hw => (by exact hw.sub sbt))) (fun b7 => ?_)
     refine DT_e0 rfl (e_storeN Try.sizeOf49 rfl rfl rfl rfl (by simp [Value.oneCell']) swt (by rfl)) (.inl rfl) (fun _ => ?_)
     refine DT_nil ?_
     refine EW_again ((b7, ax, cx)) ?_ ⟨rfl, rfl, rfl, rfl, trivial⟩ sft
     · exact ⟨hcx1, hcx2, hbx⟩
   refine DT_e rfl (e_alloc Try.zeroValue49 rfl) rfl (.inr (fun _ w hw => (by exact hw.sub sbt))) (fun b7 => ?_)
   refine DT_e rfl (e_call Try.call23 rfl (fun w hw => lift_old (copied_any _ q.right w (by omega) (hsy.mono fun _ _ h => hw.rd h)) hw)) rfl (.inr (fun _ w hw => (by exact hw.sub sbt))) (fun x30 => ?_)
   refine DT_fact (fun w hw => hw.tform (v := x30) (l := q.right) (enc := encY) swt) (fun hf => ?_)
   obtain ⟨ax, cx, rfl, hcx1, hcx2, hbx⟩ := hf
   refine DT_p rfl (.inr (fun w hw => (by exact hw.sub sbt))) (q_build (ps := #[(0, .int .i64 q.left), (1, .slice ax q.right.length cx)]) (v := .agg #[.int .i64 q.left, .slice ax q.right.length cx]) rfl (fun w => by kernel_rfl)) rfl ?_
   refine DT_e0 rfl (e_storeN Try.sizeOf49 rfl rfl rfl rfl (by simp [Value.oneCell']) swt (by rfl)) (.inl rfl) (fun _ => ?_)
   refine DT_nil ?_
   refine EW_again ((b7, ax, cx)) ?_ ⟨rfl, rfl, rfl, rfl, trivial⟩ sft
   · exact ⟨hcx1, hcx2, hbx⟩
 intro i_ hpre
 obtain ⟨b7, ax, cx⟩ := i_
 replace hpre : q.right.length ≤ cx ∧ cx ≤ 9223372036854775807 ∧ (0 < q.right.length → ∃ g, ax = some ⟨g, 0, none⟩) := hpre
 change CW _ _ _ _ [(2, .int .i64 (k : Int)), (3, .pointer (some ⟨b3, 0, none⟩)), (4, .pointer (some ⟨b4, 0, none⟩)), (7, .pointer (some ⟨b7, 0, none⟩))] (Sat (Old w) w [cel b7 49 [.int .i64 q.left, .slice ax q.right.length cx], trow 51 2 encY (.slice ax q.right.length cx) q.right, cel b4 26 [.int .i64 s.op, .int .i64 s.a, .int .i64 s.b, .int .i64 s.c], cel b3 24 [.int .i64 g.terms, .int .i64 g.names, .slice (some p) g.rules.length c]])
 obtain ⟨hcx1, hcx2, hbx⟩ := hpre
 refine nx3 ?_
 refine OW_q (q_fieldAddr Try.underlying24 rfl rfl Try.sizeOf3 rfl rfl) rfl ?_
 refine OW_q (q_load1_own Try.isAgg3 rfl rfl swt (by rfl)) rfl ?_
 refine OW_q (q_build (ps := #[(1, .int .i64 g.names)]) (v := .agg #[.bool false, .int .i64 g.names]) rfl (fun w => by kernel_rfl)) rfl ?_
 refine OW_e (e_alloc Try.zeroValue51 rfl) rfl (fun b8 => ?_)
 refine OW_e0 (e_storeN Try.sizeOf51 rfl rfl rfl rfl (by simp [Value.oneCell']) swt (by rfl)) (fun _ => ?_)
 refine nx2 ?_
 refine CW_seq ?_
 refine nx3 ?_
 refine OW_q (q_fieldAddr Try.underlying26 rfl rfl Try.sizeOf3 rfl rfl) rfl ?_
 refine OW_q (q_load1_own Try.isAgg3 rfl rfl swt (by rfl)) rfl ?_
 refine nx2 ?_
 refine CW_block ?_
 refine nx3 ?_
 refine OW_q (q_eqi rfl rfl) rfl ?_
 refine aO ?_
 refine nx2 ?_
 refine CW_false rfl (by simp [hop]) ?_
 refine nx3 ?_
 refine OW_q (q_eqi rfl rfl) rfl ?_
 refine aO ?_
 refine nx2 ?_
 refine CW_false rfl (by simp [hop]) ?_
 refine nx3 ?_
 refine OW_q (q_eqi rfl rfl) rfl ?_
 refine aO ?_
 refine nx2 ?_
 refine CW_false rfl (by simp [hop]) ?_
 refine nx3 ?_
 refine OW_q (q_eqi rfl rfl) rfl ?_
 refine aO ?_
 refine nx2 ?_
 refine CW_false rfl (by simp [hop]) ?_
 refine nx3 ?_
 refine OW_q (q_eqi rfl rfl) rfl ?_
 refine aO ?_
 refine nx2 ?_
 refine CW_true rfl (by simp [hop]) ?_
 refine nx3 ?_
 refine OW_q (q_loadN_own Try.isAgg24 Try.sizeOf24 rfl rfl swt (by rfl)) rfl ?_
 refine OW_e (e_call Try.call40 rfl (fun w hw => lift_oldP (makes3_any _ g w (hg0.mono (fun _ _ h => hw.rd (Rd.old h))) hm) hw)) rfl (fun x184 => ?_)
 refine OW_pure fun hx184 => ?_
 have hm1 := atB_get (is := x184.2) hqr.1 (by have := hx184.1; omega)
 refine aO ?_
 refine nx4 ?_
 refine OW_q (q_loadN_own Try.isAgg24 Try.sizeOf24 rfl rfl swt (by rfl)) rfl ?_
 refine OW_e (e_call Try.call41 rfl (fun w hw => lift_oldP (comes3_any _ g w (hg0.mono (fun _ _ h => hw.rd (Rd.old h))) hm) hw)) rfl (fun x186 => ?_)
 refine OW_pure fun hx186 => ?_
 have hc1 := atB_get (is := x186.2) hqr.1 (by have := hx186.1; omega)
 refine aO ?_
 refine nx2 ?_
 refine CW_seqJ (ι := Bool) (fun nd => nd = (atB x184.2 q.left && atB x186.2 q.left)) (fun nd => [(2, .int .i64 (k : Int)), (3, .pointer (some ⟨b3, 0, none⟩)), (4, .pointer (some ⟨b4, 0, none⟩)), (7, .pointer (some ⟨b7, 0, none⟩)), (8, .pointer (some ⟨b8, 0, none⟩)), (14, .slice (some ⟨x184.1, 0, none⟩) g.names.toNat g.names.toNat), (15, .slice (some ⟨x186.1, 0, none⟩) g.names.toNat g.names.toNat), (16, .bool nd)]) (fun nd => Sat (Old w) w [bools x186.1 4 x186.2, bools x184.1 4 x184.2, cel b8 51 [.bool false, .int .i64 g.names], cel b7 49 [.int .i64 q.left, .slice ax q.right.length cx], trow 51 2 encY (.slice ax q.right.length cx) q.right, cel b4 26 [.int .i64 s.op, .int .i64 s.a, .int .i64 s.b, .int .i64 s.c], cel b3 24 [.int .i64 g.terms, .int .i64 g.names, .slice (some p) g.rules.length c]]) ?_ ?_
 · skip
   refine CW_region ?_
   refine mO ?_
   refine OW_q (q_fieldAddr Try.underlying49 rfl rfl Try.sizeOf3 rfl rfl) rfl ?_
   refine OW_q (q_load1_own Try.isAgg3 rfl rfl swt (by rfl)) rfl ?_
   refine OW_q (q_indexAddrI Try.underlying54 Try.sizeOf4 rfl rfl (by omega) (by omega)) rfl ?_
   refine OW_q (q_load_bools Try.isAgg4 rfl swt (by exact hm1)) rfl ?_
   refine mO ?_
   refine OW_part (t := 192) rfl (fun hg192 => ?_) (fun hg192 => ?_)
   · skip
     refine wO ?_
     refine mO ?_
     refine wO ?_
     refine OW_q (q_fieldAddr Try.underlying49 rfl rfl Try.sizeOf3 rfl rfl) rfl ?_
     refine wO ?_
     refine OW_q (q_load1_own Try.isAgg3 rfl rfl swt (by rfl)) rfl ?_
     refine wO ?_
     refine OW_q (q_indexAddrI Try.underlying54 Try.sizeOf4 rfl rfl (by omega) (by omega)) rfl ?_
     refine wO ?_
     refine OW_q (q_load_bools Try.isAgg4 rfl swt (by exact hc1)) rfl ?_
     refine OW_q (q_pick_t rfl rfl) rfl ?_
     refine aO ?_
     refine OW_nil ?_
     refine EW_again (atB x186.2 q.left) ?_ ⟨rfl, rfl, rfl, rfl, rfl, rfl, rfl, rfl, trivial⟩ sft
     · show _ = _; rw [hg192]; rfl
   refine kO ?_
   refine kO ?_
   refine kO ?_
   refine kO ?_
   refine kO ?_
   refine OW_q (q_pick_f rfl rfl) rfl ?_
   refine aO ?_
   refine OW_nil ?_
   refine EW_again (false) ?_ ⟨rfl, rfl, rfl, rfl, rfl, rfl, rfl, rfl, trivial⟩ sft
   · show _ = _; rw [hg192]; rfl
 intro nd hpre
 change CW _ _ _ _ [(2, .int .i64 (k : Int)), (3, .pointer (some ⟨b3, 0, none⟩)), (4, .pointer (some ⟨b4, 0, none⟩)), (7, .pointer (some ⟨b7, 0, none⟩)), (8, .pointer (some ⟨b8, 0, none⟩)), (14, .slice (some ⟨x184.1, 0, none⟩) g.names.toNat g.names.toNat), (15, .slice (some ⟨x186.1, 0, none⟩) g.names.toNat g.names.toNat), (16, .bool nd)] (Sat (Old w) w [bools x186.1 4 x186.2, bools x184.1 4 x184.2, cel b8 51 [.bool false, .int .i64 g.names], cel b7 49 [.int .i64 q.left, .slice ax q.right.length cx], trow 51 2 encY (.slice ax q.right.length cx) q.right, cel b4 26 [.int .i64 s.op, .int .i64 s.a, .int .i64 s.b, .int .i64 s.c], cel b3 24 [.int .i64 g.terms, .int .i64 g.names, .slice (some p) g.rules.length c]])
 have hnd : nd = (atB x184.2 q.left && atB x186.2 q.left) := hpre
 refine CW_seq ?_
 refine nx3 ?_
 refine aO ?_
 refine nx2 ?_
 refine CW_block ?_
 refine CW_loopP (ι := Nat × Bool) (fun i_ => i_.1 ≤ q.right.length ∧ i_.2 = (nd && allB x184.2 (q.right.take i_.1))) (fun i_ => [(2, .int .i64 (k : Int)), (3, .pointer (some ⟨b3, 0, none⟩)), (4, .pointer (some ⟨b4, 0, none⟩)), (7, .pointer (some ⟨b7, 0, none⟩)), (8, .pointer (some ⟨b8, 0, none⟩)), (14, .slice (some ⟨x184.1, 0, none⟩) g.names.toNat g.names.toNat), (15, .slice (some ⟨x186.1, 0, none⟩) g.names.toNat g.names.toNat), (16, .bool i_.2), (17, .int .i64 (i_.1 : Int))]) (fun i_ => Sat (Old w) w [bools x186.1 4 x186.2, bools x184.1 4 x184.2, cel b8 51 [.bool false, .int .i64 g.names], cel b7 49 [.int .i64 q.left, .slice ax q.right.length cx], trow 51 2 encY (.slice ax q.right.length cx) q.right, cel b4 26 [.int .i64 s.op, .int .i64 s.a, .int .i64 s.b, .int .i64 s.c], cel b3 24 [.int .i64 g.terms, .int .i64 g.names, .slice (some p) g.rules.length c]]) (fun i_ => q.right.length - i_.1) (0, nd) ?_ ⟨rfl, rfl, rfl, rfl, rfl, rfl, rfl, rfl, rfl, trivial⟩ sft ?_
 · exact ⟨Nat.zero_le _, by simp [allB]⟩
 intro i_ hpre
 obtain ⟨i, nd2⟩ := i_
 replace hpre : i ≤ q.right.length ∧ nd2 = (nd && allB x184.2 (q.right.take i)) := hpre
 change CW _ _ _ _ [(2, .int .i64 (k : Int)), (3, .pointer (some ⟨b3, 0, none⟩)), (4, .pointer (some ⟨b4, 0, none⟩)), (7, .pointer (some ⟨b7, 0, none⟩)), (8, .pointer (some ⟨b8, 0, none⟩)), (14, .slice (some ⟨x184.1, 0, none⟩) g.names.toNat g.names.toNat), (15, .slice (some ⟨x186.1, 0, none⟩) g.names.toNat g.names.toNat), (16, .bool nd2), (17, .int .i64 (i : Int))] (Sat (Old w) w [bools x186.1 4 x186.2, bools x184.1 4 x184.2, cel b8 51 [.bool false, .int .i64 g.names], cel b7 49 [.int .i64 q.left, .slice ax q.right.length cx], trow 51 2 encY (.slice ax q.right.length cx) q.right, cel b4 26 [.int .i64 s.op, .int .i64 s.a, .int .i64 s.b, .int .i64 s.c], cel b3 24 [.int .i64 g.terms, .int .i64 g.names, .slice (some p) g.rules.length c]])
 obtain ⟨hi, hnd2⟩ := hpre
 refine CW_seq ?_
 refine nx3 ?_
 refine mO ?_
 refine OW_q (q_fieldAddr Try.underlying49 rfl rfl Try.sizeOf46 rfl rfl) rfl ?_
 refine OW_q (q_load1_own Try.isAgg46 rfl rfl swt (by rfl)) rfl ?_
 refine OW_q (q_len Try.underlying46 rfl) rfl ?_
 refine OW_q (q_lss rfl rfl) rfl ?_
 refine nx2 ?_
 refine CW_cond rfl (fun h203 => ?_) (fun h203 => ?_)
 · skip
   have hli : i < q.right.length := by have := of_decide_eq_true h203; omega
   obtain ⟨bx, rfl⟩ := hbx (by omega)
   obtain ⟨y, hsj⟩ := get_of_lt hli
   have hss := may_sym hm hq hsj
   refine CW_skip ?_
   refine EW_then ?_
   refine CW_seq ?_
   refine CW_block ?_
   refine CW_region ?_
   refine mO ?_
   refine mO ?_
   refine OW_part (t := 207) rfl (fun hg207 => ?_) (fun hg207 => ?_)
   · skip
     refine wO ?_
     refine OW_q (q_fieldAddr Try.underlying49 rfl rfl Try.sizeOf46 rfl rfl) rfl ?_
     refine wO ?_
     refine OW_q (q_load1_own Try.isAgg46 rfl rfl swt (by rfl)) rfl ?_
     refine wO ?_
     refine mO ?_
     refine wO ?_
     refine OW_q (q_indexAddr Try.underlying46 Try.sizeOf51 rfl rfl (by omega)) rfl ?_
     refine wO ?_
     refine OW_q (q_fieldAddr Try.underlying51 rfl rfl Try.sizeOf4 rfl rfl) rfl ?_
     refine wO ?_
     refine OW_q (q_load1_t (enc := encY) (k := i) (off := 0) (v := .slice (some ⟨bx, 0, none⟩) q.right.length cx) (l := q.right) Try.isAgg4 (fun _ => rfl) rfl swt rfl hsj rfl) rfl ?_
     refine wO ?_
     refine mO ?_
     refine OW_part (t := 214) rfl (fun hg214 => ?_) (fun hg214 => ?_)
     · skip
       refine kO ?_
       refine kO ?_
       refine kO ?_
       refine kO ?_
       refine kO ?_
       refine kO ?_
       refine kO ?_
       refine kO ?_
       refine kO ?_
       refine wO ?_
       refine OW_q (q_pick_t rfl rfl) rfl ?_
       refine OW_q (q_pick_t rfl rfl) rfl ?_
       refine aO ?_
       refine OW_nil ?_
       refine EW_block_normal ?_
       refine EW_then ?_
       refine CW_region ?_
       refine mO ?_
       refine OW_q (q_add rfl rfl (by omega) (by omega)) rfl ?_
       refine aO ?_
       refine OW_nil ?_
       refine EW_again ((i + 1, true)) ⟨?_, ?_⟩ ⟨rfl, rfl, rfl, rfl, rfl, rfl, rfl, rfl, rfl, trivial⟩ sft
       · show q.right.length - (i + 1) < q.right.length - i; omega
       · refine ⟨by show i + 1 ≤ _; omega, ?_⟩
         show (true : Bool) = _
         unfold allB at hnd2 ⊢
         rw [all_take_succ _ hsj]
         rw [hg207] at hnd2; rw [← Bool.and_assoc, ← hnd2, hg214]; rfl
     have hs2 := hss.2.2 (by simpa using hg214)
     have hs1 := atB_get (is := x184.2) hss.1 (by have := hx184.1; omega)
     refine wO ?_
     refine mO ?_
     refine wO ?_
     refine OW_q (q_fieldAddr Try.underlying49 rfl rfl Try.sizeOf46 rfl rfl) rfl ?_
     refine wO ?_
     refine OW_q (q_load1_own Try.isAgg46 rfl rfl swt (by rfl)) rfl ?_
     refine wO ?_
     refine mO ?_
     refine wO ?_
     refine OW_q (q_indexAddr Try.underlying46 Try.sizeOf51 rfl rfl (by omega)) rfl ?_
     refine wO ?_
     refine OW_q (q_fieldAddr Try.underlying51 rfl rfl Try.sizeOf3 rfl rfl) rfl ?_
     refine wO ?_
     refine OW_q (q_load1_t (enc := encY) (k := i) (off := 1) (v := .slice (some ⟨bx, 0, none⟩) q.right.length cx) (l := q.right) Try.isAgg3 (fun _ => rfl) rfl swt rfl hsj rfl) rfl ?_
     refine wO ?_
     refine OW_q (q_indexAddrI Try.underlying54 Try.sizeOf4 rfl rfl (by omega) (by omega)) rfl ?_
     refine wO ?_
     refine OW_q (q_load_bools Try.isAgg4 rfl swt (by exact hs1)) rfl ?_
     refine wO ?_
     refine OW_q (q_pick_f rfl rfl) rfl ?_
     refine OW_q (q_pick_t rfl rfl) rfl ?_
     refine aO ?_
     refine OW_nil ?_
     refine EW_block_normal ?_
     refine EW_then ?_
     refine CW_region ?_
     refine mO ?_
     refine OW_q (q_add rfl rfl (by omega) (by omega)) rfl ?_
     refine aO ?_
     refine OW_nil ?_
     refine EW_again ((i + 1, atB x184.2 y.n)) ⟨?_, ?_⟩ ⟨rfl, rfl, rfl, rfl, rfl, rfl, rfl, rfl, rfl, trivial⟩ sft
     · show q.right.length - (i + 1) < q.right.length - i; omega
     · refine ⟨by show i + 1 ≤ _; omega, ?_⟩
       show (atB x184.2 y.n : Bool) = _
       unfold allB at hnd2 ⊢
       rw [all_take_succ _ hsj]
       rw [hg207] at hnd2; rw [← Bool.and_assoc, ← hnd2, hg214]; simp
   refine kO ?_
   refine kO ?_
   refine kO ?_
   refine kO ?_
   refine kO ?_
   refine kO ?_
   refine kO ?_
   refine OW_skipU rfl rfl rfl ?_
   refine OW_skipU rfl rfl rfl ?_
   refine OW_skipU rfl rfl rfl ?_
   refine OW_skipU rfl rfl rfl ?_
   refine OW_skipU rfl rfl rfl ?_
   refine OW_skipU rfl rfl rfl ?_
   refine OW_skipU rfl rfl rfl ?_
   refine OW_skipU rfl rfl rfl ?_
   refine OW_skipU rfl rfl rfl ?_
   refine kO ?_
   refine OW_q (q_pick_f rfl rfl) rfl ?_
   refine aO ?_
   refine OW_nil ?_
   refine EW_block_normal ?_
   refine EW_then ?_
   refine CW_region ?_
   refine mO ?_
   refine OW_q (q_add rfl rfl (by omega) (by omega)) rfl ?_
   refine aO ?_
   refine OW_nil ?_
   refine EW_again ((i + 1, false)) ⟨?_, ?_⟩ ⟨rfl, rfl, rfl, rfl, rfl, rfl, rfl, rfl, rfl, trivial⟩ sft
   · show q.right.length - (i + 1) < q.right.length - i; omega
   · refine ⟨by show i + 1 ≤ _; omega, ?_⟩
     show (false : Bool) = _
     unfold allB at hnd2 ⊢
     rw [all_take_succ _ hsj]
     rw [hg207] at hnd2; rw [← Bool.and_assoc, ← hnd2]; simp
 have hie : i = q.right.length := by have := of_decide_eq_false h203; omega
 have hkb : keptB x184.2 x186.2 q = nd2 := by rw [hnd2, hie, List.take_length, hnd]; rfl
 refine CW_exit ?_
 refine EW_then_exit ?_
 refine EW_out ?_
 refine EW_block_exit ?_
 refine EW_then ?_
 refine nx3 ?_
 refine mO ?_
 refine OW_q (q_not rfl) rfl ?_
 refine nx2 ?_
 refine CW_cond rfl (fun h227 => ?_) (fun h227 => ?_)
 · skip
   have hk0 : keptB x184.2 x186.2 q = false := by rw [hkb]; simpa using h227
   refine nx3 ?_
   refine aO ?_
   refine nx2 ?_
   refine CW_ret ?_
   refine EW_block_ret ?_
   refine EW_then_ret ?_
   refine ret1 Try.results22 rfl (fun w hw => ?_)
   refine ⟨(.slice none 0 0, [], x184.2, x186.2), rfl, ⟨fun _ => ⟨hx184, hx186⟩, ?_⟩, ((hw.tnil 49 2 encRV).addEmp (A := symsA []) rfl).sub sbt⟩
   unfold oneR
   rw [if_neg (by omega), if_neg (by omega), if_neg (by omega), if_neg (by omega), if_neg (by rw [hk0]; decide)]
   rfl
 have hk0 : keptB x184.2 x186.2 q = true := by rw [hkb]; simpa using h227
 refine CW_skip ?_
 refine EW_block_normal ?_
 refine EW_then ?_
 refine nx3 ?_
 refine OW_q (q_loadN_own Try.isAgg49 Try.sizeOf49 rfl rfl swt (by rfl)) rfl ?_
 refine OW_e (e_single Try.underlying22 Try.sizeOf49 Try.zeroValue49 (e := 49) rfl rfl rfl rfl (by decide) (by decide)) rfl (fun b229 => ?_)
 refine aO ?_
 refine nx2 ?_
 refine CW_ret ?_
 refine ret1 Try.results22 rfl (fun w hw => ?_)
 refine ⟨(.slice (some ⟨b229, 0, none⟩) 1 1, [⟨⟨q.left, q.right⟩, .slice ax q.right.length cx⟩], x184.2, x186.2), rfl, ⟨(fun _ => ⟨hx184, hx186⟩), ?_⟩, ?_⟩
 · unfold oneR; rw [if_neg (by omega), if_neg (by omega), if_neg (by omega), if_neg (by omega), if_pos hk0]; rfl
 · have h1 : Sat (Old _) _ [cel b229 49 [.int .i64 q.left, .slice ax q.right.length cx], trow 51 2 encY (.slice ax q.right.length cx) q.right] w := hw.sub sbt
   exact h1.oneRule

set_option maxRecDepth 20000 in
theorem one4_any (gv : Value) (g : Gram) (s : SStep) (k : Nat) (q : Rule) (w : World) (hm : mayB g = true) (hs : mayS g s = true) (hop : s.op = 4) (hq : g.rules[k]? = some q) (hg : GramAt (Cl w) gv g) : Calls Try.prog 22 #[gv, stepV s, .int .i64 (k : Int)] w (fun e w' => ∃ x : Value × List RV × List Bool × List Bool, e = .returned x.1 ∧ ((s.op = 5 → MksOk g x.2.2.1 ∧ CmsOk g x.2.2.2) ∧ plainR x.2.1 = oneR g s x.2.2.1 x.2.2.2 k q) ∧ Sat (Old w) w [rulesA x.1 x.2.1, symsA x.2.1] w') := by
 have hg0 := hg
 obtain ⟨rv, rfl, hr⟩ := hg.mono old_rd
 obtain ⟨a, c, rfl, hc1, hc2, hrs⟩ := id hr
 clear hg
 have hM := mayB_true.1 hm
 have hlk := (List.getElem?_eq_some_iff.1 hq).1
 have hq8 := (may_rule hm hq).2.2
 obtain ⟨p, rfl, rvq, hsy, hrow⟩ := hrs k q hq
 obtain ⟨ya, yc, rfl, hy1, hy2, hys⟩ := id hsy
 refine calls_CW Try.func22 rfl Try.ntmps22 rfl (Sat.start w) ?_
 refine nx3 ?_
 refine OW_e (e_box rfl rfl) rfl (fun b3 => ?_)
 refine OW_e (e_box rfl rfl) rfl (fun b4 => ?_)
 refine aO ?_
 refine nx2 ?_
 refine CW_seqJ (ι := Nat × Option Addr × Nat) (fun i_ => q.right.length ≤ i_.2.2 ∧ i_.2.2 ≤ 9223372036854775807 ∧ (0 < q.right.length → ∃ g, i_.2.1 = some ⟨g, 0, none⟩)) (fun i_ => [(2, .int .i64 (k : Int)), (3, .pointer (some ⟨b3, 0, none⟩)), (4, .pointer (some ⟨b4, 0, none⟩)), (7, .pointer (some ⟨i_.1, 0, none⟩))]) (fun i_ => Sat (Old w) w [cel i_.1 49 [.int .i64 q.left, .slice i_.2.1 q.right.length i_.2.2], trow 51 2 encY (.slice i_.2.1 q.right.length i_.2.2) q.right, cel b4 26 [.int .i64 s.op, .int .i64 s.a, .int .i64 s.b, .int .i64 s.c], cel b3 24 [.int .i64 g.terms, .int .i64 g.names, .slice (some p) g.rules.length c]]) ?_ ?_
 · skip
   refine CW_drawT (Sat (Old w) w [cel b4 26 [.int .i64 s.op, .int .i64 s.a, .int .i64 s.b, .int .i64 s.c], cel b3 24 [.int .i64 g.terms, .int .i64 g.names, .slice (some p) g.rules.length c]]) [15] (.q 0 false (.q 1 true (.q 2 false (.q 3 false (.q 4 false (.q 5 true (.q 6 false (.q 7 true (.q 8 false (.q 9 false (.q 10 false (.q 11 true (.alt 12 (.q 13 false (.e 14 (.e 15 .nil))) 14 (.e 12 (.q 13 false (.e 15 .nil)))))))))))))))) (by kernel_rfl) (Blind.again Blind.bodyP) (by kernel_rfl) (fun w hw => hw.drew) ?_
   refine DT_p rfl (.inr (fun w hw => (by exact hw.sub sbt))) (q_fieldAddr Try.underlying24 rfl rfl Try.sizeOf22 rfl rfl) rfl ?_
   refine DT_q rfl (fun w hw => (by exact hw.sub sbt)) (q_load1_own Try.isAgg22 rfl rfl swt (by rfl)) rfl ?_
   refine DT_p rfl (.inr (fun w hw => (by exact hw.sub sbt))) (q_move rfl) rfl ?_
   refine DT_p rfl (.inr (fun w hw => (by exact hw.sub sbt))) (q_indexAddr Try.underlying22 Try.sizeOf49 rfl rfl (by omega)) rfl ?_
   refine DT_p rfl (.inr (fun w hw => (by exact hw.sub sbt))) (q_fieldAddr Try.underlying49 rfl rfl Try.sizeOf3 rfl rfl) rfl ?_
   refine DT_q rfl (fun w hw => (by exact hw.sub sbt)) (q_load1_ro Try.isAgg3 rfl (by exact Row.at0 hrow)) rfl ?_
   refine DT_p rfl (.inr (fun w hw => (by exact hw.sub sbt))) (q_fieldAddr Try.underlying24 rfl rfl Try.sizeOf22 rfl rfl) rfl ?_
   refine DT_q rfl (fun w hw => (by exact hw.sub sbt)) (q_load1_own Try.isAgg22 rfl rfl swt (by rfl)) rfl ?_
   refine DT_p rfl (.inr (fun w hw => (by exact hw.sub sbt))) (q_move rfl) rfl ?_
   refine DT_p rfl (.inr (fun w hw => (by exact hw.sub sbt))) (q_indexAddr Try.underlying22 Try.sizeOf49 rfl rfl (by omega)) rfl ?_
   refine DT_p rfl (.inr (fun w hw => (by exact hw.sub sbt))) (q_fieldAddr Try.underlying49 rfl rfl Try.sizeOf46 rfl rfl) rfl ?_
   refine DT_q rfl (fun w hw => (by exact hw.sub sbt)) (q_load1_ro Try.isAgg46 rfl (by exact hrow.at_ (j := 1) rfl)) rfl ?_
   refine DT_alt ?_ ?_
   · skip
     refine DT_e rfl (e_call Try.call23 rfl (fun w hw => lift_old (copied_any _ q.right w (by omega) (hsy.mono fun _ _ h => hw.rd h)) hw)) rfl (.inr (fun _ w hw => (by exact hw.sub sbt))) (fun x30 => ?_)
     refine DT_fact (fun w hw => hw.tform (v := x30) (l := q.right) (enc := encY) swt) (fun hf => ?_)
     obtain ⟨ax, cx, rfl, hcx1, hcx2, hbx⟩ := hf
     refine DT_p rfl (.inr (fun w hw => (by exact hw.sub sbt))) (q_build (ps := #[(0, .int .i64 q.left), (1, .slice ax q.right.length cx)]) (v := .agg #[.int .i64 q.left, .slice ax q.right.length cx]) rfl (fun w => by kernel_rfl)) rfl ?_
     refine DT_e rfl (e_alloc Try.zeroValue49 rfl) rfl (.inr (fun _ w hw => (by exact hw.sub sbt))) (fun b7 => ?_)
     refine DT_e0 rfl (e_storeN Try.sizeOf49 rfl rfl rfl rfl (by simp [Value.oneCell']) swt (by rfl)) (.inl rfl) (fun _ => ?_)
     refine DT_nil ?_
     refine EW_again ((b7, ax, cx)) ?_ ⟨rfl, rfl, rfl, rfl, trivial⟩ sft
     · exact ⟨hcx1, hcx2, hbx⟩
   refine DT_e rfl (e_alloc Try.zeroValue49 rfl) rfl (.inr (fun _ w hw => (by exact hw.sub sbt))) (fun b7 => ?_)
   refine DT_e rfl (e_call Try.call23 rfl (fun w hw => lift_old (copied_any _ q.right w (by omega) (hsy.mono fun _ _ h => hw.rd h)) hw)) rfl (.inr (fun _ w hw => (by exact hw.sub sbt))) (fun x30 => ?_)
   refine DT_fact (fun w hw => hw.tform (v := x30) (l := q.right) (enc := encY) swt) (fun hf => ?_)
   obtain ⟨ax, cx, rfl, hcx1, hcx2, hbx⟩ := hf
   refine DT_p rfl (.inr (fun w hw => (by exact hw.sub sbt))) (q_build (ps := #[(0, .int .i64 q.left), (1, .slice ax q.right.length cx)]) (v := .agg #[.int .i64 q.left, .slice ax q.right.length cx]) rfl (fun w => by kernel_rfl)) rfl ?_
   refine DT_e0 rfl (e_storeN Try.sizeOf49 rfl rfl rfl rfl (by simp [Value.oneCell']) swt (by rfl)) (.inl rfl) (fun _ => ?_)
   refine DT_nil ?_
   refine EW_again ((b7, ax, cx)) ?_ ⟨rfl, rfl, rfl, rfl, trivial⟩ sft
   · exact ⟨hcx1, hcx2, hbx⟩
 intro i_ hpre
 obtain ⟨b7, ax, cx⟩ := i_
 replace hpre : q.right.length ≤ cx ∧ cx ≤ 9223372036854775807 ∧ (0 < q.right.length → ∃ g, ax = some ⟨g, 0, none⟩) := hpre
 change CW _ _ _ _ [(2, .int .i64 (k : Int)), (3, .pointer (some ⟨b3, 0, none⟩)), (4, .pointer (some ⟨b4, 0, none⟩)), (7, .pointer (some ⟨b7, 0, none⟩))] (Sat (Old w) w [cel b7 49 [.int .i64 q.left, .slice ax q.right.length cx], trow 51 2 encY (.slice ax q.right.length cx) q.right, cel b4 26 [.int .i64 s.op, .int .i64 s.a, .int .i64 s.b, .int .i64 s.c], cel b3 24 [.int .i64 g.terms, .int .i64 g.names, .slice (some p) g.rules.length c]])
 obtain ⟨hcx1, hcx2, hbx⟩ := hpre
 refine nx3 ?_
 refine OW_q (q_fieldAddr Try.underlying24 rfl rfl Try.sizeOf3 rfl rfl) rfl ?_
 refine OW_q (q_load1_own Try.isAgg3 rfl rfl swt (by rfl)) rfl ?_
 refine OW_q (q_build (ps := #[(1, .int .i64 g.names)]) (v := .agg #[.bool false, .int .i64 g.names]) rfl (fun w => by kernel_rfl)) rfl ?_
 refine OW_e (e_alloc Try.zeroValue51 rfl) rfl (fun b8 => ?_)
 refine OW_e0 (e_storeN Try.sizeOf51 rfl rfl rfl rfl (by simp [Value.oneCell']) swt (by rfl)) (fun _ => ?_)
 refine nx2 ?_
 refine CW_seq ?_
 refine nx3 ?_
 refine OW_q (q_fieldAddr Try.underlying26 rfl rfl Try.sizeOf3 rfl rfl) rfl ?_
 refine OW_q (q_load1_own Try.isAgg3 rfl rfl swt (by rfl)) rfl ?_
 refine nx2 ?_
 refine CW_block ?_
 refine nx3 ?_
 refine OW_q (q_eqi rfl rfl) rfl ?_
 refine aO ?_
 refine nx2 ?_
 refine CW_false rfl (by simp [hop]) ?_
 refine nx3 ?_
 refine OW_q (q_eqi rfl rfl) rfl ?_
 refine aO ?_
 refine nx2 ?_
 refine CW_false rfl (by simp [hop]) ?_
 refine nx3 ?_
 refine OW_q (q_eqi rfl rfl) rfl ?_
 refine aO ?_
 refine nx2 ?_
 refine CW_false rfl (by simp [hop]) ?_
 refine nx3 ?_
 refine OW_q (q_eqi rfl rfl) rfl ?_
 refine aO ?_
 refine nx2 ?_
 refine CW_true rfl (by simp [hop]) ?_
 refine nx3 ?_
 refine OW_q (q_fieldAddr Try.underlying49 rfl rfl Try.sizeOf3 rfl rfl) rfl ?_
 refine OW_q (q_load1_own Try.isAgg3 rfl rfl swt (by rfl)) rfl ?_
 refine OW_q (q_fieldAddr Try.underlying26 rfl rfl Try.sizeOf3 rfl rfl) rfl ?_
 refine OW_q (q_load1_own Try.isAgg3 rfl rfl swt (by rfl)) rfl ?_
 refine OW_q (q_eqi rfl rfl) rfl ?_
 refine nx2 ?_
 refine CW_cond rfl (fun h164 => ?_) (fun h164 => ?_)
 · skip
   have hql : q.left = s.a := by simpa using h164
   refine CW_seq ?_
   refine nx3 ?_
   refine OW_q (q_loadN_own Try.isAgg49 Try.sizeOf49 rfl rfl swt (by rfl)) rfl ?_
   refine OW_e (e_call Try.call39 rfl (fun w hw => lift_ro (own_any q _ w (hw.symsIn (v := .slice ax q.right.length cx) (l := q.right) swt)) hw)) rfl (fun x166 => ?_)
   refine nx2 ?_
   refine CW_cond rfl (fun h166 => ?_) (fun h166 => ?_)
   · skip
     have hlen1 : 1 ≤ q.right.length := by
       have h1 : loopsB q = true := h166
       unfold loopsB at h1
       cases hr : q.right with
       | nil => rw [hr] at h1; cases h1
       | cons z l => simp
     refine nx3 ?_
     refine OW_q (q_fieldAddr Try.underlying24 rfl rfl Try.sizeOf3 rfl rfl) rfl ?_
     refine OW_q (q_load1_own Try.isAgg3 rfl rfl swt (by rfl)) rfl ?_
     refine OW_q (q_fieldAddr Try.underlying49 rfl rfl Try.sizeOf3 rfl rfl) rfl ?_
     refine OW_e0 (e_store Try.sizeOf3 rfl rfl rfl rfl swt (by rfl)) (fun _ => ?_)
     refine nx2 ?_
     refine CW_region ?_
     refine OW_q (q_fieldAddr Try.underlying49 rfl rfl Try.sizeOf46 rfl rfl) rfl ?_
     refine OW_q (q_load1_own Try.isAgg46 rfl rfl swt (by rfl)) rfl ?_
     refine OW_q (q_slice (l := 1) Try.underlying46 Try.sizeOf51 rfl (.inr ⟨_, rfl, rfl⟩) (.inl ⟨rfl, rfl⟩) (by omega) (by omega) (by omega)) rfl ?_
     refine OW_q (q_fieldAddr Try.underlying49 rfl rfl Try.sizeOf46 rfl rfl) rfl ?_
     refine OW_e0 (e_store Try.sizeOf46 rfl rfl rfl rfl swt (by rfl)) (fun _ => ?_)
     refine nx2 ?_
     first
       | (replace h166 : loopsB q = true := h166
          obtain ⟨nl, ys, vv, hY, hysl, hsv, e1, e2⟩ : ∃ (nl : Int) (ys : List Sym) (vv : Value), (⟨nl, ys ++ [nameS g.names]⟩ : Rule) = leftR g s.a q ∧ ys.length ≤ 8 ∧ (∀ w', SymsAt (Cl w') (.slice ax q.right.length cx) q.right → SymsAt (Cl w') vv ys) ∧ nl = g.names ∧ vv = (.slice (if cx = 1 then ax else ax.map (·.add (1 * 2))) (q.right.length - 1) (cx - 1)) := by
            refine ⟨g.names, q.right.tail, _, by unfold leftR; rw [if_pos hql, if_pos h166], by rw [List.length_tail]; omega, fun w' h => ?_, rfl, rfl⟩
            have h2 := SlAt.sub h (lo := 1) (hi := q.right.length) hlen1 (Nat.le_refl _)
            rw [List.take_length, List.drop_one] at h2
            exact h2
          refine CW_weak (S' := Sat (Old w) w [cel b8 51 [.bool false, .int .i64 g.names], cel b7 49 [.int .i64 nl, vv], trow 51 2 encY (.slice ax q.right.length cx) q.right, cel b4 26 [.int .i64 s.op, .int .i64 s.a, .int .i64 s.b, .int .i64 s.c], cel b3 24 [.int .i64 g.terms, .int .i64 g.names, .slice (some p) g.rules.length c]]) (fun w hw => by rw [e1, e2]; exact hw.sub sbt) ?_)
       | (replace h166 : loopsB q = false := h166
          obtain ⟨nl, ys, vv, hY, hysl, hsv, e1, e2⟩ : ∃ (nl : Int) (ys : List Sym) (vv : Value), (⟨nl, ys ++ [nameS g.names]⟩ : Rule) = leftR g s.a q ∧ ys.length ≤ 8 ∧ (∀ w', SymsAt (Cl w') (.slice ax q.right.length cx) q.right → SymsAt (Cl w') vv ys) ∧ nl = q.left ∧ vv = .slice ax q.right.length cx :=
            ⟨q.left, q.right, _, by unfold leftR; rw [if_pos hql, if_neg (by rw [h166]; decide)], hq8, fun w' h => h, rfl, rfl⟩
          refine CW_weak (S' := Sat (Old w) w [cel b8 51 [.bool false, .int .i64 g.names], cel b7 49 [.int .i64 nl, vv], trow 51 2 encY (.slice ax q.right.length cx) q.right, cel b4 26 [.int .i64 s.op, .int .i64 s.a, .int .i64 s.b, .int .i64 s.c], cel b3 24 [.int .i64 g.terms, .int .i64 g.names, .slice (some p) g.rules.length c]]) (fun w hw => by rw [e1, e2]; exact hw.sub sbt) ?_)
     refine CW_drawT (Sat (Old w) w [cel b8 51 [.bool false, .int .i64 g.names], cel b7 49 [.int .i64 nl, vv], trow 51 2 encY (.slice ax q.right.length cx) q.right]) [7] (.q 0 false (.q 1 true (.q 3 true (.alt 2 (.e 4 (.e 5 (.q 6 false (.e 7 .nil)))) 4 (.e 2 (.e 5 (.q 6 false (.e 7 .nil)))))))) (by kernel_rfl) (Blind.block (Blind.then Blind.bodyP)) (by kernel_rfl) (fun w hw => hw.drew) ?_
     refine DT_p rfl (.inr (fun w hw => (by exact hw.sub sbt))) (q_fieldAddr Try.underlying49 rfl rfl Try.sizeOf46 rfl rfl) rfl ?_
     refine DT_q rfl (fun w hw => (by exact hw.sub sbt)) (q_load1_own Try.isAgg46 rfl rfl swt (by rfl)) rfl ?_
     refine DT_q rfl (fun w hw => (by exact hw.sub sbt)) (q_loadN_own Try.isAgg51 Try.sizeOf51 rfl rfl swt (by rfl)) rfl ?_
     refine DT_alt ?_ ?_
     · skip
       refine DT_e rfl (e_call Try.call23 rfl (fun w hw => lift_old (copied_any vv ys w (by omega) (hsv w (hw.symsIn (v := .slice ax q.right.length cx) (l := q.right) swt))) hw)) rfl (.inr (fun _ w hw => (by exact hw.sub sbt))) (fun x176 => ?_)
       refine DT_e rfl (e_single Try.underlying46 Try.sizeOf51 Try.zeroValue51 (e := 51) (v := .agg #[.bool false, .int .i64 g.names]) (cs := [.bool false, .int .i64 g.names]) rfl rfl rfl rfl (by decide) (by decide)) rfl (.inr (fun _ w hw => (by exact hw.sub sbt))) (fun b178 => ?_)
       refine DT_e rfl (e_append_t (x0 := nameS g.names) (enc := encY) (l := ys) Try.underlying46 Try.typeInfo51 rfl rfl rfl rfl rfl rfl rfl pkt rfl (by exact fun w hw => hw.news swt) (by simp [Value.oneCell']) (by omega) (by decide)) rfl (.inr (fun _ w hw => (by exact hw.sub sbt))) (fun v179 => ?_)
       refine DT_fact (fun w hw => hw.tform (v := v179) (l := (ys ++ [nameS g.names])) (enc := encY) swt) (fun hf => ?_)
       obtain ⟨a179, c179, rfl, _, _, hb179⟩ := hf
       refine DT_p rfl (.inr (fun w hw => (by exact hw.sub sbt))) (q_fieldAddr Try.underlying49 rfl rfl Try.sizeOf46 rfl rfl) rfl ?_
       refine DT_e0 rfl (e_store Try.sizeOf46 rfl rfl rfl rfl swt (by rfl)) (.inl rfl) (fun _ => ?_)
       refine DT_nil ?_
       refine EW_block_normal ?_
       refine EW_then ?_
       refine nx3 ?_
       refine OW_q (q_loadN_own Try.isAgg49 Try.sizeOf49 rfl rfl swt (by rfl)) rfl ?_
       refine OW_e (e_single Try.underlying22 Try.sizeOf49 Try.zeroValue49 (e := 49) rfl rfl rfl rfl (by decide) (by decide)) rfl (fun b229 => ?_)
       refine aO ?_
       refine nx2 ?_
       refine CW_ret ?_
       refine ret1 Try.results22 rfl (fun w hw => ?_)
       refine ⟨(.slice (some ⟨b229, 0, none⟩) 1 1, [⟨⟨nl, (ys ++ [nameS g.names])⟩, (.slice a179 (ys ++ [nameS g.names]).length c179)⟩], [], []), rfl, ⟨(fun h => by omega), ?_⟩, ?_⟩
       · unfold oneR; rw [if_neg (by omega), if_neg (by omega), if_neg (by omega), if_pos hop, ← hY]; rfl
       · have h1 : Sat (Old _) _ [cel b229 49 [.int .i64 nl, (.slice a179 (ys ++ [nameS g.names]).length c179)], trow 51 2 encY ((.slice a179 (ys ++ [nameS g.names]).length c179)) (ys ++ [nameS g.names])] w := hw.sub sbt
         exact h1.oneRule
     refine DT_e rfl (e_single Try.underlying46 Try.sizeOf51 Try.zeroValue51 (e := 51) (v := .agg #[.bool false, .int .i64 g.names]) (cs := [.bool false, .int .i64 g.names]) rfl rfl rfl rfl (by decide) (by decide)) rfl (.inr (fun _ w hw => (by exact hw.sub sbt))) (fun b178 => ?_)
     refine DT_e rfl (e_call Try.call23 rfl (fun w hw => lift_old (copied_any vv ys w (by omega) (hsv w (hw.symsIn (v := .slice ax q.right.length cx) (l := q.right) swt))) hw)) rfl (.inr (fun _ w hw => (by exact hw.sub sbt))) (fun x176 => ?_)
     refine DT_e rfl (e_append_t (x0 := nameS g.names) (enc := encY) (l := ys) Try.underlying46 Try.typeInfo51 rfl rfl rfl rfl rfl rfl rfl pkt rfl (by exact fun w hw => hw.news swt) (by simp [Value.oneCell']) (by omega) (by decide)) rfl (.inr (fun _ w hw => (by exact hw.sub sbt))) (fun v179 => ?_)
     refine DT_fact (fun w hw => hw.tform (v := v179) (l := (ys ++ [nameS g.names])) (enc := encY) swt) (fun hf => ?_)
     obtain ⟨a179, c179, rfl, _, _, hb179⟩ := hf
     refine DT_p rfl (.inr (fun w hw => (by exact hw.sub sbt))) (q_fieldAddr Try.underlying49 rfl rfl Try.sizeOf46 rfl rfl) rfl ?_
     refine DT_e0 rfl (e_store Try.sizeOf46 rfl rfl rfl rfl swt (by rfl)) (.inl rfl) (fun _ => ?_)
     refine DT_nil ?_
     refine EW_block_normal ?_
     refine EW_then ?_
     refine nx3 ?_
     refine OW_q (q_loadN_own Try.isAgg49 Try.sizeOf49 rfl rfl swt (by rfl)) rfl ?_
     refine OW_e (e_single Try.underlying22 Try.sizeOf49 Try.zeroValue49 (e := 49) rfl rfl rfl rfl (by decide) (by decide)) rfl (fun b229 => ?_)
     refine aO ?_
     refine nx2 ?_
     refine CW_ret ?_
     refine ret1 Try.results22 rfl (fun w hw => ?_)
     refine ⟨(.slice (some ⟨b229, 0, none⟩) 1 1, [⟨⟨nl, (ys ++ [nameS g.names])⟩, (.slice a179 (ys ++ [nameS g.names]).length c179)⟩], [], []), rfl, ⟨(fun h => by omega), ?_⟩, ?_⟩
     · unfold oneR; rw [if_neg (by omega), if_neg (by omega), if_neg (by omega), if_pos hop, ← hY]; rfl
     · have h1 : Sat (Old _) _ [cel b229 49 [.int .i64 nl, (.slice a179 (ys ++ [nameS g.names]).length c179)], trow 51 2 encY ((.slice a179 (ys ++ [nameS g.names]).length c179)) (ys ++ [nameS g.names])] w := hw.sub sbt
       exact h1.oneRule
   refine CW_skip ?_
   refine EW_then ?_
   first
     | (replace h166 : loopsB q = true := h166
        obtain ⟨nl, ys, vv, hY, hysl, hsv, e1, e2⟩ : ∃ (nl : Int) (ys : List Sym) (vv : Value), (⟨nl, ys ++ [nameS g.names]⟩ : Rule) = leftR g s.a q ∧ ys.length ≤ 8 ∧ (∀ w', SymsAt (Cl w') (.slice ax q.right.length cx) q.right → SymsAt (Cl w') vv ys) ∧ nl = g.names ∧ vv = (.slice (if cx = 1 then ax else ax.map (·.add (1 * 2))) (q.right.length - 1) (cx - 1)) := by
          refine ⟨g.names, q.right.tail, _, by unfold leftR; rw [if_pos hql, if_pos h166], by rw [List.length_tail]; omega, fun w' h => ?_, rfl, rfl⟩
          have h2 := SlAt.sub h (lo := 1) (hi := q.right.length) hlen1 (Nat.le_refl _)
          rw [List.take_length, List.drop_one] at h2
          exact h2
        refine CW_weak (S' := Sat (Old w) w [cel b8 51 [.bool false, .int .i64 g.names], cel b7 49 [.int .i64 nl, vv], trow 51 2 encY (.slice ax q.right.length cx) q.right, cel b4 26 [.int .i64 s.op, .int .i64 s.a, .int .i64 s.b, .int .i64 s.c], cel b3 24 [.int .i64 g.terms, .int .i64 g.names, .slice (some p) g.rules.length c]]) (fun w hw => by rw [e1, e2]; exact hw.sub sbt) ?_)
     | (replace h166 : loopsB q = false := h166
        obtain ⟨nl, ys, vv, hY, hysl, hsv, e1, e2⟩ : ∃ (nl : Int) (ys : List Sym) (vv : Value), (⟨nl, ys ++ [nameS g.names]⟩ : Rule) = leftR g s.a q ∧ ys.length ≤ 8 ∧ (∀ w', SymsAt (Cl w') (.slice ax q.right.length cx) q.right → SymsAt (Cl w') vv ys) ∧ nl = q.left ∧ vv = .slice ax q.right.length cx :=
          ⟨q.left, q.right, _, by unfold leftR; rw [if_pos hql, if_neg (by rw [h166]; decide)], hq8, fun w' h => h, rfl, rfl⟩
        refine CW_weak (S' := Sat (Old w) w [cel b8 51 [.bool false, .int .i64 g.names], cel b7 49 [.int .i64 nl, vv], trow 51 2 encY (.slice ax q.right.length cx) q.right, cel b4 26 [.int .i64 s.op, .int .i64 s.a, .int .i64 s.b, .int .i64 s.c], cel b3 24 [.int .i64 g.terms, .int .i64 g.names, .slice (some p) g.rules.length c]]) (fun w hw => by rw [e1, e2]; exact hw.sub sbt) ?_)
   refine CW_drawT (Sat (Old w) w [cel b8 51 [.bool false, .int .i64 g.names], cel b7 49 [.int .i64 nl, vv], trow 51 2 encY (.slice ax q.right.length cx) q.right]) [7] (.q 0 false (.q 1 true (.q 3 true (.alt 2 (.e 4 (.e 5 (.q 6 false (.e 7 .nil)))) 4 (.e 2 (.e 5 (.q 6 false (.e 7 .nil)))))))) (by kernel_rfl) (Blind.block (Blind.then Blind.bodyP)) (by kernel_rfl) (fun w hw => hw.drew) ?_
   refine DT_p rfl (.inr (fun w hw => (by exact hw.sub sbt))) (q_fieldAddr Try.underlying49 rfl rfl Try.sizeOf46 rfl rfl) rfl ?_
   refine DT_q rfl (fun w hw => (by exact hw.sub sbt)) (q_load1_own Try.isAgg46 rfl rfl swt (by rfl)) rfl ?_
   refine DT_q rfl (fun w hw => (by exact hw.sub sbt)) (q_loadN_own Try.isAgg51 Try.sizeOf51 rfl rfl swt (by rfl)) rfl ?_
   refine DT_alt ?_ ?_
   · skip
     refine DT_e rfl (e_call Try.call23 rfl (fun w hw => lift_old (copied_any vv ys w (by omega) (hsv w (hw.symsIn (v := .slice ax q.right.length cx) (l := q.right) swt))) hw)) rfl (.inr (fun _ w hw => (by exact hw.sub sbt))) (fun x176 => ?_)
     refine DT_e rfl (e_single Try.underlying46 Try.sizeOf51 Try.zeroValue51 (e := 51) (v := .agg #[.bool false, .int .i64 g.names]) (cs := [.bool false, .int .i64 g.names]) rfl rfl rfl rfl (by decide) (by decide)) rfl (.inr (fun _ w hw => (by exact hw.sub sbt))) (fun b178 => ?_)
     refine DT_e rfl (e_append_t (x0 := nameS g.names) (enc := encY) (l := ys) Try.underlying46 Try.typeInfo51 rfl rfl rfl rfl rfl rfl rfl pkt rfl (by exact fun w hw => hw.news swt) (by simp [Value.oneCell']) (by omega) (by decide)) rfl (.inr (fun _ w hw => (by exact hw.sub sbt))) (fun v179 => ?_)
     refine DT_fact (fun w hw => hw.tform (v := v179) (l := (ys ++ [nameS g.names])) (enc := encY) swt) (fun hf => ?_)
     obtain ⟨a179, c179, rfl, _, _, hb179⟩ := hf
     refine DT_p rfl (.inr (fun w hw => (by exact hw.sub sbt))) (q_fieldAddr Try.underlying49 rfl rfl Try.sizeOf46 rfl rfl) rfl ?_
     refine DT_e0 rfl (e_store Try.sizeOf46 rfl rfl rfl rfl swt (by rfl)) (.inl rfl) (fun _ => ?_)
     refine DT_nil ?_
     refine EW_block_normal ?_
     refine EW_then ?_
     refine nx3 ?_
     refine OW_q (q_loadN_own Try.isAgg49 Try.sizeOf49 rfl rfl swt (by rfl)) rfl ?_
     refine OW_e (e_single Try.underlying22 Try.sizeOf49 Try.zeroValue49 (e := 49) rfl rfl rfl rfl (by decide) (by decide)) rfl (fun b229 => ?_)
     refine aO ?_
     refine nx2 ?_
     refine CW_ret ?_
     refine ret1 Try.results22 rfl (fun w hw => ?_)
     refine ⟨(.slice (some ⟨b229, 0, none⟩) 1 1, [⟨⟨nl, (ys ++ [nameS g.names])⟩, (.slice a179 (ys ++ [nameS g.names]).length c179)⟩], [], []), rfl, ⟨(fun h => by omega), ?_⟩, ?_⟩
     · unfold oneR; rw [if_neg (by omega), if_neg (by omega), if_neg (by omega), if_pos hop, ← hY]; rfl
     · have h1 : Sat (Old _) _ [cel b229 49 [.int .i64 nl, (.slice a179 (ys ++ [nameS g.names]).length c179)], trow 51 2 encY ((.slice a179 (ys ++ [nameS g.names]).length c179)) (ys ++ [nameS g.names])] w := hw.sub sbt
       exact h1.oneRule
   refine DT_e rfl (e_single Try.underlying46 Try.sizeOf51 Try.zeroValue51 (e := 51) (v := .agg #[.bool false, .int .i64 g.names]) (cs := [.bool false, .int .i64 g.names]) rfl rfl rfl rfl (by decide) (by decide)) rfl (.inr (fun _ w hw => (by exact hw.sub sbt))) (fun b178 => ?_)
   refine DT_e rfl (e_call Try.call23 rfl (fun w hw => lift_old (copied_any vv ys w (by omega) (hsv w (hw.symsIn (v := .slice ax q.right.length cx) (l := q.right) swt))) hw)) rfl (.inr (fun _ w hw => (by exact hw.sub sbt))) (fun x176 => ?_)
   refine DT_e rfl (e_append_t (x0 := nameS g.names) (enc := encY) (l := ys) Try.underlying46 Try.typeInfo51 rfl rfl rfl rfl rfl rfl rfl pkt rfl (by exact fun w hw => hw.news swt) (by simp [Value.oneCell']) (by omega) (by decide)) rfl (.inr (fun _ w hw => (by exact hw.sub sbt))) (fun v179 => ?_)
   refine DT_fact (fun w hw => hw.tform (v := v179) (l := (ys ++ [nameS g.names])) (enc := encY) swt) (fun hf => ?_)
   obtain ⟨a179, c179, rfl, _, _, hb179⟩ := hf
   refine DT_p rfl (.inr (fun w hw => (by exact hw.sub sbt))) (q_fieldAddr Try.underlying49 rfl rfl Try.sizeOf46 rfl rfl) rfl ?_
   refine DT_e0 rfl (e_store Try.sizeOf46 rfl rfl rfl rfl swt (by rfl)) (.inl rfl) (fun _ => ?_)
   refine DT_nil ?_
   refine EW_block_normal ?_
   refine EW_then ?_
   refine nx3 ?_
   refine OW_q (q_loadN_own Try.isAgg49 Try.sizeOf49 rfl rfl swt (by rfl)) rfl ?_
   refine OW_e (e_single Try.underlying22 Try.sizeOf49 Try.zeroValue49 (e := 49) rfl rfl rfl rfl (by decide) (by decide)) rfl (fun b229 => ?_)
   refine aO ?_
   refine nx2 ?_
   refine CW_ret ?_
   refine ret1 Try.results22 rfl (fun w hw => ?_)
   refine ⟨(.slice (some ⟨b229, 0, none⟩) 1 1, [⟨⟨nl, (ys ++ [nameS g.names])⟩, (.slice a179 (ys ++ [nameS g.names]).length c179)⟩], [], []), rfl, ⟨(fun h => by omega), ?_⟩, ?_⟩
   · unfold oneR; rw [if_neg (by omega), if_neg (by omega), if_neg (by omega), if_pos hop, ← hY]; rfl
   · have h1 : Sat (Old _) _ [cel b229 49 [.int .i64 nl, (.slice a179 (ys ++ [nameS g.names]).length c179)], trow 51 2 encY ((.slice a179 (ys ++ [nameS g.names]).length c179)) (ys ++ [nameS g.names])] w := hw.sub sbt
     exact h1.oneRule
 have hql : q.left ≠ s.a := by simpa using h164
 refine CW_skip ?_
 refine EW_block_normal ?_
 refine EW_then ?_
 refine nx3 ?_
 refine OW_q (q_loadN_own Try.isAgg49 Try.sizeOf49 rfl rfl swt (by rfl)) rfl ?_
 refine OW_e (e_single Try.underlying22 Try.sizeOf49 Try.zeroValue49 (e := 49) rfl rfl rfl rfl (by decide) (by decide)) rfl (fun b229 => ?_)
 refine aO ?_
 refine nx2 ?_
 refine CW_ret ?_
 refine ret1 Try.results22 rfl (fun w hw => ?_)
 refine ⟨(.slice (some ⟨b229, 0, none⟩) 1 1, [⟨⟨q.left, q.right⟩, .slice ax q.right.length cx⟩], [], []), rfl, ⟨(fun h => by omega), ?_⟩, ?_⟩
 · unfold oneR; rw [if_neg (by omega), if_neg (by omega), if_neg (by omega), if_pos hop, leftR_other hql]; rfl
 · have h1 : Sat (Old _) _ [cel b229 49 [.int .i64 q.left, .slice ax q.right.length cx], trow 51 2 encY (.slice ax q.right.length cx) q.right] w := hw.sub sbt
   exact h1.oneRule

end Go.Sy
