/- Walks over package short and its reference: the tables. No condition. -/
import Derived.Test.YteceklkjbcebkaaW2
namespace Go.Sy
open Go Go.RowKit Go.Proofs

set_option maxRecDepth 20000 in
theorem shortOf_no (gv : Value) (g : Gram) (w : World) (hg : GramAt (Cl w) gv g) (hm : mayB g = false) : Calls Try.prog 13 #[gv] w (fun e w' => e = .returned (.tuple #[.slice none 0 0, .int .i64 2]) ∧ Sat (Old w) w [] w') := by
  have hg0 := hg
  obtain ⟨rv, rfl, hr⟩ := hg.mono old_rd
  obtain ⟨a, c, rfl, hc1, hc2, hrs⟩ := hr
  clear hg
  refine calls_CW Try.func13 rfl Try.ntmps13 rfl (Sat.start w) ?_
  refine CW_seq ?_
  refine CW_region ?_
  refine OW_e (e_box rfl rfl) rfl (fun b1 => ?_)
  refine OW_q (q_assign rfl) rfl ?_
  refine OW_q (q_assign rfl) rfl ?_
  refine OW_nil ?_
  refine EW_then ?_
  refine CW_seq ?_
  refine CW_seq ?_
  refine CW_region ?_
  first | (refine OW_q (q_loadN_own Try.isAgg24 Try.sizeOf24 rfl rfl (by (repeat (first | exact .head | apply Swap.tail))) (by rfl)) rfl ?_) | (refine OW_q (q_loadN_ro Try.isAgg24 Try.sizeOf24 rfl (by first | assumption | exact Row.at_ (by assumption) rfl) (by rfl)) rfl ?_)
  refine OW_e (e_call Try.call20 rfl (fun w hw => lift_ro (may_any _ g w (hg0.mono (fun _ _ h => hw.rd (Rd.old h)))) hw)) rfl (fun x11 => ?_)
  refine OW_q (q_not rfl) rfl ?_
  refine OW_nil ?_
  refine EW_then ?_
  refine CW_true rfl (by simp [hm]) ?_
  refine CW_seq ?_
  refine CW_region ?_
  refine OW_q (q_assign rfl) rfl ?_
  refine OW_q (q_assign rfl) rfl ?_
  refine OW_nil ?_
  refine EW_then ?_
  refine CW_ret ?_
  refine EW_then_ret ?_
  refine ret2 Try.results13 rfl rfl (fun w hw => ?_)
  exact ⟨rfl, hw.sub .nil⟩

set_option maxRecDepth 20000 in
theorem shortOf_yes (gv : Value) (g : Gram) (w : World) (hg : GramAt (Cl w) gv g) (hm : mayB g = true) : Calls Try.prog 13 #[gv] w (fun e w' => ∃ x : Nat × List Int, e = .returned (.tuple #[.slice (some ⟨x.1, 0, none⟩) g.names.toNat g.names.toNat, .int .i64 0]) ∧ (x.2.length = g.names.toNat ∧ Sound g x.2 ∧ Closed g x.2 ∧ Rng x.2) ∧ Sat (Old w) w [ints x.1 3 x.2] w') := by
  have hg0 := hg
  obtain ⟨rv, rfl, hr⟩ := hg.mono old_rd
  obtain ⟨a, c, rfl, hc1, hc2, hrs⟩ := hr
  clear hg
  have hM := mayB_true.1 hm
  have hall := may_all hm
  obtain ⟨m, hmn⟩ : ∃ m : Nat, g.names.toNat = m := ⟨_, rfl⟩
  have hmn2 : g.names = (m : Int) := by omega
  refine calls_CW Try.func13 rfl Try.ntmps13 rfl (Sat.start w) ?_
  refine CW_seq ?_
  refine CW_region ?_
  refine OW_e (e_box rfl rfl) rfl (fun b1 => ?_)
  refine OW_q (q_assign rfl) rfl ?_
  refine OW_q (q_assign rfl) rfl ?_
  refine OW_nil ?_
  refine EW_then ?_
  refine CW_seq ?_
  refine CW_seq ?_
  refine CW_region ?_
  first | (refine OW_q (q_loadN_own Try.isAgg24 Try.sizeOf24 rfl rfl (by (repeat (first | exact .head | apply Swap.tail))) (by rfl)) rfl ?_) | (refine OW_q (q_loadN_ro Try.isAgg24 Try.sizeOf24 rfl (by first | assumption | exact Row.at_ (by assumption) rfl) (by rfl)) rfl ?_)
  refine OW_e (e_call Try.call20 rfl (fun w hw => lift_ro (may_any _ g w (hg0.mono (fun _ _ h => hw.rd (Rd.old h)))) hw)) rfl (fun x11 => ?_)
  refine OW_q (q_not rfl) rfl ?_
  refine OW_nil ?_
  refine EW_then ?_
  refine CW_false rfl (by simp [hm]) ?_
  refine CW_skip ?_
  refine EW_then ?_
  refine CW_seq ?_
  refine CW_region ?_
  refine OW_q (q_fieldAddr Try.underlying24 rfl rfl Try.sizeOf3 rfl rfl) rfl ?_
  first | (refine OW_q (q_load1_own Try.isAgg3 rfl rfl (by (repeat (first | exact .head | apply Swap.tail))) (by rfl)) rfl ?_) | (refine OW_q (q_load1_ro Try.isAgg3 rfl (by first | assumption | exact Row.at_ (by assumption) rfl)) rfl ?_)
  refine OW_e (e_makeI Try.underlying25 Try.typeInfo3 rfl rfl (by decide) rfl rfl (by omega) (by omega)) rfl (fun b15 => ?_)
  refine OW_q (q_assign rfl) rfl ?_
  refine OW_nil ?_
  refine EW_then ?_
  refine CW_seq ?_
  refine CW_seq ?_
  refine CW_region ?_
  refine OW_q (q_move rfl) rfl ?_
  refine OW_q (q_len Try.underlying25 rfl) rfl ?_
  refine OW_q (q_move rfl) rfl ?_
  refine OW_nil ?_
  refine EW_then ?_
  refine CW_block ?_
  refine CW_loopP (ι := Nat) (fun k => k ≤ g.names.toNat) (fun k => [(1, .pointer (some ⟨b1, 0, none⟩)), (4, .slice (some ⟨b15, 0, none⟩) g.names.toNat g.names.toNat), (17, .int .i64 (g.names.toNat : Int)), (18, .int .i64 (k : Int))]) (fun k => Sat (Old w) w [ints b15 3 (List.replicate k (-1) ++ List.replicate (g.names.toNat - k) 0), cel b1 24 [.int .i64 g.terms, .int .i64 g.names, .slice a g.rules.length c]]) (fun k => g.names.toNat - k) 0 ?_ ⟨rfl, rfl, rfl, rfl, trivial⟩ (fun w hw => hw.sub (by (repeat (first | exact SubL.nil | exact Pick.head | apply Pick.tail | apply SubL.cons)))) ?_
  · exact Nat.zero_le _
  intro k hpre
  change CW _ _ _ _ [(1, .pointer (some ⟨b1, 0, none⟩)), (4, .slice (some ⟨b15, 0, none⟩) g.names.toNat g.names.toNat), (17, .int .i64 (g.names.toNat : Int)), (18, .int .i64 (k : Int))] (Sat (Old w) w [ints b15 3 (List.replicate k (-1) ++ List.replicate (g.names.toNat - k) 0), cel b1 24 [.int .i64 g.terms, .int .i64 g.names, .slice a g.rules.length c]])
  refine CW_seq ?_
  refine CW_region ?_
  refine OW_q (q_lss rfl rfl) rfl ?_
  refine OW_nil ?_
  refine EW_then ?_
  refine CW_seq ?_
  refine CW_cond rfl (fun h19 => ?_) (fun h19 => ?_)
  · skip
    have hlt0 : k < g.names.toNat := by have := of_decide_eq_true h19; omega
    refine CW_skip ?_
    refine EW_then ?_
    refine CW_seq ?_
    refine CW_block ?_
    refine CW_seq ?_
    refine CW_region ?_
    refine OW_q (q_move rfl) rfl ?_
    refine OW_q (q_assign rfl) rfl ?_
    refine OW_nil ?_
    refine EW_then ?_
    refine CW_region ?_
    refine OW_q (q_move rfl) rfl ?_
    refine OW_q (q_move rfl) rfl ?_
    refine OW_q (q_indexAddr Try.underlying25 Try.sizeOf3 rfl rfl (by first | omega | assumption)) rfl ?_
    refine OW_e0 (e_store_ints Try.sizeOf3 rfl rfl (by (repeat (first | exact .head | apply Swap.tail))) (by simp; omega)) (fun _ => ?_)
    refine OW_nil ?_
    refine EW_block_normal ?_
    refine EW_then ?_
    refine CW_region ?_
    first | refine OW_q (q_inc rfl rfl (by omega)) rfl ?_ | refine OW_q (q_add rfl rfl (by omega) (by omega)) rfl ?_
    refine OW_q (q_move rfl) rfl ?_
    refine OW_nil ?_
    refine EW_again (k + 1) ⟨?_, ?_⟩ ⟨rfl, rfl, rfl, rfl, trivial⟩ (fun w hw => by rw [fill_set _ _ hlt0] at hw; exact hw)
    · show g.names.toNat - (k + 1) < g.names.toNat - k; omega
    · omega
  · skip
    have hge0 : ¬ k < g.names.toNat := by have := of_decide_eq_false h19; omega
    obtain rfl : k = g.names.toNat := by omega
    have hfull : List.replicate g.names.toNat (-1 : Int) ++ List.replicate (g.names.toNat - g.names.toNat) 0 = List.replicate g.names.toNat (-1) := by simp
    refine CW_exit ?_
    refine EW_then_exit ?_
    refine EW_out ?_
    refine EW_block_exit ?_
    refine EW_then ?_
    refine CW_seq ?_
    refine CW_seq ?_
    refine CW_region ?_
    refine OW_q (q_assign rfl) rfl ?_
    refine OW_nil ?_
    refine EW_then ?_
    refine CW_block ?_
    refine CW_loopP (ι := Bool × List Int) (fun i_ => i_.2.length = g.names.toNat ∧ Sound g i_.2 ∧ Rng i_.2 ∧ (i_.1 = false → Closed g i_.2)) (fun i_ => [(1, .pointer (some ⟨b1, 0, none⟩)), (4, .slice (some ⟨b15, 0, none⟩) g.names.toNat g.names.toNat), (6, .bool i_.1)]) (fun i_ => Sat (Old w) w [ints b15 3 i_.2, cel b1 24 [.int .i64 g.terms, .int .i64 g.names, .slice a g.rules.length c]]) (fun i_ => 2 * weigh i_.2 + (if i_.1 = true then 1 else 0)) (true, List.replicate g.names.toNat (-1)) ?_ ⟨rfl, rfl, rfl, trivial⟩ (fun w hw => by rw [hfull] at hw; exact hw) ?_
    · exact ⟨by simp, sound_neg _ _, rng_neg _, fun h => by cases h⟩
    intro i_ hpre
    obtain ⟨again, of0⟩ := i_
    replace hpre : of0.length = g.names.toNat ∧ Sound g of0 ∧ Rng of0 ∧ (again = false → Closed g of0) := hpre
    change CW _ _ _ _ [(1, .pointer (some ⟨b1, 0, none⟩)), (4, .slice (some ⟨b15, 0, none⟩) g.names.toNat g.names.toNat), (6, .bool again)] (Sat (Old w) w [ints b15 3 of0, cel b1 24 [.int .i64 g.terms, .int .i64 g.names, .slice a g.rules.length c]])
    obtain ⟨hlen0, hs0, hrng0, hcl0⟩ := hpre
    refine CW_seq ?_
    refine CW_seq ?_
    refine CW_region ?_
    refine OW_q (q_move rfl) rfl ?_
    refine OW_nil ?_
    refine EW_then ?_
    refine CW_cond rfl (fun h25 => ?_) (fun h25 => ?_)
    · skip
      refine CW_skip ?_
      refine EW_then ?_
      refine CW_block ?_
      refine CW_seq ?_
      refine CW_region ?_
      refine OW_q (q_assign rfl) rfl ?_
      refine OW_nil ?_
      refine EW_then ?_
      refine CW_seq ?_
      refine CW_region ?_
      refine OW_q (q_fieldAddr Try.underlying24 rfl rfl Try.sizeOf22 rfl rfl) rfl ?_
      first | (refine OW_q (q_load1_own Try.isAgg22 rfl rfl (by (repeat (first | exact .head | apply Swap.tail))) (by rfl)) rfl ?_) | (refine OW_q (q_load1_ro Try.isAgg22 rfl (by first | assumption | exact Row.at_ (by assumption) rfl)) rfl ?_)
      refine OW_q (q_len Try.underlying22 rfl) rfl ?_
      refine OW_q (q_move rfl) rfl ?_
      refine OW_nil ?_
      refine EW_then ?_
      refine CW_block ?_
      refine CW_loopP (ι := Nat × Bool × List Int) (fun i_ => i_.1 ≤ g.rules.length ∧ i_.2.2.length = g.names.toNat ∧ Sound g i_.2.2 ∧ Rng i_.2.2 ∧ (i_.2.1 = false → i_.2.2 = of0 ∧ ∀ q ∈ g.rules.take i_.1, 0 ≤ srule i_.2.2 q.right 0 → 0 ≤ at0 i_.2.2 q.left ∧ at0 i_.2.2 q.left ≤ srule i_.2.2 q.right 0) ∧ (i_.2.1 = true → weigh i_.2.2 < weigh of0)) (fun i_ => [(1, .pointer (some ⟨b1, 0, none⟩)), (4, .slice (some ⟨b15, 0, none⟩) g.names.toNat g.names.toNat), (6, .bool i_.2.1), (27, .slice a g.rules.length c), (28, .int .i64 (g.rules.length : Int)), (29, .int .i64 (i_.1 : Int))]) (fun i_ => Sat (Old w) w [ints b15 3 i_.2.2, cel b1 24 [.int .i64 g.terms, .int .i64 g.names, .slice a g.rules.length c]]) (fun i_ => g.rules.length - i_.1) (0, false, of0) ?_ ⟨rfl, rfl, rfl, rfl, rfl, rfl, trivial⟩ (fun w hw => hw.sub (by (repeat (first | exact SubL.nil | exact Pick.head | apply Pick.tail | apply SubL.cons)))) ?_
      · exact ⟨Nat.zero_le _, hlen0, hs0, hrng0, fun _ => ⟨rfl, fun q hq => by simp at hq⟩, fun h => by cases h⟩
      intro i_ hpre
      obtain ⟨k, ag, of1⟩ := i_
      replace hpre : k ≤ g.rules.length ∧ of1.length = g.names.toNat ∧ Sound g of1 ∧ Rng of1 ∧ (ag = false → of1 = of0 ∧ ∀ q ∈ g.rules.take k, 0 ≤ srule of1 q.right 0 → 0 ≤ at0 of1 q.left ∧ at0 of1 q.left ≤ srule of1 q.right 0) ∧ (ag = true → weigh of1 < weigh of0) := hpre
      change CW _ _ _ _ [(1, .pointer (some ⟨b1, 0, none⟩)), (4, .slice (some ⟨b15, 0, none⟩) g.names.toNat g.names.toNat), (6, .bool ag), (27, .slice a g.rules.length c), (28, .int .i64 (g.rules.length : Int)), (29, .int .i64 (k : Int))] (Sat (Old w) w [ints b15 3 of1, cel b1 24 [.int .i64 g.terms, .int .i64 g.names, .slice a g.rules.length c]])
      obtain ⟨hk, hlen1, hs1, hrng1, h1, h2⟩ := hpre
      refine CW_seq ?_
      refine CW_region ?_
      refine OW_q (q_lss rfl rfl) rfl ?_
      refine OW_nil ?_
      refine EW_then ?_
      refine CW_seq ?_
      refine CW_cond rfl (fun h30 => ?_) (fun h30 => ?_)
      · skip
        have hlt : k < g.rules.length := by simpa using h30
        obtain ⟨r, hx⟩ := get_of_lt hlt
        have hmem := List.mem_of_getElem? hx
        obtain ⟨p, rfl, rv2, hsy, hrow⟩ := hrs k r hx
        obtain ⟨a2, c2, hrv2, _⟩ := id hsy
        subst hrv2
        have hr1 := hall r hmem
        have hl : ∀ s ∈ r.right, s.term = false → 0 ≤ s.n ∧ s.n < (of1.length : Int) := fun s hs ht => by have := hr1.2.2 s hs ht; omega
        have hcell := at0_get (of := of1) hr1.1 (by omega)
        have hsr := srule_rng hrng1 r.right 0 (by decide) (by decide)
        have hat := hrng1.at0 r.left
        refine CW_skip ?_
        refine EW_then ?_
        refine CW_seq ?_
        refine CW_block ?_
        refine CW_seq ?_
        refine CW_region ?_
        refine OW_q (q_indexAddr Try.underlying22 Try.sizeOf41 rfl rfl (by first | omega | assumption)) rfl ?_
        refine OW_q (q_loadN_ro Try.isAgg41 Try.sizeOf41 rfl (by first | assumption | exact Row.at_ (by assumption) rfl) (by rfl)) rfl ?_
        refine OW_e (e_alloc Try.zeroValue41 rfl) rfl (fun b8 => ?_)
        refine OW_e0 (e_storeN Try.sizeOf41 rfl rfl rfl rfl (by simp [Value.oneCell']) (by (repeat (first | exact .head | apply Swap.tail))) (by rfl)) (fun _ => ?_)
        refine OW_nil ?_
        refine EW_then ?_
        refine CW_seq ?_
        refine CW_region ?_
        first | (refine OW_q (q_loadN_own Try.isAgg41 Try.sizeOf41 rfl rfl (by (repeat (first | exact .head | apply Swap.tail))) (by rfl)) rfl ?_) | (refine OW_q (q_loadN_ro Try.isAgg41 Try.sizeOf41 rfl (by first | assumption | exact Row.at_ (by assumption) rfl) (by rfl)) rfl ?_)
        refine OW_q (q_move rfl) rfl ?_
        refine OW_e (e_call Try.call34 rfl (fun w hw => lift_ro (srule_any _ _ r of1 w (hsy.mono hw.rd_cl) (hw.intsAt (A' := ints 0 0 []) (by repeat (first | exact .head | apply Swap.tail)) hlen1 (Nat.le_refl _) (by omega)) hrng1 hl) hw)) rfl (fun x35 => ?_)
        refine OW_q (q_assign rfl) rfl ?_
        refine OW_nil ?_
        refine EW_then ?_
        refine CW_seq ?_
        refine CW_region ?_
        refine OW_q (q_move rfl) rfl ?_
        refine OW_q (q_geq rfl rfl) rfl ?_
        refine OW_q (q_move rfl) rfl ?_
        refine OW_part (t := 38) rfl (fun hg38 => ?_) (fun hg38 => ?_)
        · skip
          refine OW_wanted rfl rfl rfl ?_
          refine OW_q (q_move rfl) rfl ?_
          refine OW_wanted rfl rfl rfl ?_
          refine OW_q (q_fieldAddr Try.underlying41 rfl rfl Try.sizeOf3 rfl rfl) rfl ?_
          refine OW_wanted rfl rfl rfl ?_
          first | (refine OW_q (q_load1_own Try.isAgg3 rfl rfl (by (repeat (first | exact .head | apply Swap.tail))) (by rfl)) rfl ?_) | (refine OW_q (q_load1_ro Try.isAgg3 rfl (by first | assumption | exact Row.at_ (by assumption) rfl)) rfl ?_)
          refine OW_wanted rfl rfl rfl ?_
          refine OW_q (q_indexAddrI Try.underlying25 Try.sizeOf3 rfl rfl (by first | omega | assumption) (by first | omega | assumption)) rfl ?_
          refine OW_wanted rfl rfl rfl ?_
          refine OW_q (q_load_ints Try.isAgg3 rfl (by (repeat (first | exact .head | apply Swap.tail))) (by assumption)) rfl ?_
          refine OW_wanted rfl rfl rfl ?_
          refine OW_q (q_lss rfl rfl) rfl ?_
          refine OW_wanted rfl rfl rfl ?_
          refine OW_q (q_move rfl) rfl ?_
          refine OW_part (t := 45) rfl (fun hg45 => ?_) (fun hg45 => ?_)
          · skip
            refine OW_skip rfl rfl rfl rfl ?_
            refine OW_skip rfl rfl rfl rfl ?_
            refine OW_skip rfl rfl rfl rfl ?_
            refine OW_skip rfl rfl rfl rfl ?_
            refine OW_skip rfl rfl rfl rfl ?_
            refine OW_skip rfl rfl rfl rfl ?_
            refine OW_skip rfl rfl rfl rfl ?_
            refine OW_wanted rfl rfl rfl ?_
            refine OW_q (q_pick_t rfl rfl) rfl ?_
            refine OW_q (q_pick_t rfl rfl) rfl ?_
            refine OW_nil ?_
            refine EW_then ?_
            refine CW_true rfl rfl ?_
            refine CW_region ?_
            refine OW_q (q_move rfl) rfl ?_
            refine OW_q (q_fieldAddr Try.underlying41 rfl rfl Try.sizeOf3 rfl rfl) rfl ?_
            first | (refine OW_q (q_load1_own Try.isAgg3 rfl rfl (by (repeat (first | exact .head | apply Swap.tail))) (by rfl)) rfl ?_) | (refine OW_q (q_load1_ro Try.isAgg3 rfl (by first | assumption | exact Row.at_ (by assumption) rfl)) rfl ?_)
            refine OW_q (q_move rfl) rfl ?_
            refine OW_q (q_indexAddrI Try.underlying25 Try.sizeOf3 rfl rfl (by first | omega | assumption) (by first | omega | assumption)) rfl ?_
            refine OW_e0 (e_store_ints Try.sizeOf3 rfl rfl (by (repeat (first | exact .head | apply Swap.tail))) (by omega)) (fun _ => ?_)
            refine OW_q (q_assign rfl) rfl ?_
            refine OW_nil ?_
            refine EW_block_normal ?_
            refine EW_then ?_
            refine CW_region ?_
            first | refine OW_q (q_inc rfl rfl (by omega)) rfl ?_ | refine OW_q (q_add rfl rfl (by omega) (by omega)) rfl ?_
            refine OW_q (q_move rfl) rfl ?_
            refine OW_nil ?_
            refine EW_again ((k + 1, true, of1.set r.left.toNat (srule of1 r.right 0))) ⟨?_, ?_⟩ ⟨rfl, rfl, rfl, rfl, rfl, rfl, trivial⟩ (fun w hw => hw.sub (by (repeat (first | exact SubL.nil | exact Pick.head | apply Pick.tail | apply SubL.cons))))
            · show g.rules.length - (k + 1) < g.rules.length - k; omega
            · have hv : 0 ≤ srule of1 r.right 0 := by simpa using hg38
              refine ⟨by show k + 1 ≤ _; omega, by show (List.set _ _ _).length = _; simpa using hlen1, sound_set hs1 hmem hr1.1 hl hv, rng_set hrng1 (by omega) hsr.2, (fun h => by cases h), fun _ => ?_⟩
              have hsm := weigh_set hcell hv hsr.2 (.inl (by simpa using hg45))
              show weigh (of1.set _ _) < weigh of0
              cases hag : ag with
              | false => rw [← (h1 hag).1]; exact hsm
              | true => have := h2 hag; omega
          · skip
            refine OW_wanted rfl rfl rfl ?_
            refine OW_q (q_move rfl) rfl ?_
            refine OW_wanted rfl rfl rfl ?_
            refine OW_q (q_move rfl) rfl ?_
            refine OW_wanted rfl rfl rfl ?_
            refine OW_q (q_fieldAddr Try.underlying41 rfl rfl Try.sizeOf3 rfl rfl) rfl ?_
            refine OW_wanted rfl rfl rfl ?_
            first | (refine OW_q (q_load1_own Try.isAgg3 rfl rfl (by (repeat (first | exact .head | apply Swap.tail))) (by rfl)) rfl ?_) | (refine OW_q (q_load1_ro Try.isAgg3 rfl (by first | assumption | exact Row.at_ (by assumption) rfl)) rfl ?_)
            refine OW_wanted rfl rfl rfl ?_
            refine OW_q (q_indexAddrI Try.underlying25 Try.sizeOf3 rfl rfl (by first | omega | assumption) (by first | omega | assumption)) rfl ?_
            refine OW_wanted rfl rfl rfl ?_
            refine OW_q (q_load_ints Try.isAgg3 rfl (by (repeat (first | exact .head | apply Swap.tail))) (by assumption)) rfl ?_
            refine OW_wanted rfl rfl rfl ?_
            refine OW_q (q_lss rfl rfl) rfl ?_
            refine OW_wanted rfl rfl rfl ?_
            refine OW_q (q_pick_f rfl rfl) rfl ?_
            refine OW_q (q_pick_t rfl rfl) rfl ?_
            refine OW_nil ?_
            refine EW_then ?_
            refine CW_cond rfl (fun h54 => ?_) (fun h54 => ?_)
            · skip
              refine CW_region ?_
              refine OW_q (q_move rfl) rfl ?_
              refine OW_q (q_fieldAddr Try.underlying41 rfl rfl Try.sizeOf3 rfl rfl) rfl ?_
              first | (refine OW_q (q_load1_own Try.isAgg3 rfl rfl (by (repeat (first | exact .head | apply Swap.tail))) (by rfl)) rfl ?_) | (refine OW_q (q_load1_ro Try.isAgg3 rfl (by first | assumption | exact Row.at_ (by assumption) rfl)) rfl ?_)
              refine OW_q (q_move rfl) rfl ?_
              refine OW_q (q_indexAddrI Try.underlying25 Try.sizeOf3 rfl rfl (by first | omega | assumption) (by first | omega | assumption)) rfl ?_
              refine OW_e0 (e_store_ints Try.sizeOf3 rfl rfl (by (repeat (first | exact .head | apply Swap.tail))) (by omega)) (fun _ => ?_)
              refine OW_q (q_assign rfl) rfl ?_
              refine OW_nil ?_
              refine EW_block_normal ?_
              refine EW_then ?_
              refine CW_region ?_
              first | refine OW_q (q_inc rfl rfl (by omega)) rfl ?_ | refine OW_q (q_add rfl rfl (by omega) (by omega)) rfl ?_
              refine OW_q (q_move rfl) rfl ?_
              refine OW_nil ?_
              refine EW_again ((k + 1, true, of1.set r.left.toNat (srule of1 r.right 0))) ⟨?_, ?_⟩ ⟨rfl, rfl, rfl, rfl, rfl, rfl, trivial⟩ (fun w hw => hw.sub (by (repeat (first | exact SubL.nil | exact Pick.head | apply Pick.tail | apply SubL.cons))))
              · show g.rules.length - (k + 1) < g.rules.length - k; omega
              · have hv : 0 ≤ srule of1 r.right 0 := by simpa using hg38
                refine ⟨by show k + 1 ≤ _; omega, by show (List.set _ _ _).length = _; simpa using hlen1, sound_set hs1 hmem hr1.1 hl hv, rng_set hrng1 (by omega) hsr.2, (fun h => by cases h), fun _ => ?_⟩
                have hsm := weigh_set hcell hv hsr.2 (.inr (by simpa using h54))
                show weigh (of1.set _ _) < weigh of0
                cases hag : ag with
                | false => rw [← (h1 hag).1]; exact hsm
                | true => have := h2 hag; omega
            · skip
              refine CW_skip ?_
              refine EW_block_normal ?_
              refine EW_then ?_
              refine CW_region ?_
              first | refine OW_q (q_inc rfl rfl (by omega)) rfl ?_ | refine OW_q (q_add rfl rfl (by omega) (by omega)) rfl ?_
              refine OW_q (q_move rfl) rfl ?_
              refine OW_nil ?_
              refine EW_again ((k + 1, ag, of1)) ⟨?_, ?_⟩ ⟨rfl, rfl, rfl, rfl, rfl, rfl, trivial⟩ (fun w hw => hw.sub (by (repeat (first | exact SubL.nil | exact Pick.head | apply Pick.tail | apply SubL.cons))))
              · show g.rules.length - (k + 1) < g.rules.length - k; omega
              · refine ⟨by show k + 1 ≤ _; omega, hlen1, hs1, hrng1, fun hag => ⟨(h1 hag).1, fun q hq => ?_⟩, h2⟩
                rw [List.take_add_one, hx, List.mem_append] at hq
                rcases hq with hq | hq
                · exact (h1 hag).2 q hq
                · simp only [Option.toList_some, List.mem_singleton] at hq
                  rw [hq]
                  have e := (h1 hag).1
                  intro hq0
                  have a1 : ¬ at0 of1 r.left < 0 := by simpa using hg45
                  have a2 : ¬ srule of1 r.right 0 < at0 of1 r.left := by simpa using h54
                  exact ⟨by dsimp only; omega, by dsimp only; omega⟩
        · skip
          refine OW_skip rfl rfl rfl rfl ?_
          refine OW_skip rfl rfl rfl rfl ?_
          refine OW_skip rfl rfl rfl rfl ?_
          refine OW_skip rfl rfl rfl rfl ?_
          refine OW_skip rfl rfl rfl rfl ?_
          refine OW_skip rfl rfl rfl rfl ?_
          refine OW_skip rfl rfl rfl rfl ?_
          refine OW_skipU rfl rfl rfl ?_
          refine OW_skipU rfl rfl rfl ?_
          refine OW_skipU rfl rfl rfl ?_
          refine OW_skipU rfl rfl rfl ?_
          refine OW_skipU rfl rfl rfl ?_
          refine OW_skipU rfl rfl rfl ?_
          refine OW_skipU rfl rfl rfl ?_
          refine OW_skip rfl rfl rfl rfl ?_
          refine OW_q (q_pick_f rfl rfl) rfl ?_
          refine OW_nil ?_
          refine EW_then ?_
          refine CW_false rfl rfl ?_
          refine CW_skip ?_
          refine EW_block_normal ?_
          refine EW_then ?_
          refine CW_region ?_
          first | refine OW_q (q_inc rfl rfl (by omega)) rfl ?_ | refine OW_q (q_add rfl rfl (by omega) (by omega)) rfl ?_
          refine OW_q (q_move rfl) rfl ?_
          refine OW_nil ?_
          refine EW_again ((k + 1, ag, of1)) ⟨?_, ?_⟩ ⟨rfl, rfl, rfl, rfl, rfl, rfl, trivial⟩ (fun w hw => hw.sub (by (repeat (first | exact SubL.nil | exact Pick.head | apply Pick.tail | apply SubL.cons))))
          · show g.rules.length - (k + 1) < g.rules.length - k; omega
          · refine ⟨by show k + 1 ≤ _; omega, hlen1, hs1, hrng1, fun hag => ⟨(h1 hag).1, fun q hq => ?_⟩, h2⟩
            rw [List.take_add_one, hx, List.mem_append] at hq
            rcases hq with hq | hq
            · exact (h1 hag).2 q hq
            · simp only [Option.toList_some, List.mem_singleton] at hq
              rw [hq]
              have e := (h1 hag).1
              intro hq0
              have a1 : ¬ 0 ≤ srule of1 r.right 0 := by simpa using hg38
              exact absurd hq0 a1
      · skip
        have hend := take_all (l := g.rules) (k := k) (by simpa using h30)
        refine CW_exit ?_
        refine EW_then_exit ?_
        refine EW_out ?_
        refine EW_block_exit ?_
        refine EW_block_normal ?_
        refine EW_again ((ag, of1)) ⟨?_, ?_⟩ ⟨rfl, rfl, rfl, trivial⟩ (fun w hw => hw.sub (by (repeat (first | exact SubL.nil | exact Pick.head | apply Pick.tail | apply SubL.cons))))
        · show 2 * weigh of1 + _ < 2 * weigh of0 + _
          rw [h25]
          cases hag : ag with
          | false => rw [(h1 hag).1]; simp
          | true => have := h2 hag; simp; omega
        · refine ⟨hlen1, hs1, hrng1, fun hag q hq hq0 => ?_⟩
          refine (h1 hag).2 q ?_ hq0
          rw [hend]; exact hq
    · skip
      refine CW_exit ?_
      refine EW_then_exit ?_
      refine EW_out ?_
      refine EW_block_exit ?_
      refine EW_then ?_
      refine CW_seq ?_
      refine CW_region ?_
      refine OW_q (q_move rfl) rfl ?_
      refine OW_q (q_assign rfl) rfl ?_
      refine OW_q (q_assign rfl) rfl ?_
      refine OW_nil ?_
      refine EW_then ?_
      refine CW_ret ?_
      refine ret2 Try.results13 rfl rfl (fun w hw => ?_)
      exact ⟨(b15, of0), rfl, ⟨hlen0, hs0, hcl0 h25, hrng0⟩, hw.sub (by repeat (first | exact SubL.nil | exact Pick.head | apply Pick.tail | apply SubL.cons))⟩

set_option maxRecDepth 20000 in
theorem short4_any (gv : Value) (g : Gram) (w : World) (hg : GramAt (Cl w) gv g) (hm : mayB g = true) : Calls Try.prog 16 #[gv] w (fun e w' => ∃ x : Nat × List Int, e = .returned (.slice (some ⟨x.1, 0, none⟩) g.names.toNat g.names.toNat) ∧ (x.2.length = g.names.toNat ∧ Sound g x.2 ∧ Closed g x.2 ∧ Rng x.2) ∧ Sat (Old w) w [ints x.1 3 x.2] w') := by
  have hg0 := hg
  obtain ⟨rv, rfl, hr⟩ := hg.mono old_rd
  obtain ⟨a, c, rfl, hc1, hc2, hrs⟩ := hr
  clear hg
  have hM := mayB_true.1 hm
  have hall := may_all hm
  obtain ⟨m, hmn⟩ : ∃ m : Nat, g.names.toNat = m := ⟨_, rfl⟩
  have hmn2 : g.names = (m : Int) := by omega
  refine calls_CW Try.func16 rfl Try.ntmps16 rfl (Sat.start w) ?_
  refine CW_seq ?_
  refine CW_region ?_
  refine OW_e (e_box rfl rfl) rfl (fun b1 => ?_)
  refine OW_q (q_assign rfl) rfl ?_
  refine OW_nil ?_
  refine EW_then ?_
  refine CW_seq ?_
  refine CW_region ?_
  refine OW_q (q_fieldAddr Try.underlying24 rfl rfl Try.sizeOf3 rfl rfl) rfl ?_
  first | (refine OW_q (q_load1_own Try.isAgg3 rfl rfl (by (repeat (first | exact .head | apply Swap.tail))) (by rfl)) rfl ?_) | (refine OW_q (q_load1_ro Try.isAgg3 rfl (by first | assumption | exact Row.at_ (by assumption) rfl)) rfl ?_)
  refine OW_e (e_makeI Try.underlying25 Try.typeInfo3 rfl rfl (by decide) rfl rfl (by omega) (by omega)) rfl (fun b12 => ?_)
  refine OW_q (q_assign rfl) rfl ?_
  refine OW_nil ?_
  refine EW_then ?_
  refine CW_seq ?_
  refine CW_seq ?_
  refine CW_region ?_
  refine OW_q (q_assign rfl) rfl ?_
  refine OW_nil ?_
  refine EW_then ?_
  refine CW_block ?_
  refine CW_loopP (ι := Nat) (fun k => k ≤ g.names.toNat) (fun k => [(1, .pointer (some ⟨b1, 0, none⟩)), (3, .slice (some ⟨b12, 0, none⟩) g.names.toNat g.names.toNat), (4, .int .i64 (k : Int))]) (fun k => Sat (Old w) w [ints b12 3 (List.replicate k (-1) ++ List.replicate (g.names.toNat - k) 0), cel b1 24 [.int .i64 g.terms, .int .i64 g.names, .slice a g.rules.length c]]) (fun k => g.names.toNat - k) 0 ?_ ⟨rfl, rfl, rfl, trivial⟩ (fun w hw => hw.sub (by (repeat (first | exact SubL.nil | exact Pick.head | apply Pick.tail | apply SubL.cons)))) ?_
  · exact Nat.zero_le _
  intro k hpre
  change CW _ _ _ _ [(1, .pointer (some ⟨b1, 0, none⟩)), (3, .slice (some ⟨b12, 0, none⟩) g.names.toNat g.names.toNat), (4, .int .i64 (k : Int))] (Sat (Old w) w [ints b12 3 (List.replicate k (-1) ++ List.replicate (g.names.toNat - k) 0), cel b1 24 [.int .i64 g.terms, .int .i64 g.names, .slice a g.rules.length c]])
  refine CW_seq ?_
  refine CW_seq ?_
  refine CW_region ?_
  refine OW_q (q_move rfl) rfl ?_
  refine OW_q (q_move rfl) rfl ?_
  refine OW_q (q_len Try.underlying25 rfl) rfl ?_
  refine OW_q (q_lss rfl rfl) rfl ?_
  refine OW_nil ?_
  refine EW_then ?_
  refine CW_cond rfl (fun h16 => ?_) (fun h16 => ?_)
  · skip
    have hlt0 : k < g.names.toNat := by have := of_decide_eq_true h16; omega
    refine CW_skip ?_
    refine EW_then ?_
    refine CW_seq ?_
    refine CW_block ?_
    refine CW_region ?_
    refine OW_q (q_move rfl) rfl ?_
    refine OW_q (q_move rfl) rfl ?_
    refine OW_q (q_indexAddr Try.underlying25 Try.sizeOf3 rfl rfl (by first | omega | assumption)) rfl ?_
    refine OW_e0 (e_store_ints Try.sizeOf3 rfl rfl (by (repeat (first | exact .head | apply Swap.tail))) (by simp; omega)) (fun _ => ?_)
    refine OW_nil ?_
    refine EW_block_normal ?_
    refine EW_then ?_
    refine CW_region ?_
    refine OW_q (q_move rfl) rfl ?_
    first | refine OW_q (q_inc rfl rfl (by omega)) rfl ?_ | refine OW_q (q_add rfl rfl (by omega) (by omega)) rfl ?_
    refine OW_q (q_assign rfl) rfl ?_
    refine OW_nil ?_
    refine EW_again (k + 1) ⟨?_, ?_⟩ ⟨rfl, rfl, rfl, trivial⟩ (fun w hw => by rw [fill_set _ _ hlt0] at hw; exact hw)
    · show g.names.toNat - (k + 1) < g.names.toNat - k; omega
    · omega
  · skip
    have hge0 : ¬ k < g.names.toNat := by have := of_decide_eq_false h16; omega
    obtain rfl : k = g.names.toNat := by omega
    have hfull : List.replicate g.names.toNat (-1 : Int) ++ List.replicate (g.names.toNat - g.names.toNat) 0 = List.replicate g.names.toNat (-1) := by simp
    refine CW_exit ?_
    refine EW_then_exit ?_
    refine EW_out ?_
    refine EW_block_exit ?_
    refine EW_then ?_
    refine CW_block ?_
    refine CW_loopP (ι := List Int × Int) (fun i_ => i_.1.length = g.names.toNat ∧ Settled g i_.1 i_.2) (fun i_ => [(1, .pointer (some ⟨b1, 0, none⟩)), (3, .slice (some ⟨b12, 0, none⟩) g.names.toNat g.names.toNat)]) (fun i_ => Sat (Old w) w [ints b12 3 i_.1, cel b1 24 [.int .i64 g.terms, .int .i64 g.names, .slice a g.rules.length c]]) (fun i_ => negs i_.1) (List.replicate g.names.toNat (-1), -1) ?_ ⟨rfl, rfl, trivial⟩ (fun w hw => by rw [hfull] at hw; exact hw) ?_
    · exact ⟨by simp, settled_neg _ _⟩
    intro i_ hpre
    obtain ⟨of0, B⟩ := i_
    replace hpre : of0.length = g.names.toNat ∧ Settled g of0 B := hpre
    change CW _ _ _ _ [(1, .pointer (some ⟨b1, 0, none⟩)), (3, .slice (some ⟨b12, 0, none⟩) g.names.toNat g.names.toNat)] (Sat (Old w) w [ints b12 3 of0, cel b1 24 [.int .i64 g.terms, .int .i64 g.names, .slice a g.rules.length c]])
    obtain ⟨hlen0, hst⟩ := hpre
    refine CW_block ?_
    refine CW_seq ?_
    refine CW_region ?_
    refine OW_q (q_assign rfl) rfl ?_
    refine OW_nil ?_
    refine EW_then ?_
    refine CW_seq ?_
    refine CW_region ?_
    refine OW_q (q_assign rfl) rfl ?_
    refine OW_nil ?_
    refine EW_then ?_
    refine CW_seq ?_
    refine CW_seq ?_
    refine CW_region ?_
    refine OW_q (q_assign rfl) rfl ?_
    refine OW_nil ?_
    refine EW_then ?_
    refine CW_block ?_
    refine CW_loopP (ι := Nat × Int × Int) (fun i_ => i_.1 ≤ g.rules.length ∧ ((i_.2.2 = -1 ∧ i_.2.1 = -1 ∧ ∀ q ∈ g.rules.take i_.1, at0 of0 q.left < 0 → ¬ 0 ≤ srule of0 q.right 0) ∨ (0 ≤ i_.2.1 ∧ ∃ q0 ∈ g.rules, q0.left = i_.2.2 ∧ at0 of0 i_.2.2 < 0 ∧ srule of0 q0.right 0 = i_.2.1 ∧ ∀ q ∈ g.rules.take i_.1, at0 of0 q.left < 0 → 0 ≤ srule of0 q.right 0 → i_.2.1 ≤ srule of0 q.right 0))) (fun i_ => [(1, .pointer (some ⟨b1, 0, none⟩)), (3, .slice (some ⟨b12, 0, none⟩) g.names.toNat g.names.toNat), (5, .int .i64 i_.2.1), (6, .int .i64 i_.2.2), (7, .int .i64 (i_.1 : Int))]) (fun i_ => Sat (Old w) w [ints b12 3 of0, cel b1 24 [.int .i64 g.terms, .int .i64 g.names, .slice a g.rules.length c]]) (fun i_ => g.rules.length - i_.1) (0, -1, -1) ?_ ⟨rfl, rfl, rfl, rfl, rfl, trivial⟩ (fun w hw => hw.sub (by (repeat (first | exact SubL.nil | exact Pick.head | apply Pick.tail | apply SubL.cons)))) ?_
    · exact ⟨Nat.zero_le _, .inl ⟨rfl, rfl, fun q hq => by simp at hq⟩⟩
    intro i_ hpre
    obtain ⟨k, best, who⟩ := i_
    replace hpre : k ≤ g.rules.length ∧ ((who = -1 ∧ best = -1 ∧ ∀ q ∈ g.rules.take k, at0 of0 q.left < 0 → ¬ 0 ≤ srule of0 q.right 0) ∨ (0 ≤ best ∧ ∃ q0 ∈ g.rules, q0.left = who ∧ at0 of0 who < 0 ∧ srule of0 q0.right 0 = best ∧ ∀ q ∈ g.rules.take k, at0 of0 q.left < 0 → 0 ≤ srule of0 q.right 0 → best ≤ srule of0 q.right 0)) := hpre
    change CW _ _ _ _ [(1, .pointer (some ⟨b1, 0, none⟩)), (3, .slice (some ⟨b12, 0, none⟩) g.names.toNat g.names.toNat), (5, .int .i64 best), (6, .int .i64 who), (7, .int .i64 (k : Int))] (Sat (Old w) w [ints b12 3 of0, cel b1 24 [.int .i64 g.terms, .int .i64 g.names, .slice a g.rules.length c]])
    obtain ⟨hk, hfront⟩ := hpre
    refine CW_seq ?_
    refine CW_seq ?_
    refine CW_region ?_
    refine OW_q (q_move rfl) rfl ?_
    refine OW_q (q_fieldAddr Try.underlying24 rfl rfl Try.sizeOf22 rfl rfl) rfl ?_
    first | (refine OW_q (q_load1_own Try.isAgg22 rfl rfl (by (repeat (first | exact .head | apply Swap.tail))) (by rfl)) rfl ?_) | (refine OW_q (q_load1_ro Try.isAgg22 rfl (by first | assumption | exact Row.at_ (by assumption) rfl)) rfl ?_)
    refine OW_q (q_len Try.underlying22 rfl) rfl ?_
    refine OW_q (q_lss rfl rfl) rfl ?_
    refine OW_nil ?_
    refine EW_then ?_
    refine CW_cond rfl (fun h26 => ?_) (fun h26 => ?_)
    · skip
      have hlt : k < g.rules.length := by simpa using h26
      obtain ⟨r, hx⟩ := get_of_lt hlt
      have hmem := List.mem_of_getElem? hx
      obtain ⟨p, rfl, rv2, hsy, hrow⟩ := hrs k r hx
      obtain ⟨a2, c2, hrv2, _⟩ := id hsy
      subst hrv2
      have hr1 := hall r hmem
      have hl : ∀ s ∈ r.right, s.term = false → 0 ≤ s.n ∧ s.n < (of0.length : Int) := fun s hs ht => by have := hr1.2.2 s hs ht; omega
      have hcell := at0_get (of := of0) hr1.1 (by omega)
      have hsr := srule_rng hst.rng r.right 0 (by decide) (by decide)
      have hat := hst.rng.at0 r.left
      refine CW_skip ?_
      refine EW_then ?_
      refine CW_seq ?_
      refine CW_block ?_
      refine CW_seq ?_
      refine CW_region ?_
      refine OW_q (q_fieldAddr Try.underlying24 rfl rfl Try.sizeOf22 rfl rfl) rfl ?_
      first | (refine OW_q (q_load1_own Try.isAgg22 rfl rfl (by (repeat (first | exact .head | apply Swap.tail))) (by rfl)) rfl ?_) | (refine OW_q (q_load1_ro Try.isAgg22 rfl (by first | assumption | exact Row.at_ (by assumption) rfl)) rfl ?_)
      refine OW_q (q_move rfl) rfl ?_
      refine OW_q (q_indexAddr Try.underlying22 Try.sizeOf41 rfl rfl (by first | omega | assumption)) rfl ?_
      refine OW_q (q_loadN_ro Try.isAgg41 Try.sizeOf41 rfl (by first | assumption | exact Row.at_ (by assumption) rfl) (by rfl)) rfl ?_
      refine OW_e (e_alloc Try.zeroValue41 rfl) rfl (fun b8 => ?_)
      refine OW_e0 (e_storeN Try.sizeOf41 rfl rfl rfl rfl (by simp [Value.oneCell']) (by (repeat (first | exact .head | apply Swap.tail))) (by rfl)) (fun _ => ?_)
      refine OW_nil ?_
      refine EW_then ?_
      refine CW_seq ?_
      refine CW_seq ?_
      refine CW_region ?_
      refine OW_q (q_move rfl) rfl ?_
      refine OW_q (q_fieldAddr Try.underlying41 rfl rfl Try.sizeOf3 rfl rfl) rfl ?_
      first | (refine OW_q (q_load1_own Try.isAgg3 rfl rfl (by (repeat (first | exact .head | apply Swap.tail))) (by rfl)) rfl ?_) | (refine OW_q (q_load1_ro Try.isAgg3 rfl (by first | assumption | exact Row.at_ (by assumption) rfl)) rfl ?_)
      refine OW_q (q_indexAddrI Try.underlying25 Try.sizeOf3 rfl rfl (by first | omega | assumption) (by first | omega | assumption)) rfl ?_
      refine OW_q (q_load_ints Try.isAgg3 rfl (by (repeat (first | exact .head | apply Swap.tail))) (by assumption)) rfl ?_
      refine OW_q (q_geq rfl rfl) rfl ?_
      refine OW_nil ?_
      refine EW_then ?_
      refine CW_cond rfl (fun h39 => ?_) (fun h39 => ?_)
      · skip
        refine CW_exit ?_
        refine EW_then_exit ?_
        refine EW_block_exit ?_
        refine EW_then ?_
        refine CW_region ?_
        refine OW_q (q_move rfl) rfl ?_
        first | refine OW_q (q_inc rfl rfl (by omega)) rfl ?_ | refine OW_q (q_add rfl rfl (by omega) (by omega)) rfl ?_
        refine OW_q (q_assign rfl) rfl ?_
        refine OW_nil ?_
        refine EW_again ((k + 1, best, who)) ⟨?_, ?_⟩ ⟨rfl, rfl, rfl, rfl, rfl, trivial⟩ (fun w hw => hw.sub (by (repeat (first | exact SubL.nil | exact Pick.head | apply Pick.tail | apply SubL.cons))))
        · show g.rules.length - (k + 1) < g.rules.length - k; omega
        · refine ⟨by show k + 1 ≤ _; omega, ?_⟩
          rcases hfront with ⟨e1, e2, hno⟩ | ⟨hb0, q0, hq0, hl0, hn0, hv0, hmin⟩
          · refine .inl ⟨e1, e2, ?_⟩
            intro q hq hq0 hq1
            rw [List.take_add_one, hx, List.mem_append] at hq
            rcases hq with hq | hq
            · exact hno q hq hq0 hq1
            · simp only [Option.toList_some, List.mem_singleton] at hq
              (try rw [hq] at hq0); (try rw [hq] at hq1); (try rw [hq])
              exfalso; have a1 : 0 ≤ at0 of0 r.left := by simpa using h39
              omega
          · refine .inr ⟨hb0, q0, hq0, hl0, hn0, hv0, ?_⟩
            intro q hq hq0 hq1
            rw [List.take_add_one, hx, List.mem_append] at hq
            rcases hq with hq | hq
            · exact hmin q hq hq0 hq1
            · simp only [Option.toList_some, List.mem_singleton] at hq
              (try rw [hq] at hq0); (try rw [hq] at hq1); (try rw [hq])
              exfalso; have a1 : 0 ≤ at0 of0 r.left := by simpa using h39
              omega
      · skip
        refine CW_skip ?_
        refine EW_then ?_
        refine CW_seq ?_
        refine CW_region ?_
        first | (refine OW_q (q_loadN_own Try.isAgg41 Try.sizeOf41 rfl rfl (by (repeat (first | exact .head | apply Swap.tail))) (by rfl)) rfl ?_) | (refine OW_q (q_loadN_ro Try.isAgg41 Try.sizeOf41 rfl (by first | assumption | exact Row.at_ (by assumption) rfl) (by rfl)) rfl ?_)
        refine OW_q (q_move rfl) rfl ?_
        refine OW_e (e_call Try.call35 rfl (fun w hw => lift_ro (rrule_any _ _ r of0 w (hsy.mono hw.rd_cl) (hw.intsAt (A' := ints 0 0 []) (by repeat (first | exact .head | apply Swap.tail)) hlen0 (Nat.le_refl _) (by omega)) hst.rng (may_rule hm hx).2.2 hl) hw)) rfl (fun x42 => ?_)
        refine OW_q (q_assign rfl) rfl ?_
        refine OW_nil ?_
        refine EW_then ?_
        refine CW_seq ?_
        refine CW_region ?_
        refine OW_q (q_move rfl) rfl ?_
        refine OW_q (q_geq rfl rfl) rfl ?_
        refine OW_q (q_move rfl) rfl ?_
        refine OW_part (t := 45) rfl (fun hg45 => ?_) (fun hg45 => ?_)
        · skip
          refine OW_wanted rfl rfl rfl ?_
          refine OW_q (q_move rfl) rfl ?_
          refine OW_wanted rfl rfl rfl ?_
          refine OW_q (q_lss rfl rfl) rfl ?_
          refine OW_wanted rfl rfl rfl ?_
          refine OW_q (q_move rfl) rfl ?_
          refine OW_part (t := 48) rfl (fun hg48 => ?_) (fun hg48 => ?_)
          · skip
            refine OW_skip rfl rfl rfl rfl ?_
            refine OW_skip rfl rfl rfl rfl ?_
            refine OW_skip rfl rfl rfl rfl ?_
            refine OW_wanted rfl rfl rfl ?_
            refine OW_q (q_pick_t rfl rfl) rfl ?_
            refine OW_q (q_pick_t rfl rfl) rfl ?_
            refine OW_nil ?_
            refine EW_then ?_
            refine CW_true rfl rfl ?_
            refine CW_seq ?_
            refine CW_region ?_
            refine OW_q (q_move rfl) rfl ?_
            refine OW_q (q_assign rfl) rfl ?_
            refine OW_nil ?_
            refine EW_then ?_
            refine CW_region ?_
            refine OW_q (q_fieldAddr Try.underlying41 rfl rfl Try.sizeOf3 rfl rfl) rfl ?_
            first | (refine OW_q (q_load1_own Try.isAgg3 rfl rfl (by (repeat (first | exact .head | apply Swap.tail))) (by rfl)) rfl ?_) | (refine OW_q (q_load1_ro Try.isAgg3 rfl (by first | assumption | exact Row.at_ (by assumption) rfl)) rfl ?_)
            refine OW_q (q_assign rfl) rfl ?_
            refine OW_nil ?_
            refine EW_block_normal ?_
            refine EW_then ?_
            refine CW_region ?_
            refine OW_q (q_move rfl) rfl ?_
            first | refine OW_q (q_inc rfl rfl (by omega)) rfl ?_ | refine OW_q (q_add rfl rfl (by omega) (by omega)) rfl ?_
            refine OW_q (q_assign rfl) rfl ?_
            refine OW_nil ?_
            refine EW_again ((k + 1, srule of0 r.right 0, r.left)) ⟨?_, ?_⟩ ⟨rfl, rfl, rfl, rfl, rfl, trivial⟩ (fun w hw => hw.sub (by (repeat (first | exact SubL.nil | exact Pick.head | apply Pick.tail | apply SubL.cons))))
            · show g.rules.length - (k + 1) < g.rules.length - k; omega
            · have hv : 0 ≤ srule of0 r.right 0 := by simpa using hg45
              have hneg : at0 of0 r.left < 0 := by have := h39; simp only [decide_eq_false_iff_not] at this; omega
              refine ⟨by show k + 1 ≤ _; omega, .inr ⟨hv, r, hmem, rfl, hneg, rfl, ?_⟩⟩
              show ∀ q ∈ g.rules.take (k + 1), at0 of0 q.left < 0 → 0 ≤ srule of0 q.right 0 → srule of0 r.right 0 ≤ srule of0 q.right 0
              rcases hfront with ⟨e1, e2, hno⟩ | ⟨hb0, q0, hq0, hl0, hn0, hv0, hmin⟩
              · intro q hq hq0 hq1
                rw [List.take_add_one, hx, List.mem_append] at hq
                rcases hq with hq | hq
                · exact absurd hq1 (hno q hq hq0)
                · simp only [Option.toList_some, List.mem_singleton] at hq
                  (try rw [hq] at hq0); (try rw [hq] at hq1); (try rw [hq])
                  exact Int.le_refl _
              · intro q hq hq0 hq1
                rw [List.take_add_one, hx, List.mem_append] at hq
                rcases hq with hq | hq
                · have a1 : best < 0 := by simpa using hg48
                  omega
                · simp only [Option.toList_some, List.mem_singleton] at hq
                  (try rw [hq] at hq0); (try rw [hq] at hq1); (try rw [hq])
                  exact Int.le_refl _
          · skip
            refine OW_wanted rfl rfl rfl ?_
            refine OW_q (q_move rfl) rfl ?_
            refine OW_wanted rfl rfl rfl ?_
            refine OW_q (q_move rfl) rfl ?_
            refine OW_wanted rfl rfl rfl ?_
            refine OW_q (q_lss rfl rfl) rfl ?_
            refine OW_wanted rfl rfl rfl ?_
            refine OW_q (q_pick_f rfl rfl) rfl ?_
            refine OW_q (q_pick_t rfl rfl) rfl ?_
            refine OW_nil ?_
            refine EW_then ?_
            refine CW_cond rfl (fun h53 => ?_) (fun h53 => ?_)
            · skip
              refine CW_seq ?_
              refine CW_region ?_
              refine OW_q (q_move rfl) rfl ?_
              refine OW_q (q_assign rfl) rfl ?_
              refine OW_nil ?_
              refine EW_then ?_
              refine CW_region ?_
              refine OW_q (q_fieldAddr Try.underlying41 rfl rfl Try.sizeOf3 rfl rfl) rfl ?_
              first | (refine OW_q (q_load1_own Try.isAgg3 rfl rfl (by (repeat (first | exact .head | apply Swap.tail))) (by rfl)) rfl ?_) | (refine OW_q (q_load1_ro Try.isAgg3 rfl (by first | assumption | exact Row.at_ (by assumption) rfl)) rfl ?_)
              refine OW_q (q_assign rfl) rfl ?_
              refine OW_nil ?_
              refine EW_block_normal ?_
              refine EW_then ?_
              refine CW_region ?_
              refine OW_q (q_move rfl) rfl ?_
              first | refine OW_q (q_inc rfl rfl (by omega)) rfl ?_ | refine OW_q (q_add rfl rfl (by omega) (by omega)) rfl ?_
              refine OW_q (q_assign rfl) rfl ?_
              refine OW_nil ?_
              refine EW_again ((k + 1, srule of0 r.right 0, r.left)) ⟨?_, ?_⟩ ⟨rfl, rfl, rfl, rfl, rfl, trivial⟩ (fun w hw => hw.sub (by (repeat (first | exact SubL.nil | exact Pick.head | apply Pick.tail | apply SubL.cons))))
              · show g.rules.length - (k + 1) < g.rules.length - k; omega
              · have hv : 0 ≤ srule of0 r.right 0 := by simpa using hg45
                have hneg : at0 of0 r.left < 0 := by have := h39; simp only [decide_eq_false_iff_not] at this; omega
                refine ⟨by show k + 1 ≤ _; omega, .inr ⟨hv, r, hmem, rfl, hneg, rfl, ?_⟩⟩
                show ∀ q ∈ g.rules.take (k + 1), at0 of0 q.left < 0 → 0 ≤ srule of0 q.right 0 → srule of0 r.right 0 ≤ srule of0 q.right 0
                rcases hfront with ⟨e1, e2, hno⟩ | ⟨hb0, q0, hq0, hl0, hn0, hv0, hmin⟩
                · intro q hq hq0 hq1
                  rw [List.take_add_one, hx, List.mem_append] at hq
                  rcases hq with hq | hq
                  · exact absurd hq1 (hno q hq hq0)
                  · simp only [Option.toList_some, List.mem_singleton] at hq
                    (try rw [hq] at hq0); (try rw [hq] at hq1); (try rw [hq])
                    exact Int.le_refl _
                · intro q hq hq0 hq1
                  rw [List.take_add_one, hx, List.mem_append] at hq
                  rcases hq with hq | hq
                  · have a1 : srule of0 r.right 0 < best := by simpa using h53
                    have := hmin q hq hq0 hq1
                    omega
                  · simp only [Option.toList_some, List.mem_singleton] at hq
                    (try rw [hq] at hq0); (try rw [hq] at hq1); (try rw [hq])
                    exact Int.le_refl _
            · skip
              refine CW_skip ?_
              refine EW_block_normal ?_
              refine EW_then ?_
              refine CW_region ?_
              refine OW_q (q_move rfl) rfl ?_
              first | refine OW_q (q_inc rfl rfl (by omega)) rfl ?_ | refine OW_q (q_add rfl rfl (by omega) (by omega)) rfl ?_
              refine OW_q (q_assign rfl) rfl ?_
              refine OW_nil ?_
              refine EW_again ((k + 1, best, who)) ⟨?_, ?_⟩ ⟨rfl, rfl, rfl, rfl, rfl, trivial⟩ (fun w hw => hw.sub (by (repeat (first | exact SubL.nil | exact Pick.head | apply Pick.tail | apply SubL.cons))))
              · show g.rules.length - (k + 1) < g.rules.length - k; omega
              · have a1 : ¬ srule of0 r.right 0 < best := by simpa using h53
                have a2 : ¬ best < 0 := by simpa using hg48
                refine ⟨by show k + 1 ≤ _; omega, ?_⟩
                rcases hfront with ⟨e1, e2, hno⟩ | ⟨hb0, q0, hq0, hl0, hn0, hv0, hmin⟩
                · omega
                · refine .inr ⟨hb0, q0, hq0, hl0, hn0, hv0, ?_⟩
                  intro q hq hq0 hq1
                  rw [List.take_add_one, hx, List.mem_append] at hq
                  rcases hq with hq | hq
                  · exact hmin q hq hq0 hq1
                  · simp only [Option.toList_some, List.mem_singleton] at hq
                    (try rw [hq] at hq0); (try rw [hq] at hq1); (try rw [hq])
                    dsimp only; omega
        · skip
          refine OW_skip rfl rfl rfl rfl ?_
          refine OW_skip rfl rfl rfl rfl ?_
          refine OW_skip rfl rfl rfl rfl ?_
          refine OW_skipU rfl rfl rfl ?_
          refine OW_skipU rfl rfl rfl ?_
          refine OW_skipU rfl rfl rfl ?_
          refine OW_skip rfl rfl rfl rfl ?_
          refine OW_q (q_pick_f rfl rfl) rfl ?_
          refine OW_nil ?_
          refine EW_then ?_
          refine CW_false rfl rfl ?_
          refine CW_skip ?_
          refine EW_block_normal ?_
          refine EW_then ?_
          refine CW_region ?_
          refine OW_q (q_move rfl) rfl ?_
          first | refine OW_q (q_inc rfl rfl (by omega)) rfl ?_ | refine OW_q (q_add rfl rfl (by omega) (by omega)) rfl ?_
          refine OW_q (q_assign rfl) rfl ?_
          refine OW_nil ?_
          refine EW_again ((k + 1, best, who)) ⟨?_, ?_⟩ ⟨rfl, rfl, rfl, rfl, rfl, trivial⟩ (fun w hw => hw.sub (by (repeat (first | exact SubL.nil | exact Pick.head | apply Pick.tail | apply SubL.cons))))
          · show g.rules.length - (k + 1) < g.rules.length - k; omega
          · refine ⟨by show k + 1 ≤ _; omega, ?_⟩
            rcases hfront with ⟨e1, e2, hno⟩ | ⟨hb0, q0, hq0, hl0, hn0, hv0, hmin⟩
            · refine .inl ⟨e1, e2, ?_⟩
              intro q hq hq0 hq1
              rw [List.take_add_one, hx, List.mem_append] at hq
              rcases hq with hq | hq
              · exact hno q hq hq0 hq1
              · simp only [Option.toList_some, List.mem_singleton] at hq
                (try rw [hq] at hq0); (try rw [hq] at hq1); (try rw [hq])
                exfalso; have a1 : ¬ 0 ≤ srule of0 r.right 0 := by simpa using hg45
                exact a1 (by assumption)
            · refine .inr ⟨hb0, q0, hq0, hl0, hn0, hv0, ?_⟩
              intro q hq hq0 hq1
              rw [List.take_add_one, hx, List.mem_append] at hq
              rcases hq with hq | hq
              · exact hmin q hq hq0 hq1
              · simp only [Option.toList_some, List.mem_singleton] at hq
                (try rw [hq] at hq0); (try rw [hq] at hq1); (try rw [hq])
                exfalso; have a1 : ¬ 0 ≤ srule of0 r.right 0 := by simpa using hg45
                exact a1 (by assumption)
    · skip
      have hend := take_all (l := g.rules) (k := k) (by simpa using h26)
      refine CW_exit ?_
      refine EW_then_exit ?_
      refine EW_out ?_
      refine EW_block_exit ?_
      refine EW_then ?_
      refine CW_seq ?_
      refine CW_seq ?_
      refine CW_region ?_
      refine OW_q (q_move rfl) rfl ?_
      refine OW_q (q_lss rfl rfl) rfl ?_
      refine OW_nil ?_
      refine EW_then ?_
      refine CW_cond rfl (fun h58 => ?_) (fun h58 => ?_)
      · skip
        refine CW_seq ?_
        refine CW_region ?_
        refine OW_q (q_move rfl) rfl ?_
        refine OW_q (q_assign rfl) rfl ?_
        refine OW_nil ?_
        refine EW_then ?_
        refine CW_ret ?_
        refine EW_then_ret ?_
        refine EW_block_ret ?_
        refine EW_out_ret ?_
        refine EW_block_ret ?_
        refine ret1 Try.results16 rfl (fun w hw => ?_)
        rcases hfront with ⟨_, _, hno⟩ | ⟨_, q0, hq0, hl0, _⟩
        · exact ⟨(b12, of0), rfl, ⟨hlen0, hst.sound, settled_end hst (fun r hr ⟨h3, h4⟩ => hno r (by rw [hend]; exact hr) h3 h4), hst.rng⟩, hw.sub (by repeat (first | exact SubL.nil | exact Pick.head | apply Pick.tail | apply SubL.cons))⟩
        · have a1 : who < 0 := by simpa using h58
          have := (hall q0 hq0).1
          omega
      · skip
        have hw2 : ¬ who < 0 := by simpa using h58
        rcases hfront with ⟨e1, _, _⟩ | ⟨hb0, q0, hq0, hl0, hn0, hv0, hmin⟩
        · omega
        have hw0 : 0 ≤ who := by omega
        have hw1 : who < (of0.length : Int) := by have := (hall q0 hq0).2.1; omega
        refine CW_skip ?_
        refine EW_then ?_
        refine CW_region ?_
        refine OW_q (q_move rfl) rfl ?_
        refine OW_q (q_move rfl) rfl ?_
        refine OW_q (q_move rfl) rfl ?_
        refine OW_q (q_indexAddrI Try.underlying25 Try.sizeOf3 rfl rfl (by first | omega | assumption) (by first | omega | assumption)) rfl ?_
        refine OW_e0 (e_store_ints Try.sizeOf3 rfl rfl (by (repeat (first | exact .head | apply Swap.tail))) (by omega)) (fun _ => ?_)
        refine OW_nil ?_
        refine EW_block_normal ?_
        refine EW_again ((of0.set who.toNat best, best)) ⟨?_, ?_⟩ ⟨rfl, rfl, trivial⟩ (fun w hw => hw.sub (by (repeat (first | exact SubL.nil | exact Pick.head | apply Pick.tail | apply SubL.cons))))
        · exact negs_set (at0_get hw0 hw1) hb0 hn0
        · refine ⟨by simpa using hlen0, ?_⟩
          rw [← hl0, ← hv0]
          exact settled_step hst (fun r hr => by have := hall r hr; exact ⟨this.1, by omega, fun s hs ht => by have := this.2.2 s hs ht; omega⟩) hq0 (by rw [hl0]; exact hn0) (by rw [hv0]; exact hb0) (fun q hq h3 h4 => by rw [hv0]; exact hmin q (by rw [hend]; exact hq) h3 h4)

end Go.Sy
