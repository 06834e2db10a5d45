/- pollardingref5.Wrong and yields. No condition. -/
import Derived.Test.YteceklkjbcebkabW1
import Derived.Test.YteceklkjbcebkabSyx
import Derived.Test.YteceklkjbcebkabSyv
import Derived.Test.YteceklkjbcebkabPKn
namespace Go.Sy
open Go Go.RowKit Go.Proofs

def wrongE (g : Gram) (tk : List Int) : Int := if mayB g = false then 2 else if 30 < tk.length then 1 else if tk.all (fun x => decide (0 ≤ x) && decide (x < g.terms)) = false then 3 else 0
theorem wrong2 {g : Gram} {tk : List Int} (h : mayB g = false) : wrongE g tk = 2 := by unfold wrongE; rw [if_pos h]
theorem wrong1 {g : Gram} {tk : List Int} (h : mayB g = true) (h2 : 30 < tk.length) : wrongE g tk = 1 := by unfold wrongE; rw [if_neg (by rw [h]; decide), if_pos h2]
theorem wrong3 {g : Gram} {tk : List Int} (h : mayB g = true) (h2 : tk.length ≤ 30) {k : Nat} {x : Int} (hk : tk[k]? = some x) (hx : x < 0 ∨ g.terms ≤ x) : wrongE g tk = 3 := by
  unfold wrongE
  rw [if_neg (by rw [h]; decide), if_neg (by omega), if_pos]
  rw [List.all_eq_false]
  refine ⟨x, List.mem_of_getElem? hk, ?_⟩
  simp; omega
theorem wrong0 {g : Gram} {tk : List Int} (h : mayB g = true) (h2 : tk.length ≤ 30) (hx : ∀ (k : Nat) (x : Int), tk[k]? = some x → 0 ≤ x ∧ x < g.terms) : wrongE g tk = 0 := by
  unfold wrongE
  rw [if_neg (by rw [h]; decide), if_neg (by omega), if_neg]
  rw [Bool.not_eq_false, List.all_eq_true]
  intro x hm
  obtain ⟨i, hi⟩ := List.getElem?_of_mem hm
  simp [hx i x hi]
/-- A row of truths, by places from a first one. -/
def RAt (bl : List Bool) (fr x : Nat) : Prop := bl[x - fr]? = some true
theorem rat_set {bl : List Bool} {fr y z : Nat} (hz : fr ≤ z) (hl : z - fr < bl.length) (hy : fr ≤ y) : RAt (bl.set (z - fr) true) fr y ↔ RAt bl fr y ∨ y = z := by
  unfold RAt
  rw [List.getElem?_set]
  split
  · rename_i h
    have : y = z := by omega
    subst this
    simp
  · rename_i h
    constructor
    · exact .inl
    · rintro (h2 | rfl)
      · exact h2
      · exact absurd rfl h
theorem rat_new {n fr y : Nat} : ¬ RAt (List.replicate n false) fr y := by
  unfold RAt
  rw [List.getElem?_replicate]
  split <;> simp
set_option maxRecDepth 20000 in
theorem wrong_any (gv dv : Value) (g : Gram) (tk : List Int) (w0 : World) (hg : GramAt (Cl w0) gv g) (hd : IntsAt (Cl w0) dv tk) : Calls Try.prog 11 #[gv, dv] w0 (fun e w' => e = .returned (.int .i64 (wrongE g tk)) ∧ Sat (Old w0) w0 [] w') := by
  have hg0 := hg
  obtain ⟨rv, rfl, hr⟩ := hg.mono old_rd
  obtain ⟨a, c, rfl, hc1, hc2, hrs⟩ := id hr
  obtain ⟨ta, tc, rfl, ht1, ht2, hts⟩ := hd.mono old_rd
  clear hg hd
  refine calls_CW Try.func11 rfl Try.ntmps11 rfl (Sat.start w0) ?_
  refine CW_seq ?_
  refine CW_region ?_
  refine OW_e (e_box rfl rfl) rfl (fun b2 => ?_)
  refine OW_q (q_assign rfl) rfl ?_
  refine OW_nil ?_
  refine EW_then ?_
  refine CW_seq ?_
  refine CW_seq ?_
  refine CW_region ?_
  first | (refine OW_q (q_loadN_own Try.isAgg24 Try.sizeOf24 rfl rfl (by (repeat (first | exact .head | apply Swap.tail))) (by rfl)) rfl ?_) | (refine OW_q (q_loadN_ro Try.isAgg24 Try.sizeOf24 rfl (by first | assumption | exact Row.at_ (by assumption) rfl) (by rfl)) rfl ?_)
  refine OW_e (e_call Try.call12 rfl (fun w hw => lift_ro (may1_any _ g w (hg0.mono (fun _ _ h => hw.rd (Rd.old h)))) hw)) rfl (fun x7 => ?_)
  refine OW_q (q_not rfl) rfl ?_
  refine OW_nil ?_
  refine EW_then ?_
  refine CW_cond rfl (fun h8 => ?_) (fun h8 => ?_)
  · skip
    have hE : wrongE g tk = 2 := wrong2 (by simpa using h8)
    refine CW_seq ?_
    refine CW_region ?_
    refine OW_q (q_assign rfl) rfl ?_
    refine OW_nil ?_
    refine EW_then ?_
    refine CW_ret ?_
    refine EW_then_ret ?_
    refine ret1 Try.results11 rfl (fun w hw => ?_)
    exact ⟨by rw [hE], hw.sub .nil⟩
  · skip
    have hm : mayB g = true := by simpa using h8
    refine CW_skip ?_
    refine EW_then ?_
    refine CW_seq ?_
    refine CW_seq ?_
    refine CW_region ?_
    refine OW_q (q_move rfl) rfl ?_
    refine OW_q (q_len Try.underlying32 rfl) rfl ?_
    refine OW_q (q_gtr rfl rfl) rfl ?_
    refine OW_nil ?_
    refine EW_then ?_
    refine CW_cond rfl (fun h11 => ?_) (fun h11 => ?_)
    · skip
      have hE : wrongE g tk = 1 := wrong1 hm (by have := of_decide_eq_true h11; omega)
      refine CW_seq ?_
      refine CW_region ?_
      refine OW_q (q_assign rfl) rfl ?_
      refine OW_nil ?_
      refine EW_then ?_
      refine CW_ret ?_
      refine EW_then_ret ?_
      refine ret1 Try.results11 rfl (fun w hw => ?_)
      exact ⟨by rw [hE], hw.sub .nil⟩
    · skip
      have htk : tk.length ≤ 30 := by have := of_decide_eq_false h11; omega
      refine CW_skip ?_
      refine EW_then ?_
      refine CW_seq ?_
      refine CW_seq ?_
      refine CW_region ?_
      refine OW_q (q_assign rfl) rfl ?_
      refine OW_nil ?_
      refine EW_then ?_
      refine CW_block ?_
      refine CW_loopP (ι := Nat) (fun k => k ≤ tk.length ∧ ∀ j x, j < k → tk[j]? = some x → 0 ≤ x ∧ x < g.terms) (fun k => [(1, .slice ta tk.length tc), (2, .pointer (some ⟨b2, 0, none⟩)), (5, .int .i64 (k : Int))]) (fun k => Sat (Old w0) w0 [cel b2 24 [.int .i64 g.terms, .int .i64 g.names, .slice a g.rules.length c]]) (fun k => tk.length - k) 0 ?_ ⟨rfl, rfl, rfl, trivial⟩ (fun w hw => hw.sub (by (repeat (first | exact SubL.nil | exact Pick.head | apply Pick.tail | apply SubL.cons)))) ?_
      · exact ⟨Nat.zero_le _, fun j x h => absurd h (Nat.not_lt_zero _)⟩
      intro k hpre
      change CW _ _ _ _ [(1, .slice ta tk.length tc), (2, .pointer (some ⟨b2, 0, none⟩)), (5, .int .i64 (k : Int))] (Sat (Old w0) w0 [cel b2 24 [.int .i64 g.terms, .int .i64 g.names, .slice a g.rules.length c]])
      obtain ⟨hk, hall⟩ := hpre
      refine CW_seq ?_
      refine CW_seq ?_
      refine CW_region ?_
      refine OW_q (q_move rfl) rfl ?_
      refine OW_q (q_move rfl) rfl ?_
      refine OW_q (q_len Try.underlying32 rfl) rfl ?_
      refine OW_q (q_lss rfl rfl) rfl ?_
      refine OW_nil ?_
      refine EW_then ?_
      refine CW_cond rfl (fun h15 => ?_) (fun h15 => ?_)
      · skip
        have hlt : k < tk.length := by have := of_decide_eq_true h15; omega
        obtain ⟨x, hx⟩ := get_of_lt hlt
        obtain ⟨pt, rfl, hrt⟩ := hts k x hx
        refine CW_skip ?_
        refine EW_then ?_
        refine CW_seq ?_
        refine CW_block ?_
        refine CW_seq ?_
        refine CW_drawS 14 [(0, false), (1, false), (2, false), (3, false), (4, false), (5, false), (6, false), (7, false), (8, false), (9, false), (10, false), (11, false), (12, false), (13, false)] (by kernel_rfl) (Blind.then (Blind.block (Blind.then (Blind.again (Blind.block (Blind.then (Blind.body (by intro c w h; simp at h)))))))) (by kernel_rfl) (fun w hw => hw.drew) ?_
        refine DW_q rfl (fun w hw => hw.sub (by (repeat (first | exact SubL.nil | exact Pick.head | apply Pick.tail | apply SubL.cons)))) (q_move rfl) rfl ?_
        refine DW_q rfl (fun w hw => hw.sub (by (repeat (first | exact SubL.nil | exact Pick.head | apply Pick.tail | apply SubL.cons)))) (q_move rfl) rfl ?_
        refine DW_q rfl (fun w hw => hw.sub (by (repeat (first | exact SubL.nil | exact Pick.head | apply Pick.tail | apply SubL.cons)))) (q_indexAddr Try.underlying32 Try.sizeOf3 rfl rfl (by first | omega | assumption)) rfl ?_
        refine DW_q rfl (fun w hw => hw.sub (by (repeat (first | exact SubL.nil | exact Pick.head | apply Pick.tail | apply SubL.cons)))) (q_load1_ro Try.isAgg3 rfl (by first | exact hrt)) rfl ?_
        refine DW_q rfl (fun w hw => hw.sub (by (repeat (first | exact SubL.nil | exact Pick.head | apply Pick.tail | apply SubL.cons)))) (q_lss rfl rfl) rfl ?_
        refine DW_q rfl (fun w hw => hw.sub (by (repeat (first | exact SubL.nil | exact Pick.head | apply Pick.tail | apply SubL.cons)))) (q_move rfl) rfl ?_
        refine DW_part (t := 23) rfl (fun hg23 => ?_) (fun hg23 => ?_)
        · skip
          have hx0 : x < 0 := by simpa using hg23
          have hE : wrongE g tk = 3 := wrong3 hm htk hx (.inl hx0)
          refine DW_skip rfl (fun w hw => hw.sub (by (repeat (first | exact SubL.nil | exact Pick.head | apply Pick.tail | apply SubL.cons)))) rfl rfl rfl rfl ?_
          refine DW_skip rfl (fun w hw => hw.sub (by (repeat (first | exact SubL.nil | exact Pick.head | apply Pick.tail | apply SubL.cons)))) rfl rfl rfl rfl ?_
          refine DW_skip rfl (fun w hw => hw.sub (by (repeat (first | exact SubL.nil | exact Pick.head | apply Pick.tail | apply SubL.cons)))) rfl rfl rfl rfl ?_
          refine DW_skip rfl (fun w hw => hw.sub (by (repeat (first | exact SubL.nil | exact Pick.head | apply Pick.tail | apply SubL.cons)))) rfl rfl rfl rfl ?_
          refine DW_skip rfl (fun w hw => hw.sub (by (repeat (first | exact SubL.nil | exact Pick.head | apply Pick.tail | apply SubL.cons)))) rfl rfl rfl rfl ?_
          refine DW_skip rfl (fun w hw => hw.sub (by (repeat (first | exact SubL.nil | exact Pick.head | apply Pick.tail | apply SubL.cons)))) rfl rfl rfl rfl ?_
          refine DW_skip rfl (fun w hw => hw.sub (by (repeat (first | exact SubL.nil | exact Pick.head | apply Pick.tail | apply SubL.cons)))) rfl rfl rfl rfl ?_
          refine DW_q rfl (fun w hw => hw.sub (by (repeat (first | exact SubL.nil | exact Pick.head | apply Pick.tail | apply SubL.cons)))) (q_pick_t rfl rfl) rfl ?_
          refine DW_nil ?_
          refine EW_then ?_
          refine CW_true rfl rfl ?_
          refine CW_seq ?_
          refine CW_region ?_
          refine OW_q (q_assign rfl) rfl ?_
          refine OW_nil ?_
          refine EW_then ?_
          refine CW_ret ?_
          refine EW_block_ret ?_
          refine EW_then_ret ?_
          refine EW_out_ret ?_
          refine EW_block_ret ?_
          refine EW_then_ret ?_
          refine ret1 Try.results11 rfl (fun w hw => ?_)
          exact ⟨by rw [hE], hw.sub .nil⟩
        · skip
          have hx0 : 0 ≤ x := by simpa using hg23
          refine DW_qg rfl (fun w hw => hw.sub (by (repeat (first | exact SubL.nil | exact Pick.head | apply Pick.tail | apply SubL.cons)))) rfl rfl rfl (q_move rfl) rfl ?_
          refine DW_qg rfl (fun w hw => hw.sub (by (repeat (first | exact SubL.nil | exact Pick.head | apply Pick.tail | apply SubL.cons)))) rfl rfl rfl (q_move rfl) rfl ?_
          refine DW_qg rfl (fun w hw => hw.sub (by (repeat (first | exact SubL.nil | exact Pick.head | apply Pick.tail | apply SubL.cons)))) rfl rfl rfl (q_indexAddr Try.underlying32 Try.sizeOf3 rfl rfl (by first | omega | assumption)) rfl ?_
          refine DW_qg rfl (fun w hw => hw.sub (by (repeat (first | exact SubL.nil | exact Pick.head | apply Pick.tail | apply SubL.cons)))) rfl rfl rfl (q_load1_ro Try.isAgg3 rfl (by first | exact hrt)) rfl ?_
          refine DW_qg rfl (fun w hw => hw.sub (by (repeat (first | exact SubL.nil | exact Pick.head | apply Pick.tail | apply SubL.cons)))) rfl rfl rfl (q_fieldAddr Try.underlying24 rfl rfl Try.sizeOf3 rfl rfl) rfl ?_
          first | (refine DW_qg rfl (fun w hw => hw.sub (by (repeat (first | exact SubL.nil | exact Pick.head | apply Pick.tail | apply SubL.cons)))) rfl rfl rfl (q_load1_own Try.isAgg3 rfl rfl (by (repeat (first | exact .head | apply Swap.tail))) (by rfl)) rfl ?_) | (refine DW_qg rfl (fun w hw => hw.sub (by (repeat (first | exact SubL.nil | exact Pick.head | apply Pick.tail | apply SubL.cons)))) rfl rfl rfl (q_load1_ro Try.isAgg3 rfl (by first | assumption | exact Row.at_ (by assumption) rfl)) rfl ?_)
          refine DW_qg rfl (fun w hw => hw.sub (by (repeat (first | exact SubL.nil | exact Pick.head | apply Pick.tail | apply SubL.cons)))) rfl rfl rfl (q_geq rfl rfl) rfl ?_
          refine DW_q rfl (fun w hw => hw.sub (by (repeat (first | exact SubL.nil | exact Pick.head | apply Pick.tail | apply SubL.cons)))) (q_pick_f rfl rfl) rfl ?_
          refine DW_nil ?_
          refine EW_then ?_
          refine CW_cond rfl (fun h31 => ?_) (fun h31 => ?_)
          · skip
            have hE : wrongE g tk = 3 := wrong3 hm htk hx (.inr (by simpa using h31))
            refine CW_seq ?_
            refine CW_region ?_
            refine OW_q (q_assign rfl) rfl ?_
            refine OW_nil ?_
            refine EW_then ?_
            refine CW_ret ?_
            refine EW_block_ret ?_
            refine EW_then_ret ?_
            refine EW_out_ret ?_
            refine EW_block_ret ?_
            refine EW_then_ret ?_
            refine ret1 Try.results11 rfl (fun w hw => ?_)
            exact ⟨by rw [hE], hw.sub .nil⟩
          · skip
            have hxt : x < g.terms := by simpa using h31
            refine CW_skip ?_
            refine EW_block_normal ?_
            refine EW_then ?_
            refine CW_region ?_
            refine OW_q (q_move rfl) rfl ?_
            first | refine OW_q (q_inc rfl rfl (by omega)) rfl ?_ | refine OW_q (q_add rfl rfl (by omega) (by omega)) rfl ?_
            refine OW_q (q_assign rfl) rfl ?_
            refine OW_nil ?_
            refine EW_again (k + 1) ⟨?_, ?_⟩ ⟨rfl, rfl, rfl, trivial⟩ (fun w hw => hw.sub (by (repeat (first | exact SubL.nil | exact Pick.head | apply Pick.tail | apply SubL.cons))))
            · show tk.length - (k + 1) < tk.length - k; omega
            · refine ⟨by omega, fun j x' hj hx' => ?_⟩
              by_cases e : j = k
              · subst e; rw [hx] at hx'; cases hx'; exact ⟨hx0, hxt⟩
              · exact hall j x' (by omega) hx'
      · skip
        have hE : wrongE g tk = 0 := wrong0 hm htk fun j x hj => hall j x (by have := (List.getElem?_eq_some_iff.1 hj).1; have := of_decide_eq_false h15; omega) hj
        refine CW_exit ?_
        refine EW_then_exit ?_
        refine EW_out ?_
        refine EW_block_exit ?_
        refine EW_then ?_
        refine CW_seq ?_
        refine CW_region ?_
        refine OW_q (q_assign rfl) rfl ?_
        refine OW_nil ?_
        refine EW_then ?_
        refine CW_ret ?_
        refine ret1 Try.results11 rfl (fun w hw => ?_)
        exact ⟨by rw [hE], hw.sub .nil⟩

set_option maxRecDepth 20000 in
theorem yieldsK_any (lv tv kv : Value) (l : List Sym) (tk : List Int) (kn : Nat → Nat → Int → Bool) (nm fr tt : Nat) (w : World) (hl : SymsAt (Cl w) lv l) (ht : IntsAt (Cl w) tv tk) (hkn : KnAt (Cl w) kv (tk.length + 1) nm kn) (hls : ∀ s ∈ l, s.term = false → 0 ≤ s.n ∧ s.n < (nm : Int)) (hft : fr ≤ tt) (htt : tt ≤ tk.length) (htk : tk.length ≤ 30) (hl8 : l.length ≤ 1000) : Calls Try.prog 24 #[lv, tv, kv, .int .i64 (fr : Int), .int .i64 (tt : Int)] w (fun e w' => ∃ x : Bool, e = .returned (.bool x) ∧ (x = true ↔ YK kn tk l fr tt) ∧ Sat (Old w) w [] w') := by
  obtain ⟨la, lc, rfl, hl1, hl2, hls'⟩ := hl.mono old_rd
  obtain ⟨ta, tc, rfl, ht1, ht2, hts⟩ := ht.mono old_rd
  obtain ⟨ka, rfl, hka⟩ := hkn.mono old_rd
  clear hl ht hkn
  have hW : ((tt : Int) - (fr : Int) + 1).toNat = tt - fr + 1 := by omega
  refine calls_CW Try.func24 rfl Try.ntmps24 rfl (Sat.start w) ?_
  refine CW_seq ?_
  refine CW_region ?_
  refine OW_q (q_assign rfl) rfl ?_
  refine OW_nil ?_
  refine EW_then ?_
  refine CW_seq ?_
  refine CW_region ?_
  refine OW_q (q_move rfl) rfl ?_
  refine OW_q (q_move rfl) rfl ?_
  refine OW_q (q_sub rfl rfl (by omega) (by omega)) rfl ?_
  first | refine OW_q (q_inc rfl rfl (by omega)) rfl ?_ | refine OW_q (q_add rfl rfl (by omega) (by omega)) rfl ?_
  refine OW_e (e_makeB Try.underlying54 Try.typeInfo4 rfl rfl (by decide) rfl rfl (by omega) (by omega)) rfl (fun b20 => ?_)
  refine OW_q (q_assign rfl) rfl ?_
  refine OW_nil ?_
  refine EW_then ?_
  refine CW_seq ?_
  refine CW_region ?_
  refine OW_q (q_move rfl) rfl ?_
  refine OW_q (q_indexAddrI Try.underlying54 Try.sizeOf4 rfl rfl (by first | omega | assumption) (by first | omega | assumption)) rfl ?_
  refine OW_e0 (e_store_bools Try.sizeOf4 rfl rfl (by (repeat (first | exact .head | apply Swap.tail))) (by rw [List.length_replicate]; omega)) (fun _ => ?_)
  refine OW_nil ?_
  refine EW_then ?_
  refine CW_seq ?_
  refine CW_seq ?_
  refine CW_region ?_
  refine OW_q (q_assign rfl) rfl ?_
  refine OW_nil ?_
  refine EW_then ?_
  refine CW_block ?_
  refine CW_loopP (ι := Nat × Nat × List Bool) (fun i_ => i_.1 ≤ l.length ∧ i_.2.2.length = ((tt : Int) - (fr : Int) + 1).toNat ∧ ∀ x, fr ≤ x → x ≤ tt → (RAt i_.2.2 fr x ↔ YK kn tk (l.take i_.1) fr x)) (fun i_ => [(0, .slice la l.length lc), (1, .slice ta tk.length tc), (2, .slice (some ka) (tk.length + 1) (tk.length + 1)), (3, .int .i64 (fr : Int)), (4, .int .i64 (tt : Int)), (11, .slice (some ⟨i_.2.1, 0, none⟩) (((tt : Int) - (fr : Int) + 1).toNat) (((tt : Int) - (fr : Int) + 1).toNat)), (12, .int .i64 (i_.1 : Int))]) (fun i_ => Sat (Old w) w [bools i_.2.1 4 i_.2.2]) (fun i_ => l.length - i_.1) (0, b20, (List.replicate (((tt : Int) - (fr : Int) + 1).toNat) false).set (0 : Int).toNat true) ?_ ⟨rfl, rfl, rfl, rfl, rfl, rfl, rfl, trivial⟩ (fun w hw => hw.sub (by (repeat (first | exact SubL.nil | exact Pick.head | apply Pick.tail | apply SubL.cons)))) ?_
  · refine ⟨Nat.zero_le _, by rw [List.length_set, List.length_replicate], fun x hx1 hx2 => ?_⟩
    have e0 : (0 : Int).toNat = fr - fr := by omega
    rw [e0, rat_set (Nat.le_refl _) (by rw [List.length_replicate]; omega) hx1]
    constructor
    · rintro (h | rfl)
      · exact absurd h rat_new
      · rfl
    · intro h
      have h : fr = x := h
      exact .inr h.symm
  intro i_ hpre
  obtain ⟨k, ba, bl⟩ := i_
  replace hpre : k ≤ l.length ∧ bl.length = ((tt : Int) - (fr : Int) + 1).toNat ∧ ∀ x, fr ≤ x → x ≤ tt → (RAt bl fr x ↔ YK kn tk (l.take k) fr x) := hpre
  change CW _ _ _ _ [(0, .slice la l.length lc), (1, .slice ta tk.length tc), (2, .slice (some ka) (tk.length + 1) (tk.length + 1)), (3, .int .i64 (fr : Int)), (4, .int .i64 (tt : Int)), (11, .slice (some ⟨ba, 0, none⟩) (((tt : Int) - (fr : Int) + 1).toNat) (((tt : Int) - (fr : Int) + 1).toNat)), (12, .int .i64 (k : Int))] (Sat (Old w) w [bools ba 4 bl])
  obtain ⟨hk, hbl, hat⟩ := hpre
  refine CW_seq ?_
  refine CW_seq ?_
  refine CW_region ?_
  refine OW_q (q_move rfl) rfl ?_
  refine OW_q (q_move rfl) rfl ?_
  refine OW_q (q_len Try.underlying46 rfl) rfl ?_
  refine OW_q (q_lss rfl rfl) rfl ?_
  refine OW_nil ?_
  refine EW_then ?_
  refine CW_cond rfl (fun h26 => ?_) (fun h26 => ?_)
  · skip
    have hlk : k < l.length := by have := of_decide_eq_true h26; omega
    obtain ⟨s, hs⟩ := get_of_lt hlk
    obtain ⟨pl, rfl, hsym⟩ := hls' k s hs
    refine CW_skip ?_
    refine EW_then ?_
    refine CW_seq ?_
    refine CW_block ?_
    refine CW_seq ?_
    refine CW_region ?_
    refine OW_q (q_move rfl) rfl ?_
    refine OW_q (q_move rfl) rfl ?_
    refine OW_q (q_sub rfl rfl (by omega) (by omega)) rfl ?_
    first | refine OW_q (q_inc rfl rfl (by omega)) rfl ?_ | refine OW_q (q_add rfl rfl (by omega) (by omega)) rfl ?_
    refine OW_e (e_makeB Try.underlying54 Try.typeInfo4 rfl rfl (by decide) rfl rfl (by omega) (by omega)) rfl (fun b33 => ?_)
    refine OW_q (q_assign rfl) rfl ?_
    refine OW_nil ?_
    refine EW_then ?_
    refine CW_seq ?_
    refine CW_seq ?_
    refine CW_region ?_
    refine OW_q (q_move rfl) rfl ?_
    refine OW_q (q_assign rfl) rfl ?_
    refine OW_nil ?_
    refine EW_then ?_
    refine CW_block ?_
    refine CW_loopP (ι := Nat × List Bool) (fun i_ => fr ≤ i_.1 ∧ i_.1 ≤ tt + 1 ∧ i_.2.length = ((tt : Int) - (fr : Int) + 1).toNat ∧ ∀ y, fr ≤ y → y ≤ tt → (RAt i_.2 fr y ↔ (∃ x, fr ≤ x ∧ x < i_.1 ∧ RAt bl fr x ∧ Stp kn tk s x y))) (fun i_ => [(0, .slice (some pl) l.length lc), (1, .slice ta tk.length tc), (2, .slice (some ka) (tk.length + 1) (tk.length + 1)), (3, .int .i64 (fr : Int)), (4, .int .i64 (tt : Int)), (11, .slice (some ⟨ba, 0, none⟩) (((tt : Int) - (fr : Int) + 1).toNat) (((tt : Int) - (fr : Int) + 1).toNat)), (12, .int .i64 (k : Int)), (13, .slice (some ⟨b33, 0, none⟩) (((tt : Int) - (fr : Int) + 1).toNat) (((tt : Int) - (fr : Int) + 1).toNat)), (14, .int .i64 (i_.1 : Int))]) (fun i_ => Sat (Old w) w [bools ba 4 bl, bools b33 4 i_.2]) (fun i_ => tt + 1 - i_.1) (fr, List.replicate (((tt : Int) - (fr : Int) + 1).toNat) false) ?_ ⟨rfl, rfl, rfl, rfl, rfl, rfl, rfl, rfl, rfl, trivial⟩ (fun w hw => hw.sub (by (repeat (first | exact SubL.nil | exact Pick.head | apply Pick.tail | apply SubL.cons)))) ?_
    · refine ⟨Nat.le_refl _, by show fr ≤ tt + 1; omega, List.length_replicate, fun y hy1 hy2 => ?_⟩
      constructor
      · intro h; exact absurd h rat_new
      · rintro ⟨x, e1, e2, _⟩
        have e2 : x < fr := e2
        omega
    intro i_ hpre
    obtain ⟨i, nl⟩ := i_
    replace hpre : fr ≤ i ∧ i ≤ tt + 1 ∧ nl.length = ((tt : Int) - (fr : Int) + 1).toNat ∧ ∀ y, fr ≤ y → y ≤ tt → (RAt nl fr y ↔ (∃ x, fr ≤ x ∧ x < i ∧ RAt bl fr x ∧ Stp kn tk s x y)) := hpre
    change CW _ _ _ _ [(0, .slice (some pl) l.length lc), (1, .slice ta tk.length tc), (2, .slice (some ka) (tk.length + 1) (tk.length + 1)), (3, .int .i64 (fr : Int)), (4, .int .i64 (tt : Int)), (11, .slice (some ⟨ba, 0, none⟩) (((tt : Int) - (fr : Int) + 1).toNat) (((tt : Int) - (fr : Int) + 1).toNat)), (12, .int .i64 (k : Int)), (13, .slice (some ⟨b33, 0, none⟩) (((tt : Int) - (fr : Int) + 1).toNat) (((tt : Int) - (fr : Int) + 1).toNat)), (14, .int .i64 (i : Int))] (Sat (Old w) w [bools ba 4 bl, bools b33 4 nl])
    obtain ⟨hi1, hi2, hln, hnx⟩ := hpre
    refine CW_seq ?_
    refine CW_seq ?_
    refine CW_region ?_
    refine OW_q (q_move rfl) rfl ?_
    refine OW_q (q_move rfl) rfl ?_
    refine OW_q (q_leq rfl rfl) rfl ?_
    refine OW_nil ?_
    refine EW_then ?_
    refine CW_cond rfl (fun h37 => ?_) (fun h37 => ?_)
    · skip
      have hit : i ≤ tt := by have := of_decide_eq_true h37; omega
      obtain ⟨yi, hyi⟩ := get_of_lt (l := bl) (k := ((i : Int) - (fr : Int)).toNat) (by omega)
      refine CW_skip ?_
      refine EW_then ?_
      refine CW_seq ?_
      refine CW_block ?_
      refine CW_seq ?_
      refine CW_seq ?_
      refine CW_region ?_
      refine OW_q (q_move rfl) rfl ?_
      refine OW_q (q_move rfl) rfl ?_
      refine OW_q (q_move rfl) rfl ?_
      refine OW_q (q_sub rfl rfl (by omega) (by omega)) rfl ?_
      refine OW_q (q_indexAddrI Try.underlying54 Try.sizeOf4 rfl rfl (by first | omega | assumption) (by first | omega | assumption)) rfl ?_
      refine OW_q (q_load_bools Try.isAgg4 rfl (by (repeat (first | exact .head | apply Swap.tail))) (by exact hyi)) rfl ?_
      refine OW_q (q_not rfl) rfl ?_
      refine OW_nil ?_
      refine EW_then ?_
      refine CW_cond rfl (fun h46 => ?_) (fun h46 => ?_)
      · skip
        have hyi' : ¬ RAt bl fr i := by
          unfold RAt
          rw [show i - fr = ((i : Int) - (fr : Int)).toNat by omega, hyi]
          simp at h46
          simp [h46]
        refine CW_exit ?_
        refine EW_then_exit ?_
        refine EW_block_exit ?_
        refine EW_then ?_
        refine CW_region ?_
        refine OW_q (q_move rfl) rfl ?_
        first | refine OW_q (q_inc rfl rfl (by omega)) rfl ?_ | refine OW_q (q_add rfl rfl (by omega) (by omega)) rfl ?_
        refine OW_q (q_assign rfl) rfl ?_
        refine OW_nil ?_
        refine EW_again ((i + 1, nl)) ⟨?_, ?_⟩ ⟨rfl, rfl, rfl, rfl, rfl, rfl, rfl, rfl, rfl, trivial⟩ (fun w hw => hw.sub (by (repeat (first | exact SubL.nil | exact Pick.head | apply Pick.tail | apply SubL.cons))))
        · show tt + 1 - (i + 1) < tt + 1 - i; omega
        · refine ⟨by show fr ≤ i + 1; omega, by show i + 1 ≤ tt + 1; omega, by first | exact hln | exact hln2 | (rw [List.length_set]; exact hln), fun y hy1 hy2 => ?_⟩
          show _ ↔ (∃ x, fr ≤ x ∧ x < i + 1 ∧ RAt bl fr x ∧ Stp kn tk s x y)
          constructor
          · intro h
            obtain ⟨x, e1, e2, e3⟩ := (hnx y hy1 hy2).1 h
            exact ⟨x, e1, by omega, e3⟩
          · rintro ⟨x, e1, e2, e3, e4⟩
            by_cases e : x = i
            · subst e
              exfalso
              exact hyi' e3
            · exact (hnx y hy1 hy2).2 ⟨x, e1, by omega, e3, e4⟩
      · skip
        have hyi' : RAt bl fr i := by
          unfold RAt
          rw [show i - fr = ((i : Int) - (fr : Int)).toNat by omega, hyi]
          simp at h46
          simp [h46]
        refine CW_skip ?_
        refine EW_then ?_
        refine CW_seq ?_
        refine CW_seq ?_
        refine CW_region ?_
        refine OW_q (q_move rfl) rfl ?_
        refine OW_q (q_move rfl) rfl ?_
        refine OW_q (q_indexAddr Try.underlying46 Try.sizeOf51 rfl rfl (by first | omega | assumption)) rfl ?_
        refine OW_q (q_fieldAddr Try.underlying51 rfl rfl Try.sizeOf4 rfl rfl) rfl ?_
        refine OW_q (q_load1_ro Try.isAgg4 rfl (by first | exact Row.at0 hsym)) rfl ?_
        refine OW_nil ?_
        refine EW_then ?_
        refine CW_cond rfl (fun h51 => ?_) (fun h51 => ?_)
        · skip
          have hst : s.term = true := h51
          refine CW_seq ?_
          refine CW_seq ?_
          refine CW_drawS 15 [(0, false), (1, false), (2, false), (3, false), (4, false), (5, false), (6, false), (7, false), (8, false), (9, false), (10, false), (11, false), (12, false), (13, false), (14, false)] (by kernel_rfl) (Blind.then (Blind.then (Blind.then (Blind.block (Blind.then (Blind.again (Blind.block (Blind.then (Blind.block (Blind.then (Blind.again (Blind.block (Blind.then (Blind.body (by intro c w h; simp at h))))))))))))))) (by kernel_rfl) (fun w hw => hw.drew) ?_
          refine DW_q rfl (fun w hw => hw.sub (by (repeat (first | exact SubL.nil | exact Pick.head | apply Pick.tail | apply SubL.cons)))) (q_move rfl) rfl ?_
          refine DW_q rfl (fun w hw => hw.sub (by (repeat (first | exact SubL.nil | exact Pick.head | apply Pick.tail | apply SubL.cons)))) (q_move rfl) rfl ?_
          refine DW_q rfl (fun w hw => hw.sub (by (repeat (first | exact SubL.nil | exact Pick.head | apply Pick.tail | apply SubL.cons)))) (q_lss rfl rfl) rfl ?_
          refine DW_q rfl (fun w hw => hw.sub (by (repeat (first | exact SubL.nil | exact Pick.head | apply Pick.tail | apply SubL.cons)))) (q_move rfl) rfl ?_
          refine DW_part (t := 55) rfl (fun hg55 => ?_) (fun hg55 => ?_)
          · skip
            have hitt : i < tt := by have := of_decide_eq_true hg55; omega
            have hil : i < tk.length := by have := of_decide_eq_true hg55; omega
            obtain ⟨x, hx⟩ := get_of_lt hil
            obtain ⟨pt, rfl, hrt⟩ := hts i x hx
            refine DW_qg rfl (fun w hw => hw.sub (by (repeat (first | exact SubL.nil | exact Pick.head | apply Pick.tail | apply SubL.cons)))) rfl rfl rfl (q_move rfl) rfl ?_
            refine DW_qg rfl (fun w hw => hw.sub (by (repeat (first | exact SubL.nil | exact Pick.head | apply Pick.tail | apply SubL.cons)))) rfl rfl rfl (q_move rfl) rfl ?_
            refine DW_qg rfl (fun w hw => hw.sub (by (repeat (first | exact SubL.nil | exact Pick.head | apply Pick.tail | apply SubL.cons)))) rfl rfl rfl (q_indexAddr Try.underlying32 Try.sizeOf3 rfl rfl (by first | omega | assumption)) rfl ?_
            refine DW_qg rfl (fun w hw => hw.sub (by (repeat (first | exact SubL.nil | exact Pick.head | apply Pick.tail | apply SubL.cons)))) rfl rfl rfl (q_load1_ro Try.isAgg3 rfl (by first | exact hrt)) rfl ?_
            refine DW_qg rfl (fun w hw => hw.sub (by (repeat (first | exact SubL.nil | exact Pick.head | apply Pick.tail | apply SubL.cons)))) rfl rfl rfl (q_move rfl) rfl ?_
            refine DW_qg rfl (fun w hw => hw.sub (by (repeat (first | exact SubL.nil | exact Pick.head | apply Pick.tail | apply SubL.cons)))) rfl rfl rfl (q_move rfl) rfl ?_
            refine DW_qg rfl (fun w hw => hw.sub (by (repeat (first | exact SubL.nil | exact Pick.head | apply Pick.tail | apply SubL.cons)))) rfl rfl rfl (q_indexAddr Try.underlying46 Try.sizeOf51 rfl rfl (by first | omega | assumption)) rfl ?_
            refine DW_qg rfl (fun w hw => hw.sub (by (repeat (first | exact SubL.nil | exact Pick.head | apply Pick.tail | apply SubL.cons)))) rfl rfl rfl (q_fieldAddr Try.underlying51 rfl rfl Try.sizeOf3 rfl rfl) rfl ?_
            refine DW_qg rfl (fun w hw => hw.sub (by (repeat (first | exact SubL.nil | exact Pick.head | apply Pick.tail | apply SubL.cons)))) rfl rfl rfl (q_load1_ro Try.isAgg3 rfl (by first | exact hsym.at_ (j := 1) rfl)) rfl ?_
            refine DW_qg rfl (fun w hw => hw.sub (by (repeat (first | exact SubL.nil | exact Pick.head | apply Pick.tail | apply SubL.cons)))) rfl rfl rfl (q_eqi rfl rfl) rfl ?_
            refine DW_q rfl (fun w hw => hw.sub (by (repeat (first | exact SubL.nil | exact Pick.head | apply Pick.tail | apply SubL.cons)))) (q_pick_t rfl rfl) rfl ?_
            refine DW_nil ?_
            refine EW_then ?_
            refine CW_cond rfl (fun h66 => ?_) (fun h66 => ?_)
            · skip
              have hxs : x = s.n := by simpa using h66
              refine CW_region ?_
              refine OW_q (q_move rfl) rfl ?_
              refine OW_q (q_move rfl) rfl ?_
              first | refine OW_q (q_inc rfl rfl (by omega)) rfl ?_ | refine OW_q (q_add rfl rfl (by omega) (by omega)) rfl ?_
              refine OW_q (q_move rfl) rfl ?_
              refine OW_q (q_sub rfl rfl (by omega) (by omega)) rfl ?_
              refine OW_q (q_indexAddrI Try.underlying54 Try.sizeOf4 rfl rfl (by first | omega | assumption) (by first | omega | assumption)) rfl ?_
              refine OW_e0 (e_store_bools Try.sizeOf4 rfl rfl (by (repeat (first | exact .head | apply Swap.tail))) (by first | omega | assumption)) (fun _ => ?_)
              refine OW_nil ?_
              refine EW_then ?_
              refine CW_exit ?_
              refine EW_then_exit ?_
              refine EW_block_exit ?_
              refine EW_then ?_
              refine CW_region ?_
              refine OW_q (q_move rfl) rfl ?_
              first | refine OW_q (q_inc rfl rfl (by omega)) rfl ?_ | refine OW_q (q_add rfl rfl (by omega) (by omega)) rfl ?_
              refine OW_q (q_assign rfl) rfl ?_
              refine OW_nil ?_
              refine EW_again ((i + 1, nl.set ((i : Int) + 1 - (fr : Int)).toNat true)) ⟨?_, ?_⟩ ⟨rfl, rfl, rfl, rfl, rfl, rfl, rfl, rfl, rfl, trivial⟩ (fun w hw => hw.sub (by (repeat (first | exact SubL.nil | exact Pick.head | apply Pick.tail | apply SubL.cons))))
              · show tt + 1 - (i + 1) < tt + 1 - i; omega
              · refine ⟨by show fr ≤ i + 1; omega, by show i + 1 ≤ tt + 1; omega, by first | exact hln | exact hln2 | (rw [List.length_set]; exact hln), fun y hy1 hy2 => ?_⟩
                show _ ↔ (∃ x, fr ≤ x ∧ x < i + 1 ∧ RAt bl fr x ∧ Stp kn tk s x y)
                have hz : ((i : Int) + 1 - (fr : Int)).toNat = i + 1 - fr := by omega
                rw [hz, rat_set (by omega) (by omega) hy1]
                constructor
                · rintro (h | rfl)
                  · obtain ⟨x, e1, e2, e3⟩ := (hnx y hy1 hy2).1 h
                    exact ⟨x, e1, by omega, e3⟩
                  · refine ⟨i, by omega, by omega, hyi', ?_⟩
                    unfold Stp
                    rw [if_pos hst]
                    exact ⟨rfl, by rw [hx]; exact congrArg some hxs⟩
                · rintro ⟨x, e1, e2, e3, e4⟩
                  by_cases e : x = i
                  · subst e
                    unfold Stp at e4
                    rw [if_pos hst] at e4
                    exact .inr e4.1
                  · exact .inl ((hnx y hy1 hy2).2 ⟨x, e1, by omega, e3, e4⟩)
            · skip
              refine CW_skip ?_
              refine EW_then ?_
              refine CW_exit ?_
              refine EW_then_exit ?_
              refine EW_block_exit ?_
              refine EW_then ?_
              refine CW_region ?_
              refine OW_q (q_move rfl) rfl ?_
              first | refine OW_q (q_inc rfl rfl (by omega)) rfl ?_ | refine OW_q (q_add rfl rfl (by omega) (by omega)) rfl ?_
              refine OW_q (q_assign rfl) rfl ?_
              refine OW_nil ?_
              refine EW_again ((i + 1, nl)) ⟨?_, ?_⟩ ⟨rfl, rfl, rfl, rfl, rfl, rfl, rfl, rfl, rfl, trivial⟩ (fun w hw => hw.sub (by (repeat (first | exact SubL.nil | exact Pick.head | apply Pick.tail | apply SubL.cons))))
              · show tt + 1 - (i + 1) < tt + 1 - i; omega
              · refine ⟨by show fr ≤ i + 1; omega, by show i + 1 ≤ tt + 1; omega, by first | exact hln | exact hln2 | (rw [List.length_set]; exact hln), fun y hy1 hy2 => ?_⟩
                show _ ↔ (∃ x, fr ≤ x ∧ x < i + 1 ∧ RAt bl fr x ∧ Stp kn tk s x y)
                constructor
                · intro h
                  obtain ⟨x, e1, e2, e3⟩ := (hnx y hy1 hy2).1 h
                  exact ⟨x, e1, by omega, e3⟩
                · rintro ⟨x, e1, e2, e3, e4⟩
                  by_cases e : x = i
                  · subst e
                    exfalso
                    unfold Stp at e4
                    rw [if_pos hst, hx] at e4
                    have := Option.some.inj e4.2
                    exact absurd h66 (by simp [this])
                  · exact (hnx y hy1 hy2).2 ⟨x, e1, by omega, e3, e4⟩
          · skip
            refine DW_skip rfl (fun w hw => hw.sub (by (repeat (first | exact SubL.nil | exact Pick.head | apply Pick.tail | apply SubL.cons)))) rfl rfl rfl rfl ?_
            refine DW_skip rfl (fun w hw => hw.sub (by (repeat (first | exact SubL.nil | exact Pick.head | apply Pick.tail | apply SubL.cons)))) rfl rfl rfl rfl ?_
            refine DW_skip rfl (fun w hw => hw.sub (by (repeat (first | exact SubL.nil | exact Pick.head | apply Pick.tail | apply SubL.cons)))) rfl rfl rfl rfl ?_
            refine DW_skip rfl (fun w hw => hw.sub (by (repeat (first | exact SubL.nil | exact Pick.head | apply Pick.tail | apply SubL.cons)))) rfl rfl rfl rfl ?_
            refine DW_skip rfl (fun w hw => hw.sub (by (repeat (first | exact SubL.nil | exact Pick.head | apply Pick.tail | apply SubL.cons)))) rfl rfl rfl rfl ?_
            refine DW_skip rfl (fun w hw => hw.sub (by (repeat (first | exact SubL.nil | exact Pick.head | apply Pick.tail | apply SubL.cons)))) rfl rfl rfl rfl ?_
            refine DW_skip rfl (fun w hw => hw.sub (by (repeat (first | exact SubL.nil | exact Pick.head | apply Pick.tail | apply SubL.cons)))) rfl rfl rfl rfl ?_
            refine DW_skip rfl (fun w hw => hw.sub (by (repeat (first | exact SubL.nil | exact Pick.head | apply Pick.tail | apply SubL.cons)))) rfl rfl rfl rfl ?_
            refine DW_skip rfl (fun w hw => hw.sub (by (repeat (first | exact SubL.nil | exact Pick.head | apply Pick.tail | apply SubL.cons)))) rfl rfl rfl rfl ?_
            refine DW_skip rfl (fun w hw => hw.sub (by (repeat (first | exact SubL.nil | exact Pick.head | apply Pick.tail | apply SubL.cons)))) rfl rfl rfl rfl ?_
            refine DW_q rfl (fun w hw => hw.sub (by (repeat (first | exact SubL.nil | exact Pick.head | apply Pick.tail | apply SubL.cons)))) (q_pick_f rfl rfl) rfl ?_
            refine DW_nil ?_
            refine EW_then ?_
            refine CW_false rfl rfl ?_
            refine CW_skip ?_
            refine EW_then ?_
            refine CW_exit ?_
            refine EW_then_exit ?_
            refine EW_block_exit ?_
            refine EW_then ?_
            refine CW_region ?_
            refine OW_q (q_move rfl) rfl ?_
            first | refine OW_q (q_inc rfl rfl (by omega)) rfl ?_ | refine OW_q (q_add rfl rfl (by omega) (by omega)) rfl ?_
            refine OW_q (q_assign rfl) rfl ?_
            refine OW_nil ?_
            refine EW_again ((i + 1, nl)) ⟨?_, ?_⟩ ⟨rfl, rfl, rfl, rfl, rfl, rfl, rfl, rfl, rfl, trivial⟩ (fun w hw => hw.sub (by (repeat (first | exact SubL.nil | exact Pick.head | apply Pick.tail | apply SubL.cons))))
            · show tt + 1 - (i + 1) < tt + 1 - i; omega
            · refine ⟨by show fr ≤ i + 1; omega, by show i + 1 ≤ tt + 1; omega, by first | exact hln | exact hln2 | (rw [List.length_set]; exact hln), fun y hy1 hy2 => ?_⟩
              show _ ↔ (∃ x, fr ≤ x ∧ x < i + 1 ∧ RAt bl fr x ∧ Stp kn tk s x y)
              constructor
              · intro h
                obtain ⟨x, e1, e2, e3⟩ := (hnx y hy1 hy2).1 h
                exact ⟨x, e1, by omega, e3⟩
              · rintro ⟨x, e1, e2, e3, e4⟩
                by_cases e : x = i
                · subst e
                  exfalso
                  have := stp_le e4
                  unfold Stp at e4
                  rw [if_pos hst] at e4
                  have := of_decide_eq_false hg55
                  omega
                · exact (hnx y hy1 hy2).2 ⟨x, e1, by omega, e3, e4⟩
        · skip
          have hst : s.term = false := h51
          have hsn := hls s (List.mem_of_getElem? hs) hst
          obtain ⟨a2, h2a, h2b⟩ := hka i (by omega)
          refine CW_skip ?_
          refine EW_then ?_
          refine CW_seq ?_
          refine CW_region ?_
          refine OW_q (q_move rfl) rfl ?_
          refine OW_q (q_assign rfl) rfl ?_
          refine OW_nil ?_
          refine EW_then ?_
          refine CW_block ?_
          refine CW_loopP (ι := Nat × List Bool) (fun i_ => i ≤ i_.1 ∧ i_.1 ≤ tt + 1 ∧ i_.2.length = ((tt : Int) - (fr : Int) + 1).toNat ∧ ∀ y, fr ≤ y → y ≤ tt → (RAt i_.2 fr y ↔ (∃ x, fr ≤ x ∧ x < i ∧ RAt bl fr x ∧ Stp kn tk s x y) ∨ (y < i_.1 ∧ Stp kn tk s i y))) (fun i_ => [(0, .slice (some pl) l.length lc), (1, .slice ta tk.length tc), (2, .slice (some ka) (tk.length + 1) (tk.length + 1)), (3, .int .i64 (fr : Int)), (4, .int .i64 (tt : Int)), (11, .slice (some ⟨ba, 0, none⟩) (((tt : Int) - (fr : Int) + 1).toNat) (((tt : Int) - (fr : Int) + 1).toNat)), (12, .int .i64 (k : Int)), (13, .slice (some ⟨b33, 0, none⟩) (((tt : Int) - (fr : Int) + 1).toNat) (((tt : Int) - (fr : Int) + 1).toNat)), (14, .int .i64 (i : Int)), (15, .int .i64 (i_.1 : Int))]) (fun i_ => Sat (Old w) w [bools ba 4 bl, bools b33 4 i_.2]) (fun i_ => tt + 1 - i_.1) (i, nl) ?_ ⟨rfl, rfl, rfl, rfl, rfl, rfl, rfl, rfl, rfl, rfl, trivial⟩ (fun w hw => hw.sub (by (repeat (first | exact SubL.nil | exact Pick.head | apply Pick.tail | apply SubL.cons)))) ?_
          · refine ⟨Nat.le_refl _, by show i ≤ tt + 1; omega, hln, fun y hy1 hy2 => (hnx y hy1 hy2).trans ?_⟩
            constructor
            · exact .inl
            · rintro (h | ⟨h1, h2⟩)
              · exact h
              · have h1 : y < i := h1
                have := stp_le h2
                omega
          intro i_ hpre
          obtain ⟨j, nl2⟩ := i_
          replace hpre : i ≤ j ∧ j ≤ tt + 1 ∧ nl2.length = ((tt : Int) - (fr : Int) + 1).toNat ∧ ∀ y, fr ≤ y → y ≤ tt → (RAt nl2 fr y ↔ (∃ x, fr ≤ x ∧ x < i ∧ RAt bl fr x ∧ Stp kn tk s x y) ∨ (y < j ∧ Stp kn tk s i y)) := hpre
          change CW _ _ _ _ [(0, .slice (some pl) l.length lc), (1, .slice ta tk.length tc), (2, .slice (some ka) (tk.length + 1) (tk.length + 1)), (3, .int .i64 (fr : Int)), (4, .int .i64 (tt : Int)), (11, .slice (some ⟨ba, 0, none⟩) (((tt : Int) - (fr : Int) + 1).toNat) (((tt : Int) - (fr : Int) + 1).toNat)), (12, .int .i64 (k : Int)), (13, .slice (some ⟨b33, 0, none⟩) (((tt : Int) - (fr : Int) + 1).toNat) (((tt : Int) - (fr : Int) + 1).toNat)), (14, .int .i64 (i : Int)), (15, .int .i64 (j : Int))] (Sat (Old w) w [bools ba 4 bl, bools b33 4 nl2])
          obtain ⟨hj1, hj2, hln2, hnx2⟩ := hpre
          refine CW_seq ?_
          refine CW_seq ?_
          refine CW_region ?_
          refine OW_q (q_move rfl) rfl ?_
          refine OW_q (q_move rfl) rfl ?_
          refine OW_q (q_leq rfl rfl) rfl ?_
          refine OW_nil ?_
          refine EW_then ?_
          refine CW_cond rfl (fun h76 => ?_) (fun h76 => ?_)
          · skip
            have hjt : j ≤ tt := by have := of_decide_eq_true h76; omega
            obtain ⟨a3, h3a, h4a⟩ := h2b j (by omega)
            refine CW_skip ?_
            refine EW_then ?_
            refine CW_seq ?_
            refine CW_block ?_
            refine CW_seq ?_
            refine CW_drawS 14 [(0, false), (1, false), (2, false), (3, false), (4, false), (5, false), (6, false), (7, false), (8, false), (9, false), (10, false), (11, false), (12, false), (13, false)] (by kernel_rfl) (Blind.then (Blind.block (Blind.then (Blind.again (Blind.block (Blind.block (Blind.then (Blind.again (Blind.block (Blind.then (Blind.block (Blind.then (Blind.again (Blind.block (Blind.then (Blind.body (by intro c w h; simp at h))))))))))))))))) (by kernel_rfl) (fun w hw => hw.drew) ?_
            refine DW_q rfl (fun w hw => hw.sub (by (repeat (first | exact SubL.nil | exact Pick.head | apply Pick.tail | apply SubL.cons)))) (q_move rfl) rfl ?_
            refine DW_q rfl (fun w hw => hw.sub (by (repeat (first | exact SubL.nil | exact Pick.head | apply Pick.tail | apply SubL.cons)))) (q_move rfl) rfl ?_
            refine DW_q rfl (fun w hw => hw.sub (by (repeat (first | exact SubL.nil | exact Pick.head | apply Pick.tail | apply SubL.cons)))) (q_indexAddr Try.underlying52 Try.sizeOf53 rfl rfl (by first | omega | assumption)) rfl ?_
            refine DW_q rfl (fun w hw => hw.sub (by (repeat (first | exact SubL.nil | exact Pick.head | apply Pick.tail | apply SubL.cons)))) (q_load1_ro Try.isAgg53 rfl (by first | exact h2a)) rfl ?_
            refine DW_q rfl (fun w hw => hw.sub (by (repeat (first | exact SubL.nil | exact Pick.head | apply Pick.tail | apply SubL.cons)))) (q_move rfl) rfl ?_
            refine DW_q rfl (fun w hw => hw.sub (by (repeat (first | exact SubL.nil | exact Pick.head | apply Pick.tail | apply SubL.cons)))) (q_indexAddr Try.underlying53 Try.sizeOf54 rfl rfl (by first | omega | assumption)) rfl ?_
            refine DW_q rfl (fun w hw => hw.sub (by (repeat (first | exact SubL.nil | exact Pick.head | apply Pick.tail | apply SubL.cons)))) (q_load1_ro Try.isAgg54 rfl (by first | exact h3a)) rfl ?_
            refine DW_q rfl (fun w hw => hw.sub (by (repeat (first | exact SubL.nil | exact Pick.head | apply Pick.tail | apply SubL.cons)))) (q_move rfl) rfl ?_
            refine DW_q rfl (fun w hw => hw.sub (by (repeat (first | exact SubL.nil | exact Pick.head | apply Pick.tail | apply SubL.cons)))) (q_move rfl) rfl ?_
            refine DW_q rfl (fun w hw => hw.sub (by (repeat (first | exact SubL.nil | exact Pick.head | apply Pick.tail | apply SubL.cons)))) (q_indexAddr Try.underlying46 Try.sizeOf51 rfl rfl (by first | omega | assumption)) rfl ?_
            refine DW_q rfl (fun w hw => hw.sub (by (repeat (first | exact SubL.nil | exact Pick.head | apply Pick.tail | apply SubL.cons)))) (q_fieldAddr Try.underlying51 rfl rfl Try.sizeOf3 rfl rfl) rfl ?_
            refine DW_q rfl (fun w hw => hw.sub (by (repeat (first | exact SubL.nil | exact Pick.head | apply Pick.tail | apply SubL.cons)))) (q_load1_ro Try.isAgg3 rfl (by first | exact hsym.at_ (j := 1) rfl)) rfl ?_
            refine DW_q rfl (fun w hw => hw.sub (by (repeat (first | exact SubL.nil | exact Pick.head | apply Pick.tail | apply SubL.cons)))) (q_indexAddrI Try.underlying54 Try.sizeOf4 rfl rfl (by first | omega | assumption) (by first | omega | assumption)) rfl ?_
            refine DW_q rfl (fun w hw => hw.sub (by (repeat (first | exact SubL.nil | exact Pick.head | apply Pick.tail | apply SubL.cons)))) (q_load1_ro Try.isAgg4 rfl (by first | exact h4a _ hsn.1 hsn.2)) rfl ?_
            refine DW_nil ?_
            refine EW_then ?_
            refine CW_cond rfl (fun h92 => ?_) (fun h92 => ?_)
            · skip
              refine CW_region ?_
              refine OW_q (q_move rfl) rfl ?_
              refine OW_q (q_move rfl) rfl ?_
              refine OW_q (q_move rfl) rfl ?_
              refine OW_q (q_sub rfl rfl (by omega) (by omega)) rfl ?_
              refine OW_q (q_indexAddrI Try.underlying54 Try.sizeOf4 rfl rfl (by first | omega | assumption) (by first | omega | assumption)) rfl ?_
              refine OW_e0 (e_store_bools Try.sizeOf4 rfl rfl (by (repeat (first | exact .head | apply Swap.tail))) (by first | omega | assumption)) (fun _ => ?_)
              refine OW_nil ?_
              refine EW_block_normal ?_
              refine EW_then ?_
              refine CW_region ?_
              refine OW_q (q_move rfl) rfl ?_
              first | refine OW_q (q_inc rfl rfl (by omega)) rfl ?_ | refine OW_q (q_add rfl rfl (by omega) (by omega)) rfl ?_
              refine OW_q (q_assign rfl) rfl ?_
              refine OW_nil ?_
              refine EW_again ((j + 1, nl2.set ((j : Int) - (fr : Int)).toNat true)) ⟨?_, ?_⟩ ⟨rfl, rfl, rfl, rfl, rfl, rfl, rfl, rfl, rfl, rfl, trivial⟩ (fun w hw => hw.sub (by (repeat (first | exact SubL.nil | exact Pick.head | apply Pick.tail | apply SubL.cons))))
              · show tt + 1 - (j + 1) < tt + 1 - j; omega
              · refine ⟨by show i ≤ j + 1; omega, by show j + 1 ≤ tt + 1; omega, by show (nl2.set _ true).length = _; rw [List.length_set]; exact hln2, fun y hy1 hy2 => ?_⟩
                show _ ↔ _ ∨ (y < j + 1 ∧ _)
                have hz : ((j : Int) - (fr : Int)).toNat = j - fr := by omega
                show RAt (nl2.set _ true) fr y ↔ _
                rw [hz, rat_set (by omega) (by omega) hy1, hnx2 y hy1 hy2]
                constructor
                · rintro ((h | ⟨h1, h2⟩) | rfl)
                  · exact .inl h
                  · exact .inr ⟨by omega, h2⟩
                  · refine .inr ⟨by omega, ?_⟩
                    unfold Stp
                    rw [if_neg (by rw [hst]; decide)]
                    exact ⟨hj1, h92⟩
                · rintro (h | ⟨h1, h2⟩)
                  · exact .inl (.inl h)
                  · by_cases e : y = j
                    · exact .inr e
                    · exact .inl (.inr ⟨by omega, h2⟩)
            · skip
              refine CW_skip ?_
              refine EW_block_normal ?_
              refine EW_then ?_
              refine CW_region ?_
              refine OW_q (q_move rfl) rfl ?_
              first | refine OW_q (q_inc rfl rfl (by omega)) rfl ?_ | refine OW_q (q_add rfl rfl (by omega) (by omega)) rfl ?_
              refine OW_q (q_assign rfl) rfl ?_
              refine OW_nil ?_
              refine EW_again ((j + 1, nl2)) ⟨?_, ?_⟩ ⟨rfl, rfl, rfl, rfl, rfl, rfl, rfl, rfl, rfl, rfl, trivial⟩ (fun w hw => hw.sub (by (repeat (first | exact SubL.nil | exact Pick.head | apply Pick.tail | apply SubL.cons))))
              · show tt + 1 - (j + 1) < tt + 1 - j; omega
              · refine ⟨by show i ≤ j + 1; omega, by show j + 1 ≤ tt + 1; omega, hln2, fun y hy1 hy2 => ?_⟩
                show RAt nl2 fr y ↔ _ ∨ (y < j + 1 ∧ _)
                rw [hnx2 y hy1 hy2]
                constructor
                · rintro (h | ⟨h1, h2⟩)
                  · exact .inl h
                  · exact .inr ⟨by omega, h2⟩
                · rintro (h | ⟨h1, h2⟩)
                  · exact .inl h
                  · by_cases e : y = j
                    · subst e
                      unfold Stp at h2
                      rw [if_neg (by rw [hst]; decide)] at h2
                      exact absurd h2.2 (by simp [h92])
                    · exact .inr ⟨by omega, h2⟩
          · skip
            have hje : j = tt + 1 := by have := of_decide_eq_false h76; omega
            refine CW_exit ?_
            refine EW_then_exit ?_
            refine EW_out ?_
            refine EW_block_exit ?_
            refine EW_block_normal ?_
            refine EW_then ?_
            refine CW_region ?_
            refine OW_q (q_move rfl) rfl ?_
            first | refine OW_q (q_inc rfl rfl (by omega)) rfl ?_ | refine OW_q (q_add rfl rfl (by omega) (by omega)) rfl ?_
            refine OW_q (q_assign rfl) rfl ?_
            refine OW_nil ?_
            refine EW_again ((i + 1, nl2)) ⟨?_, ?_⟩ ⟨rfl, rfl, rfl, rfl, rfl, rfl, rfl, rfl, rfl, trivial⟩ (fun w hw => hw.sub (by (repeat (first | exact SubL.nil | exact Pick.head | apply Pick.tail | apply SubL.cons))))
            · show tt + 1 - (i + 1) < tt + 1 - i; omega
            · refine ⟨by show fr ≤ i + 1; omega, by show i + 1 ≤ tt + 1; omega, by first | exact hln | exact hln2 | (rw [List.length_set]; exact hln), fun y hy1 hy2 => ?_⟩
              show _ ↔ (∃ x, fr ≤ x ∧ x < i + 1 ∧ RAt bl fr x ∧ Stp kn tk s x y)
              refine (hnx2 y hy1 hy2).trans ?_
              constructor
              · rintro (⟨x, e1, e2, e3⟩ | ⟨e1, e2⟩)
                · exact ⟨x, e1, by omega, e3⟩
                · exact ⟨i, by omega, by omega, hyi', e2⟩
              · rintro ⟨x, e1, e2, e3, e4⟩
                by_cases e : x = i
                · subst e
                  exact .inr ⟨by omega, e4⟩
                · exact .inl ⟨x, e1, by omega, e3, e4⟩
    · skip
      have hie : i = tt + 1 := by have := of_decide_eq_false h37; omega
      refine CW_exit ?_
      refine EW_then_exit ?_
      refine EW_out ?_
      refine EW_block_exit ?_
      refine EW_then ?_
      refine CW_region ?_
      refine OW_q (q_move rfl) rfl ?_
      refine OW_q (q_assign rfl) rfl ?_
      refine OW_nil ?_
      refine EW_block_normal ?_
      refine EW_then ?_
      refine CW_region ?_
      refine OW_q (q_move rfl) rfl ?_
      first | refine OW_q (q_inc rfl rfl (by omega)) rfl ?_ | refine OW_q (q_add rfl rfl (by omega) (by omega)) rfl ?_
      refine OW_q (q_assign rfl) rfl ?_
      refine OW_nil ?_
      refine EW_again ((k + 1, b33, nl)) ⟨?_, ?_⟩ ⟨rfl, rfl, rfl, rfl, rfl, rfl, rfl, trivial⟩ (fun w hw => hw.sub (by (repeat (first | exact SubL.nil | exact Pick.head | apply Pick.tail | apply SubL.cons))))
      · show l.length - (k + 1) < l.length - k; omega
      · refine ⟨by show k + 1 ≤ _; omega, hln, fun x hx1 hx2 => ?_⟩
        show _ ↔ YK kn tk (l.take (k + 1)) fr x
        rw [take_next hs, yk_snoc]
        refine (hnx x hx1 hx2).trans ?_
        constructor
        · rintro ⟨z, e1, e2, e3, e4⟩
          exact ⟨z, (hat z e1 (by omega)).1 e3, e4⟩
        · rintro ⟨z, e3, e4⟩
          have := yk_le e3
          have := stp_le e4
          exact ⟨z, by omega, by omega, (hat z (by omega) (by omega)).2 e3, e4⟩
  · skip
    have hke : k = l.length := by have := of_decide_eq_false h26; omega
    obtain ⟨yt, hyt⟩ := get_of_lt (l := bl) (k := ((tt : Int) - (fr : Int)).toNat) (by omega)
    refine CW_exit ?_
    refine EW_then_exit ?_
    refine EW_out ?_
    refine EW_block_exit ?_
    refine EW_then ?_
    refine CW_seq ?_
    refine CW_region ?_
    refine OW_q (q_move rfl) rfl ?_
    refine OW_q (q_move rfl) rfl ?_
    refine OW_q (q_move rfl) rfl ?_
    refine OW_q (q_sub rfl rfl (by omega) (by omega)) rfl ?_
    refine OW_q (q_indexAddrI Try.underlying54 Try.sizeOf4 rfl rfl (by first | omega | assumption) (by first | omega | assumption)) rfl ?_
    refine OW_q (q_load_bools Try.isAgg4 rfl (by (repeat (first | exact .head | apply Swap.tail))) (by exact hyt)) rfl ?_
    refine OW_q (q_assign rfl) rfl ?_
    refine OW_nil ?_
    refine EW_then ?_
    refine CW_ret ?_
    refine ret1 Try.results24 rfl (fun w hw => ?_)
    refine ⟨yt, rfl, ?_, hw.sub .nil⟩
    have h1 := hat tt hft (Nat.le_refl _)
    rw [hke, List.take_length] at h1
    rw [← h1]
    unfold RAt
    rw [show tt - fr = ((tt : Int) - (fr : Int)).toNat by omega, hyt]
    simp

end Go.Sy
