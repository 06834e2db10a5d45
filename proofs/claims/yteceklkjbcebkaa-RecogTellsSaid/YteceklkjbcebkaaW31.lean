/- Package recog: Has. No condition. -/
import Derived.Test.YteceklkjbcebkaaW30
import Derived.Test.YteceklkjbcebkaaSyt2
namespace Go.Sy
open Go Go.RowKit Go.Proofs

def wrongE (g : Gram) (tk : List Int) : Int := if mayB g = false then 2 else if 30 < tk.length then 1 else if tk.all (fun x => decide (0 ≤ x) && decide (x < g.terms)) = false then 3 else 0
theorem wrong2 {g : Gram} {tk : List Int} (h : mayB g = false) : wrongE g tk = 2 := by unfold wrongE; rw [if_pos h]
theorem wrong1 {g : Gram} {tk : List Int} (h : mayB g = true) (h2 : 30 < tk.length) : wrongE g tk = 1 := by unfold wrongE; rw [if_neg (by rw [h]; decide), if_pos h2]
theorem wrong3 {g : Gram} {tk : List Int} (h : mayB g = true) (h2 : tk.length ≤ 30) {k : Nat} {x : Int} (hk : tk[k]? = some x) (hx : x < 0 ∨ g.terms ≤ x) : wrongE g tk = 3 := by
  unfold wrongE
  rw [if_neg (by rw [h]; decide), if_neg (by omega), if_pos]
  rw [List.all_eq_false]
  refine ⟨x, List.mem_of_getElem? hk, ?_⟩
  simp; omega
theorem wrong0 {g : Gram} {tk : List Int} (h : mayB g = true) (h2 : tk.length ≤ 30) (hx : ∀ (k : Nat) (x : Int), tk[k]? = some x → 0 ≤ x ∧ x < g.terms) : wrongE g tk = 0 := by
  unfold wrongE
  rw [if_neg (by rw [h]; decide), if_neg (by omega), if_neg]
  rw [Bool.not_eq_false, List.all_eq_true]
  intro x hm
  obtain ⟨i, hi⟩ := List.getElem?_of_mem hm
  simp [hx i x hi]
def HasOk (g : Gram) (tk : List Int) (b : Bool) : Prop := (wrongE g tk ≠ 0 → b = false) ∧ (wrongE g tk = 0 → (b = true ↔ Yl g tk [⟨false, 0⟩] 0 tk.length))
theorem clo_mono {g : Gram} {tk : List Int} {L L' : List (List Itt)} {i j : Nat} (h : Clo g tk L j) (hG : GL L L' i) (hj : j < i) (hok : ∀ x ∈ rowAt L j, x.frm ≤ j) : Clo g tk L' j := by
  have e : rowAt L' j = rowAt L j := hG.same j (by omega) (by omega)
  intro x hx
  rw [e] at hx
  refine cli_mono (h x hx) hG.pre ?_
  have := hok x hx
  exact hG.same _ (by omega) (by omega)
theorem chi_frm' {g : Gram} {tk : List Int} {S : List RowS} {i : Nat} (h : ChI g tk S) : ∀ x ∈ rowAt (Ls S) i, x.frm ≤ i := fun x hx => by
  cases hr : S[i]? with
  | none => rw [rowAt_none hr] at hx; cases hx
  | some r => exact chi_frm h hr x hx
theorem Sat.pushBig {R : Nat → Prop} {w0 w : World} {Bs L : List HP} {B : HP} (h : Sat R w0 (stars Bs :: B :: L) w) : Sat R w0 (stars (Bs ++ [B]) :: L) w := h.imp_ fun x hx => by
  obtain ⟨h1, h2, hd, rfl, hA, hB⟩ := hx
  have : stars ((Bs ++ [B]) ++ L) (uni h1 h2) := by
    rw [List.append_assoc]
    exact (stars_append Bs ([B] ++ L) _).2 ⟨h1, h2, hd, rfl, hA, hB⟩
  exact (stars_append (Bs ++ [B]) L _).1 this
theorem chi_new {g : Gram} {tk : List Int} {S : List RowS} (h : S.length = tk.length + 2) (h2 : ∀ r, r ∈ S → r.l = []) : ChI g tk S := ⟨h, fun i r hr => by
  rw [h2 r (List.mem_of_getElem? hr)]
  exact ⟨List.nodup_nil, fun x hx => by cases hx⟩⟩
/-- An item that tells that the tokens are had. -/
def Good (g : Gram) (x : Itt) : Prop := x.frm = 0 ∧ ∃ q, g.rules[x.rule]? = some q ∧ q.right[x.dot]? = none ∧ q.left = 0
theorem good_yl {g : Gram} {tk : List Int} {x : Itt} (h : ItOk g tk x tk.length) (hg : Good g x) : Yl g tk [⟨false, 0⟩] 0 tk.length := by
  obtain ⟨q', h1, h2, h3, h4⟩ := h
  obtain ⟨e, q, k1, k2, k3⟩ := hg
  rw [h1] at k1
  cases k1
  rw [List.take_of_length_le (List.getElem?_eq_none_iff.1 k2), e] at h4
  exact yl_one rfl (List.mem_of_getElem? h1) k3 h4
theorem yl_good {g : Gram} {tk : List Int} {L : List (List Itt)} (hc : ∀ i, i < tk.length + 1 → Clo g tk L i) (hb : ∀ k q, g.rules[k]? = some q → q.left = 0 → (⟨k, 0, 0⟩ : Itt) ∈ rowAt L 0) (h : Yl g tk [⟨false, 0⟩] 0 tk.length) : ∃ x, x ∈ rowAt L tk.length ∧ Good g x := by
  obtain ⟨q, h1, h2, h3⟩ := yl_name rfl h
  obtain ⟨k, hk⟩ := List.getElem?_of_mem h1
  have := chart_complete (n := tk.length) (fun i hi => hc i (by omega)) h3 (Nat.le_refl _) ⟨k, 0, 0⟩ q [] (hb k q hk h2) hk (by simp)
  exact ⟨_, this, rfl, q, hk, by show q.right[0 + q.right.length]? = none; rw [List.getElem?_eq_none]; omega, h2⟩

set_option maxRecDepth 20000 in
theorem has_any (gv dv : Value) (g : Gram) (tk : List Int) (w0 : World) (hg : GramAt (Cl w0) gv g) (hd : IntsAt (Cl w0) dv tk) : Calls Try.prog 23 #[gv, dv] w0 (fun e w' => ∃ x : Bool, e = .returned (.tuple #[.bool x, .int .i64 (wrongE g tk)]) ∧ HasOk g tk x ∧ Sat (Old w0) w0 [] w') := by
  have hg0 := hg
  obtain ⟨rv, rfl, hr⟩ := hg.mono old_rd
  obtain ⟨a, c, rfl, hc1, hc2, hrs⟩ := id hr
  have hd' := hd.mono old_rd
  obtain ⟨ta, tc, rfl, ht1, ht2, hts⟩ := id hd'
  clear hg hd
  refine calls_CW Try.func23 rfl Try.ntmps23 rfl (Sat.start w0) ?_
  refine CW_seq ?_
  refine CW_region ?_
  refine OW_e (e_box rfl rfl) rfl (fun b2 => ?_)
  refine OW_q (q_assign rfl) rfl ?_
  refine OW_q (q_assign rfl) rfl ?_
  refine OW_nil ?_
  refine EW_then ?_
  refine CW_seq ?_
  refine CW_block ?_
  refine CW_seq ?_
  refine CW_region ?_
  first | (refine OW_q (q_loadN_own Try.isAgg24 Try.sizeOf24 rfl rfl (by (repeat (first | exact .head | apply Swap.tail))) (by rfl)) rfl ?_) | (refine OW_q (q_loadN_ro Try.isAgg24 Try.sizeOf24 rfl (by first | assumption | exact Row.at_ (by assumption) rfl) (by rfl)) rfl ?_)
  refine OW_e (e_call Try.call20 rfl (fun w hw => lift_ro (may_any _ g w (hg0.mono (fun _ _ h => hw.rd (Rd.old h)))) hw)) rfl (fun x16 => ?_)
  refine OW_q (q_not rfl) rfl ?_
  refine OW_q (q_assign rfl) rfl ?_
  refine OW_nil ?_
  refine EW_then ?_
  refine CW_cond rfl (fun h14 => ?_) (fun h14 => ?_)
  · skip
    have hE : wrongE g tk = 2 := wrong2 (by simpa using h14)
    refine CW_seq ?_
    refine CW_region ?_
    refine OW_q (q_assign rfl) rfl ?_
    refine OW_q (q_assign rfl) rfl ?_
    refine OW_nil ?_
    refine EW_then ?_
    refine CW_ret ?_
    refine EW_block_ret ?_
    refine EW_then_ret ?_
    refine ret2 Try.results23 rfl rfl (fun w hw => ?_)
    exact ⟨false, by rw [hE], ⟨fun _ => rfl, fun h => by rw [hE] at h; cases h⟩, hw.sub (by repeat (first | exact SubL.nil | exact Pick.head | apply Pick.tail | apply SubL.cons))⟩
  · skip
    have hm : mayB g = true := by simpa using h14
    have hM := mayB_true.1 hm
    refine CW_seq ?_
    refine CW_region ?_
    refine OW_q (q_move rfl) rfl ?_
    refine OW_q (q_len Try.underlying25 rfl) rfl ?_
    refine OW_q (q_gtr rfl rfl) rfl ?_
    refine OW_q (q_assign rfl) rfl ?_
    refine OW_nil ?_
    refine EW_then ?_
    refine CW_cond rfl (fun h18 => ?_) (fun h18 => ?_)
    · skip
      have hE : wrongE g tk = 1 := wrong1 hm (by have := of_decide_eq_true h18; omega)
      refine CW_seq ?_
      refine CW_region ?_
      refine OW_q (q_assign rfl) rfl ?_
      refine OW_q (q_assign rfl) rfl ?_
      refine OW_nil ?_
      refine EW_then ?_
      refine CW_ret ?_
      refine EW_block_ret ?_
      refine EW_then_ret ?_
      refine ret2 Try.results23 rfl rfl (fun w hw => ?_)
      exact ⟨false, by rw [hE], ⟨fun _ => rfl, fun h => by rw [hE] at h; cases h⟩, hw.sub (by repeat (first | exact SubL.nil | exact Pick.head | apply Pick.tail | apply SubL.cons))⟩
    · skip
      have htk : tk.length ≤ 30 := by have := of_decide_eq_false h18; omega
      refine CW_skip ?_
      refine EW_block_normal ?_
      refine EW_then ?_
      refine CW_seq ?_
      refine CW_region ?_
      first | (refine OW_q (q_loadN_own Try.isAgg24 Try.sizeOf24 rfl rfl (by (repeat (first | exact .head | apply Swap.tail))) (by rfl)) rfl ?_) | (refine OW_q (q_loadN_ro Try.isAgg24 Try.sizeOf24 rfl (by first | assumption | exact Row.at_ (by assumption) rfl) (by rfl)) rfl ?_)
      refine OW_q (q_move rfl) rfl ?_
      refine OW_q (q_build (ps := #[(0, .agg #[.int .i64 g.terms, .int .i64 g.names, .slice a g.rules.length c]), (1, (.slice ta tk.length tc))]) (v := .agg #[.int .i64 g.terms, .int .i64 g.names, .slice a g.rules.length c, (.slice ta tk.length tc), .slice none 0 0, .slice none 0 0]) rfl (fun w => by kernel_rfl)) rfl ?_
      refine OW_e (e_box rfl rfl) rfl (fun b25 => ?_)
      refine OW_q (q_assign rfl) rfl ?_
      refine OW_nil ?_
      refine EW_then ?_
      refine CW_seq ?_
      refine CW_seq ?_
      refine CW_region ?_
      refine OW_q (q_move rfl) rfl ?_
      refine OW_q (q_len Try.underlying25 rfl) rfl ?_
      refine OW_q (q_move rfl) rfl ?_
      refine OW_nil ?_
      refine EW_then ?_
      refine CW_block ?_
      refine CW_loopP (ι := Nat) (fun k => k ≤ tk.length ∧ ∀ j x, j < k → tk[j]? = some x → 0 ≤ x ∧ x < g.terms) (fun k => [(1, (.slice ta tk.length tc)), (2, .pointer (some ⟨b2, 0, none⟩)), (6, .pointer (some ⟨b25, 0, none⟩)), (26, (.slice ta tk.length tc)), (27, .int .i64 (tk.length : Int)), (28, .int .i64 (k : Int))]) (fun k => Sat (Old w0) w0 [cel b2 24 [.int .i64 g.terms, .int .i64 g.names, .slice a g.rules.length c], cel b25 79 [.int .i64 g.terms, .int .i64 g.names, .slice a g.rules.length c, (.slice ta tk.length tc), .slice none 0 0, .slice none 0 0]]) (fun k => tk.length - k) 0 ?_ ⟨rfl, rfl, rfl, rfl, rfl, rfl, trivial⟩ (fun w hw => hw.sub (by (repeat (first | exact SubL.nil | exact Pick.head | apply Pick.tail | apply SubL.cons)))) ?_
      · exact ⟨Nat.zero_le _, fun j x h => absurd h (Nat.not_lt_zero _)⟩
      intro k hpre
      change CW _ _ _ _ [(1, (.slice ta tk.length tc)), (2, .pointer (some ⟨b2, 0, none⟩)), (6, .pointer (some ⟨b25, 0, none⟩)), (26, (.slice ta tk.length tc)), (27, .int .i64 (tk.length : Int)), (28, .int .i64 (k : Int))] (Sat (Old w0) w0 [cel b2 24 [.int .i64 g.terms, .int .i64 g.names, .slice a g.rules.length c], cel b25 79 [.int .i64 g.terms, .int .i64 g.names, .slice a g.rules.length c, (.slice ta tk.length tc), .slice none 0 0, .slice none 0 0]])
      obtain ⟨hk, hall⟩ := hpre
      refine CW_seq ?_
      refine CW_region ?_
      refine OW_q (q_lss rfl rfl) rfl ?_
      refine OW_nil ?_
      refine EW_then ?_
      refine CW_seq ?_
      refine CW_cond rfl (fun h29 => ?_) (fun h29 => ?_)
      · skip
        have hlt : k < tk.length := by have := of_decide_eq_true h29; omega
        obtain ⟨x, hx⟩ := get_of_lt hlt
        obtain ⟨pt, rfl, hrt⟩ := hts k x hx
        refine CW_skip ?_
        refine EW_then ?_
        refine CW_seq ?_
        refine CW_block ?_
        refine CW_seq ?_
        refine CW_region ?_
        refine OW_q (q_indexAddr Try.underlying25 Try.sizeOf3 rfl rfl (by first | omega | assumption)) rfl ?_
        refine OW_q (q_load1_ro Try.isAgg3 rfl (by first | exact hrt)) rfl ?_
        refine OW_q (q_assign rfl) rfl ?_
        refine OW_nil ?_
        refine EW_then ?_
        refine CW_seq ?_
        refine CW_region ?_
        refine OW_q (q_move rfl) rfl ?_
        refine OW_q (q_lss rfl rfl) rfl ?_
        refine OW_q (q_move rfl) rfl ?_
        refine OW_part (t := 34) rfl (fun hg34 => ?_) (fun hg34 => ?_)
        · skip
          have hx0 : x < 0 := by simpa using hg34
          have hE : wrongE g tk = 3 := wrong3 hm htk hx (.inl hx0)
          refine OW_skip rfl rfl rfl rfl ?_
          refine OW_skip rfl rfl rfl rfl ?_
          refine OW_skip rfl rfl rfl rfl ?_
          refine OW_skip rfl rfl rfl rfl ?_
          refine OW_q (q_pick_t rfl rfl) rfl ?_
          refine OW_nil ?_
          refine EW_then ?_
          refine CW_true rfl rfl ?_
          refine CW_seq ?_
          refine CW_region ?_
          refine OW_q (q_assign rfl) rfl ?_
          refine OW_q (q_assign rfl) rfl ?_
          refine OW_nil ?_
          refine EW_then ?_
          refine CW_ret ?_
          refine EW_block_ret ?_
          refine EW_then_ret ?_
          refine EW_out_ret ?_
          refine EW_block_ret ?_
          refine EW_then_ret ?_
          refine ret2 Try.results23 rfl rfl (fun w hw => ?_)
          exact ⟨false, by rw [hE], ⟨fun _ => rfl, fun h => by rw [hE] at h; cases h⟩, hw.sub (by repeat (first | exact SubL.nil | exact Pick.head | apply Pick.tail | apply SubL.cons))⟩
        · skip
          have hx0 : 0 ≤ x := by simpa using hg34
          refine OW_wanted rfl rfl rfl ?_
          refine OW_q (q_move rfl) rfl ?_
          refine OW_wanted rfl rfl rfl ?_
          refine OW_q (q_fieldAddr Try.underlying24 rfl rfl Try.sizeOf3 rfl rfl) rfl ?_
          refine OW_wanted rfl rfl rfl ?_
          first | (refine OW_q (q_load1_own Try.isAgg3 rfl rfl (by (repeat (first | exact .head | apply Swap.tail))) (by rfl)) rfl ?_) | (refine OW_q (q_load1_ro Try.isAgg3 rfl (by first | assumption | exact Row.at_ (by assumption) rfl)) rfl ?_)
          refine OW_wanted rfl rfl rfl ?_
          refine OW_q (q_geq rfl rfl) rfl ?_
          refine OW_q (q_pick_f rfl rfl) rfl ?_
          refine OW_nil ?_
          refine EW_then ?_
          refine CW_cond rfl (fun h39 => ?_) (fun h39 => ?_)
          · skip
            have hE : wrongE g tk = 3 := wrong3 hm htk hx (.inr (by simpa using h39))
            refine CW_seq ?_
            refine CW_region ?_
            refine OW_q (q_assign rfl) rfl ?_
            refine OW_q (q_assign rfl) rfl ?_
            refine OW_nil ?_
            refine EW_then ?_
            refine CW_ret ?_
            refine EW_block_ret ?_
            refine EW_then_ret ?_
            refine EW_out_ret ?_
            refine EW_block_ret ?_
            refine EW_then_ret ?_
            refine ret2 Try.results23 rfl rfl (fun w hw => ?_)
            exact ⟨false, by rw [hE], ⟨fun _ => rfl, fun h => by rw [hE] at h; cases h⟩, hw.sub (by repeat (first | exact SubL.nil | exact Pick.head | apply Pick.tail | apply SubL.cons))⟩
          · skip
            have hxt : x < g.terms := by simpa using h39
            refine CW_skip ?_
            refine EW_block_normal ?_
            refine EW_then ?_
            refine CW_region ?_
            first | refine OW_q (q_inc rfl rfl (by omega)) rfl ?_ | refine OW_q (q_add rfl rfl (by omega) (by omega)) rfl ?_
            refine OW_q (q_move rfl) rfl ?_
            refine OW_nil ?_
            refine EW_again (k + 1) ⟨?_, ?_⟩ ⟨rfl, rfl, rfl, rfl, rfl, rfl, trivial⟩ (fun w hw => hw.sub (by (repeat (first | exact SubL.nil | exact Pick.head | apply Pick.tail | apply SubL.cons))))
            · show tk.length - (k + 1) < tk.length - k; omega
            · refine ⟨by omega, fun j x' hj hx' => ?_⟩
              by_cases e : j = k
              · subst e; rw [hx] at hx'; cases hx'; exact ⟨hx0, hxt⟩
              · exact hall j x' (by omega) hx'
      · skip
        have hE : wrongE g tk = 0 := wrong0 hm htk fun j x hj => hall j x (by have := (List.getElem?_eq_some_iff.1 hj).1; have := of_decide_eq_false h29; omega) hj
        refine CW_weak (S' := Sat (Old w0) w0 [cel b2 24 [.int .i64 g.terms, .int .i64 g.names, .slice a g.rules.length c], cel b25 79 [.int .i64 g.terms, .int .i64 g.names, .slice a g.rules.length c, (.slice ta tk.length tc), (.slice none 0 0), (.slice none 0 0)], msA (.slice none 0 0) ([]), hsA (.slice none 0 0) ([]), mapsA ([]), rowsA ([])]) (fun w hw => by
          have h1 := (((hw.tnil 80 1 encM).tnil 103 1 encW).addEmp (A := mapsA []) rfl).addEmp (A := rowsA []) rfl
          exact h1.sub (by repeat (first | exact SubL.nil | exact Pick.head | apply Pick.tail | apply SubL.cons))) ?_
        refine CW_exit ?_
        refine EW_then_exit ?_
        refine EW_out ?_
        refine EW_block_exit ?_
        refine EW_then ?_
        refine CW_seq ?_
        refine CW_region ?_
        refine OW_q (q_move rfl) rfl ?_
        refine OW_q (q_len Try.underlying25 rfl) rfl ?_
        refine OW_q (q_assign rfl) rfl ?_
        refine OW_nil ?_
        refine EW_then ?_
        refine CW_seq ?_
        refine CW_seq ?_
        refine CW_region ?_
        refine OW_q (q_move rfl) rfl ?_
        first | refine OW_q (q_inc rfl rfl (by omega)) rfl ?_ | refine OW_q (q_add rfl rfl (by omega) (by omega)) rfl ?_
        refine OW_q (q_move rfl) rfl ?_
        refine OW_nil ?_
        refine EW_then ?_
        refine CW_block ?_
        refine CW_loopP (ι := Nat × List RowS × Value × Value) (fun i_ => i_.1 ≤ tk.length + 2 ∧ i_.2.1.length = i_.1 ∧ ∀ r, r ∈ i_.2.1 → r.l = []) (fun i_ => [(1, (.slice ta tk.length tc)), (2, .pointer (some ⟨b2, 0, none⟩)), (6, .pointer (some ⟨b25, 0, none⟩)), (9, .int .i64 (tk.length : Int)), (44, .int .i64 ((tk.length + 2 : Nat) : Int)), (45, .int .i64 (i_.1 : Int))]) (fun i_ => Sat (Old w0) w0 [cel b2 24 [.int .i64 g.terms, .int .i64 g.names, .slice a g.rules.length c], cel b25 79 [.int .i64 g.terms, .int .i64 g.names, .slice a g.rules.length c, (.slice ta tk.length tc), i_.2.2.1, i_.2.2.2], msA i_.2.2.1 (i_.2.1), hsA i_.2.2.2 (i_.2.1), mapsA (i_.2.1), rowsA (i_.2.1)]) (fun i_ => tk.length + 2 - i_.1) (0, [], .slice none 0 0, .slice none 0 0) ?_ ⟨rfl, rfl, rfl, rfl, rfl, rfl, trivial⟩ (fun w hw => hw.sub (by (repeat (first | exact SubL.nil | exact Pick.head | apply Pick.tail | apply SubL.cons)))) ?_
        · exact ⟨Nat.zero_le _, rfl, fun r h => by cases h⟩
        intro i_ hpre
        obtain ⟨k, S1, vs, vr⟩ := i_
        replace hpre : k ≤ tk.length + 2 ∧ S1.length = k ∧ ∀ r, r ∈ S1 → r.l = [] := hpre
        change CW _ _ _ _ [(1, (.slice ta tk.length tc)), (2, .pointer (some ⟨b2, 0, none⟩)), (6, .pointer (some ⟨b25, 0, none⟩)), (9, .int .i64 (tk.length : Int)), (44, .int .i64 ((tk.length + 2 : Nat) : Int)), (45, .int .i64 (k : Int))] (Sat (Old w0) w0 [cel b2 24 [.int .i64 g.terms, .int .i64 g.names, .slice a g.rules.length c], cel b25 79 [.int .i64 g.terms, .int .i64 g.names, .slice a g.rules.length c, (.slice ta tk.length tc), vs, vr], msA vs (S1), hsA vr (S1), mapsA (S1), rowsA (S1)])
        obtain ⟨hk, hSk, hS1⟩ := hpre
        refine CW_seq ?_
        refine CW_region ?_
        refine OW_q (q_lss rfl rfl) rfl ?_
        refine OW_nil ?_
        refine EW_then ?_
        refine CW_seq ?_
        refine CW_cond rfl (fun h46 => ?_) (fun h46 => ?_)
        · skip
          refine CW_skip ?_
          refine EW_then ?_
          refine CW_seq ?_
          refine CW_block ?_
          refine CW_drawT (Sat (Old w0) w0 [cel b25 79 [.int .i64 g.terms, .int .i64 g.names, .slice a g.rules.length c, (.slice ta tk.length tc), vs, vr]]) [17] (.q 0 false (.q 1 false (.q 2 false (.q 3 false (.q 4 false (.q 5 true (.q 9 false (.q 10 false (.q 11 false (.q 12 true (.alt 6 (.alt 7 (.alt 8 (.e 13 (.e 14 (.q 15 false (.q 16 false (.e 17 (.q 18 false (.q 19 false (.e 20 .nil)))))))) 13 (.e 8 (.e 14 (.q 15 false (.q 16 false (.e 17 (.q 18 false (.q 19 false (.e 20 .nil))))))))) 13 (.e 7 (.e 8 (.e 14 (.q 15 false (.q 16 false (.e 17 (.q 18 false (.q 19 false (.e 20 .nil)))))))))) 13 (.e 6 (.e 7 (.e 8 (.e 14 (.q 15 false (.q 16 false (.e 17 (.q 18 false (.q 19 false (.e 20 .nil))))))))))))))))))))) (by kernel_rfl) (Blind.block (Blind.then (Blind.again (Blind.block (Blind.then Blind.bodyP))))) (by kernel_rfl) (fun w hw => hw.drew) ?_
          refine DT_p rfl (.inr (fun w hw => (by first | exact hw.sub (by (repeat (first | exact SubL.nil | exact Pick.head | apply Pick.tail | apply SubL.cons))) | exact hw.2.sub (by (repeat (first | exact SubL.nil | exact Pick.head | apply Pick.tail | apply SubL.cons)))))) (q_move rfl) rfl ?_
          refine DT_p rfl (.inr (fun w hw => (by first | exact hw.sub (by (repeat (first | exact SubL.nil | exact Pick.head | apply Pick.tail | apply SubL.cons))) | exact hw.2.sub (by (repeat (first | exact SubL.nil | exact Pick.head | apply Pick.tail | apply SubL.cons)))))) (q_move rfl) rfl ?_
          refine DT_p rfl (.inr (fun w hw => (by first | exact hw.sub (by (repeat (first | exact SubL.nil | exact Pick.head | apply Pick.tail | apply SubL.cons))) | exact hw.2.sub (by (repeat (first | exact SubL.nil | exact Pick.head | apply Pick.tail | apply SubL.cons)))))) (q_move rfl) rfl ?_
          refine DT_p rfl (.inr (fun w hw => (by first | exact hw.sub (by (repeat (first | exact SubL.nil | exact Pick.head | apply Pick.tail | apply SubL.cons))) | exact hw.2.sub (by (repeat (first | exact SubL.nil | exact Pick.head | apply Pick.tail | apply SubL.cons)))))) (q_nilCheck rfl) rfl ?_
          refine DT_p rfl (.inr (fun w hw => (by first | exact hw.sub (by (repeat (first | exact SubL.nil | exact Pick.head | apply Pick.tail | apply SubL.cons))) | exact hw.2.sub (by (repeat (first | exact SubL.nil | exact Pick.head | apply Pick.tail | apply SubL.cons)))))) (q_fieldAddr Try.underlying79 rfl rfl Try.sizeOf76 rfl rfl) rfl ?_
          first | (refine DT_q rfl (fun w hw => (by first | exact hw.sub (by (repeat (first | exact SubL.nil | exact Pick.head | apply Pick.tail | apply SubL.cons))) | exact hw.2.sub (by (repeat (first | exact SubL.nil | exact Pick.head | apply Pick.tail | apply SubL.cons))))) (q_load1_own Try.isAgg76 rfl rfl (by (repeat (first | exact .head | apply Swap.tail))) (by rfl)) rfl ?_) | (refine DT_q rfl (fun w hw => (by first | exact hw.sub (by (repeat (first | exact SubL.nil | exact Pick.head | apply Pick.tail | apply SubL.cons))) | exact hw.2.sub (by (repeat (first | exact SubL.nil | exact Pick.head | apply Pick.tail | apply SubL.cons))))) (q_load1_ro Try.isAgg76 rfl (by first | assumption | exact Row.at_ (by assumption) rfl)) rfl ?_)
          refine DT_p rfl (.inr (fun w hw => (by first | exact hw.sub (by (repeat (first | exact SubL.nil | exact Pick.head | apply Pick.tail | apply SubL.cons))) | exact hw.2.sub (by (repeat (first | exact SubL.nil | exact Pick.head | apply Pick.tail | apply SubL.cons)))))) (q_move rfl) rfl ?_
          refine DT_p rfl (.inr (fun w hw => (by first | exact hw.sub (by (repeat (first | exact SubL.nil | exact Pick.head | apply Pick.tail | apply SubL.cons))) | exact hw.2.sub (by (repeat (first | exact SubL.nil | exact Pick.head | apply Pick.tail | apply SubL.cons)))))) (q_nilCheck rfl) rfl ?_
          refine DT_p rfl (.inr (fun w hw => (by first | exact hw.sub (by (repeat (first | exact SubL.nil | exact Pick.head | apply Pick.tail | apply SubL.cons))) | exact hw.2.sub (by (repeat (first | exact SubL.nil | exact Pick.head | apply Pick.tail | apply SubL.cons)))))) (q_fieldAddr Try.underlying79 rfl rfl Try.sizeOf77 rfl rfl) rfl ?_
          first | (refine DT_q rfl (fun w hw => (by first | exact hw.sub (by (repeat (first | exact SubL.nil | exact Pick.head | apply Pick.tail | apply SubL.cons))) | exact hw.2.sub (by (repeat (first | exact SubL.nil | exact Pick.head | apply Pick.tail | apply SubL.cons))))) (q_load1_own Try.isAgg77 rfl rfl (by (repeat (first | exact .head | apply Swap.tail))) (by rfl)) rfl ?_) | (refine DT_q rfl (fun w hw => (by first | exact hw.sub (by (repeat (first | exact SubL.nil | exact Pick.head | apply Pick.tail | apply SubL.cons))) | exact hw.2.sub (by (repeat (first | exact SubL.nil | exact Pick.head | apply Pick.tail | apply SubL.cons))))) (q_load1_ro Try.isAgg77 rfl (by first | assumption | exact Row.at_ (by assumption) rfl)) rfl ?_)
          refine DT_alt ?_ ?_
          · skip
            refine DT_e rfl (e_makeMap) rfl (.inr (fun _ w hw => (by first | exact hw.sub (by (repeat (first | exact SubL.nil | exact Pick.head | apply Pick.tail | apply SubL.cons))) | exact hw.2.sub (by (repeat (first | exact SubL.nil | exact Pick.head | apply Pick.tail | apply SubL.cons)))))) (fun m53 => ?_)
            refine DT_alt ?_ ?_
            · skip
              refine DT_e rfl (e_single Try.underlying76 Try.sizeOf80 Try.zeroValue80 (e := 80) (v := .map (some m53)) (cs := encM m53) rfl rfl rfl rfl (by decide) (by decide)) rfl (.inr (fun _ w hw => (by first | exact hw.sub (by repeat (first | exact SubL.nil | exact Pick.head | apply Pick.tail | apply SubL.cons)) | exact hw.2.sub (by repeat (first | exact SubL.nil | exact Pick.head | apply Pick.tail | apply SubL.cons))))) (fun b54 => ?_)
              refine DT_alt ?_ ?_
              · skip
                refine DT_e rfl (e_append_t (x0 := m53) (enc := encM) Try.underlying76 Try.typeInfo80 rfl rfl rfl rfl rfl rfl rfl (by repeat (first | exact .head | apply Pick.tail)) rfl (by exact fun w hw => hw.news (by repeat (first | exact .head | apply Swap.tail))) (by simp [Value.oneCell']) (by rw [List.length_map]; omega) (by decide)) rfl (.inr (fun _ w hw => (by first | exact hw.sub (by repeat (first | exact SubL.nil | exact Pick.head | apply Pick.tail | apply SubL.cons)) | exact hw.2.sub (by repeat (first | exact SubL.nil | exact Pick.head | apply Pick.tail | apply SubL.cons))))) (fun v55 => ?_)
                refine DT_e rfl (e_single Try.underlying77 Try.sizeOf103 Try.zeroValue103 (e := 103) (v := .slice none 0 0) (cs := encW (.slice none 0 0)) rfl rfl rfl rfl (by decide) (by decide)) rfl (.inr (fun _ w hw => (by first | exact hw.sub (by repeat (first | exact SubL.nil | exact Pick.head | apply Pick.tail | apply SubL.cons)) | exact hw.2.sub (by repeat (first | exact SubL.nil | exact Pick.head | apply Pick.tail | apply SubL.cons))))) (fun b60 => ?_)
                refine DT_e rfl (e_append_t (x0 := .slice none 0 0) (enc := encW) Try.underlying77 Try.typeInfo103 rfl rfl rfl rfl rfl rfl rfl (by repeat (first | exact .head | apply Pick.tail)) rfl (by exact fun w hw => hw.news (by repeat (first | exact .head | apply Swap.tail))) (by simp [Value.oneCell']) (by rw [List.length_map]; omega) (by decide)) rfl (.inr (fun _ w hw => (by first | exact hw.sub (by repeat (first | exact SubL.nil | exact Pick.head | apply Pick.tail | apply SubL.cons)) | exact hw.2.sub (by repeat (first | exact SubL.nil | exact Pick.head | apply Pick.tail | apply SubL.cons))))) (fun v61 => ?_)
                refine DT_p rfl (.inr (fun w hw => (by first | exact hw.sub (by (repeat (first | exact SubL.nil | exact Pick.head | apply Pick.tail | apply SubL.cons))) | exact hw.2.sub (by (repeat (first | exact SubL.nil | exact Pick.head | apply Pick.tail | apply SubL.cons)))))) (q_nilCheck rfl) rfl ?_
                refine DT_p rfl (.inr (fun w hw => (by first | exact hw.sub (by (repeat (first | exact SubL.nil | exact Pick.head | apply Pick.tail | apply SubL.cons))) | exact hw.2.sub (by (repeat (first | exact SubL.nil | exact Pick.head | apply Pick.tail | apply SubL.cons)))))) (q_fieldAddr Try.underlying79 rfl rfl Try.sizeOf76 rfl rfl) rfl ?_
                refine DT_fact (fun w hw => hw.tform (v := v55) (l := S1.map (·.m) ++ [m53]) (enc := encM) (by repeat (first | exact .head | apply Swap.tail))) (fun hf => ?_)
                obtain ⟨_, _, h55, _⟩ := hf
                refine DT_fact (fun w hw => hw.tform (v := v61) (l := S1.map (·.v) ++ [.slice none 0 0]) (enc := encW) (by repeat (first | exact .head | apply Swap.tail))) (fun hf => ?_)
                obtain ⟨_, _, h61, _⟩ := hf
                skip
                refine DT_e0 rfl (e_store (by first | exact Try.sizeOf76 | exact Try.sizeOf77) rfl rfl rfl (by first | (rw [h55]; rfl) | (rw [h61]; rfl)) (by repeat (first | exact .head | apply Swap.tail)) (by rfl)) (.inl rfl) (fun _ => ?_)
                refine DT_p rfl (.inl rfl) (q_nilCheck rfl) rfl ?_
                refine DT_p rfl (.inl rfl) (q_fieldAddr Try.underlying79 rfl rfl Try.sizeOf77 rfl rfl) rfl ?_
                refine DT_fact (fun w hw => hw.tform (v := v55) (l := S1.map (·.m) ++ [m53]) (enc := encM) (by repeat (first | exact .head | apply Swap.tail))) (fun hf => ?_)
                obtain ⟨_, _, h55, _⟩ := hf
                refine DT_fact (fun w hw => hw.tform (v := v61) (l := S1.map (·.v) ++ [.slice none 0 0]) (enc := encW) (by repeat (first | exact .head | apply Swap.tail))) (fun hf => ?_)
                obtain ⟨_, _, h61, _⟩ := hf
                skip
                refine DT_e0 rfl (e_store (by first | exact Try.sizeOf76 | exact Try.sizeOf77) rfl rfl rfl (by first | (rw [h55]; rfl) | (rw [h61]; rfl)) (by repeat (first | exact .head | apply Swap.tail)) (by rfl)) (.inl rfl) (fun _ => ?_)
                refine DT_nil ?_
                refine EW_block_normal ?_
                refine EW_then ?_
                refine CW_region ?_
                first | refine OW_q (q_inc rfl rfl (by omega)) rfl ?_ | refine OW_q (q_add rfl rfl (by omega) (by omega)) rfl ?_
                refine OW_q (q_move rfl) rfl ?_
                refine OW_nil ?_
                refine EW_weak (S' := Sat (Old w0) w0 [cel b2 24 [.int .i64 g.terms, .int .i64 g.names, .slice a g.rules.length c], cel b25 79 [.int .i64 g.terms, .int .i64 g.names, .slice a g.rules.length c, (.slice ta tk.length tc), v55, v61], msA v55 ((S1 ++ [⟨m53, .slice none 0 0, [], .slice none 0 0, []⟩])), hsA v61 ((S1 ++ [⟨m53, .slice none 0 0, [], .slice none 0 0, []⟩])), mapsA ((S1 ++ [⟨m53, .slice none 0 0, [], .slice none 0 0, []⟩])), rowsA ((S1 ++ [⟨m53, .slice none 0 0, [], .slice none 0 0, []⟩]))]) (fun w hw => by
                  have h1 : Sat (Old w0) w0 (stars (S1.map mapP ++ [mapP ⟨m53, .slice none 0 0, [], .slice none 0 0, []⟩]) :: [cel b2 24 [.int .i64 g.terms, .int .i64 g.names, .slice a g.rules.length c], cel b25 79 [.int .i64 g.terms, .int .i64 g.names, .slice a g.rules.length c, (.slice ta tk.length tc), v55, v61], trow 80 1 encM v55 (S1.map (·.m) ++ [m53]), trow 103 1 encW v61 (S1.map (·.v) ++ [.slice none 0 0]), rowsA S1]) w := Sat.pushBig (Bs := S1.map mapP) (hw.sub (by repeat (first | exact SubL.nil | exact Pick.head | apply Pick.tail | apply SubL.cons)))
                  have h2 : Sat (Old w0) w0 (stars (S1.map rowP ++ [rowP ⟨m53, .slice none 0 0, [], .slice none 0 0, []⟩]) :: [cel b2 24 [.int .i64 g.terms, .int .i64 g.names, .slice a g.rules.length c], cel b25 79 [.int .i64 g.terms, .int .i64 g.names, .slice a g.rules.length c, (.slice ta tk.length tc), v55, v61], trow 80 1 encM v55 (S1.map (·.m) ++ [m53]), trow 103 1 encW v61 (S1.map (·.v) ++ [.slice none 0 0]), stars (S1.map mapP ++ [mapP ⟨m53, .slice none 0 0, [], .slice none 0 0, []⟩])]) w := Sat.pushBig (Bs := S1.map rowP) ((h1.newV (e := 84)).sub (by repeat (first | exact SubL.nil | exact Pick.head | apply Pick.tail | apply SubL.cons)))
                  show Sat (Old w0) w0 [_, _, trow _ 1 encM v55 ((S1 ++ [_]).map _), trow _ 1 encW v61 ((S1 ++ [_]).map _), stars ((S1 ++ [_]).map mapP), stars ((S1 ++ [_]).map rowP)] w
                  simp only [List.map_append, List.map_cons, List.map_nil]
                  exact h2.sub (by repeat (first | exact SubL.nil | exact Pick.head | apply Pick.tail | apply SubL.cons))) ?_
                refine EW_again ((k + 1, S1 ++ [⟨m53, .slice none 0 0, [], .slice none 0 0, []⟩], v55, v61)) ⟨?_, ?_⟩ ⟨rfl, rfl, rfl, rfl, rfl, rfl, trivial⟩ (fun w hw => hw.sub (by (repeat (first | exact SubL.nil | exact Pick.head | apply Pick.tail | apply SubL.cons))))
                · show tk.length + 2 - (k + 1) < tk.length + 2 - k; have := of_decide_eq_true h46; omega
                · refine ⟨by have := of_decide_eq_true h46; show k + 1 ≤ _; omega, by show (S1 ++ [_]).length = k + 1; rw [List.length_append, hSk]; rfl, fun r hr => ?_⟩
                  rcases List.mem_append.1 hr with hr | hr
                  · exact hS1 r hr
                  · rw [List.mem_singleton.1 hr]
              · skip
                refine DT_e rfl (e_single Try.underlying77 Try.sizeOf103 Try.zeroValue103 (e := 103) (v := .slice none 0 0) (cs := encW (.slice none 0 0)) rfl rfl rfl rfl (by decide) (by decide)) rfl (.inr (fun _ w hw => (by first | exact hw.sub (by repeat (first | exact SubL.nil | exact Pick.head | apply Pick.tail | apply SubL.cons)) | exact hw.2.sub (by repeat (first | exact SubL.nil | exact Pick.head | apply Pick.tail | apply SubL.cons))))) (fun b60 => ?_)
                refine DT_e rfl (e_append_t (x0 := m53) (enc := encM) Try.underlying76 Try.typeInfo80 rfl rfl rfl rfl rfl rfl rfl (by repeat (first | exact .head | apply Pick.tail)) rfl (by exact fun w hw => hw.news (by repeat (first | exact .head | apply Swap.tail))) (by simp [Value.oneCell']) (by rw [List.length_map]; omega) (by decide)) rfl (.inr (fun _ w hw => (by first | exact hw.sub (by repeat (first | exact SubL.nil | exact Pick.head | apply Pick.tail | apply SubL.cons)) | exact hw.2.sub (by repeat (first | exact SubL.nil | exact Pick.head | apply Pick.tail | apply SubL.cons))))) (fun v55 => ?_)
                refine DT_e rfl (e_append_t (x0 := .slice none 0 0) (enc := encW) Try.underlying77 Try.typeInfo103 rfl rfl rfl rfl rfl rfl rfl (by repeat (first | exact .head | apply Pick.tail)) rfl (by exact fun w hw => hw.news (by repeat (first | exact .head | apply Swap.tail))) (by simp [Value.oneCell']) (by rw [List.length_map]; omega) (by decide)) rfl (.inr (fun _ w hw => (by first | exact hw.sub (by repeat (first | exact SubL.nil | exact Pick.head | apply Pick.tail | apply SubL.cons)) | exact hw.2.sub (by repeat (first | exact SubL.nil | exact Pick.head | apply Pick.tail | apply SubL.cons))))) (fun v61 => ?_)
                refine DT_p rfl (.inr (fun w hw => (by first | exact hw.sub (by (repeat (first | exact SubL.nil | exact Pick.head | apply Pick.tail | apply SubL.cons))) | exact hw.2.sub (by (repeat (first | exact SubL.nil | exact Pick.head | apply Pick.tail | apply SubL.cons)))))) (q_nilCheck rfl) rfl ?_
                refine DT_p rfl (.inr (fun w hw => (by first | exact hw.sub (by (repeat (first | exact SubL.nil | exact Pick.head | apply Pick.tail | apply SubL.cons))) | exact hw.2.sub (by (repeat (first | exact SubL.nil | exact Pick.head | apply Pick.tail | apply SubL.cons)))))) (q_fieldAddr Try.underlying79 rfl rfl Try.sizeOf76 rfl rfl) rfl ?_
                refine DT_fact (fun w hw => hw.tform (v := v55) (l := S1.map (·.m) ++ [m53]) (enc := encM) (by repeat (first | exact .head | apply Swap.tail))) (fun hf => ?_)
                obtain ⟨_, _, h55, _⟩ := hf
                refine DT_fact (fun w hw => hw.tform (v := v61) (l := S1.map (·.v) ++ [.slice none 0 0]) (enc := encW) (by repeat (first | exact .head | apply Swap.tail))) (fun hf => ?_)
                obtain ⟨_, _, h61, _⟩ := hf
                skip
                refine DT_e0 rfl (e_store (by first | exact Try.sizeOf76 | exact Try.sizeOf77) rfl rfl rfl (by first | (rw [h55]; rfl) | (rw [h61]; rfl)) (by repeat (first | exact .head | apply Swap.tail)) (by rfl)) (.inl rfl) (fun _ => ?_)
                refine DT_p rfl (.inl rfl) (q_nilCheck rfl) rfl ?_
                refine DT_p rfl (.inl rfl) (q_fieldAddr Try.underlying79 rfl rfl Try.sizeOf77 rfl rfl) rfl ?_
                refine DT_fact (fun w hw => hw.tform (v := v55) (l := S1.map (·.m) ++ [m53]) (enc := encM) (by repeat (first | exact .head | apply Swap.tail))) (fun hf => ?_)
                obtain ⟨_, _, h55, _⟩ := hf
                refine DT_fact (fun w hw => hw.tform (v := v61) (l := S1.map (·.v) ++ [.slice none 0 0]) (enc := encW) (by repeat (first | exact .head | apply Swap.tail))) (fun hf => ?_)
                obtain ⟨_, _, h61, _⟩ := hf
                skip
                refine DT_e0 rfl (e_store (by first | exact Try.sizeOf76 | exact Try.sizeOf77) rfl rfl rfl (by first | (rw [h55]; rfl) | (rw [h61]; rfl)) (by repeat (first | exact .head | apply Swap.tail)) (by rfl)) (.inl rfl) (fun _ => ?_)
                refine DT_nil ?_
                refine EW_block_normal ?_
                refine EW_then ?_
                refine CW_region ?_
                first | refine OW_q (q_inc rfl rfl (by omega)) rfl ?_ | refine OW_q (q_add rfl rfl (by omega) (by omega)) rfl ?_
                refine OW_q (q_move rfl) rfl ?_
                refine OW_nil ?_
                refine EW_weak (S' := Sat (Old w0) w0 [cel b2 24 [.int .i64 g.terms, .int .i64 g.names, .slice a g.rules.length c], cel b25 79 [.int .i64 g.terms, .int .i64 g.names, .slice a g.rules.length c, (.slice ta tk.length tc), v55, v61], msA v55 ((S1 ++ [⟨m53, .slice none 0 0, [], .slice none 0 0, []⟩])), hsA v61 ((S1 ++ [⟨m53, .slice none 0 0, [], .slice none 0 0, []⟩])), mapsA ((S1 ++ [⟨m53, .slice none 0 0, [], .slice none 0 0, []⟩])), rowsA ((S1 ++ [⟨m53, .slice none 0 0, [], .slice none 0 0, []⟩]))]) (fun w hw => by
                  have h1 : Sat (Old w0) w0 (stars (S1.map mapP ++ [mapP ⟨m53, .slice none 0 0, [], .slice none 0 0, []⟩]) :: [cel b2 24 [.int .i64 g.terms, .int .i64 g.names, .slice a g.rules.length c], cel b25 79 [.int .i64 g.terms, .int .i64 g.names, .slice a g.rules.length c, (.slice ta tk.length tc), v55, v61], trow 80 1 encM v55 (S1.map (·.m) ++ [m53]), trow 103 1 encW v61 (S1.map (·.v) ++ [.slice none 0 0]), rowsA S1]) w := Sat.pushBig (Bs := S1.map mapP) (hw.sub (by repeat (first | exact SubL.nil | exact Pick.head | apply Pick.tail | apply SubL.cons)))
                  have h2 : Sat (Old w0) w0 (stars (S1.map rowP ++ [rowP ⟨m53, .slice none 0 0, [], .slice none 0 0, []⟩]) :: [cel b2 24 [.int .i64 g.terms, .int .i64 g.names, .slice a g.rules.length c], cel b25 79 [.int .i64 g.terms, .int .i64 g.names, .slice a g.rules.length c, (.slice ta tk.length tc), v55, v61], trow 80 1 encM v55 (S1.map (·.m) ++ [m53]), trow 103 1 encW v61 (S1.map (·.v) ++ [.slice none 0 0]), stars (S1.map mapP ++ [mapP ⟨m53, .slice none 0 0, [], .slice none 0 0, []⟩])]) w := Sat.pushBig (Bs := S1.map rowP) ((h1.newV (e := 84)).sub (by repeat (first | exact SubL.nil | exact Pick.head | apply Pick.tail | apply SubL.cons)))
                  show Sat (Old w0) w0 [_, _, trow _ 1 encM v55 ((S1 ++ [_]).map _), trow _ 1 encW v61 ((S1 ++ [_]).map _), stars ((S1 ++ [_]).map mapP), stars ((S1 ++ [_]).map rowP)] w
                  simp only [List.map_append, List.map_cons, List.map_nil]
                  exact h2.sub (by repeat (first | exact SubL.nil | exact Pick.head | apply Pick.tail | apply SubL.cons))) ?_
                refine EW_again ((k + 1, S1 ++ [⟨m53, .slice none 0 0, [], .slice none 0 0, []⟩], v55, v61)) ⟨?_, ?_⟩ ⟨rfl, rfl, rfl, rfl, rfl, rfl, trivial⟩ (fun w hw => hw.sub (by (repeat (first | exact SubL.nil | exact Pick.head | apply Pick.tail | apply SubL.cons))))
                · show tk.length + 2 - (k + 1) < tk.length + 2 - k; have := of_decide_eq_true h46; omega
                · refine ⟨by have := of_decide_eq_true h46; show k + 1 ≤ _; omega, by show (S1 ++ [_]).length = k + 1; rw [List.length_append, hSk]; rfl, fun r hr => ?_⟩
                  rcases List.mem_append.1 hr with hr | hr
                  · exact hS1 r hr
                  · rw [List.mem_singleton.1 hr]
            · skip
              refine DT_e rfl (e_single Try.underlying77 Try.sizeOf103 Try.zeroValue103 (e := 103) (v := .slice none 0 0) (cs := encW (.slice none 0 0)) rfl rfl rfl rfl (by decide) (by decide)) rfl (.inr (fun _ w hw => (by first | exact hw.sub (by repeat (first | exact SubL.nil | exact Pick.head | apply Pick.tail | apply SubL.cons)) | exact hw.2.sub (by repeat (first | exact SubL.nil | exact Pick.head | apply Pick.tail | apply SubL.cons))))) (fun b60 => ?_)
              refine DT_e rfl (e_single Try.underlying76 Try.sizeOf80 Try.zeroValue80 (e := 80) (v := .map (some m53)) (cs := encM m53) rfl rfl rfl rfl (by decide) (by decide)) rfl (.inr (fun _ w hw => (by first | exact hw.sub (by repeat (first | exact SubL.nil | exact Pick.head | apply Pick.tail | apply SubL.cons)) | exact hw.2.sub (by repeat (first | exact SubL.nil | exact Pick.head | apply Pick.tail | apply SubL.cons))))) (fun b54 => ?_)
              refine DT_e rfl (e_append_t (x0 := m53) (enc := encM) Try.underlying76 Try.typeInfo80 rfl rfl rfl rfl rfl rfl rfl (by repeat (first | exact .head | apply Pick.tail)) rfl (by exact fun w hw => hw.news (by repeat (first | exact .head | apply Swap.tail))) (by simp [Value.oneCell']) (by rw [List.length_map]; omega) (by decide)) rfl (.inr (fun _ w hw => (by first | exact hw.sub (by repeat (first | exact SubL.nil | exact Pick.head | apply Pick.tail | apply SubL.cons)) | exact hw.2.sub (by repeat (first | exact SubL.nil | exact Pick.head | apply Pick.tail | apply SubL.cons))))) (fun v55 => ?_)
              refine DT_e rfl (e_append_t (x0 := .slice none 0 0) (enc := encW) Try.underlying77 Try.typeInfo103 rfl rfl rfl rfl rfl rfl rfl (by repeat (first | exact .head | apply Pick.tail)) rfl (by exact fun w hw => hw.news (by repeat (first | exact .head | apply Swap.tail))) (by simp [Value.oneCell']) (by rw [List.length_map]; omega) (by decide)) rfl (.inr (fun _ w hw => (by first | exact hw.sub (by repeat (first | exact SubL.nil | exact Pick.head | apply Pick.tail | apply SubL.cons)) | exact hw.2.sub (by repeat (first | exact SubL.nil | exact Pick.head | apply Pick.tail | apply SubL.cons))))) (fun v61 => ?_)
              refine DT_p rfl (.inr (fun w hw => (by first | exact hw.sub (by (repeat (first | exact SubL.nil | exact Pick.head | apply Pick.tail | apply SubL.cons))) | exact hw.2.sub (by (repeat (first | exact SubL.nil | exact Pick.head | apply Pick.tail | apply SubL.cons)))))) (q_nilCheck rfl) rfl ?_
              refine DT_p rfl (.inr (fun w hw => (by first | exact hw.sub (by (repeat (first | exact SubL.nil | exact Pick.head | apply Pick.tail | apply SubL.cons))) | exact hw.2.sub (by (repeat (first | exact SubL.nil | exact Pick.head | apply Pick.tail | apply SubL.cons)))))) (q_fieldAddr Try.underlying79 rfl rfl Try.sizeOf76 rfl rfl) rfl ?_
              refine DT_fact (fun w hw => hw.tform (v := v55) (l := S1.map (·.m) ++ [m53]) (enc := encM) (by repeat (first | exact .head | apply Swap.tail))) (fun hf => ?_)
              obtain ⟨_, _, h55, _⟩ := hf
              refine DT_fact (fun w hw => hw.tform (v := v61) (l := S1.map (·.v) ++ [.slice none 0 0]) (enc := encW) (by repeat (first | exact .head | apply Swap.tail))) (fun hf => ?_)
              obtain ⟨_, _, h61, _⟩ := hf
              skip
              refine DT_e0 rfl (e_store (by first | exact Try.sizeOf76 | exact Try.sizeOf77) rfl rfl rfl (by first | (rw [h55]; rfl) | (rw [h61]; rfl)) (by repeat (first | exact .head | apply Swap.tail)) (by rfl)) (.inl rfl) (fun _ => ?_)
              refine DT_p rfl (.inl rfl) (q_nilCheck rfl) rfl ?_
              refine DT_p rfl (.inl rfl) (q_fieldAddr Try.underlying79 rfl rfl Try.sizeOf77 rfl rfl) rfl ?_
              refine DT_fact (fun w hw => hw.tform (v := v55) (l := S1.map (·.m) ++ [m53]) (enc := encM) (by repeat (first | exact .head | apply Swap.tail))) (fun hf => ?_)
              obtain ⟨_, _, h55, _⟩ := hf
              refine DT_fact (fun w hw => hw.tform (v := v61) (l := S1.map (·.v) ++ [.slice none 0 0]) (enc := encW) (by repeat (first | exact .head | apply Swap.tail))) (fun hf => ?_)
              obtain ⟨_, _, h61, _⟩ := hf
              skip
              refine DT_e0 rfl (e_store (by first | exact Try.sizeOf76 | exact Try.sizeOf77) rfl rfl rfl (by first | (rw [h55]; rfl) | (rw [h61]; rfl)) (by repeat (first | exact .head | apply Swap.tail)) (by rfl)) (.inl rfl) (fun _ => ?_)
              refine DT_nil ?_
              refine EW_block_normal ?_
              refine EW_then ?_
              refine CW_region ?_
              first | refine OW_q (q_inc rfl rfl (by omega)) rfl ?_ | refine OW_q (q_add rfl rfl (by omega) (by omega)) rfl ?_
              refine OW_q (q_move rfl) rfl ?_
              refine OW_nil ?_
              refine EW_weak (S' := Sat (Old w0) w0 [cel b2 24 [.int .i64 g.terms, .int .i64 g.names, .slice a g.rules.length c], cel b25 79 [.int .i64 g.terms, .int .i64 g.names, .slice a g.rules.length c, (.slice ta tk.length tc), v55, v61], msA v55 ((S1 ++ [⟨m53, .slice none 0 0, [], .slice none 0 0, []⟩])), hsA v61 ((S1 ++ [⟨m53, .slice none 0 0, [], .slice none 0 0, []⟩])), mapsA ((S1 ++ [⟨m53, .slice none 0 0, [], .slice none 0 0, []⟩])), rowsA ((S1 ++ [⟨m53, .slice none 0 0, [], .slice none 0 0, []⟩]))]) (fun w hw => by
                have h1 : Sat (Old w0) w0 (stars (S1.map mapP ++ [mapP ⟨m53, .slice none 0 0, [], .slice none 0 0, []⟩]) :: [cel b2 24 [.int .i64 g.terms, .int .i64 g.names, .slice a g.rules.length c], cel b25 79 [.int .i64 g.terms, .int .i64 g.names, .slice a g.rules.length c, (.slice ta tk.length tc), v55, v61], trow 80 1 encM v55 (S1.map (·.m) ++ [m53]), trow 103 1 encW v61 (S1.map (·.v) ++ [.slice none 0 0]), rowsA S1]) w := Sat.pushBig (Bs := S1.map mapP) (hw.sub (by repeat (first | exact SubL.nil | exact Pick.head | apply Pick.tail | apply SubL.cons)))
                have h2 : Sat (Old w0) w0 (stars (S1.map rowP ++ [rowP ⟨m53, .slice none 0 0, [], .slice none 0 0, []⟩]) :: [cel b2 24 [.int .i64 g.terms, .int .i64 g.names, .slice a g.rules.length c], cel b25 79 [.int .i64 g.terms, .int .i64 g.names, .slice a g.rules.length c, (.slice ta tk.length tc), v55, v61], trow 80 1 encM v55 (S1.map (·.m) ++ [m53]), trow 103 1 encW v61 (S1.map (·.v) ++ [.slice none 0 0]), stars (S1.map mapP ++ [mapP ⟨m53, .slice none 0 0, [], .slice none 0 0, []⟩])]) w := Sat.pushBig (Bs := S1.map rowP) ((h1.newV (e := 84)).sub (by repeat (first | exact SubL.nil | exact Pick.head | apply Pick.tail | apply SubL.cons)))
                show Sat (Old w0) w0 [_, _, trow _ 1 encM v55 ((S1 ++ [_]).map _), trow _ 1 encW v61 ((S1 ++ [_]).map _), stars ((S1 ++ [_]).map mapP), stars ((S1 ++ [_]).map rowP)] w
                simp only [List.map_append, List.map_cons, List.map_nil]
                exact h2.sub (by repeat (first | exact SubL.nil | exact Pick.head | apply Pick.tail | apply SubL.cons))) ?_
              refine EW_again ((k + 1, S1 ++ [⟨m53, .slice none 0 0, [], .slice none 0 0, []⟩], v55, v61)) ⟨?_, ?_⟩ ⟨rfl, rfl, rfl, rfl, rfl, rfl, trivial⟩ (fun w hw => hw.sub (by (repeat (first | exact SubL.nil | exact Pick.head | apply Pick.tail | apply SubL.cons))))
              · show tk.length + 2 - (k + 1) < tk.length + 2 - k; have := of_decide_eq_true h46; omega
              · refine ⟨by have := of_decide_eq_true h46; show k + 1 ≤ _; omega, by show (S1 ++ [_]).length = k + 1; rw [List.length_append, hSk]; rfl, fun r hr => ?_⟩
                rcases List.mem_append.1 hr with hr | hr
                · exact hS1 r hr
                · rw [List.mem_singleton.1 hr]
          · skip
            refine DT_e rfl (e_single Try.underlying77 Try.sizeOf103 Try.zeroValue103 (e := 103) (v := .slice none 0 0) (cs := encW (.slice none 0 0)) rfl rfl rfl rfl (by decide) (by decide)) rfl (.inr (fun _ w hw => (by first | exact hw.sub (by repeat (first | exact SubL.nil | exact Pick.head | apply Pick.tail | apply SubL.cons)) | exact hw.2.sub (by repeat (first | exact SubL.nil | exact Pick.head | apply Pick.tail | apply SubL.cons))))) (fun b60 => ?_)
            refine DT_e rfl (e_makeMap) rfl (.inr (fun _ w hw => (by first | exact hw.sub (by (repeat (first | exact SubL.nil | exact Pick.head | apply Pick.tail | apply SubL.cons))) | exact hw.2.sub (by (repeat (first | exact SubL.nil | exact Pick.head | apply Pick.tail | apply SubL.cons)))))) (fun m53 => ?_)
            refine DT_e rfl (e_single Try.underlying76 Try.sizeOf80 Try.zeroValue80 (e := 80) (v := .map (some m53)) (cs := encM m53) rfl rfl rfl rfl (by decide) (by decide)) rfl (.inr (fun _ w hw => (by first | exact hw.sub (by repeat (first | exact SubL.nil | exact Pick.head | apply Pick.tail | apply SubL.cons)) | exact hw.2.sub (by repeat (first | exact SubL.nil | exact Pick.head | apply Pick.tail | apply SubL.cons))))) (fun b54 => ?_)
            refine DT_e rfl (e_append_t (x0 := m53) (enc := encM) Try.underlying76 Try.typeInfo80 rfl rfl rfl rfl rfl rfl rfl (by repeat (first | exact .head | apply Pick.tail)) rfl (by exact fun w hw => hw.news (by repeat (first | exact .head | apply Swap.tail))) (by simp [Value.oneCell']) (by rw [List.length_map]; omega) (by decide)) rfl (.inr (fun _ w hw => (by first | exact hw.sub (by repeat (first | exact SubL.nil | exact Pick.head | apply Pick.tail | apply SubL.cons)) | exact hw.2.sub (by repeat (first | exact SubL.nil | exact Pick.head | apply Pick.tail | apply SubL.cons))))) (fun v55 => ?_)
            refine DT_e rfl (e_append_t (x0 := .slice none 0 0) (enc := encW) Try.underlying77 Try.typeInfo103 rfl rfl rfl rfl rfl rfl rfl (by repeat (first | exact .head | apply Pick.tail)) rfl (by exact fun w hw => hw.news (by repeat (first | exact .head | apply Swap.tail))) (by simp [Value.oneCell']) (by rw [List.length_map]; omega) (by decide)) rfl (.inr (fun _ w hw => (by first | exact hw.sub (by repeat (first | exact SubL.nil | exact Pick.head | apply Pick.tail | apply SubL.cons)) | exact hw.2.sub (by repeat (first | exact SubL.nil | exact Pick.head | apply Pick.tail | apply SubL.cons))))) (fun v61 => ?_)
            refine DT_p rfl (.inr (fun w hw => (by first | exact hw.sub (by (repeat (first | exact SubL.nil | exact Pick.head | apply Pick.tail | apply SubL.cons))) | exact hw.2.sub (by (repeat (first | exact SubL.nil | exact Pick.head | apply Pick.tail | apply SubL.cons)))))) (q_nilCheck rfl) rfl ?_
            refine DT_p rfl (.inr (fun w hw => (by first | exact hw.sub (by (repeat (first | exact SubL.nil | exact Pick.head | apply Pick.tail | apply SubL.cons))) | exact hw.2.sub (by (repeat (first | exact SubL.nil | exact Pick.head | apply Pick.tail | apply SubL.cons)))))) (q_fieldAddr Try.underlying79 rfl rfl Try.sizeOf76 rfl rfl) rfl ?_
            refine DT_fact (fun w hw => hw.tform (v := v55) (l := S1.map (·.m) ++ [m53]) (enc := encM) (by repeat (first | exact .head | apply Swap.tail))) (fun hf => ?_)
            obtain ⟨_, _, h55, _⟩ := hf
            refine DT_fact (fun w hw => hw.tform (v := v61) (l := S1.map (·.v) ++ [.slice none 0 0]) (enc := encW) (by repeat (first | exact .head | apply Swap.tail))) (fun hf => ?_)
            obtain ⟨_, _, h61, _⟩ := hf
            skip
            refine DT_e0 rfl (e_store (by first | exact Try.sizeOf76 | exact Try.sizeOf77) rfl rfl rfl (by first | (rw [h55]; rfl) | (rw [h61]; rfl)) (by repeat (first | exact .head | apply Swap.tail)) (by rfl)) (.inl rfl) (fun _ => ?_)
            refine DT_p rfl (.inl rfl) (q_nilCheck rfl) rfl ?_
            refine DT_p rfl (.inl rfl) (q_fieldAddr Try.underlying79 rfl rfl Try.sizeOf77 rfl rfl) rfl ?_
            refine DT_fact (fun w hw => hw.tform (v := v55) (l := S1.map (·.m) ++ [m53]) (enc := encM) (by repeat (first | exact .head | apply Swap.tail))) (fun hf => ?_)
            obtain ⟨_, _, h55, _⟩ := hf
            refine DT_fact (fun w hw => hw.tform (v := v61) (l := S1.map (·.v) ++ [.slice none 0 0]) (enc := encW) (by repeat (first | exact .head | apply Swap.tail))) (fun hf => ?_)
            obtain ⟨_, _, h61, _⟩ := hf
            skip
            refine DT_e0 rfl (e_store (by first | exact Try.sizeOf76 | exact Try.sizeOf77) rfl rfl rfl (by first | (rw [h55]; rfl) | (rw [h61]; rfl)) (by repeat (first | exact .head | apply Swap.tail)) (by rfl)) (.inl rfl) (fun _ => ?_)
            refine DT_nil ?_
            refine EW_block_normal ?_
            refine EW_then ?_
            refine CW_region ?_
            first | refine OW_q (q_inc rfl rfl (by omega)) rfl ?_ | refine OW_q (q_add rfl rfl (by omega) (by omega)) rfl ?_
            refine OW_q (q_move rfl) rfl ?_
            refine OW_nil ?_
            refine EW_weak (S' := Sat (Old w0) w0 [cel b2 24 [.int .i64 g.terms, .int .i64 g.names, .slice a g.rules.length c], cel b25 79 [.int .i64 g.terms, .int .i64 g.names, .slice a g.rules.length c, (.slice ta tk.length tc), v55, v61], msA v55 ((S1 ++ [⟨m53, .slice none 0 0, [], .slice none 0 0, []⟩])), hsA v61 ((S1 ++ [⟨m53, .slice none 0 0, [], .slice none 0 0, []⟩])), mapsA ((S1 ++ [⟨m53, .slice none 0 0, [], .slice none 0 0, []⟩])), rowsA ((S1 ++ [⟨m53, .slice none 0 0, [], .slice none 0 0, []⟩]))]) (fun w hw => by
              have h1 : Sat (Old w0) w0 (stars (S1.map mapP ++ [mapP ⟨m53, .slice none 0 0, [], .slice none 0 0, []⟩]) :: [cel b2 24 [.int .i64 g.terms, .int .i64 g.names, .slice a g.rules.length c], cel b25 79 [.int .i64 g.terms, .int .i64 g.names, .slice a g.rules.length c, (.slice ta tk.length tc), v55, v61], trow 80 1 encM v55 (S1.map (·.m) ++ [m53]), trow 103 1 encW v61 (S1.map (·.v) ++ [.slice none 0 0]), rowsA S1]) w := Sat.pushBig (Bs := S1.map mapP) (hw.sub (by repeat (first | exact SubL.nil | exact Pick.head | apply Pick.tail | apply SubL.cons)))
              have h2 : Sat (Old w0) w0 (stars (S1.map rowP ++ [rowP ⟨m53, .slice none 0 0, [], .slice none 0 0, []⟩]) :: [cel b2 24 [.int .i64 g.terms, .int .i64 g.names, .slice a g.rules.length c], cel b25 79 [.int .i64 g.terms, .int .i64 g.names, .slice a g.rules.length c, (.slice ta tk.length tc), v55, v61], trow 80 1 encM v55 (S1.map (·.m) ++ [m53]), trow 103 1 encW v61 (S1.map (·.v) ++ [.slice none 0 0]), stars (S1.map mapP ++ [mapP ⟨m53, .slice none 0 0, [], .slice none 0 0, []⟩])]) w := Sat.pushBig (Bs := S1.map rowP) ((h1.newV (e := 84)).sub (by repeat (first | exact SubL.nil | exact Pick.head | apply Pick.tail | apply SubL.cons)))
              show Sat (Old w0) w0 [_, _, trow _ 1 encM v55 ((S1 ++ [_]).map _), trow _ 1 encW v61 ((S1 ++ [_]).map _), stars ((S1 ++ [_]).map mapP), stars ((S1 ++ [_]).map rowP)] w
              simp only [List.map_append, List.map_cons, List.map_nil]
              exact h2.sub (by repeat (first | exact SubL.nil | exact Pick.head | apply Pick.tail | apply SubL.cons))) ?_
            refine EW_again ((k + 1, S1 ++ [⟨m53, .slice none 0 0, [], .slice none 0 0, []⟩], v55, v61)) ⟨?_, ?_⟩ ⟨rfl, rfl, rfl, rfl, rfl, rfl, trivial⟩ (fun w hw => hw.sub (by (repeat (first | exact SubL.nil | exact Pick.head | apply Pick.tail | apply SubL.cons))))
            · show tk.length + 2 - (k + 1) < tk.length + 2 - k; have := of_decide_eq_true h46; omega
            · refine ⟨by have := of_decide_eq_true h46; show k + 1 ≤ _; omega, by show (S1 ++ [_]).length = k + 1; rw [List.length_append, hSk]; rfl, fun r hr => ?_⟩
              rcases List.mem_append.1 hr with hr | hr
              · exact hS1 r hr
              · rw [List.mem_singleton.1 hr]
        · skip
          have hI1 : ChI g tk S1 := chi_new (by have := of_decide_eq_false h46; omega) hS1
          refine CW_exit ?_
          refine EW_then_exit ?_
          refine EW_out ?_
          refine EW_block_exit ?_
          refine EW_then ?_
          refine CW_seq ?_
          refine CW_region ?_
          refine OW_q (q_move rfl) rfl ?_
          refine OW_e (e_call Try.call42 rfl (fun w hw => lift_mutL (M0 := [cel b25 79 [.int .i64 g.terms, .int .i64 g.names, .slice a g.rules.length c, (.slice ta tk.length tc), vs, vr], msA vs (S1), hsA vr (S1), mapsA (S1), rowsA (S1)]) (L1 := [cel b2 24 [.int .i64 g.terms, .int .i64 g.names, .slice a g.rules.length c]]) (hw.sub (by repeat (first | exact SubL.nil | exact Pick.head | apply Pick.tail | apply SubL.cons))) (fun F2 hF => rbegin_any g hm tk htk a c b25 (.slice ta tk.length tc) vs vr 0 (Nat.zero_le _) 0 S1 hI1 _ w0 w F2 hr hF))) rfl (fun x68 => ?_)
          refine OW_pure fun hx68 => ?_
          refine OW_nil ?_
          refine EW_then ?_
          refine CW_seq ?_
          refine CW_seq ?_
          refine CW_region ?_
          refine OW_q (q_move rfl) rfl ?_
          first | refine OW_q (q_inc rfl rfl (by omega)) rfl ?_ | refine OW_q (q_add rfl rfl (by omega) (by omega)) rfl ?_
          refine OW_q (q_move rfl) rfl ?_
          refine OW_nil ?_
          refine EW_then ?_
          refine CW_block ?_
          refine CW_loopP (ι := Nat × List RowS) (fun i_ => i_.1 ≤ tk.length + 1 ∧ ChI g tk i_.2 ∧ (∀ i, i < i_.1 → Clo g tk (Ls i_.2) i) ∧ ∀ k q, g.rules[k]? = some q → q.left = 0 → (⟨k, 0, 0⟩ : Itt) ∈ rowAt (Ls i_.2) 0) (fun i_ => [(2, .pointer (some ⟨b2, 0, none⟩)), (6, .pointer (some ⟨b25, 0, none⟩)), (9, .int .i64 (tk.length : Int)), (70, .int .i64 ((tk.length + 1 : Nat) : Int)), (71, .int .i64 (i_.1 : Int))]) (fun i_ => Sat (Old w0) w0 [cel b2 24 [.int .i64 g.terms, .int .i64 g.names, .slice a g.rules.length c], cel b25 79 [.int .i64 g.terms, .int .i64 g.names, .slice a g.rules.length c, (.slice ta tk.length tc), vs, vr], msA vs (i_.2), hsA vr (i_.2), mapsA (i_.2), rowsA (i_.2)]) (fun i_ => tk.length + 1 - i_.1) (0, x68) ?_ ⟨rfl, rfl, rfl, rfl, rfl, trivial⟩ (fun w hw => hw.sub (by (repeat (first | exact SubL.nil | exact Pick.head | apply Pick.tail | apply SubL.cons)))) ?_
          · exact ⟨Nat.zero_le _, hx68.1, fun i h => absurd h (Nat.not_lt_zero _), hx68.2.2⟩
          intro i_ hpre
          obtain ⟨at_, S2⟩ := i_
          replace hpre : at_ ≤ tk.length + 1 ∧ ChI g tk S2 ∧ (∀ i, i < at_ → Clo g tk (Ls S2) i) ∧ ∀ k q, g.rules[k]? = some q → q.left = 0 → (⟨k, 0, 0⟩ : Itt) ∈ rowAt (Ls S2) 0 := hpre
          change CW _ _ _ _ [(2, .pointer (some ⟨b2, 0, none⟩)), (6, .pointer (some ⟨b25, 0, none⟩)), (9, .int .i64 (tk.length : Int)), (70, .int .i64 ((tk.length + 1 : Nat) : Int)), (71, .int .i64 (at_ : Int))] (Sat (Old w0) w0 [cel b2 24 [.int .i64 g.terms, .int .i64 g.names, .slice a g.rules.length c], cel b25 79 [.int .i64 g.terms, .int .i64 g.names, .slice a g.rules.length c, (.slice ta tk.length tc), vs, vr], msA vs (S2), hsA vr (S2), mapsA (S2), rowsA (S2)])
          obtain ⟨hat0, hI2, hclo, hbeg⟩ := hpre
          refine CW_seq ?_
          refine CW_region ?_
          refine OW_q (q_lss rfl rfl) rfl ?_
          refine OW_nil ?_
          refine EW_then ?_
          refine CW_seq ?_
          refine CW_cond rfl (fun h72 => ?_) (fun h72 => ?_)
          · skip
            have hat : at_ ≤ tk.length := by have := of_decide_eq_true h72; omega
            refine CW_skip ?_
            refine EW_then ?_
            refine CW_seq ?_
            refine CW_block ?_
            refine CW_seq ?_
            refine CW_region ?_
            refine OW_q (q_move rfl) rfl ?_
            refine OW_q (q_assign rfl) rfl ?_
            refine OW_nil ?_
            refine EW_then ?_
            refine CW_region ?_
            refine OW_q (q_move rfl) rfl ?_
            refine OW_q (q_move rfl) rfl ?_
            refine OW_e (e_call Try.call43 rfl (fun w hw => lift_mutL (M0 := [cel b25 79 [.int .i64 g.terms, .int .i64 g.names, .slice a g.rules.length c, (.slice ta tk.length tc), vs, vr], msA vs (S2), hsA vr (S2), mapsA (S2), rowsA (S2)]) (L1 := [cel b2 24 [.int .i64 g.terms, .int .i64 g.names, .slice a g.rules.length c]]) (hw.sub (by repeat (first | exact SubL.nil | exact Pick.head | apply Pick.tail | apply SubL.cons))) (fun F2 hF => row_any g hm tk htk a c b25 (.slice ta tk.length tc) vs vr at_ hat S2 hI2 _ w0 w F2 hr hd' hF))) rfl (fun x76 => ?_)
            refine OW_pure fun hx76 => ?_
            refine OW_nil ?_
            refine EW_block_normal ?_
            refine EW_then ?_
            refine CW_region ?_
            first | refine OW_q (q_inc rfl rfl (by omega)) rfl ?_ | refine OW_q (q_add rfl rfl (by omega) (by omega)) rfl ?_
            refine OW_q (q_move rfl) rfl ?_
            refine OW_nil ?_
            refine EW_again ((at_ + 1, x76)) ⟨?_, ?_⟩ ⟨rfl, rfl, rfl, rfl, rfl, trivial⟩ (fun w hw => hw.sub (by (repeat (first | exact SubL.nil | exact Pick.head | apply Pick.tail | apply SubL.cons))))
            · show tk.length + 1 - (at_ + 1) < tk.length + 1 - at_; omega
            · refine ⟨by show at_ + 1 ≤ _; omega, hx76.1, fun i hi => ?_, fun k q h1 h2 => (hx76.2.1.pre 0).subset (hbeg k q h1 h2)⟩
              by_cases e : i = at_
              · subst e; exact hx76.2.2
              · have : i < at_ + 1 := hi
                exact clo_mono (hclo i (by omega)) hx76.2.1 (by omega) (chi_frm' hI2)
          · skip
            have hate : at_ = tk.length + 1 := by have := of_decide_eq_false h72; omega
            subst hate
            obtain ⟨rn, hrn⟩ := get_of_lt (l := S2) (k := tk.length) (by have := hI2.len; omega)
            have hrow := rowAt_S hrn
            have hmk : (S2.map (·.m))[tk.length]? = some rn.m := by rw [List.getElem?_map, hrn]; rfl
            refine CW_fact (fun w hw => hw.tform (v := vs) (l := S2.map (·.m)) (enc := encM) (by repeat (first | exact .head | apply Swap.tail))) (fun hf => ?_)
            obtain ⟨aq, cs, hvs, hvs1, hvs2, hvs3⟩ := hf
            have hS2l := hI2.len
            rw [List.length_map] at hvs hvs1 hvs3
            obtain ⟨bs, rfl⟩ := hvs3 (by omega)
            rw [hS2l] at hvs hvs1
            subst hvs
            refine CW_exit ?_
            refine EW_then_exit ?_
            refine EW_out ?_
            refine EW_block_exit ?_
            refine EW_then ?_
            refine CW_seq ?_
            refine CW_seq ?_
            refine CW_region ?_
            refine OW_q (q_move rfl) rfl ?_
            refine OW_q (q_nilCheck rfl) rfl ?_
            refine OW_q (q_fieldAddr Try.underlying79 rfl rfl Try.sizeOf76 rfl rfl) rfl ?_
            first | (refine OW_q (q_load1_own Try.isAgg76 rfl rfl (by (repeat (first | exact .head | apply Swap.tail))) (by rfl)) rfl ?_) | (refine OW_q (q_load1_ro Try.isAgg76 rfl (by first | assumption | exact Row.at_ (by assumption) rfl)) rfl ?_)
            refine OW_q (q_move rfl) rfl ?_
            refine OW_q (q_indexAddr Try.underlying76 Try.sizeOf80 rfl rfl (by first | omega | assumption)) rfl ?_
            refine OW_q (q_load_t1 (v := .slice (some ⟨bs, 0, none⟩) (tk.length + 2) cs) (l := S2.map (·.m)) (enc := encM) Try.isAgg80 (fun _ => rfl) rfl (by repeat (first | exact .head | apply Swap.tail)) rfl hmk rfl) rfl ?_
            refine OW_e (e_rangeI (m := rn.m) (l := rn.l) Try.itTy rfl (.tail (.tail (.tail (.tail ((Hole.maps hrn).swap emp0A)))))) rfl (fun b85 => ?_)
            refine OW_nil ?_
            refine EW_then ?_
            refine CW_block ?_
            refine CW_loopP (ι := List Nat) (fun seen => seen.Nodup ∧ (∀ i ∈ seen, i < rn.l.length) ∧ ∀ i ∈ seen, ∀ x, rn.l[i]? = some x → ¬ Good g x) (fun seen => [(2, .pointer (some ⟨b2, 0, none⟩)), (6, .pointer (some ⟨b25, 0, none⟩)), (85, .pointer (some ⟨b85, 0, none⟩))]) (fun seen => Sat (Old w0) w0 [iterA b85 rn.m rn.l.length seen, cel b2 24 [.int .i64 g.terms, .int .i64 g.names, .slice a g.rules.length c], cel b25 79 [.int .i64 g.terms, .int .i64 g.names, .slice a g.rules.length c, (.slice ta tk.length tc), (.slice (some ⟨bs, 0, none⟩) (tk.length + 2) cs), vr], msA (.slice (some ⟨bs, 0, none⟩) (tk.length + 2) cs) (S2), hsA vr (S2), mapsA (S2), rowsA (S2)]) (fun seen => rn.l.length - seen.length) [] ?_ ⟨rfl, rfl, rfl, trivial⟩ (fun w hw => hw.sub (by (repeat (first | exact SubL.nil | exact Pick.head | apply Pick.tail | apply SubL.cons)))) ?_
            · exact ⟨List.nodup_nil, (fun i h => by cases h), (fun i h => by cases h)⟩
            intro seen hpre
            change CW _ _ _ _ [(2, .pointer (some ⟨b2, 0, none⟩)), (6, .pointer (some ⟨b25, 0, none⟩)), (85, .pointer (some ⟨b85, 0, none⟩))] (Sat (Old w0) w0 [iterA b85 rn.m rn.l.length seen, cel b2 24 [.int .i64 g.terms, .int .i64 g.names, .slice a g.rules.length c], cel b25 79 [.int .i64 g.terms, .int .i64 g.names, .slice a g.rules.length c, (.slice ta tk.length tc), (.slice (some ⟨bs, 0, none⟩) (tk.length + 2) cs), vr], msA (.slice (some ⟨bs, 0, none⟩) (tk.length + 2) cs) (S2), hsA vr (S2), mapsA (S2), rowsA (S2)])
            obtain ⟨hnd, hlt, hno⟩ := hpre
            refine CW_seq ?_
            refine CW_region ?_
            refine OW_e (e_nextJ (m := rn.m) (l := rn.l) (b := b85) (seen := seen) rfl (.tail (.tail (.tail (.tail (.tail ((Hole.maps hrn).swap emp0A)))))) .head) rfl (fun y86 => ?_)
            refine OW_pure fun hn1 => ?_
            refine OW_pure fun hn2 => ?_
            refine OW_q (q_extract (v := .bool y86.1) rfl (by rcases y86 with ⟨_ | _, _⟩ <;> rfl)) rfl ?_
            refine OW_nil ?_
            refine EW_then ?_
            refine CW_seq ?_
            refine CW_cond rfl (fun h87 => ?_) (fun h87 => ?_)
            · skip
              obtain ⟨yb, j, x⟩ := y86
              obtain rfl : yb = true := h87
              obtain ⟨hjx, hjs⟩ := hn2 rfl
              have hjx : rn.l[j]? = some x := hjx
              have hjs : j ∉ seen := hjs
              have hokx := chi_ok hI2 hrn hjx
              obtain ⟨q, hq, hxd, hxf, hxy⟩ := id hokx
              have hqr := (List.getElem?_eq_some_iff.1 hq).1
              obtain ⟨p, rfl, rvq, hsyq, hrowq⟩ := hrs x.rule q hq
              have hrowq' : Row (Rd (Old w0) w0) (p.add ((x.rule : Int).toNat * 2)) [.int .i64 q.left, rvq] := hrowq
              have hnd1 : (seen ++ [j]).Nodup := List.nodup_append.2 ⟨hnd, by simp, fun a ha b hb => by rw [List.mem_singleton.1 hb]; exact fun e => hjs (e ▸ ha)⟩
              have hlt1 : ∀ i ∈ seen ++ [j], i < rn.l.length := fun i hi => by
                rcases List.mem_append.1 hi with hi | hi
                · exact hlt i hi
                · rw [List.mem_singleton.1 hi]; exact (List.getElem?_eq_some_iff.1 hjx).1
              have hlen1 := nodup_bound rn.l.length _ hnd1 hlt1
              rw [List.length_append, List.length_singleton] at hlen1
              refine CW_weak (S' := Sat (Old w0) w0 [iterA b85 rn.m rn.l.length (seen ++ [j]), cel b2 24 [.int .i64 g.terms, .int .i64 g.names, .slice (some p) g.rules.length c], cel b25 79 [.int .i64 g.terms, .int .i64 g.names, .slice (some p) g.rules.length c, (.slice ta tk.length tc), (.slice (some ⟨bs, 0, none⟩) (tk.length + 2) cs), vr], msA (.slice (some ⟨bs, 0, none⟩) (tk.length + 2) cs) (S2), hsA vr (S2), mapsA (S2), rowsA (S2)]) (fun w hw => hw) ?_
              refine CW_skip ?_
              refine EW_then ?_
              refine CW_block ?_
              refine CW_seq ?_
              refine CW_region ?_
              refine OW_q (q_entryI (m := rn.m) (k := j) (l := rn.l) (y := x) (seen := seen) (B' := emp0A) rfl (.tail (.tail (.tail (.tail (.tail ((Hole.maps hrn).swap emp0A)))))) .head hjx) rfl ?_
              refine OW_q (q_extract rfl rfl) rfl ?_
              refine OW_e (e_alloc Try.zeroValue84 rfl) rfl (fun b11 => ?_)
              refine OW_e0 (e_storeN Try.sizeOf84 rfl rfl rfl rfl (by simp [Value.oneCell']) (by (repeat (first | exact .head | apply Swap.tail))) (by rfl)) (fun _ => ?_)
              refine OW_nil ?_
              refine EW_then ?_
              refine CW_seq ?_
              refine CW_region ?_
              refine OW_q (q_move rfl) rfl ?_
              first | (refine OW_q (q_loadN_own Try.isAgg84 Try.sizeOf84 rfl rfl (by (repeat (first | exact .head | apply Swap.tail))) (by rfl)) rfl ?_) | (refine OW_q (q_loadN_ro Try.isAgg84 Try.sizeOf84 rfl (by first | assumption | exact Row.at_ (by assumption) rfl) (by rfl)) rfl ?_)
              refine OW_e (e_call Try.call44 rfl (fun w hw => lift_ro (next_any b25 g _ c x q w (by rw [hw.cell (b := b25) (off := 2) (A' := emp0A) (by repeat (first | exact .head | apply Swap.tail))]; rfl) (hr.mono hw.rd_cl) hq) hw)) rfl (fun x93 => ?_)
              refine OW_q (q_move rfl) rfl ?_
              refine OW_q (q_extract rfl rfl) rfl ?_
              refine OW_q (q_extract rfl rfl) rfl ?_
              refine OW_e (e_alloc Try.zeroValue62 rfl) rfl (fun b12 => ?_)
              refine OW_e0 (e_storeN Try.sizeOf62 rfl rfl rfl rfl (by simp [Value.oneCell']) (by (repeat (first | exact .head | apply Swap.tail))) (by rfl)) (fun _ => ?_)
              refine OW_q (q_assign rfl) rfl ?_
              refine OW_nil ?_
              refine EW_then ?_
              refine CW_seq ?_
              refine CW_region ?_
              refine OW_q (q_move rfl) rfl ?_
              refine OW_q (q_not rfl) rfl ?_
              refine OW_q (q_move rfl) rfl ?_
              refine OW_part (t := 98) rfl (fun hg98 => ?_) (fun hg98 => ?_)
              · skip
                refine OW_wanted rfl rfl rfl ?_
                refine OW_q (q_fieldAddr Try.underlying84 rfl rfl Try.sizeOf3 rfl rfl) rfl ?_
                refine OW_wanted rfl rfl rfl ?_
                first | (refine OW_q (q_load1_own Try.isAgg3 rfl rfl (by (repeat (first | exact .head | apply Swap.tail))) (by rfl)) rfl ?_) | (refine OW_q (q_load1_ro Try.isAgg3 rfl (by first | assumption | exact Row.at_ (by assumption) rfl)) rfl ?_)
                refine OW_wanted rfl rfl rfl ?_
                refine OW_q (q_eqi rfl rfl) rfl ?_
                refine OW_q (q_pick_t rfl rfl) rfl ?_
                refine OW_q (q_move rfl) rfl ?_
                refine OW_part (t := 103) rfl (fun hg103 => ?_) (fun hg103 => ?_)
                · skip
                  refine OW_wanted rfl rfl rfl ?_
                  refine OW_q (q_fieldAddr Try.underlying24 rfl rfl Try.sizeOf22 rfl rfl) rfl ?_
                  refine OW_wanted rfl rfl rfl ?_
                  first | (refine OW_q (q_load1_own Try.isAgg22 rfl rfl (by (repeat (first | exact .head | apply Swap.tail))) (by rfl)) rfl ?_) | (refine OW_q (q_load1_ro Try.isAgg22 rfl (by first | assumption | exact Row.at_ (by assumption) rfl)) rfl ?_)
                  refine OW_wanted rfl rfl rfl ?_
                  refine OW_q (q_fieldAddr Try.underlying84 rfl rfl Try.sizeOf3 rfl rfl) rfl ?_
                  refine OW_wanted rfl rfl rfl ?_
                  first | (refine OW_q (q_load1_own Try.isAgg3 rfl rfl (by (repeat (first | exact .head | apply Swap.tail))) (by rfl)) rfl ?_) | (refine OW_q (q_load1_ro Try.isAgg3 rfl (by first | assumption | exact Row.at_ (by assumption) rfl)) rfl ?_)
                  refine OW_wanted rfl rfl rfl ?_
                  refine OW_q (q_indexAddrI Try.underlying22 Try.sizeOf41 rfl rfl (by first | omega | assumption) (by first | omega | assumption)) rfl ?_
                  refine OW_wanted rfl rfl rfl ?_
                  refine OW_q (q_fieldAddr Try.underlying41 rfl rfl Try.sizeOf3 rfl rfl) rfl ?_
                  refine OW_wanted rfl rfl rfl ?_
                  refine OW_q (q_load1_ro Try.isAgg3 rfl (by first | exact Row.at0 hrowq')) rfl ?_
                  refine OW_wanted rfl rfl rfl ?_
                  refine OW_q (q_eqi rfl rfl) rfl ?_
                  refine OW_q (q_pick_t rfl rfl) rfl ?_
                  refine OW_nil ?_
                  refine EW_then ?_
                  refine CW_cond rfl (fun h112 => ?_) (fun h112 => ?_)
                  · skip
                    have hgd : Good g x := by
                      refine ⟨?_, q, hq, ?_, ?_⟩
                      · simpa using hg103
                      · simpa using hg98
                      · simpa using h112
                    refine CW_seq ?_
                    refine CW_region ?_
                    refine OW_q (q_assign rfl) rfl ?_
                    refine OW_q (q_assign rfl) rfl ?_
                    refine OW_nil ?_
                    refine EW_then ?_
                    refine CW_ret ?_
                    refine EW_block_ret ?_
                    refine EW_out_ret ?_
                    refine EW_block_ret ?_
                    refine EW_then_ret ?_
                    refine ret2 Try.results23 rfl rfl (fun w hw => ?_)
                    exact ⟨true, by rw [hE], ⟨fun h => absurd hE h, fun _ => ⟨fun _ => good_yl hokx hgd, fun _ => rfl⟩⟩, hw.sub (by repeat (first | exact SubL.nil | exact Pick.head | apply Pick.tail | apply SubL.cons))⟩
                  · skip
                    refine CW_skip ?_
                    refine EW_block_normal ?_
                    refine EW_again (seen ++ [j]) ⟨?_, ?_⟩ ⟨rfl, rfl, rfl, trivial⟩ (fun w hw => hw.sub (by (repeat (first | exact SubL.nil | exact Pick.head | apply Pick.tail | apply SubL.cons))))
                    · show rn.l.length - (seen ++ [j]).length < rn.l.length - seen.length; rw [List.length_append, List.length_singleton]; have := nodup_bound rn.l.length seen hnd hlt; have := hlen1; omega
                    · refine ⟨hnd1, hlt1, fun j' hj' x' hx' hgd => ?_⟩
                      rcases List.mem_append.1 hj' with hj' | hj'
                      · exact hno j' hj' x' hx' hgd
                      · rw [List.mem_singleton.1 hj', hjx] at hx'
                        cases hx'
                        obtain ⟨g1, q', g2, g3, g4⟩ := hgd
                        rw [hq] at g2
                        cases g2
                        simp at h112; exact h112 g4
                · skip
                  refine OW_skip rfl rfl rfl rfl ?_
                  refine OW_skip rfl rfl rfl rfl ?_
                  refine OW_skip rfl rfl rfl rfl ?_
                  refine OW_skip rfl rfl rfl rfl ?_
                  refine OW_skip rfl rfl rfl rfl ?_
                  refine OW_skip rfl rfl rfl rfl ?_
                  refine OW_skip rfl rfl rfl rfl ?_
                  refine OW_skip rfl rfl rfl rfl ?_
                  refine OW_q (q_pick_f rfl rfl) rfl ?_
                  refine OW_nil ?_
                  refine EW_then ?_
                  refine CW_false rfl rfl ?_
                  refine CW_skip ?_
                  refine EW_block_normal ?_
                  refine EW_again (seen ++ [j]) ⟨?_, ?_⟩ ⟨rfl, rfl, rfl, trivial⟩ (fun w hw => hw.sub (by (repeat (first | exact SubL.nil | exact Pick.head | apply Pick.tail | apply SubL.cons))))
                  · show rn.l.length - (seen ++ [j]).length < rn.l.length - seen.length; rw [List.length_append, List.length_singleton]; have := nodup_bound rn.l.length seen hnd hlt; have := hlen1; omega
                  · refine ⟨hnd1, hlt1, fun j' hj' x' hx' hgd => ?_⟩
                    rcases List.mem_append.1 hj' with hj' | hj'
                    · exact hno j' hj' x' hx' hgd
                    · rw [List.mem_singleton.1 hj', hjx] at hx'
                      cases hx'
                      obtain ⟨g1, q', g2, g3, g4⟩ := hgd
                      rw [hq] at g2
                      cases g2
                      simp at hg103; omega
              · skip
                refine OW_skip rfl rfl rfl rfl ?_
                refine OW_skip rfl rfl rfl rfl ?_
                refine OW_skip rfl rfl rfl rfl ?_
                refine OW_q (q_pick_f rfl rfl) rfl ?_
                refine OW_q (q_move rfl) rfl ?_
                refine OW_skip rfl rfl rfl rfl ?_
                refine OW_skip rfl rfl rfl rfl ?_
                refine OW_skip rfl rfl rfl rfl ?_
                refine OW_skip rfl rfl rfl rfl ?_
                refine OW_skip rfl rfl rfl rfl ?_
                refine OW_skip rfl rfl rfl rfl ?_
                refine OW_skip rfl rfl rfl rfl ?_
                refine OW_skip rfl rfl rfl rfl ?_
                refine OW_q (q_pick_f rfl rfl) rfl ?_
                refine OW_nil ?_
                refine EW_then ?_
                refine CW_false rfl rfl ?_
                refine CW_skip ?_
                refine EW_block_normal ?_
                refine EW_again (seen ++ [j]) ⟨?_, ?_⟩ ⟨rfl, rfl, rfl, trivial⟩ (fun w hw => hw.sub (by (repeat (first | exact SubL.nil | exact Pick.head | apply Pick.tail | apply SubL.cons))))
                · show rn.l.length - (seen ++ [j]).length < rn.l.length - seen.length; rw [List.length_append, List.length_singleton]; have := nodup_bound rn.l.length seen hnd hlt; have := hlen1; omega
                · refine ⟨hnd1, hlt1, fun j' hj' x' hx' hgd => ?_⟩
                  rcases List.mem_append.1 hj' with hj' | hj'
                  · exact hno j' hj' x' hx' hgd
                  · rw [List.mem_singleton.1 hj', hjx] at hx'
                    cases hx'
                    obtain ⟨g1, q', g2, g3, g4⟩ := hgd
                    rw [hq] at g2
                    cases g2
                    simp [g3] at hg98
            · skip
              refine CW_exit ?_
              refine EW_then_exit ?_
              refine EW_out ?_
              refine EW_block_exit ?_
              refine EW_then ?_
              refine CW_seq ?_
              refine CW_region ?_
              refine OW_q (q_assign rfl) rfl ?_
              refine OW_q (q_assign rfl) rfl ?_
              refine OW_nil ?_
              refine EW_then ?_
              refine CW_ret ?_
              refine ret2 Try.results23 rfl rfl (fun w hw => ?_)
              refine ⟨false, by rw [hE], ⟨fun h => absurd hE h, fun _ => ⟨(fun h => by cases h), fun hy => ?_⟩⟩, hw.sub (by repeat (first | exact SubL.nil | exact Pick.head | apply Pick.tail | apply SubL.cons))⟩
              obtain ⟨x, hx, hgd⟩ := yl_good hclo hbeg hy
              rw [hrow] at hx
              obtain ⟨i, hi⟩ := List.getElem?_of_mem hx
              exact absurd hgd (hno i (hn1 (by simpa using h87) i (List.getElem?_eq_some_iff.1 hi).1) x hi)

end Go.Sy
