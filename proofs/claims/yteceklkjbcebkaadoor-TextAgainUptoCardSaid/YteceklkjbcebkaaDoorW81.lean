/- TextBack and TextAgain, walked. No condition. -/
import Derived.Test.YteceklkjbcebkaaDoorW77
import Derived.Test.YteceklkjbcebkaaDoorW80
import Derived.Test.YteceklkjbcebkaaDoorW82
namespace Go.Sy
open Go Go.RowKit Go.Proofs

theorem textT_ne (g : Gram) : textT g ≠ [] := by simp [textT, headT, tmB]
theorem ParseR.bad {s : List UInt8} {g : Gram} {c a : Int} (h : ParseR s g c a) (hc : c ≠ 0) : g = ⟨0, 0, []⟩ := by
  rcases h with ⟨_, _, _, _, _, _, _, h, _⟩ | ⟨_, _, ⟨_, _, h, _⟩ | ⟨_, h, _⟩⟩
  · exact h
  · exact absurd h hc
  · exact h
def knB : List UInt8 := [116, 101, 114, 109, 115, 32, 48, 32, 110, 97, 109, 101, 115, 32, 49, 10]
theorem known_text : textT ⟨0, 1, []⟩ = knB := by
  have h0 : Lib.decDigits (0 : Int).toNat = [48] := Lib.decDigits_one (by decide)
  have h1 : Lib.decDigits (1 : Int).toNat = [49] := Lib.decDigits_one (by decide)
  unfold textT headT
  simp only [h0, h1]
  rfl
theorem known_parse : ParseR knB ⟨0, 1, []⟩ 0 0 := known_text ▸ parse_text (g := ⟨0, 1, []⟩) (by decide)
set_option maxRecDepth 20000 in
theorem textBack_any (gv : Value) (g : Gram) (w : World) (hG : Globs w) (hg : GramAt (Cl w) gv g) : Calls Tryd.prog 3 #[gv] w (fun e w' => e = .returned (.bool true) ∧ Sat (Old w) w [] w') := by
  have hg0 := hg
  obtain ⟨rv, rfl, hr⟩ := hg.mono old_rd
  obtain ⟨a, c, rfl, hc1, hc2, hrs⟩ := id hr
  clear hg
  refine calls_CW Tryd.func3 rfl Tryd.ntmps3 rfl (Sat.start w) ?_
  refine CW_seq ?_
  refine CW_region ?_
  refine OW_e (e_box rfl rfl) rfl (fun b1 => ?_)
  refine OW_q (q_assign rfl) rfl ?_
  refine OW_nil ?_
  refine EW_then ?_
  refine CW_seq ?_
  refine CW_region ?_
  first | (refine OW_q (q_loadN_own Tryd.isAgg24 Tryd.sizeOf24 rfl rfl (by (repeat (first | exact .head | apply Swap.tail))) (by rfl)) rfl ?_) | (refine OW_q (q_loadN_ro Tryd.isAgg24 Tryd.sizeOf24 rfl (by first | assumption | exact Row.at_ (by assumption) rfl) (by rfl)) rfl ?_)
  refine OW_e (e_call Tryd.call5 rfl (fun w hw => lift_ro (print_any _ g w (hg0.mono (fun _ _ h => hw.rd (Rd.old h)))) hw)) rfl (fun x9 => ?_)
  refine OW_q (q_move rfl) rfl ?_
  refine OW_q (q_extract rfl rfl) rfl ?_
  refine OW_q (q_extract rfl rfl) rfl ?_
  refine OW_q (q_assign rfl) rfl ?_
  refine OW_q (q_assign rfl) rfl ?_
  refine OW_nil ?_
  refine EW_then ?_
  refine CW_seq ?_
  refine CW_seq ?_
  refine CW_region ?_
  refine OW_q (q_move rfl) rfl ?_
  refine OW_q (q_nei rfl rfl) rfl ?_
  refine OW_nil ?_
  refine EW_then ?_
  refine CW_cond rfl (fun h13 => ?_) (fun h13 => ?_)
  · skip
    have hm : mayB g = false := by
      cases hm : mayB g with
      | false => rfl
      | true => simp [hm] at h13
    refine CW_seq ?_
    refine CW_region ?_
    refine OW_q (q_move rfl) rfl ?_
    refine OW_q (q_eqS (a := if mayB g = true then textT g else []) (b := []) rfl rfl) rfl ?_
    refine OW_q (q_assign rfl) rfl ?_
    refine OW_nil ?_
    refine EW_then ?_
    refine CW_ret ?_
    refine EW_then_ret ?_
    refine ret1 Tryd.results3 rfl (fun w hw => ?_)
    exact ⟨by simp [hm], hw.sub .nil⟩
  · skip
    have hm : mayB g = true := by
      cases hm : mayB g with
      | false => simp [hm] at h13
      | true => rfl
    refine CW_spell 3 (.string ⟨(textT g).toArray⟩) rfl (by show Value.string ⟨(if mayB g = true then textT g else []).toArray⟩ = _; rw [if_pos hm]) ?_
    refine CW_skip ?_
    refine EW_then ?_
    refine CW_seq ?_
    refine CW_region ?_
    refine OW_q (q_move rfl) rfl ?_
    refine OW_e (e_call Tryd.call6 rfl (fun w hw => lift_oldP (parse_any (textT g) w (by have := textT_len hm; omega) (hG.of hw)) hw)) rfl (fun x18 => ?_)
    refine OW_pure fun hx18 => ?_
    obtain ⟨v18, g18, rs18, c18, i18⟩ := x18
    obtain ⟨hp18, hrl18⟩ := hx18
    have hp18 : ParseR (textT g) g18 c18 i18 := hp18
    have hrl18 : plainR rs18 = g18.rules := hrl18
    obtain ⟨e1, e2, e3⟩ := (parse_text hm).one hp18
    subst e1
    subst e2
    subst e3
    refine OW_fact (fun w hw => hw.tform (v := v18) (l := rs18) (enc := encRV) (by repeat (first | exact .head | apply Swap.tail))) (fun hf => ?_)
    obtain ⟨av18, cv18, rfl, _, _, hbv18⟩ := hf
    refine OW_q (q_move rfl) rfl ?_
    refine OW_q (q_extract rfl rfl) rfl ?_
    refine OW_q (q_extract rfl rfl) rfl ?_
    refine OW_e (e_alloc Tryd.zeroValue24 rfl) rfl (fun b5 => ?_)
    refine OW_e (e_alloc Tryd.zeroValue29 rfl) rfl (fun b6 => ?_)
    refine OW_e0 (e_storeN Tryd.sizeOf24 rfl rfl rfl rfl (by simp [Value.oneCell']) (by (repeat (first | exact .head | apply Swap.tail))) (by rfl)) (fun _ => ?_)
    refine OW_e0 (e_storeN Tryd.sizeOf29 rfl rfl rfl rfl (by simp [Value.oneCell']) (by (repeat (first | exact .head | apply Swap.tail))) (by rfl)) (fun _ => ?_)
    refine OW_nil ?_
    refine EW_then ?_
    refine CW_seq ?_
    refine CW_region ?_
    refine OW_q (q_fieldAddr Tryd.underlying29 rfl rfl Tryd.sizeOf25 rfl rfl) rfl ?_
    first | (refine OW_q (q_load1_own Tryd.isAgg25 rfl rfl (by (repeat (first | exact .head | apply Swap.tail))) (by rfl)) rfl ?_) | (refine OW_q (q_load1_ro Tryd.isAgg25 rfl (by first | assumption | exact Row.at_ (by assumption) rfl)) rfl ?_)
    refine OW_q (q_eqi rfl rfl) rfl ?_
    refine OW_q (q_move rfl) rfl ?_
    refine OW_part (t := 24) rfl (fun hg24 => ?_) (fun hg24 => ?_)
    · skip
      refine OW_wanted rfl rfl rfl ?_
      first | (refine OW_q (q_loadN_own Tryd.isAgg24 Tryd.sizeOf24 rfl rfl (by (repeat (first | exact .head | apply Swap.tail))) (by rfl)) rfl ?_) | (refine OW_q (q_loadN_ro Tryd.isAgg24 Tryd.sizeOf24 rfl (by first | assumption | exact Row.at_ (by assumption) rfl) (by rfl)) rfl ?_)
      refine OW_wanted rfl rfl rfl ?_
      first | (refine OW_q (q_loadN_own Tryd.isAgg24 Tryd.sizeOf24 rfl rfl (by (repeat (first | exact .head | apply Swap.tail))) (by rfl)) rfl ?_) | (refine OW_q (q_loadN_ro Tryd.isAgg24 Tryd.sizeOf24 rfl (by first | assumption | exact Row.at_ (by assumption) rfl) (by rfl)) rfl ?_)
      refine OW_wanted rfl rfl rfl ?_
      refine OW_e (e_call Tryd.call7 rfl (fun w hw => lift_oldP (same_any _ _ g ⟨g.terms, g.names, plainR rs18⟩ w (hg0.mono (fun _ _ h => hw.rd (Rd.old h))) (hw.gramIn (by repeat (first | exact .head | apply Swap.tail)) (by repeat (first | exact .head | apply Swap.tail)))) hw)) rfl (fun x27 => ?_)
      refine OW_pure fun hx27 => ?_
      obtain rfl : x27 = true := hx27.2 (by rw [hrl18])
      refine OW_q (q_pick_t rfl rfl) rfl ?_
      refine OW_q (q_move rfl) rfl ?_
      refine OW_part (t := 29) rfl (fun hg29 => ?_) (fun hg29 => ?_)
      · skip
        refine OW_wanted rfl rfl rfl ?_
        refine OW_q (q_move rfl) rfl ?_
        refine OW_wanted rfl rfl rfl ?_
        refine OW_q (q_neS (a := textT g) (b := []) rfl rfl) rfl ?_
        refine OW_q (q_pick_t rfl rfl) rfl ?_
        refine OW_q (q_assign rfl) rfl ?_
        refine OW_nil ?_
        refine EW_then ?_
        refine CW_ret ?_
        refine ret1 Tryd.results3 rfl (fun w hw => ?_)
        exact ⟨by simp [textT_ne], hw.sub .nil⟩
      · skip
        exact absurd hg29 (by simp) --stop
    · skip
      exact absurd hg24 (by simp) --stop

set_option maxRecDepth 20000 in
theorem textAgain_any (l : List UInt8) (w : World) (hl : l.length ≤ 4000000000) (hG : Globs w) : Calls Tryd.prog 4 #[.string ⟨l.toArray⟩] w (fun e w' => e = .returned (.bool true) ∧ Sat (Old w) w [] w') := by
  refine calls_CW Tryd.func4 rfl Tryd.ntmps4 rfl (Sat.start w) ?_
  refine CW_seq ?_
  refine CW_region ?_
  refine OW_q (q_assign rfl) rfl ?_
  refine OW_nil ?_
  refine EW_then ?_
  refine CW_seq ?_
  refine CW_region ?_
  refine OW_e (e_call Tryd.call6 rfl (fun w hw => lift_oldP (parse_any knB w (by decide) (hG.of hw)) hw)) rfl (fun x10 => ?_)
  refine OW_pure fun hx10 => ?_
  obtain ⟨v10, g10, rs10, c10, i10⟩ := x10
  obtain ⟨hp10, hrl10⟩ := hx10
  have hp10 : ParseR knB g10 c10 i10 := hp10
  have hrl10 : plainR rs10 = g10.rules := hrl10
  obtain ⟨e1, e2, e3⟩ := known_parse.one hp10
  subst e1
  subst e2
  subst e3
  refine OW_fact (fun w hw => hw.tform (v := v10) (l := rs10) (enc := encRV) (by repeat (first | exact .head | apply Swap.tail))) (fun hf => ?_)
  obtain ⟨av10, cv10, rfl, _, _, hbv10⟩ := hf
  refine OW_q (q_move rfl) rfl ?_
  refine OW_q (q_extract rfl rfl) rfl ?_
  refine OW_q (q_extract rfl rfl) rfl ?_
  refine OW_e (e_alloc Tryd.zeroValue24 rfl) rfl (fun b3 => ?_)
  refine OW_e (e_alloc Tryd.zeroValue29 rfl) rfl (fun b4 => ?_)
  refine OW_e0 (e_storeN Tryd.sizeOf24 rfl rfl rfl rfl (by simp [Value.oneCell']) (by (repeat (first | exact .head | apply Swap.tail))) (by rfl)) (fun _ => ?_)
  refine OW_e0 (e_storeN Tryd.sizeOf29 rfl rfl rfl rfl (by simp [Value.oneCell']) (by (repeat (first | exact .head | apply Swap.tail))) (by rfl)) (fun _ => ?_)
  refine OW_nil ?_
  refine EW_then ?_
  refine CW_seq ?_
  refine CW_seq ?_
  refine CW_region ?_
  refine OW_q (q_fieldAddr Tryd.underlying24 rfl rfl Tryd.sizeOf3 rfl rfl) rfl ?_
  first | (refine OW_q (q_load1_own Tryd.isAgg3 rfl rfl (by (repeat (first | exact .head | apply Swap.tail))) (by rfl)) rfl ?_) | (refine OW_q (q_load1_ro Tryd.isAgg3 rfl (by first | assumption | exact Row.at_ (by assumption) rfl)) rfl ?_)
  refine OW_q (q_nei rfl rfl) rfl ?_
  refine OW_nil ?_
  refine EW_then ?_
  refine CW_false rfl (rfl) ?_
  refine CW_skip ?_
  refine EW_then ?_
  refine CW_seq ?_
  refine CW_region ?_
  refine OW_q (q_move rfl) rfl ?_
  refine OW_e (e_call Tryd.call6 rfl (fun w hw => lift_oldP (parse_any l w hl (hG.of hw)) hw)) rfl (fun x18 => ?_)
  refine OW_pure fun hx18 => ?_
  obtain ⟨v18, g18, rs18, c18, i18⟩ := x18
  obtain ⟨hp18, hrl18⟩ := hx18
  have hp18 : ParseR l g18 c18 i18 := hp18
  have hrl18 : plainR rs18 = g18.rules := hrl18
  refine OW_fact (fun w hw => hw.tform (v := v18) (l := rs18) (enc := encRV) (by repeat (first | exact .head | apply Swap.tail))) (fun hf => ?_)
  obtain ⟨av18, cv18, rfl, _, _, hbv18⟩ := hf
  refine OW_q (q_move rfl) rfl ?_
  refine OW_q (q_extract rfl rfl) rfl ?_
  refine OW_q (q_extract rfl rfl) rfl ?_
  refine OW_e (e_alloc Tryd.zeroValue24 rfl) rfl (fun b5 => ?_)
  refine OW_e (e_alloc Tryd.zeroValue29 rfl) rfl (fun b6 => ?_)
  refine OW_e0 (e_storeN Tryd.sizeOf24 rfl rfl rfl rfl (by simp [Value.oneCell']) (by (repeat (first | exact .head | apply Swap.tail))) (by rfl)) (fun _ => ?_)
  refine OW_e0 (e_storeN Tryd.sizeOf29 rfl rfl rfl rfl (by simp [Value.oneCell']) (by (repeat (first | exact .head | apply Swap.tail))) (by rfl)) (fun _ => ?_)
  refine OW_nil ?_
  refine EW_then ?_
  refine CW_seq ?_
  refine CW_seq ?_
  refine CW_region ?_
  refine OW_q (q_fieldAddr Tryd.underlying29 rfl rfl Tryd.sizeOf25 rfl rfl) rfl ?_
  first | (refine OW_q (q_load1_own Tryd.isAgg25 rfl rfl (by (repeat (first | exact .head | apply Swap.tail))) (by rfl)) rfl ?_) | (refine OW_q (q_load1_ro Tryd.isAgg25 rfl (by first | assumption | exact Row.at_ (by assumption) rfl)) rfl ?_)
  refine OW_q (q_nei rfl rfl) rfl ?_
  refine OW_nil ?_
  refine EW_then ?_
  refine CW_cond rfl (fun h23 => ?_) (fun h23 => ?_)
  · skip
    have hc : c18 ≠ 0 := by simpa using h23
    have hb := hp18.bad hc
    subst hb
    have hr0 : rs18 = [] := by
      have h1 : plainR rs18 = [] := hrl18
      cases rs18 with
      | nil => rfl
      | cons a b => cases h1
    refine CW_seq ?_
    refine CW_region ?_
    refine OW_q (q_fieldAddr Tryd.underlying24 rfl rfl Tryd.sizeOf3 rfl rfl) rfl ?_
    first | (refine OW_q (q_load1_own Tryd.isAgg3 rfl rfl (by (repeat (first | exact .head | apply Swap.tail))) (by rfl)) rfl ?_) | (refine OW_q (q_load1_ro Tryd.isAgg3 rfl (by first | assumption | exact Row.at_ (by assumption) rfl)) rfl ?_)
    refine OW_q (q_eqi rfl rfl) rfl ?_
    refine OW_q (q_move rfl) rfl ?_
    refine OW_part (t := 27) rfl (fun hg27 => ?_) (fun hg27 => ?_)
    · skip
      refine OW_wanted rfl rfl rfl ?_
      refine OW_q (q_fieldAddr Tryd.underlying24 rfl rfl Tryd.sizeOf22 rfl rfl) rfl ?_
      refine OW_wanted rfl rfl rfl ?_
      first | (refine OW_q (q_load1_own Tryd.isAgg22 rfl rfl (by (repeat (first | exact .head | apply Swap.tail))) (by rfl)) rfl ?_) | (refine OW_q (q_load1_ro Tryd.isAgg22 rfl (by first | assumption | exact Row.at_ (by assumption) rfl)) rfl ?_)
      refine OW_wanted rfl rfl rfl ?_
      refine OW_q (q_len Tryd.underlying22 rfl) rfl ?_
      refine OW_wanted rfl rfl rfl ?_
      refine OW_q (q_eqi rfl rfl) rfl ?_
      refine OW_q (q_pick_t rfl rfl) rfl ?_
      refine OW_q (q_assign rfl) rfl ?_
      refine OW_nil ?_
      refine EW_then ?_
      refine CW_ret ?_
      refine EW_then_ret ?_
      refine ret1 Tryd.results4 rfl (fun w hw => ?_)
      exact ⟨by simp [hr0], hw.sub .nil⟩
    · skip
      exact absurd hg27 (by simp) --stop
  · skip
    have hc : c18 = 0 := by simpa using h23
    subst hc
    obtain ⟨ht, hm⟩ := text_parse hp18
    have hgx : (⟨g18.terms, g18.names, plainR rs18⟩ : Gram) = g18 := by rw [hrl18]
    rw [← hgx] at ht hm
    refine CW_skip ?_
    refine EW_then ?_
    refine CW_seq ?_
    refine CW_region ?_
    first | (refine OW_q (q_loadN_own Tryd.isAgg24 Tryd.sizeOf24 rfl rfl (by (repeat (first | exact .head | apply Swap.tail))) (by rfl)) rfl ?_) | (refine OW_q (q_loadN_ro Tryd.isAgg24 Tryd.sizeOf24 rfl (by first | assumption | exact Row.at_ (by assumption) rfl) (by rfl)) rfl ?_)
    refine OW_e (e_call Tryd.call5 rfl (fun w hw => lift_ro (print_any _ (⟨g18.terms, g18.names, plainR rs18⟩ : Gram) w (hw.gramIn (by repeat (first | exact .head | apply Swap.tail)) (by repeat (first | exact .head | apply Swap.tail)))) hw)) rfl (fun x35 => ?_)
    refine OW_q (q_move rfl) rfl ?_
    refine OW_q (q_extract rfl rfl) rfl ?_
    refine OW_q (q_extract rfl rfl) rfl ?_
    refine OW_q (q_assign rfl) rfl ?_
    refine OW_q (q_assign rfl) rfl ?_
    refine OW_nil ?_
    refine EW_then ?_
    refine CW_seq ?_
    refine CW_region ?_
    refine OW_q (q_move rfl) rfl ?_
    refine OW_q (q_eqi rfl rfl) rfl ?_
    refine OW_q (q_move rfl) rfl ?_
    refine OW_part (t := 40) rfl (fun hg40 => ?_) (fun hg40 => ?_)
    · skip
      refine OW_wanted rfl rfl rfl ?_
      refine OW_q (q_move rfl) rfl ?_
      refine OW_wanted rfl rfl rfl ?_
      refine OW_q (q_move rfl) rfl ?_
      refine OW_wanted rfl rfl rfl ?_
      refine OW_q (q_eqS (a := if mayB ⟨g18.terms, g18.names, plainR rs18⟩ = true then textT ⟨g18.terms, g18.names, plainR rs18⟩ else []) (b := l) rfl rfl) rfl ?_
      refine OW_q (q_pick_t rfl rfl) rfl ?_
      refine OW_q (q_assign rfl) rfl ?_
      refine OW_nil ?_
      refine EW_then ?_
      refine CW_ret ?_
      refine ret1 Tryd.results4 rfl (fun w hw => ?_)
      exact ⟨by simp [hm, ht], hw.sub .nil⟩
    · skip
      exact absurd hg40 (by simp [hm]) --stop

end Go.Sy
