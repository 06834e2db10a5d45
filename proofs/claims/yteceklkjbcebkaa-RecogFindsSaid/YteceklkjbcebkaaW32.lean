/- RecogFinds. No condition. -/
import Derived.Test.YteceklkjbcebkaaW31
import Derived.Test.YteceklkjbcebkaaW5
namespace Go.Sy
open Go Go.RowKit Go.Proofs

/-- Symbols yield these tokens. -/
inductive RT (g : Gram) : List Sym → List Int → Prop
  | nil : RT g [] []
  | term {t : Int} {l : List Sym} {k : List Int} : RT g l k → RT g (⟨true, t⟩ :: l) (t :: k)
  | name {r : Rule} {l : List Sym} {i k : List Int} : r ∈ g.rules → RT g r.right i → RT g l k → RT g (⟨false, r.left⟩ :: l) (i ++ k)
theorem rt_append {g : Gram} : ∀ {l m : List Sym} {k : List Int}, RT g (l ++ m) k → ∃ i j, RT g l i ∧ RT g m j ∧ k = i ++ j
  | [], m, k, h => ⟨[], k, .nil, h, rfl⟩
  | s :: l, m, k, h => by
    rw [List.cons_append] at h
    cases h with
    | term h =>
      obtain ⟨i, j, h1, h2, h3⟩ := rt_append h
      exact ⟨_, j, .term h1, h2, by rw [h3]; rfl⟩
    | name hr h1 h2 =>
      obtain ⟨i, j, h3, h4, h5⟩ := rt_append h2
      exact ⟨_, j, .name hr h1 h3, h4, by rw [h5, List.append_assoc]⟩
theorem rthru_toks {g : Gram} {d : List Int} {st : List Itm} {used : Nat} {out : List Int} {sp : List Spn} {r : Option (List Int × List Spn)} (h : Thru g d st used out sp r) : ∀ o s, r = some (o, s) → ∃ k, RT g (syms st) k ∧ o = out ++ k := by
  induction h with
  | done _ => intro o s h; simp only [Option.some.injEq, Prod.mk.injEq] at h; obtain ⟨rfl, rfl⟩ := h; exact ⟨[], .nil, by simp⟩
  | short _ => intro o s h; cases h
  | @close it st used out sp x r hc _ _ ih =>
    intro o s h
    obtain ⟨k, h1, h2⟩ := ih o s h
    refine ⟨k, ?_, h2⟩
    unfold syms
    rw [List.filter_cons, if_neg (by simp [hc])]
    exact h1
  | @term it st used out sp r hc ht _ ih =>
    intro o s h
    obtain ⟨k, h1, h2⟩ := ih o s h
    refine ⟨it.s.n :: k, ?_, by rw [h2, List.append_assoc]; rfl⟩
    unfold syms
    rw [List.filter_cons, if_pos (by simp [hc]), List.map_cons]
    obtain ⟨⟨t, n⟩, c, s⟩ := it
    simp only at ht
    subst ht
    exact .term h1
  | bad _ _ _ => intro o s h; cases h
  | @rule it st used out sp x q r hc ht hd h0 hq hl _ ih =>
    intro o s h
    obtain ⟨k, h1, h2⟩ := ih o s h
    rw [syms_rule] at h1
    obtain ⟨i, j, h3, h4, h5⟩ := rt_append h1
    refine ⟨i ++ j, ?_, by rw [h2, h5]⟩
    unfold syms
    rw [List.filter_cons, if_pos (by simp [hc]), List.map_cons]
    obtain ⟨⟨t, n⟩, c, s⟩ := it
    simp only at ht hl
    subst ht
    subst hl
    exact .name (List.mem_of_getElem? hq) h3 h4
theorem rt_yl {g : Gram} {tk : List Int} {l : List Sym} {k : List Int} (h : RT g l k) : ∀ i, (∀ j x, k[j]? = some x → tk[i + j]? = some x) → Yl g tk l i (i + k.length) := by
  induction h with
  | nil => intro i _; exact .nil
  | @term t l k h ih =>
    intro i hk
    have h1 := ih (i + 1) (fun j x hj => by rw [Nat.add_assoc, Nat.add_comm 1 j]; exact hk (j + 1) x (by simpa using hj))
    rw [List.length_cons, show i + (k.length + 1) = i + 1 + k.length by omega]
    exact .term rfl (hk 0 t rfl) h1
  | @name r l i' k hr h1 h2 ih1 ih2 =>
    intro i hk
    have e1 := ih1 i (fun j x hj => hk j x (by rw [List.getElem?_append_left (List.getElem?_eq_some_iff.1 hj).1]; exact hj))
    have e2 := ih2 (i + i'.length) (fun j x hj => by
      rw [Nat.add_assoc]
      exact hk _ x (by rw [List.getElem?_append_right (Nat.le_add_right _ _), Nat.add_sub_cancel_left]; exact hj))
    rw [List.length_append, ← Nat.add_assoc]
    exact .name rfl hr rfl e1 e2
theorem rt_rng {g : Gram} (hM : ∀ r ∈ g.rules, ∀ s ∈ r.right, s.term = true → 0 ≤ s.n ∧ s.n < g.terms) {l : List Sym} {k : List Int} (h : RT g l k) : (∀ s ∈ l, s.term = true → 0 ≤ s.n ∧ s.n < g.terms) → ∀ x ∈ k, 0 ≤ x ∧ x < g.terms := by
  induction h with
  | nil => intro _ x hx; cases hx
  | @term t l k _ ih =>
    intro hl x hx
    rcases List.mem_cons.1 hx with rfl | hx
    · exact hl _ (List.mem_cons_self ..) rfl
    · exact ih (fun s hs => hl s (List.mem_cons_of_mem _ hs)) x hx
  | @name r l i k hr _ _ ih1 ih2 =>
    intro hl x hx
    rcases List.mem_append.1 hx with hx | hx
    · exact ih1 (hM r hr) x hx
    · exact ih2 (fun s hs => hl s (List.mem_cons_of_mem _ hs)) x hx
theorem rmay_term {g : Gram} (hm : mayB g = true) {r : Rule} (hr : r ∈ g.rules) {s : Sym} (hs : s ∈ r.right) (ht : s.term = true) : 0 ≤ s.n ∧ s.n < g.terms := by
  obtain ⟨k, hk⟩ := List.getElem?_of_mem hr
  obtain ⟨j, hj⟩ := List.getElem?_of_mem hs
  have h1 := all_get (mayB_true.1 hm).2.2.2.2.2 hk
  have h2 := all_get (ruleB_true.1 h1).2.2.2 hj
  have := (symB_true.1 h2)
  exact ⟨this.1, this.2.1 ht⟩
theorem finds_has {g : Gram} {d o : List Int} {s : List Spn} {x : Bool} (hm : mayB g = true) (h : Thru g d open0 0 [] [] (some (o, s))) (hl : o.length ≤ 30) (hx : HasOk g o x) : wrongE g o = 0 ∧ x = true := by
  obtain ⟨k, h1, h2⟩ := rthru_toks h o s rfl
  rw [List.nil_append] at h2
  subst h2
  have h3 : RT g [⟨false, 0⟩] o := h1
  have hr := rt_rng (fun r hr s hs ht => rmay_term hm hr hs ht) h3 (fun s hs ht => by simp at hs; rw [hs] at ht; cases ht)
  have hE := wrong0 hm hl (fun k x hk => hr x (List.mem_of_getElem? hk))
  have hy := rt_yl (tk := o) h3 0 (fun j x hj => by rw [Nat.zero_add]; exact hj)
  rw [Nat.zero_add] at hy
  exact ⟨hE, (hx.2 hE).2 hy⟩
/-- A grammar of one rule, that becomes nothing. -/
def rone : Gram := ⟨0, 1, [⟨0, []⟩]⟩
section
variable {R : Nat → Prop} {w0 w : World} {L L' : List HP}
theorem rone_gram {b : Nat} {T : TypeId} (h : Sat R w0 L w) (s : Swap L (cel b T [.int .i64 0, .slice none 0 0]) (cel b T [.int .i64 0, .slice none 0 0]) L') : GramAt (Cl w) (.agg #[.int .i64 0, .int .i64 1, .slice (some ⟨b, 0, none⟩) 1 1]) rone := by
  refine ⟨_, rfl, some ⟨b, 0, none⟩, 1, rfl, Nat.le_refl _, by omega, fun k x hx => ?_⟩
  have hk : k = 0 := by have := (List.getElem?_eq_some_iff.1 hx).1; simp only [rone, List.length_singleton] at this; omega
  subst hk
  cases hx
  refine ⟨_, rfl, .slice none 0 0, ⟨none, 0, rfl, Nat.le_refl _, by omega, fun k x hx => by cases hx⟩, fun j u hj => ?_⟩
  rw [Nat.zero_mul, Addr.add_zero', Addr.add_lit, Nat.zero_add]
  show w.cell? _ = _
  rw [h.cell s]; exact hj
end
theorem rone_has {x : Bool} (h : HasOk rone [] x) : x = true :=
  (h.2 (by decide)).2 (.name (q := ⟨0, []⟩) rfl (by decide) rfl .nil .nil)
theorem rone_nil (ρ : Addr → Value → Prop) : IntsAt ρ (.slice none 0 0) [] := ⟨none, 0, rfl, Nat.le_refl _, by omega, fun k x h => by cases h⟩
set_option maxRecDepth 20000 in
theorem recogFinds_any (gv dv : Value) (g : Gram) (d : List Int) (w : World) (hg : GramAt (Cl w) gv g) (hd : IntsAt (Cl w) dv d) : Calls Try.prog 9 #[gv, dv] w (fun e w' => e = .returned (.bool true) ∧ Sat (Old w) w [] w') := by
  have hd0 := hd
  have hg0 := hg
  obtain ⟨rv, rfl, hr⟩ := hg.mono old_rd
  obtain ⟨a, c, rfl, hc1, hc2, hrs⟩ := hr
  clear hg
  obtain ⟨a2, c2, rfl, hd1, hd2, hds⟩ := hd.mono old_rd
  clear hd
  refine calls_CW Try.func9 rfl Try.ntmps9 rfl (Sat.start w) ?_
  refine CW_seq ?_
  refine CW_region ?_
  refine OW_e (e_box rfl rfl) rfl (fun b2 => ?_)
  refine OW_q (q_assign rfl) rfl ?_
  refine OW_nil ?_
  refine EW_then ?_
  refine CW_seq ?_
  refine CW_region ?_
  first | (refine OW_q (q_loadN_own Try.isAgg24 Try.sizeOf24 rfl rfl (by (repeat (first | exact .head | apply Swap.tail))) (by rfl)) rfl ?_) | (refine OW_q (q_loadN_ro Try.isAgg24 Try.sizeOf24 rfl (by first | assumption | exact Row.at_ (by assumption) rfl) (by rfl)) rfl ?_)
  refine OW_q (q_move rfl) rfl ?_
  refine OW_e (e_call Try.call17 rfl (fun w hw => lift_oldP (through_any _ _ g d w (hg0.mono (fun _ _ h => hw.rd (Rd.old h))) (hd0.mono (fun _ _ h => hw.rd (Rd.old h)))) hw)) rfl (fun x16 => ?_)
  refine OW_pure fun hx16 => ?_
  refine OW_q (q_move rfl) rfl ?_
  refine OW_q (q_extract rfl rfl) rfl ?_
  refine OW_q (q_extract rfl rfl) rfl ?_
  refine OW_q (q_extract rfl rfl) rfl ?_
  refine OW_q (q_assign rfl) rfl ?_
  refine OW_q (q_assign rfl) rfl ?_
  refine OW_q (q_assign rfl) rfl ?_
  refine OW_nil ?_
  refine EW_then ?_
  refine CW_seq ?_
  refine CW_seq ?_
  refine CW_region ?_
  refine OW_q (q_move rfl) rfl ?_
  refine OW_q (q_not rfl) rfl ?_
  refine OW_nil ?_
  refine EW_then ?_
  refine CW_cond rfl (fun h21 => ?_) (fun h21 => ?_)
  · skip
    refine CW_seq ?_
    refine CW_region ?_
    refine OW_q (q_build (ps := #[]) (v := .agg #[.int .i64 0, .slice none 0 0]) rfl (fun w => by kernel_rfl)) rfl ?_
    refine OW_e (e_single Try.underlying22 Try.sizeOf41 Try.zeroValue41 (e := 41) (v := .agg #[.int .i64 0, .slice none 0 0]) (cs := [.int .i64 0, .slice none 0 0]) rfl rfl rfl rfl (by decide) (by decide)) rfl (fun b23 => ?_)
    refine OW_q (q_build (ps := #[(1, .int .i64 1), (2, .slice (some ⟨b23, 0, none⟩) 1 1)]) (v := .agg #[.int .i64 0, .int .i64 1, .slice (some ⟨b23, 0, none⟩) 1 1]) rfl (fun w => by kernel_rfl)) rfl ?_
    refine OW_e (e_alloc Try.zeroValue24 rfl) rfl (fun b8 => ?_)
    refine OW_e0 (e_storeN Try.sizeOf24 rfl rfl rfl rfl (by simp [Value.oneCell']) (by (repeat (first | exact .head | apply Swap.tail))) (by rfl)) (fun _ => ?_)
    refine OW_nil ?_
    refine EW_then ?_
    refine CW_seq ?_
    refine CW_region ?_
    first | (refine OW_q (q_loadN_own Try.isAgg24 Try.sizeOf24 rfl rfl (by (repeat (first | exact .head | apply Swap.tail))) (by rfl)) rfl ?_) | (refine OW_q (q_loadN_ro Try.isAgg24 Try.sizeOf24 rfl (by first | assumption | exact Row.at_ (by assumption) rfl) (by rfl)) rfl ?_)
    refine OW_e (e_call Try.call23 rfl (fun w hw => lift_oldP (has_any _ _ rone [] w (rone_gram (b := b23) (T := 41) hw (by repeat (first | exact .head | apply Swap.tail))) (rone_nil _)) hw)) rfl (fun x27 => ?_)
    refine OW_pure fun hx27 => ?_
    have hone := rone_has hx27
    refine OW_q (q_move rfl) rfl ?_
    refine OW_q (q_extract rfl rfl) rfl ?_
    refine OW_q (q_extract rfl rfl) rfl ?_
    refine OW_q (q_assign rfl) rfl ?_
    refine OW_q (q_assign rfl) rfl ?_
    refine OW_nil ?_
    refine EW_then ?_
    refine CW_seq ?_
    refine CW_region ?_
    refine OW_q (q_move rfl) rfl ?_
    refine OW_q (q_assign rfl) rfl ?_
    refine OW_nil ?_
    refine EW_then ?_
    refine CW_ret ?_
    refine EW_then_ret ?_
    refine ret1 Try.results9 rfl (fun w hw => ?_)
    exact ⟨(rt (B := x27) hone).symm, hw.sub .nil⟩
  · skip
    have hok : x16.ok = true := by simpa using h21
    obtain ⟨hm, _, hth⟩ := hx16.1 hok
    refine CW_skip ?_
    refine EW_then ?_
    refine CW_seq ?_
    refine CW_region ?_
    first | (refine OW_q (q_loadN_own Try.isAgg24 Try.sizeOf24 rfl rfl (by (repeat (first | exact .head | apply Swap.tail))) (by rfl)) rfl ?_) | (refine OW_q (q_loadN_ro Try.isAgg24 Try.sizeOf24 rfl (by first | assumption | exact Row.at_ (by assumption) rfl) (by rfl)) rfl ?_)
    refine OW_q (q_move rfl) rfl ?_
    refine OW_e (e_call Try.call23 rfl (fun w hw => lift_oldP (has_any _ _ g x16.out w (hg0.mono (fun _ _ h => hw.rd (Rd.old h))) (hw.tints (v := x16.v1) (l := x16.out) (by repeat (first | exact .head | apply Swap.tail)))) hw)) rfl (fun x34 => ?_)
    refine OW_pure fun hx34 => ?_
    refine OW_q (q_move rfl) rfl ?_
    refine OW_q (q_extract rfl rfl) rfl ?_
    refine OW_q (q_extract rfl rfl) rfl ?_
    refine OW_q (q_assign rfl) rfl ?_
    refine OW_q (q_assign rfl) rfl ?_
    refine OW_nil ?_
    refine EW_then ?_
    refine CW_seq ?_
    refine CW_seq ?_
    refine CW_fact (fun w hw => hw.tform (v := x16.v1) (l := x16.out) (enc := encN) (by repeat (first | exact .head | apply Swap.tail))) (fun hf => ?_)
    obtain ⟨a5, c5, hv5, _, _, _⟩ := hf
    refine CW_spell 5 (.slice a5 x16.out.length c5) rfl hv5 ?_
    refine CW_region ?_
    refine OW_q (q_move rfl) rfl ?_
    refine OW_q (q_len Try.underlying25 rfl) rfl ?_
    refine OW_q (q_gtr rfl rfl) rfl ?_
    refine OW_nil ?_
    refine EW_then ?_
    refine CW_cond rfl (fun h39 => ?_) (fun h39 => ?_)
    · skip
      have hE : wrongE g x16.out = 1 := wrong1 hm (by have := of_decide_eq_true h39; omega)
      have hx0 := hx34.1 (by rw [hE]; decide)
      refine CW_seq ?_
      refine CW_region ?_
      refine OW_q (q_move rfl) rfl ?_
      refine OW_q (q_eqi rfl rfl) rfl ?_
      refine OW_q (q_move rfl) rfl ?_
      refine OW_part (t := 42) rfl (fun hg42 => ?_) (fun hg42 => ?_)
      · skip
        refine OW_wanted rfl rfl rfl ?_
        refine OW_q (q_move rfl) rfl ?_
        refine OW_wanted rfl rfl rfl ?_
        refine OW_q (q_not rfl) rfl ?_
        refine OW_q (q_pick_t rfl rfl) rfl ?_
        refine OW_q (q_assign rfl) rfl ?_
        refine OW_nil ?_
        refine EW_then ?_
        refine CW_ret ?_
        refine EW_then_ret ?_
        refine ret1 Try.results9 rfl (fun w hw => ?_)
        exact ⟨(rt (B := !x34) (by simp [hx0])).symm, hw.sub .nil⟩
      · skip
        exact absurd hg42 (by simp [hE]) --stop
    · skip
      obtain ⟨hE, hx0⟩ := finds_has hm hth (by have := of_decide_eq_false h39; omega) hx34
      refine CW_skip ?_
      refine EW_then ?_
      refine CW_seq ?_
      refine CW_region ?_
      refine OW_q (q_move rfl) rfl ?_
      refine OW_q (q_eqi rfl rfl) rfl ?_
      refine OW_q (q_move rfl) rfl ?_
      refine OW_part (t := 48) rfl (fun hg48 => ?_) (fun hg48 => ?_)
      · skip
        refine OW_wanted rfl rfl rfl ?_
        refine OW_q (q_move rfl) rfl ?_
        refine OW_q (q_pick_t rfl rfl) rfl ?_
        refine OW_q (q_assign rfl) rfl ?_
        refine OW_nil ?_
        refine EW_then ?_
        refine CW_ret ?_
        refine ret1 Try.results9 rfl (fun w hw => ?_)
        exact ⟨(rt (B := x34) hx0).symm, hw.sub .nil⟩
      · skip
        exact absurd hg48 (by simp [hE]) --stop

end Go.Sy
