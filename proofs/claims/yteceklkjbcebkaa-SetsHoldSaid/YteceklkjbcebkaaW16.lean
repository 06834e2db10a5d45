/- SetsHold: the walk. No condition. -/
import Derived.Test.YteceklkjbcebkaaW5
import Derived.Test.YteceklkjbcebkaaW15
namespace Go.Sy
open Go Go.RowKit Go.Proofs

/-- Symbols yield these tokens. -/
inductive YT (g : Gram) : List Sym → List Int → Prop
  | nil : YT g [] []
  | term {t : Int} {l : List Sym} {k : List Int} : YT g l k → YT g (⟨true, t⟩ :: l) (t :: k)
  | name {r : Rule} {l : List Sym} {i k : List Int} : r ∈ g.rules → YT g r.right i → YT g l k → YT g (⟨false, r.left⟩ :: l) (i ++ k)
theorem yt_append {g : Gram} : ∀ {l m : List Sym} {k : List Int}, YT g (l ++ m) k → ∃ i j, YT g l i ∧ YT g m j ∧ k = i ++ j
  | [], m, k, h => ⟨[], k, .nil, h, rfl⟩
  | s :: l, m, k, h => by
    rw [List.cons_append] at h
    cases h with
    | term h =>
      obtain ⟨i, j, h1, h2, h3⟩ := yt_append h
      exact ⟨_, j, .term h1, h2, by rw [h3]; rfl⟩
    | name hr h1 h2 =>
      obtain ⟨i, j, h3, h4, h5⟩ := yt_append h2
      exact ⟨_, j, .name hr h1 h3, h4, by rw [h5, List.append_assoc]⟩
theorem yt_null {g : Gram} {l : List Sym} {k : List Int} (h : YT g l k) : k = [] → NullI g l := by
  induction h with
  | nil => exact fun _ => .nil
  | term _ _ => intro h; cases h
  | name hr _ _ ih1 ih2 =>
    intro h
    obtain ⟨h1, h2⟩ := List.append_eq_nil_iff.1 h
    exact .cons hr (ih1 h1) (ih2 h2)
theorem yt_first {g : Gram} {l : List Sym} {k : List Int} (h : YT g l k) : ∀ t ts, k = t :: ts → FirstI g l t := by
  induction h with
  | nil => intro t ts h; cases h
  | term _ _ => intro t ts h; cases h; exact .term
  | @name r l i k hr h1 h2 ih1 ih2 =>
    intro t ts h
    cases i with
    | nil => exact .skip (.cons hr (yt_null h1 rfl) .nil) (ih2 t ts h)
    | cons u i => cases h; exact .name hr (ih1 _ _ rfl)
theorem thru_toks {g : Gram} {d : List Int} {st : List Itm} {used : Nat} {out : List Int} {sp : List Spn} {r : Option (List Int × List Spn)} (h : Thru g d st used out sp r) : ∀ o s, r = some (o, s) → ∃ k, YT g (syms st) k ∧ o = out ++ k := by
  induction h with
  | done _ => intro o s h; simp only [Option.some.injEq, Prod.mk.injEq] at h; obtain ⟨rfl, rfl⟩ := h; exact ⟨[], .nil, by simp⟩
  | short _ => intro o s h; cases h
  | @close it st used out sp x r hc _ _ ih =>
    intro o s h
    obtain ⟨k, h1, h2⟩ := ih o s h
    refine ⟨k, ?_, h2⟩
    unfold syms
    rw [List.filter_cons, if_neg (by simp [hc])]
    exact h1
  | @term it st used out sp r hc ht _ ih =>
    intro o s h
    obtain ⟨k, h1, h2⟩ := ih o s h
    refine ⟨it.s.n :: k, ?_, by rw [h2, List.append_assoc]; rfl⟩
    unfold syms
    rw [List.filter_cons, if_pos (by simp [hc]), List.map_cons]
    obtain ⟨⟨t, n⟩, c, s⟩ := it
    simp only at ht
    subst ht
    exact .term h1
  | bad _ _ _ => intro o s h; cases h
  | @rule it st used out sp x q r hc ht hd h0 hq hl _ ih =>
    intro o s h
    obtain ⟨k, h1, h2⟩ := ih o s h
    rw [syms_rule] at h1
    obtain ⟨i, j, h3, h4, h5⟩ := yt_append h1
    refine ⟨i ++ j, ?_, by rw [h2, h5]⟩
    unfold syms
    rw [List.filter_cons, if_pos (by simp [hc]), List.map_cons]
    obtain ⟨⟨t, n⟩, c, s⟩ := it
    simp only at ht hl
    subst ht
    subst hl
    exact .name (List.mem_of_getElem? hq) h3 h4
theorem hold_null {g : Gram} {nl : List Bool} {d o : List Int} {s : List Spn} (hn : NC g nl) (h : Thru g d open0 0 [] [] (some (o, s))) (ho : o = []) : atB nl 0 = true := by
  obtain ⟨k, h1, h2⟩ := thru_toks h o s rfl
  have h3 := nullB_complete hn (yt_null h1 (by rw [ho] at h2; simpa using h2.symm))
  exact (by simpa [syms, nullB] using h3 : atB nl 0 = true)
theorem hold_first {g : Gram} {nl : List Bool} {fs : List (List Bool)} {d o : List Int} {s : List Spn} (hm : mayB g = true) (hn : NC g nl) (hf : FC g nl fs) (h : Thru g d open0 0 [] [] (some (o, s))) {t : Int} {ts : List Int} (ho : o = t :: ts) : (0 ≤ t ∧ t < g.terms) ∧ at2 fs 0 t = true := by
  obtain ⟨k, h1, h2⟩ := thru_toks h o s rfl
  rw [List.nil_append] at h2
  have hfi := yt_first h1 t ts (by rw [← h2, ho])
  have hr := firstI_rng (fun r hr s hs ht => may_term hm hr hs ht) hfi (fun s hs ht => by simp [syms] at hs; rw [hs] at ht; cases ht)
  have h3 := begB_complete hn hf hfi hr.1 hr.2
  exact ⟨hr, by simpa [syms, begB] using h3⟩

set_option maxRecDepth 20000 in
theorem setsHold_no (gv dv : Value) (g : Gram) (d : List Int) (w : World) (hg : GramAt (Cl w) gv g) (hd : IntsAt (Cl w) dv d) (hm : mayB g = false) : Calls Try.prog 11 #[gv, dv] w (fun e w' => e = .returned (.bool true) ∧ Sat (Old w) w [] w') := by
  have hd0 := hd
  have hg0 := hg
  obtain ⟨rv, rfl, hr⟩ := hg.mono old_rd
  obtain ⟨a, c, rfl, hc1, hc2, hrs⟩ := hr
  clear hg
  obtain ⟨a2, c2, rfl, hd1, hd2, hds⟩ := hd.mono old_rd
  clear hd
  refine calls_CW Try.func11 rfl Try.ntmps11 rfl (Sat.start w) ?_
  refine CW_seq ?_
  refine CW_region ?_
  refine OW_e (e_box rfl rfl) rfl (fun b2 => ?_)
  refine OW_q (q_assign rfl) rfl ?_
  refine OW_nil ?_
  refine EW_then ?_
  refine CW_seq ?_
  refine CW_region ?_
  first | (refine OW_q (q_loadN_own Try.isAgg24 Try.sizeOf24 rfl rfl (by (repeat (first | exact .head | apply Swap.tail))) (by rfl)) rfl ?_) | (refine OW_q (q_loadN_ro Try.isAgg24 Try.sizeOf24 rfl (by first | assumption | exact Row.at_ (by assumption) rfl) (by rfl)) rfl ?_)
  refine OW_e (e_call Try.call26 rfl (fun w hw => lift_ro (setsOf_no _ g w (hg0.mono (fun _ _ h => hw.rd (Rd.old h))) hm) hw)) rfl (fun x12 => ?_)
  refine OW_q (q_move rfl) rfl ?_
  refine OW_q (q_extract rfl rfl) rfl ?_
  refine OW_q (q_extract rfl rfl) rfl ?_
  refine OW_e (e_alloc Try.zeroValue53 rfl) rfl (fun b5 => ?_)
  refine OW_e0 (e_storeN Try.sizeOf53 rfl rfl rfl rfl (by simp [Value.oneCell']) (by (repeat (first | exact .head | apply Swap.tail))) (by rfl)) (fun _ => ?_)
  refine OW_q (q_assign rfl) rfl ?_
  refine OW_nil ?_
  refine EW_then ?_
  refine CW_seq ?_
  refine CW_region ?_
  first | (refine OW_q (q_loadN_own Try.isAgg24 Try.sizeOf24 rfl rfl (by (repeat (first | exact .head | apply Swap.tail))) (by rfl)) rfl ?_) | (refine OW_q (q_loadN_ro Try.isAgg24 Try.sizeOf24 rfl (by first | assumption | exact Row.at_ (by assumption) rfl) (by rfl)) rfl ?_)
  refine OW_q (q_move rfl) rfl ?_
  refine OW_e (e_call Try.call17 rfl (fun w hw => lift_oldP (through_any _ _ g d w (hg0.mono (fun _ _ h => hw.rd (Rd.old h))) (hd0.mono (fun _ _ h => hw.rd (Rd.old h)))) hw)) rfl (fun x18 => ?_)
  refine OW_pure fun hx18 => ?_
  refine OW_q (q_move rfl) rfl ?_
  refine OW_q (q_extract rfl rfl) rfl ?_
  refine OW_q (q_extract rfl rfl) rfl ?_
  refine OW_q (q_extract rfl rfl) rfl ?_
  refine OW_q (q_assign rfl) rfl ?_
  refine OW_q (q_assign rfl) rfl ?_
  refine OW_q (q_assign rfl) rfl ?_
  refine OW_nil ?_
  refine EW_then ?_
  refine CW_seq ?_
  refine CW_seq ?_
  refine CW_region ?_
  first | (refine OW_q (q_loadN_own Try.isAgg24 Try.sizeOf24 rfl rfl (by (repeat (first | exact .head | apply Swap.tail))) (by rfl)) rfl ?_) | (refine OW_q (q_loadN_ro Try.isAgg24 Try.sizeOf24 rfl (by first | assumption | exact Row.at_ (by assumption) rfl) (by rfl)) rfl ?_)
  refine OW_e (e_call Try.call14 rfl (fun w hw => lift_ro (may1_any _ g w (hg0.mono (fun _ _ h => hw.rd (Rd.old h)))) hw)) rfl (fun x23 => ?_)
  refine OW_q (q_not rfl) rfl ?_
  refine OW_nil ?_
  refine EW_then ?_
  refine CW_true rfl (by simp [hm]) ?_
  refine CW_seq ?_
  refine CW_region ?_
  refine OW_q (q_move rfl) rfl ?_
  refine OW_q (q_eqi rfl rfl) rfl ?_
  refine OW_q (q_assign rfl) rfl ?_
  refine OW_nil ?_
  refine EW_then ?_
  refine CW_ret ?_
  refine EW_then_ret ?_
  refine ret1 Try.results11 rfl (fun w hw => ?_)
  exact ⟨rfl, hw.sub .nil⟩

set_option maxRecDepth 20000 in
theorem setsHold_yes (gv dv : Value) (g : Gram) (d : List Int) (w : World) (hg : GramAt (Cl w) gv g) (hd : IntsAt (Cl w) dv d) (hm : mayB g = true) : Calls Try.prog 11 #[gv, dv] w (fun e w' => e = .returned (.bool true) ∧ Sat (Old w) w [] w') := by
  have hd0 := hd
  have hg0 := hg
  obtain ⟨rv, rfl, hr⟩ := hg.mono old_rd
  obtain ⟨a, c, rfl, hc1, hc2, hrs⟩ := hr
  clear hg
  obtain ⟨a2, c2, rfl, hd1, hd2, hds⟩ := hd.mono old_rd
  clear hd
  have hM := mayB_true.1 hm
  refine calls_CW Try.func11 rfl Try.ntmps11 rfl (Sat.start w) ?_
  refine CW_seq ?_
  refine CW_region ?_
  refine OW_e (e_box rfl rfl) rfl (fun b2 => ?_)
  refine OW_q (q_assign rfl) rfl ?_
  refine OW_nil ?_
  refine EW_then ?_
  refine CW_seq ?_
  refine CW_region ?_
  first | (refine OW_q (q_loadN_own Try.isAgg24 Try.sizeOf24 rfl rfl (by (repeat (first | exact .head | apply Swap.tail))) (by rfl)) rfl ?_) | (refine OW_q (q_loadN_ro Try.isAgg24 Try.sizeOf24 rfl (by first | assumption | exact Row.at_ (by assumption) rfl) (by rfl)) rfl ?_)
  refine OW_e (e_call Try.call26 rfl (fun w hw => lift_oldP (setsOf_yes _ g w (hg0.mono (fun _ _ h => hw.rd (Rd.old h))) hm) hw)) rfl (fun x12 => ?_)
  refine OW_pure fun hx12 => ?_
  have hc0 : x12.nl[(0 : Int).toNat]? = some (atB x12.nl 0) := atB_get (by omega) (by have := hx12.1.1; omega)
  refine OW_q (q_move rfl) rfl ?_
  refine OW_q (q_extract rfl rfl) rfl ?_
  refine OW_q (q_extract rfl rfl) rfl ?_
  refine OW_e (e_alloc Try.zeroValue53 rfl) rfl (fun b5 => ?_)
  refine OW_e0 (e_storeN Try.sizeOf53 rfl rfl rfl rfl (by simp [Value.oneCell']) (by (repeat (first | exact .head | apply Swap.tail))) (by rfl)) (fun _ => ?_)
  refine OW_q (q_assign rfl) rfl ?_
  refine OW_nil ?_
  refine EW_then ?_
  refine CW_seq ?_
  refine CW_region ?_
  first | (refine OW_q (q_loadN_own Try.isAgg24 Try.sizeOf24 rfl rfl (by (repeat (first | exact .head | apply Swap.tail))) (by rfl)) rfl ?_) | (refine OW_q (q_loadN_ro Try.isAgg24 Try.sizeOf24 rfl (by first | assumption | exact Row.at_ (by assumption) rfl) (by rfl)) rfl ?_)
  refine OW_q (q_move rfl) rfl ?_
  refine OW_e (e_call Try.call17 rfl (fun w hw => lift_oldP (through_any _ _ g d w (hg0.mono (fun _ _ h => hw.rd (Rd.old h))) (hd0.mono (fun _ _ h => hw.rd (Rd.old h)))) hw)) rfl (fun x18 => ?_)
  refine OW_pure fun hx18 => ?_
  refine OW_q (q_move rfl) rfl ?_
  refine OW_q (q_extract rfl rfl) rfl ?_
  refine OW_q (q_extract rfl rfl) rfl ?_
  refine OW_q (q_extract rfl rfl) rfl ?_
  refine OW_q (q_assign rfl) rfl ?_
  refine OW_q (q_assign rfl) rfl ?_
  refine OW_q (q_assign rfl) rfl ?_
  refine OW_nil ?_
  refine EW_then ?_
  refine CW_seq ?_
  refine CW_seq ?_
  refine CW_region ?_
  first | (refine OW_q (q_loadN_own Try.isAgg24 Try.sizeOf24 rfl rfl (by (repeat (first | exact .head | apply Swap.tail))) (by rfl)) rfl ?_) | (refine OW_q (q_loadN_ro Try.isAgg24 Try.sizeOf24 rfl (by first | assumption | exact Row.at_ (by assumption) rfl) (by rfl)) rfl ?_)
  refine OW_e (e_call Try.call14 rfl (fun w hw => lift_ro (may1_any _ g w (hg0.mono (fun _ _ h => hw.rd (Rd.old h)))) hw)) rfl (fun x23 => ?_)
  refine OW_q (q_not rfl) rfl ?_
  refine OW_nil ?_
  refine EW_then ?_
  refine CW_false rfl (by simp [hm]) ?_
  refine CW_skip ?_
  refine EW_then ?_
  refine CW_seq ?_
  refine CW_seq ?_
  refine CW_region ?_
  refine OW_q (q_move rfl) rfl ?_
  refine OW_q (q_nei rfl rfl) rfl ?_
  refine OW_q (q_move rfl) rfl ?_
  refine OW_part (t := 29) rfl (fun hg29 => ?_) (fun hg29 => ?_)
  · skip
    exact absurd hg29 (by decide) --stop
  · skip
    refine OW_wanted rfl rfl rfl ?_
    refine OW_q (q_fieldAddr Try.underlying53 rfl rfl Try.sizeOf36 rfl rfl) rfl ?_
    refine OW_wanted rfl rfl rfl ?_
    first | (refine OW_q (q_load1_own Try.isAgg36 rfl rfl (by (repeat (first | exact .head | apply Swap.tail))) (by rfl)) rfl ?_) | (refine OW_q (q_load1_ro Try.isAgg36 rfl (by first | assumption | exact Row.at_ (by assumption) rfl)) rfl ?_)
    refine OW_wanted rfl rfl rfl ?_
    refine OW_q (q_len Try.underlying36 rfl) rfl ?_
    refine OW_wanted rfl rfl rfl ?_
    refine OW_q (q_fieldAddr Try.underlying24 rfl rfl Try.sizeOf3 rfl rfl) rfl ?_
    refine OW_wanted rfl rfl rfl ?_
    first | (refine OW_q (q_load1_own Try.isAgg3 rfl rfl (by (repeat (first | exact .head | apply Swap.tail))) (by rfl)) rfl ?_) | (refine OW_q (q_load1_ro Try.isAgg3 rfl (by first | assumption | exact Row.at_ (by assumption) rfl)) rfl ?_)
    refine OW_wanted rfl rfl rfl ?_
    refine OW_q (q_nei rfl rfl) rfl ?_
    refine OW_q (q_pick_f rfl rfl) rfl ?_
    refine OW_q (q_move rfl) rfl ?_
    refine OW_part (t := 37) rfl (fun hg37 => ?_) (fun hg37 => ?_)
    · skip
      exact absurd hg37 (by simp; omega) --stop
    · skip
      refine OW_wanted rfl rfl rfl ?_
      refine OW_q (q_fieldAddr Try.underlying53 rfl rfl Try.sizeOf51 rfl rfl) rfl ?_
      refine OW_wanted rfl rfl rfl ?_
      first | (refine OW_q (q_load1_own Try.isAgg51 rfl rfl (by (repeat (first | exact .head | apply Swap.tail))) (by rfl)) rfl ?_) | (refine OW_q (q_load1_ro Try.isAgg51 rfl (by first | assumption | exact Row.at_ (by assumption) rfl)) rfl ?_)
      refine OW_wanted rfl rfl rfl ?_
      refine OW_q (q_len Try.underlying51 rfl) rfl ?_
      refine OW_wanted rfl rfl rfl ?_
      refine OW_q (q_fieldAddr Try.underlying24 rfl rfl Try.sizeOf3 rfl rfl) rfl ?_
      refine OW_wanted rfl rfl rfl ?_
      first | (refine OW_q (q_load1_own Try.isAgg3 rfl rfl (by (repeat (first | exact .head | apply Swap.tail))) (by rfl)) rfl ?_) | (refine OW_q (q_load1_ro Try.isAgg3 rfl (by first | assumption | exact Row.at_ (by assumption) rfl)) rfl ?_)
      refine OW_wanted rfl rfl rfl ?_
      refine OW_q (q_nei rfl rfl) rfl ?_
      refine OW_q (q_pick_f rfl rfl) rfl ?_
      refine OW_nil ?_
      refine EW_then ?_
      refine CW_false rfl (by simp; omega) ?_
      refine CW_skip ?_
      refine EW_then ?_
      refine CW_seq ?_
      refine CW_seq ?_
      refine CW_region ?_
      refine OW_q (q_move rfl) rfl ?_
      refine OW_q (q_not rfl) rfl ?_
      refine OW_nil ?_
      refine EW_then ?_
      refine CW_cond rfl (fun h46 => ?_) (fun h46 => ?_)
      · skip
        refine CW_seq ?_
        refine CW_region ?_
        refine OW_q (q_assign rfl) rfl ?_
        refine OW_nil ?_
        refine EW_then ?_
        refine CW_ret ?_
        refine EW_then_ret ?_
        refine ret1 Try.results11 rfl (fun w hw => ?_)
        exact ⟨rfl, hw.sub .nil⟩
      · skip
        have hok : x18.ok = true := by simpa using h46
        have hth := (hx18.1 hok).2.2
        refine CW_skip ?_
        refine EW_then ?_
        refine CW_seq ?_
        refine CW_seq ?_
        refine CW_region ?_
        refine OW_fact (fun w hw => hw.tform (v := x18.v1) (by repeat (first | exact .head | apply Swap.tail))) (fun hf => ?_)
        obtain ⟨a7, c7, hv7, _, _, h7c⟩ := hf
        refine OW_spell 7 (.slice a7 x18.out.length c7) rfl hv7 ?_
        refine OW_q (q_move rfl) rfl ?_
        refine OW_q (q_len Try.underlying25 rfl) rfl ?_
        refine OW_q (q_eqi rfl rfl) rfl ?_
        refine OW_nil ?_
        refine EW_then ?_
        refine CW_cond rfl (fun h49 => ?_) (fun h49 => ?_)
        · skip
          have ho : x18.out = [] := by
            cases hoo : x18.out with
            | nil => rfl
            | cons t ts => rw [hoo] at h49; simp at h49; omega
          refine CW_seq ?_
          refine CW_region ?_
          refine OW_q (q_fieldAddr Try.underlying53 rfl rfl Try.sizeOf36 rfl rfl) rfl ?_
          first | (refine OW_q (q_load1_own Try.isAgg36 rfl rfl (by (repeat (first | exact .head | apply Swap.tail))) (by rfl)) rfl ?_) | (refine OW_q (q_load1_ro Try.isAgg36 rfl (by first | assumption | exact Row.at_ (by assumption) rfl)) rfl ?_)
          refine OW_q (q_indexAddrI Try.underlying36 Try.sizeOf4 rfl rfl (by first | omega | assumption) (by first | omega | assumption)) rfl ?_
          refine OW_q (q_load_bools Try.isAgg4 rfl (by (repeat (first | exact .head | apply Swap.tail))) (by assumption)) rfl ?_
          refine OW_q (q_assign rfl) rfl ?_
          refine OW_nil ?_
          refine EW_then ?_
          refine CW_ret ?_
          refine EW_then_ret ?_
          refine ret1 Try.results11 rfl (fun w hw => ?_)
          exact ⟨(rt (B := atB x12.nl 0) (hold_null hx12.2.2.1 hth ho)).symm, hw.sub .nil⟩
        · skip
          obtain ⟨t, ts, ho⟩ : ∃ t ts, x18.out = t :: ts := by
            cases hoo : x18.out with
            | nil => rw [hoo] at h49; simp at h49
            | cons t ts => exact ⟨t, ts, rfl⟩
          have hfst := hold_first hm hx12.2.2.1 hx12.2.2.2.1 hth ho
          obtain ⟨b7, rfl⟩ := h7c (by rw [ho]; exact Nat.zero_lt_succ _)
          obtain ⟨bl0, hbl0⟩ := get_of_lt (l := x12.blf) (k := 0) (by have := hx12.1.2.2.2.1; omega)
          have hdl := hx12.1.2.1.1
          have hrow0 := row2_get (tab := x12.fs) (n := 0) (by omega) (by omega)
          have hlen0 := hx12.1.2.1.row (n := 0) (by omega) (by omega)
          have hct := atB_get (is := row2 x12.fs 0) hfst.1.1 (by omega)
          have hcto : x18.out[(0 : Int).toNat]? = some t := by rw [ho]; rfl
          have hlt0 : (0 : Int) < (x18.out.length : Int) := by rw [ho]; simp only [List.length_cons]; omega
          refine CW_skip ?_
          refine EW_then ?_
          refine CW_seq ?_
          refine CW_weak (fun w hw => hw.pick (A := tabA 4 x12.blf x12.fs) (by repeat (first | exact .head | apply Pick.tail))) ?_
          refine CW_drawS 20 [(0, false), (1, false), (2, false), (3, false), (4, false), (5, false), (6, false), (7, false), (8, false), (9, false), (10, false), (11, false), (12, false), (13, false), (14, false), (15, false), (16, false), (17, false), (18, false), (19, false)] (by kernel_rfl) (Blind.then (Blind.body (by intro c w h; simp at h))) (by kernel_rfl) (fun w hw => hw.drew) ?_
          refine DW_q rfl (fun w hw => hw.sub (by (repeat (first | exact SubL.nil | exact Pick.head | apply Pick.tail | apply SubL.cons)))) (q_fieldAddr Try.underlying53 rfl rfl Try.sizeOf51 rfl rfl) rfl ?_
          first | (refine DW_q rfl (fun w hw => hw.sub (by (repeat (first | exact SubL.nil | exact Pick.head | apply Pick.tail | apply SubL.cons)))) (q_load1_own Try.isAgg51 rfl rfl (by (repeat (first | exact .head | apply Swap.tail))) (by rfl)) rfl ?_) | (refine DW_q rfl (fun w hw => hw.sub (by (repeat (first | exact SubL.nil | exact Pick.head | apply Pick.tail | apply SubL.cons)))) (q_load1_ro Try.isAgg51 rfl (by first | assumption | exact Row.at_ (by assumption) rfl)) rfl ?_)
          refine DW_q rfl (fun w hw => hw.sub (by (repeat (first | exact SubL.nil | exact Pick.head | apply Pick.tail | apply SubL.cons)))) (q_indexAddrI Try.underlying51 Try.sizeOf36 rfl rfl (by first | omega | assumption) (by first | omega | assumption)) rfl ?_
          refine DW_q rfl (fun w hw => hw.sub (by repeat (first | exact SubL.nil | exact Pick.head | apply Pick.tail | apply SubL.cons))) (q_load_t1 (k := (0 : Int).toNat) Try.isAgg36 (fun _ => rfl) rfl (by repeat (first | exact .head | apply Swap.tail)) rfl hbl0 rfl) rfl ?_
          refine DW_q rfl (fun w hw => hw.sub (by (repeat (first | exact SubL.nil | exact Pick.head | apply Pick.tail | apply SubL.cons)))) (q_len Try.underlying36 rfl) rfl ?_
          refine DW_q rfl (fun w hw => hw.sub (by (repeat (first | exact SubL.nil | exact Pick.head | apply Pick.tail | apply SubL.cons)))) (q_fieldAddr Try.underlying24 rfl rfl Try.sizeOf3 rfl rfl) rfl ?_
          first | (refine DW_q rfl (fun w hw => hw.sub (by (repeat (first | exact SubL.nil | exact Pick.head | apply Pick.tail | apply SubL.cons)))) (q_load1_own Try.isAgg3 rfl rfl (by (repeat (first | exact .head | apply Swap.tail))) (by rfl)) rfl ?_) | (refine DW_q rfl (fun w hw => hw.sub (by (repeat (first | exact SubL.nil | exact Pick.head | apply Pick.tail | apply SubL.cons)))) (q_load1_ro Try.isAgg3 rfl (by first | assumption | exact Row.at_ (by assumption) rfl)) rfl ?_)
          refine DW_q rfl (fun w hw => hw.sub (by (repeat (first | exact SubL.nil | exact Pick.head | apply Pick.tail | apply SubL.cons)))) (q_eqi rfl rfl) rfl ?_
          refine DW_q rfl (fun w hw => hw.sub (by (repeat (first | exact SubL.nil | exact Pick.head | apply Pick.tail | apply SubL.cons)))) (q_move rfl) rfl ?_
          refine DW_part (t := 62) rfl (fun hg62 => ?_) (fun hg62 => ?_)
          · skip
            refine DW_qg rfl (fun w hw => hw.sub (by (repeat (first | exact SubL.nil | exact Pick.head | apply Pick.tail | apply SubL.cons)))) rfl rfl rfl (q_fieldAddr Try.underlying53 rfl rfl Try.sizeOf51 rfl rfl) rfl ?_
            first | (refine DW_qg rfl (fun w hw => hw.sub (by (repeat (first | exact SubL.nil | exact Pick.head | apply Pick.tail | apply SubL.cons)))) rfl rfl rfl (q_load1_own Try.isAgg51 rfl rfl (by (repeat (first | exact .head | apply Swap.tail))) (by rfl)) rfl ?_) | (refine DW_qg rfl (fun w hw => hw.sub (by (repeat (first | exact SubL.nil | exact Pick.head | apply Pick.tail | apply SubL.cons)))) rfl rfl rfl (q_load1_ro Try.isAgg51 rfl (by first | assumption | exact Row.at_ (by assumption) rfl)) rfl ?_)
            refine DW_qg rfl (fun w hw => hw.sub (by (repeat (first | exact SubL.nil | exact Pick.head | apply Pick.tail | apply SubL.cons)))) rfl rfl rfl (q_indexAddrI Try.underlying51 Try.sizeOf36 rfl rfl (by first | omega | assumption) (by first | omega | assumption)) rfl ?_
            refine DW_qg rfl (fun w hw => hw.sub (by repeat (first | exact SubL.nil | exact Pick.head | apply Pick.tail | apply SubL.cons))) rfl rfl rfl (q_load_t1 (k := (0 : Int).toNat) Try.isAgg36 (fun _ => rfl) rfl (by repeat (first | exact .head | apply Swap.tail)) rfl hbl0 rfl) rfl ?_
            refine DW_qg rfl (fun w hw => hw.sub (by (repeat (first | exact SubL.nil | exact Pick.head | apply Pick.tail | apply SubL.cons)))) rfl rfl rfl (q_move rfl) rfl ?_
            refine DW_qg rfl (fun w hw => hw.sub (by (repeat (first | exact SubL.nil | exact Pick.head | apply Pick.tail | apply SubL.cons)))) rfl rfl rfl (q_indexAddrI Try.underlying25 Try.sizeOf3 rfl rfl (by first | omega | assumption) (by first | omega | assumption)) rfl ?_
            refine DW_qg rfl (fun w hw => hw.sub (by repeat (first | exact SubL.nil | exact Pick.head | apply Pick.tail | apply SubL.cons))) rfl rfl rfl (q_load_t1 (enc := encN) (k := (0 : Int).toNat) Try.isAgg3 (fun _ => rfl) rfl (by repeat (first | exact .head | apply Swap.tail)) hv7 hcto rfl) rfl ?_
            refine DW_qg rfl (fun w hw => hw.sub (by repeat (first | exact SubL.nil | exact Pick.head | apply Pick.tail | apply SubL.cons))) rfl rfl rfl (q_indexAddrI Try.underlying36 Try.sizeOf4 rfl (by exact rfl) hfst.1.1 (by omega)) rfl ?_
            refine DW_qg rfl (fun w hw => hw.sub (by repeat (first | exact SubL.nil | exact Pick.head | apply Pick.tail | apply SubL.cons))) rfl rfl rfl (q_load_bools Try.isAgg4 rfl ((Hole.tab hbl0 hrow0).swap _) hct) rfl ?_
            refine DW_q rfl (fun w hw => hw.sub (by (repeat (first | exact SubL.nil | exact Pick.head | apply Pick.tail | apply SubL.cons)))) (q_pick_t rfl rfl) rfl ?_
            refine DW_q rfl (fun w hw => hw.sub (by (repeat (first | exact SubL.nil | exact Pick.head | apply Pick.tail | apply SubL.cons)))) (q_assign rfl) rfl ?_
            refine DW_nil ?_
            refine EW_then ?_
            refine CW_ret ?_
            refine ret1 Try.results11 rfl (fun w hw => ?_)
            exact ⟨(rt (B := atB (row2 x12.fs 0) t) hfst.2).symm, hw.sub .nil⟩
          · skip
            exact absurd hg62 (by simp; omega) --stop


theorem setsHold_any (gv dv : Value) (g : Gram) (d : List Int) (w : World) (hg : GramAt (Cl w) gv g) (hd : IntsAt (Cl w) dv d) : Calls Try.prog 11 #[gv, dv] w (fun e w' => e = .returned (.bool true) ∧ Sat (Old w) w [] w') := by
  cases hm : mayB g
  · exact setsHold_no gv dv g d w hg hd hm
  · exact setsHold_yes gv dv g d w hg hd hm
end Go.Sy
