/- GramTells, GramSpans: what a derivation yields, and where what each rule has become stands. No condition. -/
import Derived.Test.YteceklkjbcebkaaW24
namespace Go.Sy
open Go Go.RowKit Go.Proofs

theorem ps_cons {g : Gram} {d : List Int} {f : For} {d2 : List Int} (h : PS g top0 d (some (f, d2))) : ∃ x ks, f = .cons x ks .nil := by
  cases h with
  | term h1 _ => cases h1
  | ok _ _ _ _ _ h2 => cases h2; exact ⟨_, _, rfl⟩
theorem wk_some {g : Gram} {d : List Int} {x : WR} (h : WkOk g d x) (hk : x.ok = true) : mayB g = true ∧ d.length ≤ 400 ∧ Thru g d open0 0 [] [] (some (x.tk, x.sp)) := by
  obtain ⟨h1, h2, f, h3, h4⟩ := h.1 hk
  exact ⟨h1, h2, ps_top_ok h3 h4⟩
theorem wk_none {g : Gram} {d : List Int} {x : WR} (h : WkOk g d x) (hk : x.ok = false) (h1 : mayB g = true) (h2 : d.length ≤ 400) : Thru g d open0 0 [] [] none := by
  obtain ⟨r, h3, h4⟩ := (h.2 hk).2 h1 h2
  exact ps_top_no h3 h4
theorem wk_thru {g : Gram} {d : List Int} {x : WR} {t : TR} (h : WkOk g d x) (h' : ThruOk g d t ∧ (t.ok = false → t.out = [] ∧ t.sp = [])) : x.ok = t.ok ∧ x.tk = t.out ∧ x.sp = t.sp := by
  cases hx : x.ok with
  | true =>
    obtain ⟨h1, h2, h3⟩ := wk_some h hx
    cases ht : t.ok with
    | true => have e := Prod.mk.inj (Option.some.inj (thru_det h3 _ (h'.1.1 ht).2.2)); exact ⟨rfl, e.1, e.2⟩
    | false => have e := thru_det h3 _ (h'.1.2 ht h1 h2); cases e
  | false =>
    cases ht : t.ok with
    | true =>
      obtain ⟨h1, h2, h3⟩ := h'.1.1 ht
      have e := thru_det h3 _ (wk_none h hx h1 h2); cases e
    | false => rw [(h.2 hx).1.1, (h.2 hx).1.2, (h'.2 ht).1, (h'.2 ht).2]; exact ⟨rfl, rfl, rfl⟩
theorem wk_wk {g : Gram} {d : List Int} {x y : WR} (h : WkOk g d x) (h' : WkOk g d y) : x.ok = y.ok ∧ x.tk = y.tk ∧ x.sp = y.sp := by
  have := wk_thru h (t := ⟨y.v1, y.v2, y.tk, y.sp, y.ok⟩) ⟨⟨fun hk => wk_some h' hk, fun hk => wk_none h' hk⟩, fun hk => (h'.2 hk).1⟩
  exact this
theorem ws_first {g : Gram} {r : Int} {ks : For} {o : List Int} {s : List Spn} (h : WS g top0 (.cons r ks .nil) [] [] o s) : ∃ y, s[0]? = some ⟨y, 0, o.length⟩ := by
  cases h with
  | term h1 _ => cases h1
  | @name _ _ _ q _ _ _ o1 _ _ s1 _ z _ _ _ hin hz hr =>
    obtain ⟨e1, e2⟩ : o = o1 ∧ s = s1.set ([] : List Spn).length ⟨z.rule, z.frm, o1.length⟩ := by cases hr; exact ⟨rfl, rfl⟩
    have hb := (ws_span hin).2.2.1 0 (by simp)
    rw [List.length_nil] at hz
    rw [hz] at hb
    simp only [List.nil_append, List.getElem?_cons_zero, Option.some.injEq] at hb
    have hlt := (List.getElem?_eq_some_iff.1 hz).1
    rw [e2, e1]
    exact ⟨_, by rw [List.length_nil, List.getElem?_set_self hlt, hb]; rfl⟩
/-- All spans of a derivation. -/
theorem wk_spans {g : Gram} {d : List Int} {x : WR} (h : WkOk g d x) (hk : x.ok = true) : x.sp.length = d.length ∧ 0 < d.length ∧ (∃ r, x.sp[0]? = some ⟨r, 0, x.tk.length⟩) ∧ (∀ (i : Nat) (y : Spn), x.sp[i]? = some y → d[i]? = some y.rule ∧ y.frm ≤ y.to ∧ y.to ≤ x.tk.length) ∧ ∀ (i j : Nat) (y z : Spn), i ≤ j → x.sp[i]? = some y → x.sp[j]? = some z → y.frm ≤ z.frm := by
  obtain ⟨_, _, f, h3, h4⟩ := h.1 hk
  have hf := ps_flat h3 _ _ rfl
  rw [List.append_nil] at hf
  obtain ⟨r, ks, rfl⟩ := ps_cons h3
  obtain ⟨a1, a2, a3, a4, a5⟩ := ws_span h4
  rw [List.length_nil, Nat.zero_add, ← hf] at a2
  refine ⟨a2, by rw [hf, flat_cons]; omega, ?_, fun i y hy => ?_, fun i j y z h1 => a5 i j y z (Nat.zero_le _) h1⟩
  · exact ws_first h4
  · have := a4 i y (Nat.zero_le _) hy
    simp only [List.length_nil, Nat.sub_zero] at this
    rw [← hf] at this
    exact ⟨this.2.2.2, this.2.1, this.2.2.1⟩

set_option maxRecDepth 20000 in
theorem gthrough_any (gv dv : Value) (g : Gram) (d : List Int) (w : World) (hg : GramAt (Cl w) gv g) (hd : IntsAt (Cl w) dv d) : Calls Try.prog 41 #[gv, dv] w (fun e w' => ∃ x : WR, e = .returned (.tuple #[.pointer (some ⟨x.b, 0, none⟩), .bool x.ok]) ∧ WkOk g d x ∧ Sat (Old w) w [cel x.b 74 [.int .i64 g.terms, .int .i64 g.names, x.rv, x.v1, x.v2], trow 3 1 encN x.v1 x.tk, trow 47 3 encS x.v2 x.sp] w') := by
  have hg0 := hg
  obtain ⟨rv, rfl, hr⟩ := hg.mono old_rd
  have hrr := hr
  obtain ⟨a, c, rfl, hc1, hc2, hrs⟩ := hr
  have hdd := hd.mono old_rd
  obtain ⟨a2, c2, rfl, hd1, hd2, hds⟩ := id hdd
  have hd0 := hd
  refine calls_CW Try.func41 rfl Try.ntmps41 rfl (Sat.start w) ?_
  refine CW_seq ?_
  refine CW_region ?_
  refine OW_e (e_box rfl rfl) rfl (fun b2 => ?_)
  refine OW_q (q_assign rfl) rfl ?_
  refine OW_q (q_assign rfl) rfl ?_
  refine OW_nil ?_
  refine EW_then ?_
  refine CW_seq ?_
  refine CW_region ?_
  first | (refine OW_q (q_loadN_own Try.isAgg24 Try.sizeOf24 rfl rfl (by (repeat (first | exact .head | apply Swap.tail))) (by rfl)) rfl ?_) | (refine OW_q (q_loadN_ro Try.isAgg24 Try.sizeOf24 rfl (by first | assumption | exact Row.at_ (by assumption) rfl) (by rfl)) rfl ?_)
  refine OW_q (q_move rfl) rfl ?_
  refine OW_e (e_call Try.call57 rfl (fun w hw => lift_oldP (tree_any _ _ g d w (hg0.mono (fun _ _ h => hw.rd (Rd.old h))) (hd0.mono (fun _ _ h => hw.rd (Rd.old h)))) hw)) rfl (fun x10 => ?_)
  refine OW_pure fun hx10 => ?_
  refine OW_q (q_assign rfl) rfl ?_
  refine OW_nil ?_
  refine EW_then ?_
  refine CW_seq ?_
  refine CW_region ?_
  first | (refine OW_q (q_loadN_own Try.isAgg24 Try.sizeOf24 rfl rfl (by (repeat (first | exact .head | apply Swap.tail))) (by rfl)) rfl ?_) | (refine OW_q (q_loadN_ro Try.isAgg24 Try.sizeOf24 rfl (by first | assumption | exact Row.at_ (by assumption) rfl) (by rfl)) rfl ?_)
  refine OW_q (q_build (ps := #[(0, .agg #[.int .i64 g.terms, .int .i64 g.names, .slice a g.rules.length c])]) (v := .agg #[.int .i64 g.terms, .int .i64 g.names, .slice a g.rules.length c, .slice none 0 0, .slice none 0 0]) rfl (fun w => by kernel_rfl)) rfl ?_
  refine OW_e (e_box rfl rfl) rfl (fun b13 => ?_)
  refine OW_q (q_assign rfl) rfl ?_
  refine OW_nil ?_
  refine EW_then ?_
  refine CW_seq ?_
  refine CW_seq ?_
  refine CW_region ?_
  refine OW_q (q_move rfl) rfl ?_
  refine OW_q (q_nePtr Try.underlying99 rfl rfl) rfl ?_
  refine OW_nil ?_
  refine EW_then ?_
  refine CW_cond rfl (fun h15 => ?_) (fun h15 => ?_)
  · skip
    obtain ⟨⟨bt, ft⟩, rfl⟩ : ∃ q, x10 = some q := by
      cases x10 with
      | none => cases h15
      | some q => exact ⟨q, rfl⟩
    obtain ⟨hm, h400, hps⟩ := hx10
    obtain ⟨x, ks, rfl⟩ := ps_cons hps
    obtain ⟨o, s, hws⟩ := ps_ws hps
    have hfl : d = (For.cons x ks .nil).flat := by
      have := ps_flat hps _ _ rfl
      rwa [List.append_nil] at this
    have hfl2 := congrArg List.length hfl
    refine CW_weak (fun w hw => hw.pick (A := treeH (some (bt, .cons x ks .nil))) (by repeat (first | exact .head | apply Pick.tail))) ?_
    refine CW_freeze (fun R' w1 hR hS hA hrd => ?_)
    have hkid : KidsAt (Rd R' w1) (.cons x ks .nil) [bt] := by
      obtain ⟨h1, ha, hb⟩ := hA
      exact kids_at ha hb
    refine CW_region ?_
    refine OW_q (q_move rfl) rfl ?_
    refine OW_q (q_move rfl) rfl ?_
    refine OW_weak (fun w hw => (hw.tnil 3 1 encN).tnil 47 3 encS) ?_
    refine OW_e (e_call Try.call58 rfl (fun w hw => lift_mutL (M0 := [cel b13 74 [.int .i64 g.terms, .int .i64 g.names, .slice a g.rules.length c, (.slice none 0 0), (.slice none 0 0)], trow 3 1 encN (.slice none 0 0) [], trow 47 3 encS (.slice none 0 0) []]) (L1 := [cel b2 24 [.int .i64 g.terms, .int .i64 g.names, .slice a g.rules.length c]]) (hw.sub (by repeat (first | exact SubL.nil | exact Pick.head | apply Pick.tail | apply SubL.cons))) (fun F hF => walk_any g hm a c b13 R' w1 (hrr.mono hrd) _ x ks 0 [] o [] s bt (.slice none 0 0) (.slice none 0 0) w F rfl hkid hws (by have := ws_len hm hws; simp only [List.length_cons, List.length_nil] at this; omega) (by have := (ws_span hws).2.1; simp only [List.length_nil] at this; omega) hF))) rfl (fun x18 => ?_)
    refine OW_pure fun _ => ?_
    refine OW_nil ?_
    refine EW_then ?_
    refine CW_seq ?_
    refine CW_region ?_
    refine OW_q (q_move rfl) rfl ?_
    refine OW_q (q_move rfl) rfl ?_
    refine OW_q (q_nePtr Try.underlying99 rfl rfl) rfl ?_
    refine OW_q (q_assign rfl) rfl ?_
    refine OW_q (q_assign rfl) rfl ?_
    refine OW_nil ?_
    refine EW_then ?_
    refine CW_ret ?_
    refine ret2 Try.results41 rfl rfl (fun w hw => ?_)
    exact ⟨⟨b13, .slice a g.rules.length c, x18.1, x18.2, o, s, true⟩, rfl, ⟨(fun _ => ⟨hm, h400, _, hps, hws⟩), (fun h => by cases h)⟩, (hS.thaw hw hR).sub (by repeat (first | exact SubL.nil | exact Pick.head | apply Pick.tail | apply SubL.cons))⟩
  · skip
    obtain rfl : x10 = none := by
      cases x10 with
      | none => rfl
      | some q => cases h15
    refine CW_skip ?_
    refine EW_then ?_
    refine CW_seq ?_
    refine CW_region ?_
    refine OW_q (q_move rfl) rfl ?_
    refine OW_q (q_move rfl) rfl ?_
    refine OW_q (q_nePtr Try.underlying99 rfl rfl) rfl ?_
    refine OW_q (q_assign rfl) rfl ?_
    refine OW_q (q_assign rfl) rfl ?_
    refine OW_nil ?_
    refine EW_then ?_
    refine CW_ret ?_
    refine ret2 Try.results41 rfl rfl (fun w hw => ?_)
    exact ⟨⟨b13, .slice a g.rules.length c, .slice none 0 0, .slice none 0 0, [], [], false⟩, rfl, ⟨(fun h => by cases h), (fun _ => ⟨⟨rfl, rfl⟩, hx10⟩)⟩, ((hw.tnil 3 1 encN).tnil 47 3 encS).sub (by repeat (first | exact SubL.nil | exact Pick.head | apply Pick.tail | apply SubL.cons))⟩

set_option maxRecDepth 20000 in
theorem yield_any (gv dv : Value) (g : Gram) (d : List Int) (w : World) (hg : GramAt (Cl w) gv g) (hd : IntsAt (Cl w) dv d) : Calls Try.prog 21 #[gv, dv] w (fun e w' => ∃ x : WR, e = .returned (.tuple #[x.v1, .bool x.ok]) ∧ WkOk g d x ∧ Sat (Old w) w [trow 3 1 encN x.v1 x.tk] w') := by
  have hg0 := hg
  obtain ⟨rv, rfl, hr⟩ := hg.mono old_rd
  have hrr := hr
  obtain ⟨a, c, rfl, hc1, hc2, hrs⟩ := hr
  have hdd := hd.mono old_rd
  obtain ⟨a2, c2, rfl, hd1, hd2, hds⟩ := id hdd
  have hd0 := hd
  refine calls_CW Try.func21 rfl Try.ntmps21 rfl (Sat.start w) ?_
  refine CW_seq ?_
  refine CW_region ?_
  refine OW_e (e_box rfl rfl) rfl (fun b2 => ?_)
  refine OW_q (q_assign rfl) rfl ?_
  refine OW_q (q_assign rfl) rfl ?_
  refine OW_nil ?_
  refine EW_then ?_
  refine CW_seq ?_
  refine CW_region ?_
  first | (refine OW_q (q_loadN_own Try.isAgg24 Try.sizeOf24 rfl rfl (by (repeat (first | exact .head | apply Swap.tail))) (by rfl)) rfl ?_) | (refine OW_q (q_loadN_ro Try.isAgg24 Try.sizeOf24 rfl (by first | assumption | exact Row.at_ (by assumption) rfl) (by rfl)) rfl ?_)
  refine OW_q (q_move rfl) rfl ?_
  refine OW_e (e_call Try.call41 rfl (fun w hw => lift_oldP (gthrough_any _ _ g d w (hg0.mono (fun _ _ h => hw.rd (Rd.old h))) (hd0.mono (fun _ _ h => hw.rd (Rd.old h)))) hw)) rfl (fun x11 => ?_)
  refine OW_pure fun hx11 => ?_
  refine OW_q (q_move rfl) rfl ?_
  refine OW_q (q_extract rfl rfl) rfl ?_
  refine OW_q (q_extract rfl rfl) rfl ?_
  refine OW_q (q_assign rfl) rfl ?_
  refine OW_q (q_assign rfl) rfl ?_
  refine OW_nil ?_
  refine EW_then ?_
  refine CW_seq ?_
  refine CW_region ?_
  refine OW_q (q_move rfl) rfl ?_
  refine OW_q (q_nilCheck rfl) rfl ?_
  refine OW_q (q_fieldAddr Try.underlying74 rfl rfl Try.sizeOf25 rfl rfl) rfl ?_
  first | (refine OW_q (q_load1_own Try.isAgg25 rfl rfl (by (repeat (first | exact .head | apply Swap.tail))) (by rfl)) rfl ?_) | (refine OW_q (q_load1_ro Try.isAgg25 rfl (by first | assumption | exact Row.at_ (by assumption) rfl)) rfl ?_)
  refine OW_q (q_move rfl) rfl ?_
  refine OW_q (q_assign rfl) rfl ?_
  refine OW_q (q_assign rfl) rfl ?_
  refine OW_nil ?_
  refine EW_then ?_
  refine CW_ret ?_
  refine ret2 Try.results21 rfl rfl (fun w hw => ?_)
  exact ⟨x11, rfl, hx11, hw.sub (by repeat (first | exact SubL.nil | exact Pick.head | apply Pick.tail | apply SubL.cons))⟩

set_option maxRecDepth 20000 in
theorem spans_any (gv dv : Value) (g : Gram) (d : List Int) (w : World) (hg : GramAt (Cl w) gv g) (hd : IntsAt (Cl w) dv d) : Calls Try.prog 22 #[gv, dv] w (fun e w' => ∃ x : WR, e = .returned (.tuple #[x.v2, .bool x.ok]) ∧ WkOk g d x ∧ Sat (Old w) w [trow 47 3 encS x.v2 x.sp] w') := by
  have hg0 := hg
  obtain ⟨rv, rfl, hr⟩ := hg.mono old_rd
  have hrr := hr
  obtain ⟨a, c, rfl, hc1, hc2, hrs⟩ := hr
  have hdd := hd.mono old_rd
  obtain ⟨a2, c2, rfl, hd1, hd2, hds⟩ := id hdd
  have hd0 := hd
  refine calls_CW Try.func22 rfl Try.ntmps22 rfl (Sat.start w) ?_
  refine CW_seq ?_
  refine CW_region ?_
  refine OW_e (e_box rfl rfl) rfl (fun b2 => ?_)
  refine OW_q (q_assign rfl) rfl ?_
  refine OW_q (q_assign rfl) rfl ?_
  refine OW_nil ?_
  refine EW_then ?_
  refine CW_seq ?_
  refine CW_region ?_
  first | (refine OW_q (q_loadN_own Try.isAgg24 Try.sizeOf24 rfl rfl (by (repeat (first | exact .head | apply Swap.tail))) (by rfl)) rfl ?_) | (refine OW_q (q_loadN_ro Try.isAgg24 Try.sizeOf24 rfl (by first | assumption | exact Row.at_ (by assumption) rfl) (by rfl)) rfl ?_)
  refine OW_q (q_move rfl) rfl ?_
  refine OW_e (e_call Try.call41 rfl (fun w hw => lift_oldP (gthrough_any _ _ g d w (hg0.mono (fun _ _ h => hw.rd (Rd.old h))) (hd0.mono (fun _ _ h => hw.rd (Rd.old h)))) hw)) rfl (fun x11 => ?_)
  refine OW_pure fun hx11 => ?_
  refine OW_q (q_move rfl) rfl ?_
  refine OW_q (q_extract rfl rfl) rfl ?_
  refine OW_q (q_extract rfl rfl) rfl ?_
  refine OW_q (q_assign rfl) rfl ?_
  refine OW_q (q_assign rfl) rfl ?_
  refine OW_nil ?_
  refine EW_then ?_
  refine CW_seq ?_
  refine CW_region ?_
  refine OW_q (q_move rfl) rfl ?_
  refine OW_q (q_nilCheck rfl) rfl ?_
  refine OW_q (q_fieldAddr Try.underlying74 rfl rfl Try.sizeOf32 rfl rfl) rfl ?_
  first | (refine OW_q (q_load1_own Try.isAgg32 rfl rfl (by (repeat (first | exact .head | apply Swap.tail))) (by rfl)) rfl ?_) | (refine OW_q (q_load1_ro Try.isAgg32 rfl (by first | assumption | exact Row.at_ (by assumption) rfl)) rfl ?_)
  refine OW_q (q_move rfl) rfl ?_
  refine OW_q (q_assign rfl) rfl ?_
  refine OW_q (q_assign rfl) rfl ?_
  refine OW_nil ?_
  refine EW_then ?_
  refine CW_ret ?_
  refine ret2 Try.results22 rfl rfl (fun w hw => ?_)
  exact ⟨x11, rfl, hx11, hw.sub (by repeat (first | exact SubL.nil | exact Pick.head | apply Pick.tail | apply SubL.cons))⟩

end Go.Sy
