/- Package gram: a tree, gone through. No condition. -/
import Derived.Test.YteceklkjbcebkaaW23
namespace Go.Sy
open Go Go.RowKit Go.Proofs

theorem ws_len {g : Gram} (hm : mayB g = true) {l : List Sym} {f : For} {o o2 : List Int} {s s2 : List Spn} (h : WS g l f o s o2 s2) : o2.length ≤ o.length + l.length + 8 * f.flat.length := by
  induction h with
  | nil => simp
  | term _ _ ih => rw [List.length_append, List.length_singleton] at ih; simp only [List.length_cons]; omega
  | name _ _ hq _ _ _ ih1 ih2 =>
    have := (may_rule hm hq).2.2
    simp only [For.flat, List.length_cons, List.length_append]
    omega
theorem flat_cons (x : Int) (ks r : For) : (For.cons x ks r).flat.length = 1 + ks.flat.length + r.flat.length := by
  simp only [For.flat, List.length_cons, List.length_append]; omega
/-- What a walker holds when it has gone through a derivation. -/
structure WR where
  b : Nat
  rv : Value
  v1 : Value
  v2 : Value
  tk : List Int
  sp : List Spn
  ok : Bool
def WkOk (g : Gram) (d : List Int) (x : WR) : Prop :=
  (x.ok = true → mayB g = true ∧ d.length ≤ 400 ∧ ∃ f, PS g top0 d (some (f, [])) ∧ WS g top0 f [] [] x.tk x.sp) ∧ (x.ok = false → (x.tk = [] ∧ x.sp = []) ∧ (mayB g = true → d.length ≤ 400 → ∃ r, PS g top0 d r ∧ ∀ f, r ≠ some (f, [])))

set_option maxRecDepth 20000 in
theorem walk_any (g : Gram) (hm : mayB g = true) (a : Option Addr) (c bw : Nat) (R : Nat → Prop) (w0 : World) (hr : RulesAt (Rd R w0) (.slice a g.rules.length c) g.rules) : ∀ (m : Nat) (x : Int) (ks : For) (n : Int) (o o2 : List Int) (s s2 : List Spn) (b : Nat) (v1 v2 : Value) (w : World) (F : HP), (For.cons x ks .nil).flat.length = m → KidsAt (Rd R w0) (.cons x ks .nil) [b] → WS g [⟨false, n⟩] (.cons x ks .nil) o s o2 s2 → o2.length ≤ 100000 → s2.length ≤ 100000 → Sat R w0 ([cel bw 74 [.int .i64 g.terms, .int .i64 g.names, .slice a g.rules.length c, v1, v2], trow 3 1 encN v1 o, trow 47 3 encS v2 s] ++ [F]) w →
    Calls Try.prog 58 #[.pointer (some ⟨bw, 0, none⟩), .pointer (some ⟨b, 0, none⟩)] w (fun e w' => ∃ y : Value × Value, e = .returned (.tuple #[]) ∧ True ∧ Sat R w0 ([cel bw 74 [.int .i64 g.terms, .int .i64 g.names, .slice a g.rules.length c, y.1, y.2], trow 3 1 encN y.1 o2, trow 47 3 encS y.2 s2] ++ [F]) w') := by
  intro m
  refine Nat.strongRecOn m ?_
  clear m
  intro m ih x ks n o o2 s s2 b v1 v2 w F hlen hka hws hbo hbs hw
  obtain ⟨a', c', hv, hc1, hc2, hrs⟩ := id hr
  injection hv with e1 _ e2
  subst e1
  subst e2
  obtain ⟨b', bs', kv, kb, e, hnode, hptr, hkk, _⟩ := hka
  cases e
  obtain ⟨ka, kc, rfl, hka1, hka2, hkap⟩ := id hptr
  have hn0 : Rd R w0 (⟨b, 0, none⟩ : Addr) (.int .i64 x) := Row.at0 hnode
  have hn1 := Row.at_ hnode (j := 1) rfl
  cases hws with
  | term h1 _ => cases h1
  | @name _ _ _ q _ _ _ o1 _ _ s1 _ z _ hx0 hq hin hz hrest => ?_
  obtain ⟨e1, e2⟩ : o2 = o1 ∧ s2 = s1.set s.length ⟨z.rule, z.frm, o1.length⟩ := by cases hrest; exact ⟨rfl, rfl⟩
  rw [e1] at hbo ⊢
  rw [e2] at hbs ⊢
  have hsp := ws_span hin
  rw [List.length_append, List.length_singleton] at hsp
  rw [List.length_set] at hbs
  obtain ⟨p, rfl, rv2, hsy, hrow⟩ := hrs x.toNat q hq
  obtain ⟨a3, c3, rfl, hl1, hl2, hss⟩ := hsy
  have hx1 := (List.getElem?_eq_some_iff.1 hq).1
  obtain ⟨a1, c1, hv1, hv1a, hv1b, hv1c⟩ := hw.tform (v := v1) (l := o) (by repeat (first | exact .head | apply Swap.tail))
  subst hv1
  obtain ⟨a2, c2, hv2, hv2a, hv2b, hv2c⟩ := hw.tform (v := v2) (l := s) (by repeat (first | exact .head | apply Swap.tail))
  subst hv2
  refine calls_CW (S := Sat R w0 [cel bw 74 [.int .i64 g.terms, .int .i64 g.names, .slice (some p) g.rules.length c, (.slice a1 o.length c1), (.slice a2 s.length c2)], trow 3 1 encN (.slice a1 o.length c1) o, trow 47 3 encS (.slice a2 s.length c2) s, F]) Try.func58 rfl Try.ntmps58 rfl (hw) ?_
  refine CW_seq ?_
  refine CW_region ?_
  refine OW_q (q_move rfl) rfl ?_
  refine OW_q (q_nilCheck rfl) rfl ?_
  refine OW_q (q_fieldAddr Try.underlying74 rfl rfl Try.sizeOf32 rfl rfl) rfl ?_
  first | (refine OW_q (q_load1_own Try.isAgg32 rfl rfl (by (repeat (first | exact .head | apply Swap.tail))) (by rfl)) rfl ?_) | (refine OW_q (q_load1_ro Try.isAgg32 rfl (by first | assumption | exact Row.at_ (by assumption) rfl)) rfl ?_)
  refine OW_q (q_len Try.underlying32 rfl) rfl ?_
  refine OW_q (q_assign rfl) rfl ?_
  refine OW_nil ?_
  refine EW_then ?_
  refine CW_seq ?_
  refine CW_draw (Sat R w0 [cel bw 74 [.int .i64 g.terms, .int .i64 g.names, .slice (some p) g.rules.length c, (.slice a1 o.length c1), (.slice a2 s.length c2)]]) 19 [(0, false), (1, false), (2, false), (3, false), (4, false), (5, false), (6, false), (7, false), (8, false), (9, false), (10, false), (11, false), (12, false), (13, false), (14, false), (15, true), (16, true), (17, false), (18, false), (19, true)] (by kernel_rfl) (Blind.then Blind.bodyP) (by kernel_rfl) (fun w hw => hw.drew) ?_
  refine DW_q rfl (fun w hw => hw.sub (by (repeat (first | exact SubL.nil | exact Pick.head | apply Pick.tail | apply SubL.cons)))) (q_move rfl) rfl ?_
  refine DW_q rfl (fun w hw => hw.sub (by (repeat (first | exact SubL.nil | exact Pick.head | apply Pick.tail | apply SubL.cons)))) (q_move rfl) rfl ?_
  refine DW_q rfl (fun w hw => hw.sub (by (repeat (first | exact SubL.nil | exact Pick.head | apply Pick.tail | apply SubL.cons)))) (q_nilCheck rfl) rfl ?_
  refine DW_q rfl (fun w hw => hw.sub (by (repeat (first | exact SubL.nil | exact Pick.head | apply Pick.tail | apply SubL.cons)))) (q_fieldAddr Try.underlying74 rfl rfl Try.sizeOf32 rfl rfl) rfl ?_
  first | (refine DW_q rfl (fun w hw => hw.sub (by (repeat (first | exact SubL.nil | exact Pick.head | apply Pick.tail | apply SubL.cons)))) (q_load1_own Try.isAgg32 rfl rfl (by (repeat (first | exact .head | apply Swap.tail))) (by rfl)) rfl ?_) | (refine DW_q rfl (fun w hw => hw.sub (by (repeat (first | exact SubL.nil | exact Pick.head | apply Pick.tail | apply SubL.cons)))) (q_load1_ro Try.isAgg32 rfl (by first | assumption | exact Row.at_ (by assumption) rfl)) rfl ?_)
  refine DW_q rfl (fun w hw => hw.sub (by (repeat (first | exact SubL.nil | exact Pick.head | apply Pick.tail | apply SubL.cons)))) (q_move rfl) rfl ?_
  refine DW_q rfl (fun w hw => hw.sub (by (repeat (first | exact SubL.nil | exact Pick.head | apply Pick.tail | apply SubL.cons)))) (q_nilCheck rfl) rfl ?_
  refine DW_q rfl (fun w hw => hw.sub (by (repeat (first | exact SubL.nil | exact Pick.head | apply Pick.tail | apply SubL.cons)))) (q_fieldAddr Try.underlying113 rfl rfl Try.sizeOf3 rfl rfl) rfl ?_
  first | (refine DW_q rfl (fun w hw => hw.sub (by (repeat (first | exact SubL.nil | exact Pick.head | apply Pick.tail | apply SubL.cons)))) (q_load1_own Try.isAgg3 rfl rfl (by (repeat (first | exact .head | apply Swap.tail))) (by rfl)) rfl ?_) | (refine DW_q rfl (fun w hw => hw.sub (by (repeat (first | exact SubL.nil | exact Pick.head | apply Pick.tail | apply SubL.cons)))) (q_load1_ro Try.isAgg3 rfl (by first | exact hn0)) rfl ?_)
  refine DW_q rfl (fun w hw => hw.sub (by (repeat (first | exact SubL.nil | exact Pick.head | apply Pick.tail | apply SubL.cons)))) (q_move rfl) rfl ?_
  refine DW_q rfl (fun w hw => hw.sub (by (repeat (first | exact SubL.nil | exact Pick.head | apply Pick.tail | apply SubL.cons)))) (q_nilCheck rfl) rfl ?_
  refine DW_q rfl (fun w hw => hw.sub (by (repeat (first | exact SubL.nil | exact Pick.head | apply Pick.tail | apply SubL.cons)))) (q_fieldAddr Try.underlying74 rfl rfl Try.sizeOf25 rfl rfl) rfl ?_
  first | (refine DW_q rfl (fun w hw => hw.sub (by (repeat (first | exact SubL.nil | exact Pick.head | apply Pick.tail | apply SubL.cons)))) (q_load1_own Try.isAgg25 rfl rfl (by (repeat (first | exact .head | apply Swap.tail))) (by rfl)) rfl ?_) | (refine DW_q rfl (fun w hw => hw.sub (by (repeat (first | exact SubL.nil | exact Pick.head | apply Pick.tail | apply SubL.cons)))) (q_load1_ro Try.isAgg25 rfl (by first | assumption | exact Row.at_ (by assumption) rfl)) rfl ?_)
  refine DW_q rfl (fun w hw => hw.sub (by (repeat (first | exact SubL.nil | exact Pick.head | apply Pick.tail | apply SubL.cons)))) (q_len Try.underlying25 rfl) rfl ?_
  refine DW_q rfl (fun w hw => hw.sub (by (repeat (first | exact SubL.nil | exact Pick.head | apply Pick.tail | apply SubL.cons)))) (q_build (ps := #[(0, .int .i64 x), (1, .int .i64 (o.length : Int))]) (v := .agg #[.int .i64 x, .int .i64 (o.length : Int), .int .i64 0]) rfl (fun w => by kernel_rfl)) rfl ?_
  refine DW_e rfl (e_single Try.underlying32 Try.sizeOf47 Try.zeroValue47 (e := 47) (v := .agg #[.int .i64 x, .int .i64 (o.length : Int), .int .i64 0]) (cs := [.int .i64 x, .int .i64 (o.length : Int), .int .i64 0]) rfl rfl rfl rfl (by decide) (by decide)) rfl (fun _ w hw => hw.sub (by repeat (first | exact SubL.nil | exact Pick.head | apply Pick.tail | apply SubL.cons))) (fun b28 => ?_)
  refine DW_e rfl (e_append_t (x0 := (⟨x, (o.length : Int), 0⟩ : Spn)) (enc := encS) Try.underlying32 Try.typeInfo47 rfl rfl rfl rfl rfl rfl rfl (by repeat (first | exact .head | apply Pick.tail)) rfl (by exact fun w hw => hw.news (by repeat (first | exact .head | apply Swap.tail))) (by simp [Value.oneCell']) (by omega) (by decide)) rfl (fun _ w hw => hw.sub (by repeat (first | exact SubL.nil | exact Pick.head | apply Pick.tail | apply SubL.cons))) (fun v29 => ?_)
  refine DW_q rfl (fun w hw => hw.sub (by (repeat (first | exact SubL.nil | exact Pick.head | apply Pick.tail | apply SubL.cons)))) (q_nilCheck rfl) rfl ?_
  refine DW_q rfl (fun w hw => hw.sub (by (repeat (first | exact SubL.nil | exact Pick.head | apply Pick.tail | apply SubL.cons)))) (q_fieldAddr Try.underlying74 rfl rfl Try.sizeOf32 rfl rfl) rfl ?_
  refine DW_fact (fun w hw => hw.tform (v := v29) (by repeat (first | exact .head | apply Swap.tail))) (fun hf => ?_)
  obtain ⟨_, _, hv29, _⟩ := hf
  refine DW_z0 rfl (e_store Try.sizeOf32 rfl rfl rfl (by show Value.oneCell' v29 = true; rw [hv29]; rfl) (by repeat (first | exact .head | apply Swap.tail)) rfl) (fun _ => ?_)
  refine EW_then ?_
  refine CW_seq ?_
  refine CW_region ?_
  refine OW_q (q_move rfl) rfl ?_
  refine OW_q (q_nilCheck rfl) rfl ?_
  refine OW_q (q_fieldAddr Try.underlying113 rfl rfl Try.sizeOf111 rfl rfl) rfl ?_
  first | (refine OW_q (q_load1_own Try.isAgg111 rfl rfl (by (repeat (first | exact .head | apply Swap.tail))) (by rfl)) rfl ?_) | (refine OW_q (q_load1_ro Try.isAgg111 rfl (by first | exact hn1)) rfl ?_)
  refine OW_q (q_assign rfl) rfl ?_
  refine OW_nil ?_
  refine EW_then ?_
  refine CW_seq ?_
  refine CW_seq ?_
  refine CW_drawS 14 [(0, false), (1, false), (2, false), (3, false), (4, false), (5, false), (6, false), (7, false), (8, false), (9, false), (10, false), (11, false), (12, false), (13, false)] (by kernel_rfl) (Blind.then (Blind.then Blind.bodyP)) (by kernel_rfl) (fun w hw => hw.drew) ?_
  refine DW_q rfl (fun w hw => hw.sub (by (repeat (first | exact SubL.nil | exact Pick.head | apply Pick.tail | apply SubL.cons)))) (q_move rfl) rfl ?_
  refine DW_q rfl (fun w hw => hw.sub (by (repeat (first | exact SubL.nil | exact Pick.head | apply Pick.tail | apply SubL.cons)))) (q_nilCheck rfl) rfl ?_
  refine DW_q rfl (fun w hw => hw.sub (by (repeat (first | exact SubL.nil | exact Pick.head | apply Pick.tail | apply SubL.cons)))) (q_fieldAddr Try.underlying74 rfl rfl Try.sizeOf24 rfl rfl) rfl ?_
  refine DW_q rfl (fun w hw => hw.sub (by (repeat (first | exact SubL.nil | exact Pick.head | apply Pick.tail | apply SubL.cons)))) (q_fieldAddr Try.underlying24 rfl rfl Try.sizeOf22 rfl rfl) rfl ?_
  first | (refine DW_q rfl (fun w hw => hw.sub (by (repeat (first | exact SubL.nil | exact Pick.head | apply Pick.tail | apply SubL.cons)))) (q_load1_own Try.isAgg22 rfl rfl (by (repeat (first | exact .head | apply Swap.tail))) (by rfl)) rfl ?_) | (refine DW_q rfl (fun w hw => hw.sub (by (repeat (first | exact SubL.nil | exact Pick.head | apply Pick.tail | apply SubL.cons)))) (q_load1_ro Try.isAgg22 rfl (by first | assumption | exact Row.at_ (by assumption) rfl)) rfl ?_)
  refine DW_q rfl (fun w hw => hw.sub (by (repeat (first | exact SubL.nil | exact Pick.head | apply Pick.tail | apply SubL.cons)))) (q_move rfl) rfl ?_
  refine DW_q rfl (fun w hw => hw.sub (by (repeat (first | exact SubL.nil | exact Pick.head | apply Pick.tail | apply SubL.cons)))) (q_nilCheck rfl) rfl ?_
  refine DW_q rfl (fun w hw => hw.sub (by (repeat (first | exact SubL.nil | exact Pick.head | apply Pick.tail | apply SubL.cons)))) (q_fieldAddr Try.underlying113 rfl rfl Try.sizeOf3 rfl rfl) rfl ?_
  first | (refine DW_q rfl (fun w hw => hw.sub (by (repeat (first | exact SubL.nil | exact Pick.head | apply Pick.tail | apply SubL.cons)))) (q_load1_own Try.isAgg3 rfl rfl (by (repeat (first | exact .head | apply Swap.tail))) (by rfl)) rfl ?_) | (refine DW_q rfl (fun w hw => hw.sub (by (repeat (first | exact SubL.nil | exact Pick.head | apply Pick.tail | apply SubL.cons)))) (q_load1_ro Try.isAgg3 rfl (by first | exact hn0)) rfl ?_)
  refine DW_q rfl (fun w hw => hw.sub (by (repeat (first | exact SubL.nil | exact Pick.head | apply Pick.tail | apply SubL.cons)))) (q_indexAddrI Try.underlying22 Try.sizeOf41 rfl rfl (by first | omega | assumption) (by first | omega | assumption)) rfl ?_
  refine DW_q rfl (fun w hw => hw.sub (by (repeat (first | exact SubL.nil | exact Pick.head | apply Pick.tail | apply SubL.cons)))) (q_fieldAddr Try.underlying41 rfl rfl Try.sizeOf39 rfl rfl) rfl ?_
  refine DW_q rfl (fun w hw => hw.sub (by (repeat (first | exact SubL.nil | exact Pick.head | apply Pick.tail | apply SubL.cons)))) (q_load1_ro Try.isAgg39 rfl (by first | assumption | exact Row.at_ (by assumption) rfl)) rfl ?_
  refine DW_q rfl (fun w hw => hw.sub (by (repeat (first | exact SubL.nil | exact Pick.head | apply Pick.tail | apply SubL.cons)))) (q_len Try.underlying39 rfl) rfl ?_
  refine DW_q rfl (fun w hw => hw.sub (by (repeat (first | exact SubL.nil | exact Pick.head | apply Pick.tail | apply SubL.cons)))) (q_move rfl) rfl ?_
  refine DW_nil ?_
  refine EW_then ?_
  refine CW_block ?_
  refine CW_loopP (ι := Nat × For × List Nat × Option Addr × Nat × List Int × List Spn × Value × Value) (fun i_ => i_.1 ≤ q.right.length ∧ WS g (q.right.drop i_.1) i_.2.1 i_.2.2.2.2.2.1 i_.2.2.2.2.2.2.1 o1 s1 ∧ KidsAt (Rd R w0) i_.2.1 i_.2.2.1 ∧ SlAt (Rd R w0) 1 (.slice i_.2.2.2.1 i_.2.2.1.length i_.2.2.2.2.1) (fun p b => Rd R w0 p (.pointer (some ⟨b, 0, none⟩))) i_.2.2.1 ∧ i_.2.1.flat.length ≤ ks.flat.length) (fun i_ => [(0, .pointer (some ⟨bw, 0, none⟩)), (1, .pointer (some ⟨b, 0, none⟩)), (4, .int .i64 (s.length : Int)), (5, .slice i_.2.2.2.1 i_.2.2.1.length i_.2.2.2.2.1), (47, .slice a3 q.right.length c3), (48, .int .i64 (q.right.length : Int)), (49, .int .i64 (i_.1 : Int))]) (fun i_ => Sat R w0 [cel bw 74 [.int .i64 g.terms, .int .i64 g.names, .slice (some p) g.rules.length c, i_.2.2.2.2.2.2.2.1, i_.2.2.2.2.2.2.2.2], trow 3 1 encN i_.2.2.2.2.2.2.2.1 i_.2.2.2.2.2.1, trow 47 3 encS i_.2.2.2.2.2.2.2.2 i_.2.2.2.2.2.2.1, F]) (fun i_ => q.right.length - i_.1) (0, ks, kb, ka, kc, o, s ++ [⟨x, o.length, 0⟩], .slice a1 o.length c1, v29) ?_ ⟨rfl, rfl, rfl, rfl, rfl, rfl, rfl, trivial⟩ (fun w hw => hw.sub (by (repeat (first | exact SubL.nil | exact Pick.head | apply Pick.tail | apply SubL.cons)))) ?_
  · exact ⟨Nat.zero_le _, hin, hkk, hptr, Nat.le_refl _⟩
  intro i_ hpre
  obtain ⟨k, fc, kbc, kac, kcc, oc, sc, v1c, v2c⟩ := i_
  replace hpre : k ≤ q.right.length ∧ WS g (q.right.drop k) fc oc sc o1 s1 ∧ KidsAt (Rd R w0) fc kbc ∧ SlAt (Rd R w0) 1 (.slice kac kbc.length kcc) (fun p b => Rd R w0 p (.pointer (some ⟨b, 0, none⟩))) kbc ∧ fc.flat.length ≤ ks.flat.length := hpre
  change CW _ _ _ _ [(0, .pointer (some ⟨bw, 0, none⟩)), (1, .pointer (some ⟨b, 0, none⟩)), (4, .int .i64 (s.length : Int)), (5, .slice kac kbc.length kcc), (47, .slice a3 q.right.length c3), (48, .int .i64 (q.right.length : Int)), (49, .int .i64 (k : Int))] (Sat R w0 [cel bw 74 [.int .i64 g.terms, .int .i64 g.names, .slice (some p) g.rules.length c, v1c, v2c], trow 3 1 encN v1c oc, trow 47 3 encS v2c sc, F])
  obtain ⟨hk, hwc, hkc, hpc, hfl⟩ := hpre
  have hspc := ws_span hwc
  refine CW_seq ?_
  refine CW_region ?_
  refine OW_q (q_lss rfl rfl) rfl ?_
  refine OW_nil ?_
  refine EW_then ?_
  refine CW_seq ?_
  refine CW_cond rfl (fun h50 => ?_) (fun h50 => ?_)
  · skip
    have hltk : k < q.right.length := by have := of_decide_eq_true h50; omega
    obtain ⟨y, hsj⟩ := get_of_lt hltk
    obtain ⟨p2, rfl, hrowS⟩ := hss k y hsj
    have hdrop := drop_cons hsj
    rw [hdrop] at hwc
    refine CW_skip ?_
    refine EW_then ?_
    refine CW_seq ?_
    refine CW_block ?_
    refine CW_seq ?_
    refine CW_region ?_
    refine OW_q (q_indexAddr Try.underlying39 Try.sizeOf62 rfl rfl (by first | omega | assumption)) rfl ?_
    refine OW_q (q_loadN_ro Try.isAgg62 Try.sizeOf62 rfl (by first | assumption | exact Row.at_ (by assumption) rfl) (by rfl)) rfl ?_
    refine OW_e (e_alloc Try.zeroValue62 rfl) rfl (fun b7 => ?_)
    refine OW_e0 (e_storeN Try.sizeOf62 rfl rfl rfl rfl (by simp [Value.oneCell']) (by (repeat (first | exact .head | apply Swap.tail))) (by rfl)) (fun _ => ?_)
    refine OW_nil ?_
    refine EW_then ?_
    refine CW_seq ?_
    refine CW_seq ?_
    refine CW_region ?_
    refine OW_q (q_fieldAddr Try.underlying62 rfl rfl Try.sizeOf4 rfl rfl) rfl ?_
    first | (refine OW_q (q_load1_own Try.isAgg4 rfl rfl (by (repeat (first | exact .head | apply Swap.tail))) (by rfl)) rfl ?_) | (refine OW_q (q_load1_ro Try.isAgg4 rfl (by first | assumption | exact Row.at_ (by assumption) rfl)) rfl ?_)
    refine OW_nil ?_
    refine EW_then ?_
    refine CW_cond rfl (fun h54 => ?_) (fun h54 => ?_)
    · skip
      have ht : y.term = true := h54
      have hwt : WS g (q.right.drop (k + 1)) fc (oc ++ [y.n]) sc o1 s1 := by
        cases hwc with
        | term _ h => exact h
        | name h1 _ _ _ _ _ => rw [ht] at h1; cases h1
      refine CW_seq ?_
      refine CW_draw (Sat R w0 [cel bw 74 [.int .i64 g.terms, .int .i64 g.names, .slice (some p) g.rules.length c, v1c, v2c], cel b7 62 [.bool y.term, .int .i64 y.n]]) 11 [(0, false), (1, false), (2, false), (3, false), (4, false), (5, false), (6, false), (7, true), (8, true), (9, false), (10, false), (11, true)] (by kernel_rfl) (Blind.then (Blind.then (Blind.block (Blind.then (Blind.again (Blind.block (Blind.then Blind.bodyP))))))) (by kernel_rfl) (fun w hw => hw.drew) ?_
      refine DW_q rfl (fun w hw => hw.sub (by (repeat (first | exact SubL.nil | exact Pick.head | apply Pick.tail | apply SubL.cons)))) (q_move rfl) rfl ?_
      refine DW_q rfl (fun w hw => hw.sub (by (repeat (first | exact SubL.nil | exact Pick.head | apply Pick.tail | apply SubL.cons)))) (q_move rfl) rfl ?_
      refine DW_q rfl (fun w hw => hw.sub (by (repeat (first | exact SubL.nil | exact Pick.head | apply Pick.tail | apply SubL.cons)))) (q_nilCheck rfl) rfl ?_
      refine DW_q rfl (fun w hw => hw.sub (by (repeat (first | exact SubL.nil | exact Pick.head | apply Pick.tail | apply SubL.cons)))) (q_fieldAddr Try.underlying74 rfl rfl Try.sizeOf25 rfl rfl) rfl ?_
      first | (refine DW_q rfl (fun w hw => hw.sub (by (repeat (first | exact SubL.nil | exact Pick.head | apply Pick.tail | apply SubL.cons)))) (q_load1_own Try.isAgg25 rfl rfl (by (repeat (first | exact .head | apply Swap.tail))) (by rfl)) rfl ?_) | (refine DW_q rfl (fun w hw => hw.sub (by (repeat (first | exact SubL.nil | exact Pick.head | apply Pick.tail | apply SubL.cons)))) (q_load1_ro Try.isAgg25 rfl (by first | assumption | exact Row.at_ (by assumption) rfl)) rfl ?_)
      refine DW_q rfl (fun w hw => hw.sub (by (repeat (first | exact SubL.nil | exact Pick.head | apply Pick.tail | apply SubL.cons)))) (q_fieldAddr Try.underlying62 rfl rfl Try.sizeOf3 rfl rfl) rfl ?_
      first | (refine DW_q rfl (fun w hw => hw.sub (by (repeat (first | exact SubL.nil | exact Pick.head | apply Pick.tail | apply SubL.cons)))) (q_load1_own Try.isAgg3 rfl rfl (by (repeat (first | exact .head | apply Swap.tail))) (by rfl)) rfl ?_) | (refine DW_q rfl (fun w hw => hw.sub (by (repeat (first | exact SubL.nil | exact Pick.head | apply Pick.tail | apply SubL.cons)))) (q_load1_ro Try.isAgg3 rfl (by first | assumption | exact Row.at_ (by assumption) rfl)) rfl ?_)
      refine DW_e rfl (e_single Try.underlying25 Try.sizeOf3 Try.zeroValue3 (e := 3) (v := .int .i64 y.n) (cs := [.int .i64 y.n]) rfl rfl rfl rfl (by decide) (by decide)) rfl (fun _ w hw => hw.sub (by repeat (first | exact SubL.nil | exact Pick.head | apply Pick.tail | apply SubL.cons))) (fun b62 => ?_)
      refine DW_e rfl (e_append_t (x0 := y.n) (enc := encN) Try.underlying25 Try.typeInfo3 rfl rfl rfl rfl rfl rfl rfl (by repeat (first | exact .head | apply Pick.tail)) rfl (by exact fun w hw => hw.news (by repeat (first | exact .head | apply Swap.tail))) (by simp [Value.oneCell']) (by omega) (by decide)) rfl (fun _ w hw => hw.sub (by repeat (first | exact SubL.nil | exact Pick.head | apply Pick.tail | apply SubL.cons))) (fun v63 => ?_)
      refine DW_q rfl (fun w hw => hw.sub (by (repeat (first | exact SubL.nil | exact Pick.head | apply Pick.tail | apply SubL.cons)))) (q_nilCheck rfl) rfl ?_
      refine DW_q rfl (fun w hw => hw.sub (by (repeat (first | exact SubL.nil | exact Pick.head | apply Pick.tail | apply SubL.cons)))) (q_fieldAddr Try.underlying74 rfl rfl Try.sizeOf25 rfl rfl) rfl ?_
      refine DW_fact (fun w hw => hw.tform (v := v63) (by repeat (first | exact .head | apply Swap.tail))) (fun hf => ?_)
      obtain ⟨_, _, hv63, _⟩ := hf
      refine DW_z0 rfl (e_store Try.sizeOf25 rfl rfl rfl (by show Value.oneCell' v63 = true; rw [hv63]; rfl) (by repeat (first | exact .head | apply Swap.tail)) rfl) (fun _ => ?_)
      refine EW_then ?_
      refine CW_exit ?_
      refine EW_then_exit ?_
      refine EW_block_exit ?_
      refine EW_then ?_
      refine CW_region ?_
      first | refine OW_q (q_inc rfl rfl (by omega)) rfl ?_ | refine OW_q (q_add rfl rfl (by omega) (by omega)) rfl ?_
      refine OW_q (q_move rfl) rfl ?_
      refine OW_nil ?_
      refine EW_again ((k + 1, fc, kbc, kac, kcc, oc ++ [y.n], sc, v63, v2c)) ⟨?_, ?_⟩ ⟨rfl, rfl, rfl, rfl, rfl, rfl, rfl, trivial⟩ (fun w hw => hw.sub (by (repeat (first | exact SubL.nil | exact Pick.head | apply Pick.tail | apply SubL.cons))))
      · show q.right.length - (k + 1) < q.right.length - k; omega
      · exact ⟨by show k + 1 ≤ _; omega, hwt, hkc, hpc, hfl⟩
    · skip
      have ht : y.term = false := h54
      obtain ⟨x2, q2, k2, r2, o3, s3, z3, rfl, hx2, hq2, hin2, hz2, hwc2⟩ : ∃ x2 q2 k2 r2 o3 s3 z3, fc = .cons x2 k2 r2 ∧ 0 ≤ x2 ∧ g.rules[x2.toNat]? = some q2 ∧ WS g q2.right k2 oc (sc ++ [⟨x2, oc.length, 0⟩]) o3 s3 ∧ s3[sc.length]? = some z3 ∧ WS g (q.right.drop (k + 1)) r2 o3 (s3.set sc.length ⟨z3.rule, z3.frm, o3.length⟩) o1 s1 := by
        cases hwc with
        | term h1 _ => rw [ht] at h1; cases h1
        | name _ h0 h1 h2 h3 h4 => exact ⟨_, _, _, _, _, _, _, rfl, h0, h1, h2, h3, h4⟩
      have hws1 : WS g [⟨false, y.n⟩] (.cons x2 k2 .nil) oc sc o3 (s3.set sc.length ⟨z3.rule, z3.frm, o3.length⟩) := .name rfl hx2 hq2 hin2 hz2 .nil
      have hsp3 := ws_span hwc2
      rw [List.length_set] at hsp3
      have hb3 : o3.length ≤ 100000 := by omega
      have hs3 : (s3.set sc.length ⟨z3.rule, z3.frm, o3.length⟩).length ≤ 100000 := by rw [List.length_set]; omega
      obtain ⟨bk, kbt, kv2, kb2, rfl, hk1, hk2, hk3, hkid2⟩ := hkc
      have hkid1 : KidsAt (Rd R w0) (.cons x2 k2 .nil) [bk] := ⟨bk, [], kv2, kb2, rfl, hk1, hk2, hk3, rfl⟩
      have hlb : (bk :: kbt).length = kbt.length + 1 := rfl
      obtain ⟨_, _, hvp, hkc1, hkc2, hpp⟩ := id hpc
      injection hvp with e1 _ e2
      subst e1
      subst e2
      obtain ⟨pk, rfl, hpk⟩ := hpp 0 bk rfl
      refine CW_skip ?_
      refine EW_then ?_
      refine CW_seq ?_
      refine CW_region ?_
      refine OW_q (q_move rfl) rfl ?_
      refine OW_q (q_move rfl) rfl ?_
      refine OW_q (q_indexAddr (i := 0) Try.underlying111 Try.sizeOf99 rfl rfl (by simp)) rfl ?_
      first | (refine OW_q (q_load1_own Try.isAgg99 rfl rfl (by (repeat (first | exact .head | apply Swap.tail))) (by rfl)) rfl ?_) | (refine OW_q (q_load1_ro Try.isAgg99 rfl (by first | exact hpk)) rfl ?_)
      refine OW_e (e_call Try.call58 rfl (fun w hw => lift_mutL (M0 := [cel bw 74 [.int .i64 g.terms, .int .i64 g.names, .slice (some p) g.rules.length c, v1c, v2c], trow 3 1 encN v1c oc, trow 47 3 encS v2c sc]) (L1 := [F]) (hw.sub (by repeat (first | exact SubL.nil | exact Pick.head | apply Pick.tail | apply SubL.cons))) (fun F2 hF => ih (For.cons x2 k2 .nil).flat.length (by rw [flat_cons] at *; simp only [For.flat, List.length_nil] at *; omega) x2 k2 y.n oc o3 sc (s3.set sc.length ⟨z3.rule, z3.frm, o3.length⟩) bk v1c v2c w F2 rfl hkid1 hws1 hb3 hs3 hF))) rfl (fun x70 => ?_)
      refine OW_pure fun _ => ?_
      refine OW_nil ?_
      refine EW_then ?_
      refine CW_region ?_
      refine OW_q (q_move rfl) rfl ?_
      refine OW_q (q_slice (l := 1) (h := (bk :: kbt).length) Try.underlying111 Try.sizeOf99 rfl (.inr ⟨_, rfl, rfl⟩) (.inl ⟨rfl, rfl⟩) (by simp) (by omega) (by omega)) rfl ?_
      refine OW_q (q_assign rfl) rfl ?_
      refine OW_nil ?_
      refine EW_block_normal ?_
      refine EW_then ?_
      refine CW_region ?_
      first | refine OW_q (q_inc rfl rfl (by omega)) rfl ?_ | refine OW_q (q_add rfl rfl (by omega) (by omega)) rfl ?_
      refine OW_q (q_move rfl) rfl ?_
      refine OW_nil ?_
      refine EW_again ((k + 1, r2, kbt, (if kcc = 1 then some pk else (some pk).map (·.add (1 * 1))), kcc - 1, o3, s3.set sc.length ⟨z3.rule, z3.frm, o3.length⟩, x70.1, x70.2)) ⟨?_, ?_⟩ ⟨rfl, rfl, rfl, rfl, rfl, rfl, rfl, trivial⟩ (fun w hw => hw.sub (by (repeat (first | exact SubL.nil | exact Pick.head | apply Pick.tail | apply SubL.cons))))
      · show q.right.length - (k + 1) < q.right.length - k; omega
      · refine ⟨by show k + 1 ≤ _; omega, hwc2, hkid2, ?_, by rw [flat_cons] at hfl; show r2.flat.length ≤ _; omega⟩
        have := SlAt.sub (lo := 1) (hi := (bk :: kbt).length) hpc (by simp) (Nat.le_refl _)
        rw [List.take_length] at this
        exact this
  · skip
    obtain rfl : k = q.right.length := by have := of_decide_eq_false h50; omega
    rw [List.drop_length] at hwc
    obtain ⟨e3, e4⟩ : o1 = oc ∧ s1 = sc := by cases hwc; exact ⟨rfl, rfl⟩
    rw [e4] at hz
    have hslt := (List.getElem?_eq_some_iff.1 hz).1
    refine CW_exit ?_
    refine EW_then_exit ?_
    refine EW_out ?_
    refine EW_block_exit ?_
    refine EW_then ?_
    refine CW_fact (fun w hw => hw.tform (v := v2c) (l := sc) (by repeat (first | exact .head | apply Swap.tail))) (fun hf => ?_)
    obtain ⟨a5, c5, hv5, hv5a, hv5b, hv5c⟩ := hf
    subst hv5
    obtain ⟨b5, rfl⟩ := hv5c (by omega)
    refine CW_fact (fun w hw => hw.tform (v := v1c) (l := oc) (by repeat (first | exact .head | apply Swap.tail))) (fun hf => ?_)
    obtain ⟨a6, c6, hv6, hv6a, hv6b, hv6c⟩ := hf
    subst hv6
    refine CW_drawS 12 [(0, false), (1, false), (2, false), (3, false), (4, false), (5, false), (6, false), (7, false), (8, false), (9, false), (10, false), (11, false), (12, true)] (by kernel_rfl) Blind.bodyP (by kernel_rfl) (fun w hw => hw.drew) ?_
    refine DW_q rfl (fun w hw => hw.sub (by (repeat (first | exact SubL.nil | exact Pick.head | apply Pick.tail | apply SubL.cons)))) (q_move rfl) rfl ?_
    refine DW_q rfl (fun w hw => hw.sub (by (repeat (first | exact SubL.nil | exact Pick.head | apply Pick.tail | apply SubL.cons)))) (q_nilCheck rfl) rfl ?_
    refine DW_q rfl (fun w hw => hw.sub (by (repeat (first | exact SubL.nil | exact Pick.head | apply Pick.tail | apply SubL.cons)))) (q_fieldAddr Try.underlying74 rfl rfl Try.sizeOf32 rfl rfl) rfl ?_
    first | (refine DW_q rfl (fun w hw => hw.sub (by (repeat (first | exact SubL.nil | exact Pick.head | apply Pick.tail | apply SubL.cons)))) (q_load1_own Try.isAgg32 rfl rfl (by (repeat (first | exact .head | apply Swap.tail))) (by rfl)) rfl ?_) | (refine DW_q rfl (fun w hw => hw.sub (by (repeat (first | exact SubL.nil | exact Pick.head | apply Pick.tail | apply SubL.cons)))) (q_load1_ro Try.isAgg32 rfl (by first | assumption | exact Row.at_ (by assumption) rfl)) rfl ?_)
    refine DW_q rfl (fun w hw => hw.sub (by (repeat (first | exact SubL.nil | exact Pick.head | apply Pick.tail | apply SubL.cons)))) (q_move rfl) rfl ?_
    refine DW_q rfl (fun w hw => hw.sub (by (repeat (first | exact SubL.nil | exact Pick.head | apply Pick.tail | apply SubL.cons)))) (q_move rfl) rfl ?_
    refine DW_q rfl (fun w hw => hw.sub (by (repeat (first | exact SubL.nil | exact Pick.head | apply Pick.tail | apply SubL.cons)))) (q_nilCheck rfl) rfl ?_
    refine DW_q rfl (fun w hw => hw.sub (by (repeat (first | exact SubL.nil | exact Pick.head | apply Pick.tail | apply SubL.cons)))) (q_fieldAddr Try.underlying74 rfl rfl Try.sizeOf25 rfl rfl) rfl ?_
    first | (refine DW_q rfl (fun w hw => hw.sub (by (repeat (first | exact SubL.nil | exact Pick.head | apply Pick.tail | apply SubL.cons)))) (q_load1_own Try.isAgg25 rfl rfl (by (repeat (first | exact .head | apply Swap.tail))) (by rfl)) rfl ?_) | (refine DW_q rfl (fun w hw => hw.sub (by (repeat (first | exact SubL.nil | exact Pick.head | apply Pick.tail | apply SubL.cons)))) (q_load1_ro Try.isAgg25 rfl (by first | assumption | exact Row.at_ (by assumption) rfl)) rfl ?_)
    refine DW_q rfl (fun w hw => hw.sub (by (repeat (first | exact SubL.nil | exact Pick.head | apply Pick.tail | apply SubL.cons)))) (q_len Try.underlying25 rfl) rfl ?_
    refine DW_q rfl (fun w hw => hw.sub (by (repeat (first | exact SubL.nil | exact Pick.head | apply Pick.tail | apply SubL.cons)))) (q_indexAddr Try.underlying32 Try.sizeOf47 rfl rfl (by first | omega | assumption)) rfl ?_
    refine DW_q rfl (fun w hw => hw.sub (by (repeat (first | exact SubL.nil | exact Pick.head | apply Pick.tail | apply SubL.cons)))) (q_fieldAddr Try.underlying47 rfl rfl Try.sizeOf3 rfl rfl) rfl ?_
    refine DW_z0 rfl (e_store_t (enc := encS) (k := s.length) (off := 2) (y := z) (y' := ⟨z.rule, z.frm, (oc.length : Int)⟩) Try.sizeOf3 (fun _ => rfl) rfl rfl rfl rfl hz rfl (by repeat (first | exact .head | apply Swap.tail))) (fun _ => ?_)
    refine end0 Try.results58 (fun w hw => ?_)
    rw [e3, e4]
    exact ⟨(.slice a6 oc.length c6, .slice (some ⟨b5, 0, none⟩) sc.length c5), rfl, trivial, hw.sub (by repeat (first | exact SubL.nil | exact Pick.head | apply Pick.tail | apply SubL.cons))⟩

end Go.Sy
