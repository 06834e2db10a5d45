/- Package reach: what makes and what comes. No condition. -/
import Derived.Test.YteceklkjbcebkabW7
namespace Go.Sy
open Go Go.RowKit Go.Proofs

theorem makes_fix (gv : Value) (g : Gram) (R : Nat → Prop) (w0 w : World) (F : HP) (b4 bs N : Nat) (is : List Bool) (hm : mayB g = true) (hN : g.names.toNat = N) (hg : GramAt (Rd R w0) gv g) (hlen : is.length = N) (hl : LeastM g is)
    (hw : Sat R w0 [stars [bools bs 4 is, cel b4 54 [.slice (some ⟨bs, 0, none⟩) N N]], F] w) : Calls Try.prog 70 #[gv, .func (.func 71) #[] #[.pointer (some ⟨b4, 0, none⟩)]] w (fun e w' => ∃ x, e = .returned (.tuple #[]) ∧ (x.length = N ∧ LeastM g x ∧ ClosedM g x) ∧ Sat R w0 [stars [bools bs 4 x, cel b4 54 [.slice (some ⟨bs, 0, none⟩) N N]], F] w') := by
  have hM := mayB_true.1 hm
  have hall := may_all hm
  refine (fix_any (fun x => stars [bools bs 4 x, cel b4 54 [.slice (some ⟨bs, 0, none⟩) N N]]) (fun x => x.length = N ∧ LeastM g x) fls (fun r x ch y => (ch = false → y = x ∧ (allB x r.right = true → atB x r.left = true)) ∧ (ch = true → fls y < fls x)) 71 [.pointer (some ⟨b4, 0, none⟩)] gv g R w0 w F is Try.call71 hg
    (fun r hr rv x w F hsy hI hw => ?_) (fun r x y h => h.2 rfl) (fun r x y h => (h.1 rfl).1) ⟨hlen, hl⟩ hw).mono fun e w' ⟨x, he, hp, hw⟩ => ⟨x, he, ⟨hp.1.1, hp.1.2, fun r hr => ((hp.2 r hr).1 rfl).2⟩, hw⟩
  have hr1 := hall r hr
  refine (makes1_any g r rv N (by omega) hr1.1 (by omega) (fun s hs ht => by have := hr1.2.2 s hs ht; omega) hr R w0 w F hsy b4 bs x hI.1 hI.2 (hw.unjoin : Sat _ _ [bools bs 4 x, cel b4 54 [.slice (some ⟨bs, 0, none⟩) N N], F] w)).mono fun e w' ⟨y, he, hp, hw⟩ => ⟨y, he, ⟨⟨hp.1, hp.2.1⟩, hp.2.2⟩, ?_⟩
  exact Sat.join (M := [bools bs 4 y.2, cel b4 54 [.slice (some ⟨bs, 0, none⟩) N N]]) hw

theorem comes_fix (gv : Value) (g : Gram) (R : Nat → Prop) (w0 w : World) (F : HP) (b1 b2 bs bm N : Nat) (is m : List Bool) (hm : mayB g = true) (hN : g.names.toNat = N) (hg : GramAt (Rd R w0) gv g) (hlen : is.length = N) (hlm : m.length = N) (hl : LeastC g m is)
    (hw : Sat R w0 [stars [bools bs 4 is, cel b1 54 [.slice (some ⟨bs, 0, none⟩) N N], cel b2 54 [.slice (some ⟨bm, 0, none⟩) N N], bools bm 4 m], F] w) : Calls Try.prog 70 #[gv, .func (.func 73) #[] #[.pointer (some ⟨b1, 0, none⟩), .pointer (some ⟨b2, 0, none⟩)]] w (fun e w' => ∃ x, e = .returned (.tuple #[]) ∧ (x.length = N ∧ LeastC g m x ∧ ClosedC g m x ∧ (∀ n, atB is n = true → atB x n = true)) ∧ Sat R w0 [stars [bools bs 4 x, cel b1 54 [.slice (some ⟨bs, 0, none⟩) N N], cel b2 54 [.slice (some ⟨bm, 0, none⟩) N N], bools bm 4 m], F] w') := by
  have hM := mayB_true.1 hm
  have hall := may_all hm
  refine (fix_any (fun x => stars [bools bs 4 x, cel b1 54 [.slice (some ⟨bs, 0, none⟩) N N], cel b2 54 [.slice (some ⟨bm, 0, none⟩) N N], bools bm 4 m]) (fun x => x.length = N ∧ LeastC g m x ∧ (∀ n, atB is n = true → atB x n = true)) fls (fun r x ch y => (ch = false → y = x ∧ (atB x r.left = true → allB m r.right = true → ∀ s ∈ r.right, s.term = false → atB x s.n = true)) ∧ (ch = true → fls y < fls x)) 73 [.pointer (some ⟨b1, 0, none⟩), .pointer (some ⟨b2, 0, none⟩)] gv g R w0 w F is Try.call73 hg
    (fun r hr rv x w F hsy hI hw => ?_) (fun r x y h => h.2 rfl) (fun r x y h => (h.1 rfl).1) ⟨hlen, hl, fun _ h => h⟩ hw).mono fun e w' ⟨x, he, hp, hw⟩ => ⟨x, he, ⟨hp.1.1, hp.1.2.1, fun r hr => ((hp.2 r hr).1 rfl).2, hp.1.2.2⟩, hw⟩
  have hr1 := hall r hr
  refine (comes1_any g r rv N (by omega) hr1.1 (by omega) (fun s hs ht => by have := hr1.2.2 s hs ht; omega) hr R w0 w F hsy b1 b2 bs bm x m hI.1 hlm hI.2.1 (hw.unjoin : Sat _ _ [bools bs 4 x, cel b1 54 [.slice (some ⟨bs, 0, none⟩) N N], cel b2 54 [.slice (some ⟨bm, 0, none⟩) N N], bools bm 4 m, F] w)).mono fun e w' ⟨y, he, hp, hw⟩ => ⟨y, he, ⟨⟨hp.1, hp.2.1, fun n h => hp.2.2.2.2 n (hI.2.2 n h)⟩, hp.2.2.1, hp.2.2.2.1⟩, ?_⟩
  exact Sat.join (M := [bools bs 4 y.2, cel b1 54 [.slice (some ⟨bs, 0, none⟩) N N], cel b2 54 [.slice (some ⟨bm, 0, none⟩) N N], bools bm 4 m]) hw

set_option maxRecDepth 20000 in
theorem makes_no (gv : Value) (g : Gram) (w : World) (hg : GramAt (Cl w) gv g) (hm : mayB g = false) : Calls Try.prog 56 #[gv] w (fun e w' => e = .returned (.tuple #[.slice none 0 0, .int .i64 2]) ∧ Sat (Old w) w [] w') := by
  have hg0 := hg
  obtain ⟨rv, rfl, hr⟩ := hg.mono old_rd
  obtain ⟨a, c, rfl, hc1, hc2, hrs⟩ := hr
  have hg1 := hg.mono old_rd
  refine calls_CW Try.func56 rfl Try.ntmps56 rfl (Sat.start w) ?_
  refine CW_seq ?_
  refine CW_region ?_
  refine OW_e (e_box rfl rfl) rfl (fun b1 => ?_)
  refine OW_q (q_assign rfl) rfl ?_
  refine OW_q (q_assign rfl) rfl ?_
  refine OW_nil ?_
  refine EW_then ?_
  refine CW_seq ?_
  refine CW_seq ?_
  refine CW_region ?_
  first | (refine OW_q (q_loadN_own Try.isAgg24 Try.sizeOf24 rfl rfl (by (repeat (first | exact .head | apply Swap.tail))) (by rfl)) rfl ?_) | (refine OW_q (q_loadN_ro Try.isAgg24 Try.sizeOf24 rfl (by first | assumption | exact Row.at_ (by assumption) rfl) (by rfl)) rfl ?_)
  refine OW_e (e_call Try.call14 rfl (fun w hw => lift_ro (may_any _ g w (hg0.mono (fun _ _ h => hw.rd (Rd.old h)))) hw)) rfl (fun x6 => ?_)
  refine OW_q (q_not rfl) rfl ?_
  refine OW_nil ?_
  refine EW_then ?_
  refine CW_true rfl (by simp [hm]) ?_
  refine CW_seq ?_
  refine CW_region ?_
  refine OW_q (q_assign rfl) rfl ?_
  refine OW_q (q_assign rfl) rfl ?_
  refine OW_nil ?_
  refine EW_then ?_
  refine CW_ret ?_
  refine EW_then_ret ?_
  refine ret2 Try.results56 rfl rfl (fun w hw => ?_)
  exact ⟨rfl, hw.sub .nil⟩

set_option maxRecDepth 20000 in
theorem makes_yes (gv : Value) (g : Gram) (w : World) (hg : GramAt (Cl w) gv g) (hm : mayB g = true) : Calls Try.prog 56 #[gv] w (fun e w' => ∃ x : Nat × List Bool, e = .returned (.tuple #[.slice (some ⟨x.1, 0, none⟩) g.names.toNat g.names.toNat, .int .i64 0]) ∧ (x.2.length = g.names.toNat ∧ LeastM g x.2 ∧ ClosedM g x.2) ∧ Sat (Old w) w [bools x.1 4 x.2] w') := by
  have hg0 := hg
  obtain ⟨rv, rfl, hr⟩ := hg.mono old_rd
  obtain ⟨a, c, rfl, hc1, hc2, hrs⟩ := hr
  have hg1 := hg.mono old_rd
  have hM := mayB_true.1 hm
  refine calls_CW Try.func56 rfl Try.ntmps56 rfl (Sat.start w) ?_
  refine CW_seq ?_
  refine CW_region ?_
  refine OW_e (e_box rfl rfl) rfl (fun b1 => ?_)
  refine OW_q (q_assign rfl) rfl ?_
  refine OW_q (q_assign rfl) rfl ?_
  refine OW_nil ?_
  refine EW_then ?_
  refine CW_seq ?_
  refine CW_seq ?_
  refine CW_region ?_
  first | (refine OW_q (q_loadN_own Try.isAgg24 Try.sizeOf24 rfl rfl (by (repeat (first | exact .head | apply Swap.tail))) (by rfl)) rfl ?_) | (refine OW_q (q_loadN_ro Try.isAgg24 Try.sizeOf24 rfl (by first | assumption | exact Row.at_ (by assumption) rfl) (by rfl)) rfl ?_)
  refine OW_e (e_call Try.call14 rfl (fun w hw => lift_ro (may_any _ g w (hg0.mono (fun _ _ h => hw.rd (Rd.old h)))) hw)) rfl (fun x6 => ?_)
  refine OW_q (q_not rfl) rfl ?_
  refine OW_nil ?_
  refine EW_then ?_
  refine CW_false rfl (by simp [hm]) ?_
  refine CW_skip ?_
  refine EW_then ?_
  refine CW_seq ?_
  refine CW_region ?_
  refine OW_q (q_fieldAddr Try.underlying24 rfl rfl Try.sizeOf3 rfl rfl) rfl ?_
  first | (refine OW_q (q_load1_own Try.isAgg3 rfl rfl (by (repeat (first | exact .head | apply Swap.tail))) (by rfl)) rfl ?_) | (refine OW_q (q_load1_ro Try.isAgg3 rfl (by first | assumption | exact Row.at_ (by assumption) rfl)) rfl ?_)
  refine OW_e (e_makeB Try.underlying54 Try.typeInfo4 rfl rfl (by decide) rfl rfl (by omega) (by omega)) rfl (fun b10 => ?_)
  refine OW_e (e_alloc Try.zeroValue54 rfl) rfl (fun b4 => ?_)
  refine OW_e0 (e_store Try.sizeOf54 rfl rfl rfl rfl (by (repeat (first | exact .head | apply Swap.tail))) (by rfl)) (fun _ => ?_)
  refine OW_nil ?_
  refine EW_then ?_
  refine CW_seq ?_
  refine CW_region ?_
  first | (refine OW_q (q_loadN_own Try.isAgg24 Try.sizeOf24 rfl rfl (by (repeat (first | exact .head | apply Swap.tail))) (by rfl)) rfl ?_) | (refine OW_q (q_loadN_ro Try.isAgg24 Try.sizeOf24 rfl (by first | assumption | exact Row.at_ (by assumption) rfl) (by rfl)) rfl ?_)
  refine OW_q (q_makeFuncL (us := [.pointer (some ⟨b4, 0, none⟩)]) rfl) rfl ?_
  refine OW_weak (fun w hw => Sat.join (M := [bools b10 4 (List.replicate g.names.toNat false), cel b4 54 [.slice (some ⟨b10, 0, none⟩) g.names.toNat g.names.toNat]]) (L := [cel b1 24 [.int .i64 g.terms, .int .i64 g.names, .slice a g.rules.length c]]) (hw.sub (by repeat (first | exact SubL.nil | exact Pick.head | apply Pick.tail | apply SubL.cons)))) ?_
  refine OW_e (e_call Try.call70 rfl (fun w hw => lift_mut (by repeat (first | exact .head | apply Pick.tail)) hw (fun F hF => makes_fix _ g _ _ w F b4 b10 _ (List.replicate g.names.toNat false) hm rfl hg1 List.length_replicate (leastM_new g _) hF))) rfl (fun x13 => ?_)
  refine OW_pure fun hx13 => ?_
  refine OW_weak (fun w hw => (hw.unjoin : Sat _ _ [bools b10 4 x13, cel b4 54 [.slice (some ⟨b10, 0, none⟩) g.names.toNat g.names.toNat], cel b1 24 [.int .i64 g.terms, .int .i64 g.names, .slice a g.rules.length c]] w)) ?_
  refine OW_nil ?_
  refine EW_then ?_
  refine CW_seq ?_
  refine CW_region ?_
  first | (refine OW_q (q_load1_own Try.isAgg54 rfl rfl (by (repeat (first | exact .head | apply Swap.tail))) (by rfl)) rfl ?_) | (refine OW_q (q_load1_ro Try.isAgg54 rfl (by first | assumption | exact Row.at_ (by assumption) rfl)) rfl ?_)
  refine OW_q (q_assign rfl) rfl ?_
  refine OW_q (q_assign rfl) rfl ?_
  refine OW_nil ?_
  refine EW_then ?_
  refine CW_ret ?_
  refine ret2 Try.results56 rfl rfl (fun w hw => ?_)
  exact ⟨(b10, x13), rfl, hx13, hw.sub (by repeat (first | exact SubL.nil | exact Pick.head | apply Pick.tail | apply SubL.cons))⟩

set_option maxRecDepth 20000 in
theorem comes_no (gv : Value) (g : Gram) (w : World) (hg : GramAt (Cl w) gv g) (hm : mayB g = false) : Calls Try.prog 57 #[gv] w (fun e w' => e = .returned (.tuple #[.slice none 0 0, .int .i64 2]) ∧ Sat (Old w) w [] w') := by
  have hg0 := hg
  obtain ⟨rv, rfl, hr⟩ := hg.mono old_rd
  obtain ⟨a, c, rfl, hc1, hc2, hrs⟩ := hr
  have hg1 := hg.mono old_rd
  refine calls_CW Try.func57 rfl Try.ntmps57 rfl (Sat.start w) ?_
  refine CW_seq ?_
  refine CW_region ?_
  refine OW_e (e_box rfl rfl) rfl (fun b1 => ?_)
  refine OW_q (q_assign rfl) rfl ?_
  refine OW_q (q_assign rfl) rfl ?_
  refine OW_nil ?_
  refine EW_then ?_
  refine CW_seq ?_
  refine CW_region ?_
  first | (refine OW_q (q_loadN_own Try.isAgg24 Try.sizeOf24 rfl rfl (by (repeat (first | exact .head | apply Swap.tail))) (by rfl)) rfl ?_) | (refine OW_q (q_loadN_ro Try.isAgg24 Try.sizeOf24 rfl (by first | assumption | exact Row.at_ (by assumption) rfl) (by rfl)) rfl ?_)
  refine OW_e (e_call Try.call56 rfl (fun w hw => lift_ro (makes_no _ g w (hg0.mono (fun _ _ h => hw.rd (Rd.old h))) hm) hw)) rfl (fun x9 => ?_)
  refine OW_q (q_move rfl) rfl ?_
  refine OW_q (q_extract rfl rfl) rfl ?_
  refine OW_q (q_extract rfl rfl) rfl ?_
  refine OW_e (e_alloc Try.zeroValue54 rfl) rfl (fun b4 => ?_)
  refine OW_e0 (e_store Try.sizeOf54 rfl rfl rfl rfl (by (repeat (first | exact .head | apply Swap.tail))) (by rfl)) (fun _ => ?_)
  refine OW_q (q_assign rfl) rfl ?_
  refine OW_nil ?_
  refine EW_then ?_
  refine CW_seq ?_
  refine CW_seq ?_
  refine CW_region ?_
  refine OW_q (q_move rfl) rfl ?_
  refine OW_q (q_nei rfl rfl) rfl ?_
  refine OW_nil ?_
  refine EW_then ?_
  refine CW_true rfl (by simp) ?_
  refine CW_seq ?_
  refine CW_region ?_
  refine OW_q (q_move rfl) rfl ?_
  refine OW_q (q_assign rfl) rfl ?_
  refine OW_q (q_assign rfl) rfl ?_
  refine OW_nil ?_
  refine EW_then ?_
  refine CW_ret ?_
  refine EW_then_ret ?_
  refine ret2 Try.results57 rfl rfl (fun w hw => ?_)
  exact ⟨rfl, hw.sub .nil⟩

set_option maxRecDepth 20000 in
theorem comes_yes (gv : Value) (g : Gram) (w : World) (hg : GramAt (Cl w) gv g) (hm : mayB g = true) : Calls Try.prog 57 #[gv] w (fun e w' => ∃ x : Nat × List Bool, e = .returned (.tuple #[.slice (some ⟨x.1, 0, none⟩) g.names.toNat g.names.toNat, .int .i64 0]) ∧ (x.2.length = g.names.toNat ∧ ∃ m : List Bool, m.length = g.names.toNat ∧ LeastM g m ∧ ClosedM g m ∧ LeastC g m x.2 ∧ ClosedC g m x.2 ∧ (atB m 0 = true → atB x.2 0 = true)) ∧ Sat (Old w) w [bools x.1 4 x.2] w') := by
  have hg0 := hg
  obtain ⟨rv, rfl, hr⟩ := hg.mono old_rd
  obtain ⟨a, c, rfl, hc1, hc2, hrs⟩ := hr
  have hg1 := hg.mono old_rd
  have hM := mayB_true.1 hm
  refine calls_CW Try.func57 rfl Try.ntmps57 rfl (Sat.start w) ?_
  refine CW_seq ?_
  refine CW_region ?_
  refine OW_e (e_box rfl rfl) rfl (fun b1 => ?_)
  refine OW_q (q_assign rfl) rfl ?_
  refine OW_q (q_assign rfl) rfl ?_
  refine OW_nil ?_
  refine EW_then ?_
  refine CW_seq ?_
  refine CW_region ?_
  first | (refine OW_q (q_loadN_own Try.isAgg24 Try.sizeOf24 rfl rfl (by (repeat (first | exact .head | apply Swap.tail))) (by rfl)) rfl ?_) | (refine OW_q (q_loadN_ro Try.isAgg24 Try.sizeOf24 rfl (by first | assumption | exact Row.at_ (by assumption) rfl) (by rfl)) rfl ?_)
  refine OW_e (e_call Try.call56 rfl (fun w hw => lift_oldP (makes_yes _ g w (hg0.mono (fun _ _ h => hw.rd (Rd.old h))) hm) hw)) rfl (fun x9 => ?_)
  refine OW_pure fun hx9 => ?_
  have hc0 : x9.2[(0 : Int).toNat]? = some (atB x9.2 0) := atB_get (by omega) (by omega)
  refine OW_q (q_move rfl) rfl ?_
  refine OW_q (q_extract rfl rfl) rfl ?_
  refine OW_q (q_extract rfl rfl) rfl ?_
  refine OW_e (e_alloc Try.zeroValue54 rfl) rfl (fun b4 => ?_)
  refine OW_e0 (e_store Try.sizeOf54 rfl rfl rfl rfl (by (repeat (first | exact .head | apply Swap.tail))) (by rfl)) (fun _ => ?_)
  refine OW_q (q_assign rfl) rfl ?_
  refine OW_nil ?_
  refine EW_then ?_
  refine CW_seq ?_
  refine CW_seq ?_
  refine CW_region ?_
  refine OW_q (q_move rfl) rfl ?_
  refine OW_q (q_nei rfl rfl) rfl ?_
  refine OW_nil ?_
  refine EW_then ?_
  refine CW_false rfl (by simp) ?_
  refine CW_skip ?_
  refine EW_then ?_
  refine CW_seq ?_
  refine CW_region ?_
  refine OW_q (q_fieldAddr Try.underlying24 rfl rfl Try.sizeOf3 rfl rfl) rfl ?_
  first | (refine OW_q (q_load1_own Try.isAgg3 rfl rfl (by (repeat (first | exact .head | apply Swap.tail))) (by rfl)) rfl ?_) | (refine OW_q (q_load1_ro Try.isAgg3 rfl (by first | assumption | exact Row.at_ (by assumption) rfl)) rfl ?_)
  refine OW_e (e_makeB Try.underlying54 Try.typeInfo4 rfl rfl (by decide) rfl rfl (by omega) (by omega)) rfl (fun b17 => ?_)
  refine OW_e (e_alloc Try.zeroValue54 rfl) rfl (fun b6 => ?_)
  refine OW_e0 (e_store Try.sizeOf54 rfl rfl rfl rfl (by (repeat (first | exact .head | apply Swap.tail))) (by rfl)) (fun _ => ?_)
  refine OW_nil ?_
  refine EW_then ?_
  refine CW_seq ?_
  refine CW_drawS 5 [(0, false), (1, false), (2, false), (3, false), (4, false), (5, true)] (by kernel_rfl) (Blind.then (Blind.body (by intro c w h; simp at h))) (by kernel_rfl) (fun w hw => hw.drew) ?_
  first | (refine DW_q rfl (fun w hw => hw.sub (by (repeat (first | exact SubL.nil | exact Pick.head | apply Pick.tail | apply SubL.cons)))) (q_load1_own Try.isAgg54 rfl rfl (by (repeat (first | exact .head | apply Swap.tail))) (by rfl)) rfl ?_) | (refine DW_q rfl (fun w hw => hw.sub (by (repeat (first | exact SubL.nil | exact Pick.head | apply Pick.tail | apply SubL.cons)))) (q_load1_ro Try.isAgg54 rfl (by first | assumption | exact Row.at_ (by assumption) rfl)) rfl ?_)
  first | (refine DW_q rfl (fun w hw => hw.sub (by (repeat (first | exact SubL.nil | exact Pick.head | apply Pick.tail | apply SubL.cons)))) (q_load1_own Try.isAgg54 rfl rfl (by (repeat (first | exact .head | apply Swap.tail))) (by rfl)) rfl ?_) | (refine DW_q rfl (fun w hw => hw.sub (by (repeat (first | exact SubL.nil | exact Pick.head | apply Pick.tail | apply SubL.cons)))) (q_load1_ro Try.isAgg54 rfl (by first | assumption | exact Row.at_ (by assumption) rfl)) rfl ?_)
  refine DW_q rfl (fun w hw => hw.sub (by (repeat (first | exact SubL.nil | exact Pick.head | apply Pick.tail | apply SubL.cons)))) (q_indexAddrI Try.underlying54 Try.sizeOf4 rfl rfl (by first | omega | assumption) (by first | omega | assumption)) rfl ?_
  refine DW_q rfl (fun w hw => hw.sub (by (repeat (first | exact SubL.nil | exact Pick.head | apply Pick.tail | apply SubL.cons)))) (q_load_bools Try.isAgg4 rfl (by (repeat (first | exact .head | apply Swap.tail))) (by assumption)) rfl ?_
  refine DW_q rfl (fun w hw => hw.sub (by (repeat (first | exact SubL.nil | exact Pick.head | apply Pick.tail | apply SubL.cons)))) (q_indexAddrI Try.underlying54 Try.sizeOf4 rfl rfl (by first | omega | assumption) (by first | omega | assumption)) rfl ?_
  refine DW_z0 rfl (e_store_bools Try.sizeOf4 rfl rfl (by (repeat (first | exact .head | apply Swap.tail))) (by simp; omega)) (fun _ => ?_)
  refine EW_then ?_
  refine CW_seq ?_
  refine CW_region ?_
  first | (refine OW_q (q_loadN_own Try.isAgg24 Try.sizeOf24 rfl rfl (by (repeat (first | exact .head | apply Swap.tail))) (by rfl)) rfl ?_) | (refine OW_q (q_loadN_ro Try.isAgg24 Try.sizeOf24 rfl (by first | assumption | exact Row.at_ (by assumption) rfl) (by rfl)) rfl ?_)
  refine OW_q (q_makeFuncL (us := [.pointer (some ⟨b6, 0, none⟩), .pointer (some ⟨b4, 0, none⟩)]) rfl) rfl ?_
  refine OW_weak (fun w hw => Sat.join (M := [bools b17 4 ((List.replicate g.names.toNat false).set 0 (atB x9.2 0)), cel b6 54 [.slice (some ⟨b17, 0, none⟩) g.names.toNat g.names.toNat], cel b4 54 [.slice (some ⟨x9.1, 0, none⟩) g.names.toNat g.names.toNat], bools x9.1 4 x9.2]) (L := [cel b1 24 [.int .i64 g.terms, .int .i64 g.names, .slice a g.rules.length c]]) (hw.sub (by repeat (first | exact SubL.nil | exact Pick.head | apply Pick.tail | apply SubL.cons)))) ?_
  refine OW_e (e_call Try.call70 rfl (fun w hw => lift_mut (by repeat (first | exact .head | apply Pick.tail)) hw (fun F hF => comes_fix _ g _ _ w F b6 b4 b17 x9.1 _ ((List.replicate g.names.toNat false).set 0 (atB x9.2 0)) x9.2 hm rfl hg1 (by simp) hx9.1 (leastC_new g _ _) hF))) rfl (fun x25 => ?_)
  refine OW_pure fun hx25 => ?_
  refine OW_weak (fun w hw => (hw.unjoin : Sat _ _ [bools b17 4 x25, cel b6 54 [.slice (some ⟨b17, 0, none⟩) g.names.toNat g.names.toNat], cel b4 54 [.slice (some ⟨x9.1, 0, none⟩) g.names.toNat g.names.toNat], bools x9.1 4 x9.2, cel b1 24 [.int .i64 g.terms, .int .i64 g.names, .slice a g.rules.length c]] w)) ?_
  refine OW_nil ?_
  refine EW_then ?_
  refine CW_seq ?_
  refine CW_region ?_
  first | (refine OW_q (q_load1_own Try.isAgg54 rfl rfl (by (repeat (first | exact .head | apply Swap.tail))) (by rfl)) rfl ?_) | (refine OW_q (q_load1_ro Try.isAgg54 rfl (by first | assumption | exact Row.at_ (by assumption) rfl)) rfl ?_)
  refine OW_q (q_assign rfl) rfl ?_
  refine OW_q (q_assign rfl) rfl ?_
  refine OW_nil ?_
  refine EW_then ?_
  refine CW_ret ?_
  refine ret2 Try.results57 rfl rfl (fun w hw => ?_)
  exact ⟨(b17, x25), rfl, ⟨hx25.1, x9.2, hx9.1, hx9.2.1, hx9.2.2, hx25.2.1, hx25.2.2.1, fun h => hx25.2.2.2 0 (by
    unfold atB
    rw [List.getD_eq_getElem?_getD]
    show ((List.set _ 0 _)[0]?).getD false = true
    rw [List.getElem?_set_self (by simp; omega)]
    exact h)⟩, hw.sub (by repeat (first | exact SubL.nil | exact Pick.head | apply Pick.tail | apply SubL.cons))⟩

end Go.Sy
