/- Sets: the reference's sets of a grammar. No condition. -/
import Derived.Test.YteceklkjbcebkaaW15
import Derived.Test.YteceklkjbcebkaaPCol
namespace Go.Sy
open Go Go.RowKit Go.Proofs

theorem KN_take {g : Gram} {i : Nat} {r : Rule} (h : g.rules[i]? = some r) : (KN g).take (i + 1) = (KN g).take i ++ [nullK r] := by
  rw [List.take_add_one]; unfold KN; rw [List.getElem?_map, h]; rfl
theorem KF_take {g : Gram} {nl : List Bool} {u : Int} {i : Nat} {r : Rule} (h : g.rules[i]? = some r) : (KF g nl u).take (i + 1) = (KF g nl u).take i ++ [firstK nl u r] := by
  rw [List.take_add_one]; unfold KF; rw [List.getElem?_map, h]; rfl

/-- One step of the second phase, at a rule and a term. -/
theorem kf_put {g : Gram} {n : List Bool} {f f2 : List (List Bool)} {N M : Nat} {i t : Nat} {r : Rule} (hx : g.rules[i]? = some r) (hd : Dim f N M) (hd2 : Dim f2 N M) (h0 : 0 ≤ r.left) (h1 : r.left < (N : Int)) (ht : t < M) (hs : ∀ s ∈ r.right, s.term = false → 0 ≤ s.n ∧ s.n < (N : Int))
    (hri : ∀ u : Int, 0 ≤ u → u < g.terms → RI (KF g n u) ((KF g n u).take (if u < (t : Int) then i + 1 else i)) (colL f u) (colL f2 u)) :
    (begB n f2 r.right (t : Int) = true → ∀ u : Int, 0 ≤ u → u < g.terms → RI (KF g n u) ((KF g n u).take (if u < ((t + 1 : Nat) : Int) then i + 1 else i)) (colL f u) (colL (put2 f2 r.left (t : Int)) u)) ∧
    (begB n f2 r.right (t : Int) = false → ∀ u : Int, 0 ≤ u → u < g.terms → RI (KF g n u) ((KF g n u).take (if u < ((t + 1 : Nat) : Int) then i + 1 else i)) (colL f u) (colL f2 u)) := by
  have hl := hd.1
  have hl2 := hd2.1
  have hr := hd2.row h0 h1
  have key : ∀ u : Int, u = (t : Int) → 0 ≤ u → u < g.terms → RI (KF g n u) ((KF g n u).take (i + 1)) (colL f u) (if begB n f2 r.right u = true then (colL f2 u).set r.left.toNat true else colL f2 u) := by
    intro u e hu0 hu1
    have hst := (hri u hu0 hu1).step (k := firstK n u r) (List.mem_map.2 ⟨r, List.mem_of_getElem? hx, rfl⟩) h0 (by rw [colL_len]; show r.left < (f.length : Int); omega)
    rw [if_neg (by omega), ← KF_take hx] at hst
    have hb : (firstK n u r).cond (colL f2 u) = begB n f2 r.right u := begC_eq (fun s hs' ht' => by have := hs s hs' ht'; omega)
    rw [hb] at hst
    exact hst
  refine ⟨fun hb u hu0 hu1 => ?_, fun hb u hu0 hu1 => ?_⟩
  · rw [colL_put h0 (by omega) (Int.natCast_nonneg t) (by omega) hu0]
    by_cases e : u = (t : Int)
    · have := key u e hu0 hu1
      rw [if_pos (by rw [e]; exact hb)] at this
      rw [if_pos e, if_pos (by omega)]; exact this
    · rw [if_neg e]
      have := hri u hu0 hu1
      by_cases e2 : u < (t : Int)
      · rw [if_pos e2] at this; rw [if_pos (by omega)]; exact this
      · rw [if_neg e2] at this; rw [if_neg (by omega)]; exact this
  · by_cases e : u = (t : Int)
    · have := key u e hu0 hu1
      rw [if_neg (by rw [e, hb]; decide)] at this
      rw [if_pos (by omega)]; exact this
    · have := hri u hu0 hu1
      by_cases e2 : u < (t : Int)
      · rw [if_pos e2] at this; rw [if_pos (by omega)]; exact this
      · rw [if_neg e2] at this; rw [if_neg (by omega)]; exact this
/-- The rules behind us, and what is behind us of this one. -/
def DO (g : Gram) (n : List Bool) (f : List (List Bool)) (u : Int) (i : Nat) (r : Rule) (k : Nat) : List Con := ((g.rules.take i).flatMap fun q => folKs g n f u q q.right.length) ++ folKs g n f u r k
theorem DO_zero {g : Gram} {n : List Bool} {f : List (List Bool)} {u : Int} {i : Nat} {r : Rule} : DO g n f u i r 0 = (g.rules.take i).flatMap (fun q => folKs g n f u q q.right.length) := by
  unfold DO; rw [show folKs g n f u r 0 = [] from rfl, List.append_nil]
theorem DO_next {g : Gram} {n : List Bool} {f : List (List Bool)} {u : Int} {i : Nat} {r : Rule} (hx : g.rules[i]? = some r) : (g.rules.take (i + 1)).flatMap (fun q => folKs g n f u q q.right.length) = DO g n f u i r r.right.length := by
  rw [List.take_add_one, hx, List.flatMap_append]; simp [DO]
theorem DO_term {g : Gram} {n : List Bool} {f : List (List Bool)} {u : Int} {i k : Nat} {r : Rule} {s : Sym} (hs : r.right[k]? = some s) (ht : s.term = true) : DO g n f u i r (k + 1) = DO g n f u i r k := by
  unfold DO; rw [folKs, hs]; simp [ht]
theorem DO_name {g : Gram} {n : List Bool} {f : List (List Bool)} {u : Int} {i k : Nat} {r : Rule} {s : Sym} (hs : r.right[k]? = some s) (ht : s.term = false) : DO g n f u i r (k + 1) = DO g n f u i r k ++ [followK g n f u r k s] := by
  unfold DO; rw [folKs, hs]; simp [ht]
theorem kof_put {g : Gram} {n : List Bool} {fs f f2 : List (List Bool)} {N M : Nat} {i k t : Nat} {r : Rule} {s : Sym} (hx : g.rules[i]? = some r) (hs : r.right[k]? = some s) (hst : s.term = false) (hd : Dim f N M) (hd2 : Dim f2 N M) (h0 : 0 ≤ r.left) (h1 : r.left < (N : Int)) (hs0 : 0 ≤ s.n) (hs1 : s.n < (N : Int)) (ht : t < M)
    (hri : ∀ u : Int, 0 ≤ u → u ≤ g.terms → RI (KO g n fs u) (DO g n fs u i r (if u < (t : Int) then k + 1 else k)) (colL f u) (colL f2 u)) :
    (((decide ((t : Int) < g.terms) && begB n fs (r.right.drop (k + 1)) (t : Int)) || (nullB n (r.right.drop (k + 1)) && at2 f2 r.left (t : Int))) = true → ∀ u : Int, 0 ≤ u → u ≤ g.terms → RI (KO g n fs u) (DO g n fs u i r (if u < ((t + 1 : Nat) : Int) then k + 1 else k)) (colL f u) (colL (put2 f2 s.n (t : Int)) u)) ∧
    (((decide ((t : Int) < g.terms) && begB n fs (r.right.drop (k + 1)) (t : Int)) || (nullB n (r.right.drop (k + 1)) && at2 f2 r.left (t : Int))) = false → ∀ u : Int, 0 ≤ u → u ≤ g.terms → RI (KO g n fs u) (DO g n fs u i r (if u < ((t + 1 : Nat) : Int) then k + 1 else k)) (colL f u) (colL f2 u)) := by
  have hl := hd.1
  have hl2 := hd2.1
  have hr := hd2.row hs0 hs1
  have key : ∀ u : Int, u = (t : Int) → 0 ≤ u → u ≤ g.terms → RI (KO g n fs u) (DO g n fs u i r (k + 1)) (colL f u) (if ((decide ((t : Int) < g.terms) && begB n fs (r.right.drop (k + 1)) (t : Int)) || (nullB n (r.right.drop (k + 1)) && at2 f2 r.left (t : Int))) = true then (colL f2 u).set s.n.toNat true else colL f2 u) := by
    intro u e hu0 hu1
    have hst' := (hri u hu0 hu1).step (k := followK g n fs u r k s) (List.mem_flatMap.2 ⟨r, List.mem_of_getElem? hx, folKs_mem hs hst (List.getElem?_eq_some_iff.1 hs).1⟩) hs0 (by rw [colL_len]; show s.n < (f.length : Int); omega)
    rw [if_neg (by omega), ← DO_name hs hst] at hst'
    have hb : (followK g n fs u r k s).cond (colL f2 u) = ((decide ((t : Int) < g.terms) && begB n fs (r.right.drop (k + 1)) (t : Int)) || (nullB n (r.right.drop (k + 1)) && at2 f2 r.left (t : Int))) := by
      subst e
      show ((decide ((t : Int) < g.terms) && _) || (_ && atB (colL f2 (t : Int)) r.left)) = _
      rw [colL_at h0 (by omega)]
    rw [hb] at hst'
    exact hst'
  refine ⟨fun hb u hu0 hu1 => ?_, fun hb u hu0 hu1 => ?_⟩
  · rw [colL_put hs0 (by omega) (Int.natCast_nonneg t) (by omega) hu0]
    by_cases e : u = (t : Int)
    · have := key u e hu0 hu1
      rw [if_pos hb] at this
      rw [if_pos e, if_pos (by omega)]; exact this
    · rw [if_neg e]
      have := hri u hu0 hu1
      by_cases e2 : u < (t : Int)
      · rw [if_pos e2] at this; rw [if_pos (by omega)]; exact this
      · rw [if_neg e2] at this; rw [if_neg (by omega)]; exact this
  · by_cases e : u = (t : Int)
    · have := key u e hu0 hu1
      rw [if_neg (by rw [hb]; decide)] at this
      rw [if_pos (by omega)]; exact this
    · have := hri u hu0 hu1
      by_cases e2 : u < (t : Int)
      · rw [if_pos e2] at this; rw [if_pos (by omega)]; exact this
      · rw [if_neg e2] at this; rw [if_neg (by omega)]; exact this

set_option maxRecDepth 20000 in
theorem ref2Of_any (gv : Value) (g : Gram) (w : World) (hg : GramAt (Cl w) gv g) (hm : mayB g = true) : Calls Try.prog 28 #[gv] w (fun e w' => ∃ x : SR, e = .returned (.agg #[.slice (some ⟨x.bn, 0, none⟩) g.names.toNat g.names.toNat, .slice (some ⟨x.bf, 0, none⟩) g.names.toNat x.cf, .slice (some ⟨x.bo, 0, none⟩) g.names.toNat x.co]) ∧ SetsOk g g.names.toNat x ∧ Sat (Old w) w [bools x.bn 4 x.nl, tabA 4 x.blf x.fs, trow 36 1 (encR g.terms.toNat) (.slice (some ⟨x.bf, 0, none⟩) g.names.toNat x.cf) x.blf, trow 36 1 (encR (g.terms + 1).toNat) (.slice (some ⟨x.bo, 0, none⟩) g.names.toNat x.co) x.blo, tabA 4 x.blo x.fo] w') := by
  have hg0 := hg
  obtain ⟨rv, rfl, hr⟩ := hg.mono old_rd
  have hrr := hr
  obtain ⟨a, c, rfl, hc1, hc2, hrs⟩ := hr
  have hM := mayB_true.1 hm
  have hall := may_all hm
  refine calls_CW Try.func28 rfl Try.ntmps28 rfl (Sat.start w) ?_
  refine CW_seq ?_
  refine CW_region ?_
  refine OW_e (e_box rfl rfl) rfl (fun b1 => ?_)
  refine OW_e (e_alloc Try.zeroValue53 rfl) rfl (fun b2 => ?_)
  refine OW_nil ?_
  refine EW_then ?_
  refine CW_seq ?_
  refine CW_region ?_
  refine OW_q (q_fieldAddr Try.underlying24 rfl rfl Try.sizeOf3 rfl rfl) rfl ?_
  first | (refine OW_q (q_load1_own Try.isAgg3 rfl rfl (by (repeat (first | exact .head | apply Swap.tail))) (by rfl)) rfl ?_) | (refine OW_q (q_load1_ro Try.isAgg3 rfl (by first | assumption | exact Row.at_ (by assumption) rfl)) rfl ?_)
  refine OW_e (e_makeB Try.underlying36 Try.typeInfo4 rfl rfl (by decide) rfl rfl (by omega) (by omega)) rfl (fun b18 => ?_)
  refine OW_q (q_build (ps := #[(0, .slice (some ⟨b18, 0, none⟩) g.names.toNat g.names.toNat)]) (v := .agg #[.slice (some ⟨b18, 0, none⟩) g.names.toNat g.names.toNat, .slice none 0 0, .slice none 0 0]) rfl (fun w => by kernel_rfl)) rfl ?_
  refine OW_e (e_alloc Try.zeroValue53 rfl) rfl (fun b3 => ?_)
  refine OW_e0 (e_storeN Try.sizeOf53 rfl rfl rfl rfl (by simp [Value.oneCell']) (by (repeat (first | exact .head | apply Swap.tail))) (by rfl)) (fun _ => ?_)
  refine OW_nil ?_
  refine EW_then ?_
  refine CW_seq ?_
  refine CW_seq ?_
  refine CW_region ?_
  refine OW_q (q_assign rfl) rfl ?_
  refine OW_nil ?_
  refine EW_then ?_
  refine CW_block ?_
  refine CW_loopP (ι := Nat × List Nat × List Nat × Value × Value) (fun i_ => i_.1 ≤ g.names.toNat ∧ i_.2.1.length = i_.1 ∧ i_.2.2.1.length = i_.1) (fun i_ => [(1, .pointer (some ⟨b1, 0, none⟩)), (2, .pointer (some ⟨b2, 0, none⟩)), (3, .pointer (some ⟨b3, 0, none⟩)), (4, .int .i64 (i_.1 : Int))]) (fun i_ => Sat (Old w) w [tabA 4 i_.2.2.1 (List.replicate i_.1 (List.replicate (g.terms + 1).toNat false)), trow 36 1 (encR g.terms.toNat) i_.2.2.2.1 i_.2.1, tabA 4 i_.2.1 (List.replicate i_.1 (List.replicate g.terms.toNat false)), trow 36 1 (encR (g.terms + 1).toNat) i_.2.2.2.2 i_.2.2.1, bools b18 4 (List.replicate g.names.toNat false), cel b3 53 [.slice (some ⟨b18, 0, none⟩) g.names.toNat g.names.toNat, i_.2.2.2.1, i_.2.2.2.2], cel b2 53 [.slice none 0 0, .slice none 0 0, .slice none 0 0], cel b1 24 [.int .i64 g.terms, .int .i64 g.names, .slice a g.rules.length c]]) (fun i_ => g.names.toNat - i_.1) (0, [], [], .slice none 0 0, .slice none 0 0) ?_ ⟨rfl, rfl, rfl, rfl, trivial⟩ (fun w hw => (((((hw.tabNil 4).tnil 36 1 (encR g.terms.toNat)).tabNil 4).tnil 36 1 (encR (g.terms + 1).toNat)).sub (by repeat (first | exact SubL.nil | exact Pick.head | apply Pick.tail | apply SubL.cons)))) ?_
  · exact ⟨Nat.zero_le _, rfl, rfl⟩
  intro i_ hpre
  obtain ⟨k, blf, blo, vf, vo⟩ := i_
  replace hpre : k ≤ g.names.toNat ∧ blf.length = k ∧ blo.length = k := hpre
  change CW _ _ _ _ [(1, .pointer (some ⟨b1, 0, none⟩)), (2, .pointer (some ⟨b2, 0, none⟩)), (3, .pointer (some ⟨b3, 0, none⟩)), (4, .int .i64 (k : Int))] (Sat (Old w) w [tabA 4 blo (List.replicate k (List.replicate (g.terms + 1).toNat false)), trow 36 1 (encR g.terms.toNat) vf blf, tabA 4 blf (List.replicate k (List.replicate g.terms.toNat false)), trow 36 1 (encR (g.terms + 1).toNat) vo blo, bools b18 4 (List.replicate g.names.toNat false), cel b3 53 [.slice (some ⟨b18, 0, none⟩) g.names.toNat g.names.toNat, vf, vo], cel b2 53 [.slice none 0 0, .slice none 0 0, .slice none 0 0], cel b1 24 [.int .i64 g.terms, .int .i64 g.names, .slice a g.rules.length c]])
  obtain ⟨hk, hlf, hlo⟩ := hpre
  refine CW_seq ?_
  refine CW_seq ?_
  refine CW_region ?_
  refine OW_q (q_move rfl) rfl ?_
  refine OW_q (q_fieldAddr Try.underlying24 rfl rfl Try.sizeOf3 rfl rfl) rfl ?_
  first | (refine OW_q (q_load1_own Try.isAgg3 rfl rfl (by (repeat (first | exact .head | apply Swap.tail))) (by rfl)) rfl ?_) | (refine OW_q (q_load1_ro Try.isAgg3 rfl (by first | assumption | exact Row.at_ (by assumption) rfl)) rfl ?_)
  refine OW_q (q_lss rfl rfl) rfl ?_
  refine OW_nil ?_
  refine EW_then ?_
  refine CW_cond rfl (fun h23 => ?_) (fun h23 => ?_)
  · skip
    have hlt : k < g.names.toNat := by have := of_decide_eq_true h23; omega
    refine CW_skip ?_
    refine EW_then ?_
    refine CW_seq ?_
    refine CW_block ?_
    refine CW_seq ?_
    refine CW_draw (Sat (Old w) w [cel b3 53 [.slice (some ⟨b18, 0, none⟩) g.names.toNat g.names.toNat, vf, vo], cel b1 24 [.int .i64 g.terms, .int .i64 g.names, .slice a g.rules.length c]]) 8 [(0, false), (1, false), (2, false), (3, false), (4, true), (5, true), (6, true), (7, false), (8, true)] (by kernel_rfl) (Blind.then (Blind.block (Blind.then (Blind.again (Blind.block (Blind.then (Blind.body (by intro c w h; simp at h)))))))) (by kernel_rfl) (fun w hw => hw.drew) ?_
    refine DW_q rfl (fun w hw => hw.sub (by (repeat (first | exact SubL.nil | exact Pick.head | apply Pick.tail | apply SubL.cons)))) (q_fieldAddr Try.underlying53 rfl rfl Try.sizeOf51 rfl rfl) rfl ?_
    first | (refine DW_q rfl (fun w hw => hw.sub (by (repeat (first | exact SubL.nil | exact Pick.head | apply Pick.tail | apply SubL.cons)))) (q_load1_own Try.isAgg51 rfl rfl (by (repeat (first | exact .head | apply Swap.tail))) (by rfl)) rfl ?_) | (refine DW_q rfl (fun w hw => hw.sub (by (repeat (first | exact SubL.nil | exact Pick.head | apply Pick.tail | apply SubL.cons)))) (q_load1_ro Try.isAgg51 rfl (by first | assumption | exact Row.at_ (by assumption) rfl)) rfl ?_)
    refine DW_q rfl (fun w hw => hw.sub (by (repeat (first | exact SubL.nil | exact Pick.head | apply Pick.tail | apply SubL.cons)))) (q_fieldAddr Try.underlying24 rfl rfl Try.sizeOf3 rfl rfl) rfl ?_
    first | (refine DW_q rfl (fun w hw => hw.sub (by (repeat (first | exact SubL.nil | exact Pick.head | apply Pick.tail | apply SubL.cons)))) (q_load1_own Try.isAgg3 rfl rfl (by (repeat (first | exact .head | apply Swap.tail))) (by rfl)) rfl ?_) | (refine DW_q rfl (fun w hw => hw.sub (by (repeat (first | exact SubL.nil | exact Pick.head | apply Pick.tail | apply SubL.cons)))) (q_load1_ro Try.isAgg3 rfl (by first | assumption | exact Row.at_ (by assumption) rfl)) rfl ?_)
    refine DW_e rfl (e_makeB Try.underlying36 Try.typeInfo4 rfl rfl (by decide) rfl rfl (by omega) (by omega)) rfl (fun _ w hw => hw.sub (by (repeat (first | exact SubL.nil | exact Pick.head | apply Pick.tail | apply SubL.cons)))) (fun b30 => ?_)
    refine DW_e rfl (e_single Try.underlying51 Try.sizeOf36 Try.zeroValue36 (e := 36) (v := .slice (some ⟨b30, 0, none⟩) g.terms.toNat g.terms.toNat) (cs := [.slice (some ⟨b30, 0, none⟩) g.terms.toNat g.terms.toNat]) rfl rfl rfl rfl (by decide) (by decide)) rfl (fun _ w hw => hw.sub (by repeat (first | exact SubL.nil | exact Pick.head | apply Pick.tail | apply SubL.cons))) (fun b31 => ?_)
    refine DW_e rfl (e_append_t (x0 := b30) (enc := encR g.terms.toNat) Try.underlying51 Try.typeInfo36 rfl rfl rfl rfl rfl rfl rfl (by repeat (first | exact .head | apply Pick.tail)) rfl (by exact fun w hw => hw.news (by repeat (first | exact .head | apply Swap.tail))) (by simp [Value.oneCell']) (by omega) (by decide)) rfl (fun _ w hw => hw.sub (by repeat (first | exact SubL.nil | exact Pick.head | apply Pick.tail | apply SubL.cons))) (fun v32 => ?_)
    refine DW_q rfl (fun w hw => hw.sub (by (repeat (first | exact SubL.nil | exact Pick.head | apply Pick.tail | apply SubL.cons)))) (q_fieldAddr Try.underlying53 rfl rfl Try.sizeOf51 rfl rfl) rfl ?_
    refine DW_fact (fun w hw => hw.tform (v := v32) (by repeat (first | exact .head | apply Swap.tail))) (fun hf => ?_)
    obtain ⟨_, _, hv32, _⟩ := hf
    refine DW_z0 rfl (e_store Try.sizeOf51 rfl rfl rfl (by show Value.oneCell' v32 = true; rw [hv32]; rfl) (by repeat (first | exact .head | apply Swap.tail)) rfl) (fun _ => ?_)
    refine EW_then ?_
    refine CW_draw (Sat (Old w) w [cel b3 53 [.slice (some ⟨b18, 0, none⟩) g.names.toNat g.names.toNat, v32, vo], cel b1 24 [.int .i64 g.terms, .int .i64 g.names, .slice a g.rules.length c]]) 9 [(0, false), (1, false), (2, false), (3, false), (4, false), (5, true), (6, true), (7, true), (8, false), (9, true)] (by kernel_rfl) (Blind.block (Blind.then (Blind.again (Blind.block (Blind.then (Blind.body (by intro c w h; simp at h))))))) (by kernel_rfl) (fun w hw => hw.drew) ?_
    refine DW_q rfl (fun w hw => hw.sub (by (repeat (first | exact SubL.nil | exact Pick.head | apply Pick.tail | apply SubL.cons)))) (q_fieldAddr Try.underlying53 rfl rfl Try.sizeOf51 rfl rfl) rfl ?_
    first | (refine DW_q rfl (fun w hw => hw.sub (by (repeat (first | exact SubL.nil | exact Pick.head | apply Pick.tail | apply SubL.cons)))) (q_load1_own Try.isAgg51 rfl rfl (by (repeat (first | exact .head | apply Swap.tail))) (by rfl)) rfl ?_) | (refine DW_q rfl (fun w hw => hw.sub (by (repeat (first | exact SubL.nil | exact Pick.head | apply Pick.tail | apply SubL.cons)))) (q_load1_ro Try.isAgg51 rfl (by first | assumption | exact Row.at_ (by assumption) rfl)) rfl ?_)
    refine DW_q rfl (fun w hw => hw.sub (by (repeat (first | exact SubL.nil | exact Pick.head | apply Pick.tail | apply SubL.cons)))) (q_fieldAddr Try.underlying24 rfl rfl Try.sizeOf3 rfl rfl) rfl ?_
    first | (refine DW_q rfl (fun w hw => hw.sub (by (repeat (first | exact SubL.nil | exact Pick.head | apply Pick.tail | apply SubL.cons)))) (q_load1_own Try.isAgg3 rfl rfl (by (repeat (first | exact .head | apply Swap.tail))) (by rfl)) rfl ?_) | (refine DW_q rfl (fun w hw => hw.sub (by (repeat (first | exact SubL.nil | exact Pick.head | apply Pick.tail | apply SubL.cons)))) (q_load1_ro Try.isAgg3 rfl (by first | assumption | exact Row.at_ (by assumption) rfl)) rfl ?_)
    first | refine DW_q rfl (fun w hw => hw.sub (by (repeat (first | exact SubL.nil | exact Pick.head | apply Pick.tail | apply SubL.cons)))) (q_inc rfl rfl (by omega)) rfl ?_ | refine DW_q rfl (fun w hw => hw.sub (by (repeat (first | exact SubL.nil | exact Pick.head | apply Pick.tail | apply SubL.cons)))) (q_add rfl rfl (by omega) (by omega)) rfl ?_
    refine DW_e rfl (e_makeB Try.underlying36 Try.typeInfo4 rfl rfl (by decide) rfl rfl (by omega) (by omega)) rfl (fun _ w hw => hw.sub (by (repeat (first | exact SubL.nil | exact Pick.head | apply Pick.tail | apply SubL.cons)))) (fun b39 => ?_)
    refine DW_e rfl (e_single Try.underlying51 Try.sizeOf36 Try.zeroValue36 (e := 36) (v := .slice (some ⟨b39, 0, none⟩) (g.terms + 1).toNat (g.terms + 1).toNat) (cs := [.slice (some ⟨b39, 0, none⟩) (g.terms + 1).toNat (g.terms + 1).toNat]) rfl rfl rfl rfl (by decide) (by decide)) rfl (fun _ w hw => hw.sub (by repeat (first | exact SubL.nil | exact Pick.head | apply Pick.tail | apply SubL.cons))) (fun b40 => ?_)
    refine DW_e rfl (e_append_t (x0 := b39) (enc := encR (g.terms + 1).toNat) Try.underlying51 Try.typeInfo36 rfl rfl rfl rfl rfl rfl rfl (by repeat (first | exact .head | apply Pick.tail)) rfl (by exact fun w hw => hw.news (by repeat (first | exact .head | apply Swap.tail))) (by simp [Value.oneCell']) (by omega) (by decide)) rfl (fun _ w hw => hw.sub (by repeat (first | exact SubL.nil | exact Pick.head | apply Pick.tail | apply SubL.cons))) (fun v41 => ?_)
    refine DW_q rfl (fun w hw => hw.sub (by (repeat (first | exact SubL.nil | exact Pick.head | apply Pick.tail | apply SubL.cons)))) (q_fieldAddr Try.underlying53 rfl rfl Try.sizeOf51 rfl rfl) rfl ?_
    refine DW_fact (fun w hw => hw.tform (v := v41) (by repeat (first | exact .head | apply Swap.tail))) (fun hf => ?_)
    obtain ⟨_, _, hv41, _⟩ := hf
    refine DW_z0 rfl (e_store Try.sizeOf51 rfl rfl rfl (by show Value.oneCell' v41 = true; rw [hv41]; rfl) (by repeat (first | exact .head | apply Swap.tail)) rfl) (fun _ => ?_)
    refine EW_block_normal ?_
    refine EW_then ?_
    refine CW_region ?_
    refine OW_q (q_move rfl) rfl ?_
    first | refine OW_q (q_inc rfl rfl (by omega)) rfl ?_ | refine OW_q (q_add rfl rfl (by omega) (by omega)) rfl ?_
    refine OW_q (q_assign rfl) rfl ?_
    refine OW_nil ?_
    refine EW_again ((k + 1, blf ++ [b30], blo ++ [b39], v32, v41)) ⟨?_, ?_⟩ ⟨rfl, rfl, rfl, rfl, trivial⟩ (fun w hw => by
        have h1 := (hw.sub (L' := [tabA 4 blf (List.replicate k (List.replicate g.terms.toNat false)), bools b30 4 (List.replicate g.terms.toNat false), tabA 4 blo (List.replicate k (List.replicate (g.terms + 1).toNat false)), bools b39 4 (List.replicate (g.terms + 1).toNat false), trow 36 1 (encR g.terms.toNat) v32 (blf ++ [b30]), trow 36 1 (encR (g.terms + 1).toNat) v41 (blo ++ [b39]), bools b18 4 (List.replicate g.names.toNat false), cel b3 53 [.slice (some ⟨b18, 0, none⟩) g.names.toNat g.names.toNat, v32, v41], cel b2 53 [.slice none 0 0, .slice none 0 0, .slice none 0 0], cel b1 24 [.int .i64 g.terms, .int .i64 g.names, .slice a g.rules.length c]]) (by repeat (first | exact SubL.nil | exact Pick.head | apply Pick.tail | apply SubL.cons))).tabAdd (by rw [hlf, List.length_replicate])
        have h2 := (h1.sub (L' := [tabA 4 blo (List.replicate k (List.replicate (g.terms + 1).toNat false)), bools b39 4 (List.replicate (g.terms + 1).toNat false), tabA 4 (blf ++ [b30]) (List.replicate k (List.replicate g.terms.toNat false) ++ [List.replicate g.terms.toNat false]), trow 36 1 (encR g.terms.toNat) v32 (blf ++ [b30]), trow 36 1 (encR (g.terms + 1).toNat) v41 (blo ++ [b39]), bools b18 4 (List.replicate g.names.toNat false), cel b3 53 [.slice (some ⟨b18, 0, none⟩) g.names.toNat g.names.toNat, v32, v41], cel b2 53 [.slice none 0 0, .slice none 0 0, .slice none 0 0], cel b1 24 [.int .i64 g.terms, .int .i64 g.names, .slice a g.rules.length c]]) (by repeat (first | exact SubL.nil | exact Pick.head | apply Pick.tail | apply SubL.cons))).tabAdd (by rw [hlo, List.length_replicate])
        rw [← List.replicate_succ', ← List.replicate_succ'] at h2
        exact h2.sub (by repeat (first | exact SubL.nil | exact Pick.head | apply Pick.tail | apply SubL.cons)))
    · show g.names.toNat - (k + 1) < g.names.toNat - k; omega
    · exact ⟨hlt, by show (blf ++ [b30]).length = k + 1; rw [List.length_append, hlf]; rfl, by show (blo ++ [b39]).length = k + 1; rw [List.length_append, hlo]; rfl⟩
  · skip
    obtain rfl : k = g.names.toNat := by have := of_decide_eq_false h23; omega
    refine CW_fact (fun w hw => hw.tform (v := vf) (by repeat (first | exact .head | apply Swap.tail))) (fun hf => ?_)
    rw [hlf] at hf
    obtain ⟨af, cf, rfl, hf1, hf2, hf3⟩ := hf
    obtain ⟨bf, rfl⟩ := hf3 (by omega)
    refine CW_fact (fun w hw => hw.tform (v := vo) (by repeat (first | exact .head | apply Swap.tail))) (fun hf => ?_)
    rw [hlo] at hf
    obtain ⟨ao, co, rfl, hg1, hg2, hg3⟩ := hf
    obtain ⟨bo, rfl⟩ := hg3 (by omega)
    obtain ⟨bl0, hbl0⟩ := get_of_lt (l := blo) (k := 0) (by omega)
    have hd0 := dim_new g.names.toNat (g.terms + 1).toNat
    have hr0 := hd0.row (n := 0) (by omega) (by omega)
    have hrow0 := row2_get (tab := List.replicate g.names.toNat (List.replicate (g.terms + 1).toNat false)) (n := 0) (by omega) (by rw [List.length_replicate]; omega)
    have ho0 : OS g (put2 (List.replicate g.names.toNat (List.replicate (g.terms + 1).toNat false)) 0 g.terms) := fun n t hn ht hb => by
      rw [at2_put (by omega) (by rw [List.length_replicate]; omega) hM.1 (by omega) hn ht, at2_new] at hb
      simp only [Bool.false_or, Bool.and_eq_true, decide_eq_true_eq] at hb
      rw [hb.1, hb.2]; exact .top
    have ho1 : at2 (put2 (List.replicate g.names.toNat (List.replicate (g.terms + 1).toNat false)) 0 g.terms) 0 g.terms = true := by
      rw [at2_put (by omega) (by rw [List.length_replicate]; omega) hM.1 (by omega) (by omega) hM.1]
      simp
    refine CW_exit ?_
    refine EW_then_exit ?_
    refine EW_out ?_
    refine EW_block_exit ?_
    refine EW_then ?_
    refine CW_seq ?_
    refine CW_seq ?_
    refine CW_region ?_
    refine OW_q (q_assign rfl) rfl ?_
    refine OW_nil ?_
    refine EW_then ?_
    refine CW_block ?_
    refine CW_loopP (ι := Nat × List Bool) (fun i_ => i_.1 ≤ g.names.toNat + 1 ∧ i_.2.length = g.names.toNat ∧ NS g i_.2 ∧ (ClosedK (KN g) i_.2 ∨ fls i_.2 + i_.1 ≤ g.names.toNat)) (fun i_ => [(1, .pointer (some ⟨b1, 0, none⟩)), (2, .pointer (some ⟨b2, 0, none⟩)), (3, .pointer (some ⟨b3, 0, none⟩)), (5, .int .i64 (i_.1 : Int))]) (fun i_ => Sat (Old w) w [tabA 4 blf (List.replicate g.names.toNat (List.replicate g.terms.toNat false)), tabA 4 blo (List.replicate g.names.toNat (List.replicate (g.terms + 1).toNat false)), trow 36 1 (encR g.terms.toNat) (.slice (some ⟨bf, 0, none⟩) g.names.toNat cf) blf, trow 36 1 (encR (g.terms + 1).toNat) (.slice (some ⟨bo, 0, none⟩) g.names.toNat co) blo, bools b18 4 i_.2, cel b3 53 [.slice (some ⟨b18, 0, none⟩) g.names.toNat g.names.toNat, (.slice (some ⟨bf, 0, none⟩) g.names.toNat cf), (.slice (some ⟨bo, 0, none⟩) g.names.toNat co)], cel b2 53 [.slice none 0 0, .slice none 0 0, .slice none 0 0], cel b1 24 [.int .i64 g.terms, .int .i64 g.names, .slice a g.rules.length c]]) (fun i_ => g.names.toNat + 1 - i_.1) (0, List.replicate g.names.toNat false) ?_ ⟨rfl, rfl, rfl, rfl, trivial⟩ (fun w hw => hw.sub (by (repeat (first | exact SubL.nil | exact Pick.head | apply Pick.tail | apply SubL.cons)))) ?_
    · exact ⟨Nat.zero_le _, List.length_replicate, (fun m _ h => by rw [atB_new] at h; cases h), .inr (by have := fls_le (List.replicate g.names.toNat false); rw [List.length_replicate] at this; exact this)⟩
    intro i_ hpre
    obtain ⟨j, n⟩ := i_
    replace hpre : j ≤ g.names.toNat + 1 ∧ n.length = g.names.toNat ∧ NS g n ∧ (ClosedK (KN g) n ∨ fls n + j ≤ g.names.toNat) := hpre
    change CW _ _ _ _ [(1, .pointer (some ⟨b1, 0, none⟩)), (2, .pointer (some ⟨b2, 0, none⟩)), (3, .pointer (some ⟨b3, 0, none⟩)), (5, .int .i64 (j : Int))] (Sat (Old w) w [tabA 4 blf (List.replicate g.names.toNat (List.replicate g.terms.toNat false)), tabA 4 blo (List.replicate g.names.toNat (List.replicate (g.terms + 1).toNat false)), trow 36 1 (encR g.terms.toNat) (.slice (some ⟨bf, 0, none⟩) g.names.toNat cf) blf, trow 36 1 (encR (g.terms + 1).toNat) (.slice (some ⟨bo, 0, none⟩) g.names.toNat co) blo, bools b18 4 n, cel b3 53 [.slice (some ⟨b18, 0, none⟩) g.names.toNat g.names.toNat, (.slice (some ⟨bf, 0, none⟩) g.names.toNat cf), (.slice (some ⟨bo, 0, none⟩) g.names.toNat co)], cel b2 53 [.slice none 0 0, .slice none 0 0, .slice none 0 0], cel b1 24 [.int .i64 g.terms, .int .i64 g.names, .slice a g.rules.length c]])
    obtain ⟨hj, hln, hns, hcl⟩ := hpre
    refine CW_seq ?_
    refine CW_seq ?_
    refine CW_region ?_
    refine OW_q (q_move rfl) rfl ?_
    refine OW_q (q_fieldAddr Try.underlying24 rfl rfl Try.sizeOf3 rfl rfl) rfl ?_
    first | (refine OW_q (q_load1_own Try.isAgg3 rfl rfl (by (repeat (first | exact .head | apply Swap.tail))) (by rfl)) rfl ?_) | (refine OW_q (q_load1_ro Try.isAgg3 rfl (by first | assumption | exact Row.at_ (by assumption) rfl)) rfl ?_)
    refine OW_q (q_leq rfl rfl) rfl ?_
    refine OW_nil ?_
    refine EW_then ?_
    refine CW_cond rfl (fun h46 => ?_) (fun h46 => ?_)
    · skip
      have hjle : j ≤ g.names.toNat := by have := of_decide_eq_true h46; omega
      refine CW_skip ?_
      refine EW_then ?_
      refine CW_seq ?_
      refine CW_block ?_
      refine CW_seq ?_
      refine CW_region ?_
      refine OW_q (q_assign rfl) rfl ?_
      refine OW_nil ?_
      refine EW_then ?_
      refine CW_block ?_
      refine CW_loopP (ι := Nat × List Bool) (fun i_ => i_.1 ≤ g.rules.length ∧ NS g i_.2 ∧ RI (KN g) ((KN g).take i_.1) n i_.2) (fun i_ => [(1, .pointer (some ⟨b1, 0, none⟩)), (2, .pointer (some ⟨b2, 0, none⟩)), (3, .pointer (some ⟨b3, 0, none⟩)), (5, .int .i64 (j : Int)), (6, .int .i64 (i_.1 : Int))]) (fun i_ => Sat (Old w) w [tabA 4 blf (List.replicate g.names.toNat (List.replicate g.terms.toNat false)), tabA 4 blo (List.replicate g.names.toNat (List.replicate (g.terms + 1).toNat false)), trow 36 1 (encR g.terms.toNat) (.slice (some ⟨bf, 0, none⟩) g.names.toNat cf) blf, trow 36 1 (encR (g.terms + 1).toNat) (.slice (some ⟨bo, 0, none⟩) g.names.toNat co) blo, bools b18 4 i_.2, cel b3 53 [.slice (some ⟨b18, 0, none⟩) g.names.toNat g.names.toNat, (.slice (some ⟨bf, 0, none⟩) g.names.toNat cf), (.slice (some ⟨bo, 0, none⟩) g.names.toNat co)], cel b2 53 [.slice none 0 0, .slice none 0 0, .slice none 0 0], cel b1 24 [.int .i64 g.terms, .int .i64 g.names, .slice a g.rules.length c]]) (fun i_ => g.rules.length - i_.1) (0, n) ?_ ⟨rfl, rfl, rfl, rfl, rfl, trivial⟩ (fun w hw => hw.sub (by (repeat (first | exact SubL.nil | exact Pick.head | apply Pick.tail | apply SubL.cons)))) ?_
      · exact ⟨Nat.zero_le _, hns, RI.start _ _⟩
      intro i_ hpre
      obtain ⟨i, n1⟩ := i_
      replace hpre : i ≤ g.rules.length ∧ NS g n1 ∧ RI (KN g) ((KN g).take i) n n1 := hpre
      change CW _ _ _ _ [(1, .pointer (some ⟨b1, 0, none⟩)), (2, .pointer (some ⟨b2, 0, none⟩)), (3, .pointer (some ⟨b3, 0, none⟩)), (5, .int .i64 (j : Int)), (6, .int .i64 (i : Int))] (Sat (Old w) w [tabA 4 blf (List.replicate g.names.toNat (List.replicate g.terms.toNat false)), tabA 4 blo (List.replicate g.names.toNat (List.replicate (g.terms + 1).toNat false)), trow 36 1 (encR g.terms.toNat) (.slice (some ⟨bf, 0, none⟩) g.names.toNat cf) blf, trow 36 1 (encR (g.terms + 1).toNat) (.slice (some ⟨bo, 0, none⟩) g.names.toNat co) blo, bools b18 4 n1, cel b3 53 [.slice (some ⟨b18, 0, none⟩) g.names.toNat g.names.toNat, (.slice (some ⟨bf, 0, none⟩) g.names.toNat cf), (.slice (some ⟨bo, 0, none⟩) g.names.toNat co)], cel b2 53 [.slice none 0 0, .slice none 0 0, .slice none 0 0], cel b1 24 [.int .i64 g.terms, .int .i64 g.names, .slice a g.rules.length c]])
      obtain ⟨hi, hns1, hri⟩ := hpre
      have hln1 : n1.length = g.names.toNat := hri.len.trans hln
      refine CW_seq ?_
      refine CW_seq ?_
      refine CW_region ?_
      refine OW_q (q_move rfl) rfl ?_
      refine OW_q (q_fieldAddr Try.underlying24 rfl rfl Try.sizeOf22 rfl rfl) rfl ?_
      first | (refine OW_q (q_load1_own Try.isAgg22 rfl rfl (by (repeat (first | exact .head | apply Swap.tail))) (by rfl)) rfl ?_) | (refine OW_q (q_load1_ro Try.isAgg22 rfl (by first | assumption | exact Row.at_ (by assumption) rfl)) rfl ?_)
      refine OW_q (q_len Try.underlying22 rfl) rfl ?_
      refine OW_q (q_lss rfl rfl) rfl ?_
      refine OW_nil ?_
      refine EW_then ?_
      refine CW_cond rfl (fun h53 => ?_) (fun h53 => ?_)
      · skip
        have hlti : i < g.rules.length := by have := of_decide_eq_true h53; omega
        obtain ⟨r, hx⟩ := get_of_lt hlti
        have hmem := List.mem_of_getElem? hx
        obtain ⟨p, rfl, rv2, hsy, hrow⟩ := hrs i r hx
        have hr1 := hall r hmem
        have hlN : r.left < (g.names.toNat : Int) := by omega
        have hpos : Pos r.right := fun s hs ht => (hr1.2.2 s hs ht).1
        obtain ⟨a2, c2, hrv2, _⟩ := id hsy
        subst hrv2
        refine CW_skip ?_
        refine EW_then ?_
        refine CW_seq ?_
        refine CW_block ?_
        refine CW_seq ?_
        refine CW_drawS 7 [(0, false), (1, false), (2, false), (3, false), (4, false), (5, false), (6, false), (7, true)] (by kernel_rfl) (Blind.then (Blind.block (Blind.then (Blind.again (Blind.block (Blind.block (Blind.then (Blind.again (Blind.block (Blind.then (Blind.body (by intro c w h; simp at h)))))))))))) (by kernel_rfl) (fun w hw => hw.drew) ?_
        first | (refine DW_q rfl (fun w hw => hw.sub (by (repeat (first | exact SubL.nil | exact Pick.head | apply Pick.tail | apply SubL.cons)))) (q_loadN_own Try.isAgg53 Try.sizeOf53 rfl rfl (by (repeat (first | exact .head | apply Swap.tail))) (by rfl)) rfl ?_) | (refine DW_q rfl (fun w hw => hw.sub (by (repeat (first | exact SubL.nil | exact Pick.head | apply Pick.tail | apply SubL.cons)))) (q_loadN_ro Try.isAgg53 Try.sizeOf53 rfl (by first | assumption | exact Row.at_ (by assumption) rfl) (by rfl)) rfl ?_)
        refine DW_q rfl (fun w hw => hw.sub (by (repeat (first | exact SubL.nil | exact Pick.head | apply Pick.tail | apply SubL.cons)))) (q_fieldAddr Try.underlying24 rfl rfl Try.sizeOf22 rfl rfl) rfl ?_
        first | (refine DW_q rfl (fun w hw => hw.sub (by (repeat (first | exact SubL.nil | exact Pick.head | apply Pick.tail | apply SubL.cons)))) (q_load1_own Try.isAgg22 rfl rfl (by (repeat (first | exact .head | apply Swap.tail))) (by rfl)) rfl ?_) | (refine DW_q rfl (fun w hw => hw.sub (by (repeat (first | exact SubL.nil | exact Pick.head | apply Pick.tail | apply SubL.cons)))) (q_load1_ro Try.isAgg22 rfl (by first | assumption | exact Row.at_ (by assumption) rfl)) rfl ?_)
        refine DW_q rfl (fun w hw => hw.sub (by (repeat (first | exact SubL.nil | exact Pick.head | apply Pick.tail | apply SubL.cons)))) (q_move rfl) rfl ?_
        refine DW_q rfl (fun w hw => hw.sub (by (repeat (first | exact SubL.nil | exact Pick.head | apply Pick.tail | apply SubL.cons)))) (q_indexAddr Try.underlying22 Try.sizeOf41 rfl rfl (by first | omega | assumption)) rfl ?_
        refine DW_q rfl (fun w hw => hw.sub (by (repeat (first | exact SubL.nil | exact Pick.head | apply Pick.tail | apply SubL.cons)))) (q_fieldAddr Try.underlying41 rfl rfl Try.sizeOf39 rfl rfl) rfl ?_
        refine DW_q rfl (fun w hw => hw.sub (by (repeat (first | exact SubL.nil | exact Pick.head | apply Pick.tail | apply SubL.cons)))) (q_load1_ro Try.isAgg39 rfl (by first | assumption | exact Row.at_ (by assumption) rfl)) rfl ?_
        refine DW_z rfl (e_call Try.call53 rfl (fun w hw => lift_ro (null_any _ _ _ _ r.right n1 w (hsy.mono hw.rd_cl) (hw.boolsAt (A' := bools 0 0 []) (by repeat (first | exact .head | apply Swap.tail)) hln1 (Nat.le_refl _) (by omega)) (fun s hs ht => by have := hr1.2.2 s hs ht; omega)) hw)) rfl (fun x63 => ?_)
        refine EW_then ?_
        refine CW_cond rfl (fun h63 => ?_) (fun h63 => ?_)
        · skip
          refine CW_drawS 9 [(0, false), (1, false), (2, false), (3, false), (4, false), (5, false), (6, false), (7, false), (8, false), (9, true)] (by kernel_rfl) (Blind.block (Blind.then (Blind.again (Blind.block (Blind.block (Blind.then (Blind.again (Blind.block (Blind.then (Blind.body (by intro c w h; simp at h))))))))))) (by kernel_rfl) (fun w hw => hw.drew) ?_
          refine DW_q rfl (fun w hw => hw.sub (by (repeat (first | exact SubL.nil | exact Pick.head | apply Pick.tail | apply SubL.cons)))) (q_fieldAddr Try.underlying53 rfl rfl Try.sizeOf36 rfl rfl) rfl ?_
          first | (refine DW_q rfl (fun w hw => hw.sub (by (repeat (first | exact SubL.nil | exact Pick.head | apply Pick.tail | apply SubL.cons)))) (q_load1_own Try.isAgg36 rfl rfl (by (repeat (first | exact .head | apply Swap.tail))) (by rfl)) rfl ?_) | (refine DW_q rfl (fun w hw => hw.sub (by (repeat (first | exact SubL.nil | exact Pick.head | apply Pick.tail | apply SubL.cons)))) (q_load1_ro Try.isAgg36 rfl (by first | assumption | exact Row.at_ (by assumption) rfl)) rfl ?_)
          refine DW_q rfl (fun w hw => hw.sub (by (repeat (first | exact SubL.nil | exact Pick.head | apply Pick.tail | apply SubL.cons)))) (q_fieldAddr Try.underlying24 rfl rfl Try.sizeOf22 rfl rfl) rfl ?_
          first | (refine DW_q rfl (fun w hw => hw.sub (by (repeat (first | exact SubL.nil | exact Pick.head | apply Pick.tail | apply SubL.cons)))) (q_load1_own Try.isAgg22 rfl rfl (by (repeat (first | exact .head | apply Swap.tail))) (by rfl)) rfl ?_) | (refine DW_q rfl (fun w hw => hw.sub (by (repeat (first | exact SubL.nil | exact Pick.head | apply Pick.tail | apply SubL.cons)))) (q_load1_ro Try.isAgg22 rfl (by first | assumption | exact Row.at_ (by assumption) rfl)) rfl ?_)
          refine DW_q rfl (fun w hw => hw.sub (by (repeat (first | exact SubL.nil | exact Pick.head | apply Pick.tail | apply SubL.cons)))) (q_move rfl) rfl ?_
          refine DW_q rfl (fun w hw => hw.sub (by (repeat (first | exact SubL.nil | exact Pick.head | apply Pick.tail | apply SubL.cons)))) (q_indexAddr Try.underlying22 Try.sizeOf41 rfl rfl (by first | omega | assumption)) rfl ?_
          refine DW_q rfl (fun w hw => hw.sub (by (repeat (first | exact SubL.nil | exact Pick.head | apply Pick.tail | apply SubL.cons)))) (q_fieldAddr Try.underlying41 rfl rfl Try.sizeOf3 rfl rfl) rfl ?_
          refine DW_q rfl (fun w hw => hw.sub (by (repeat (first | exact SubL.nil | exact Pick.head | apply Pick.tail | apply SubL.cons)))) (q_load1_ro Try.isAgg3 rfl (by first | assumption | exact Row.at_ (by assumption) rfl)) rfl ?_
          refine DW_q rfl (fun w hw => hw.sub (by (repeat (first | exact SubL.nil | exact Pick.head | apply Pick.tail | apply SubL.cons)))) (q_indexAddrI Try.underlying36 Try.sizeOf4 rfl rfl (by first | omega | assumption) (by first | omega | assumption)) rfl ?_
          refine DW_z0 rfl (e_store_bools Try.sizeOf4 rfl rfl (by (repeat (first | exact .head | apply Swap.tail))) (by omega)) (fun _ => ?_)
          refine EW_block_normal ?_
          refine EW_then ?_
          refine CW_region ?_
          refine OW_q (q_move rfl) rfl ?_
          first | refine OW_q (q_inc rfl rfl (by omega)) rfl ?_ | refine OW_q (q_add rfl rfl (by omega) (by omega)) rfl ?_
          refine OW_q (q_assign rfl) rfl ?_
          refine OW_nil ?_
          refine EW_again ((i + 1, n1.set r.left.toNat true)) ⟨?_, ?_⟩ ⟨rfl, rfl, rfl, rfl, rfl, trivial⟩ (fun w hw => hw.sub (by (repeat (first | exact SubL.nil | exact Pick.head | apply Pick.tail | apply SubL.cons))))
          · show g.rules.length - (i + 1) < g.rules.length - i; omega
          · have hst := hri.step (k := nullK r) (List.mem_map.2 ⟨r, hmem, rfl⟩) hr1.1 (by show r.left < (n.length : Int); omega)
            have hcc : (nullK r).cond n1 = true := h63
            rw [if_pos hcc, ← KN_take hx] at hst
            exact ⟨by show i + 1 ≤ _; omega, ns_set hns1 hmem (nullB_sound hns1 hpos h63) hr1.1 (by omega), hst⟩
        · skip
          refine CW_skip ?_
          refine EW_block_normal ?_
          refine EW_then ?_
          refine CW_region ?_
          refine OW_q (q_move rfl) rfl ?_
          first | refine OW_q (q_inc rfl rfl (by omega)) rfl ?_ | refine OW_q (q_add rfl rfl (by omega) (by omega)) rfl ?_
          refine OW_q (q_assign rfl) rfl ?_
          refine OW_nil ?_
          refine EW_again ((i + 1, n1)) ⟨?_, ?_⟩ ⟨rfl, rfl, rfl, rfl, rfl, trivial⟩ (fun w hw => hw.sub (by (repeat (first | exact SubL.nil | exact Pick.head | apply Pick.tail | apply SubL.cons))))
          · show g.rules.length - (i + 1) < g.rules.length - i; omega
          · have hst := hri.step (k := nullK r) (List.mem_map.2 ⟨r, hmem, rfl⟩) hr1.1 (by show r.left < (n.length : Int); omega)
            rw [if_neg (c := (nullK r).cond n1 = true) (fun hc => by have hc' : nullB n1 r.right = true := hc; rw [h63] at hc'; cases hc'), ← KN_take hx] at hst
            exact ⟨by show i + 1 ≤ _; omega, hns1, hst⟩
      · skip
        have hie : ¬ i < g.rules.length := by have := of_decide_eq_false h53; omega
        refine CW_exit ?_
        refine EW_then_exit ?_
        refine EW_out ?_
        refine EW_block_exit ?_
        refine EW_block_normal ?_
        refine EW_then ?_
        refine CW_region ?_
        refine OW_q (q_move rfl) rfl ?_
        first | refine OW_q (q_inc rfl rfl (by omega)) rfl ?_ | refine OW_q (q_add rfl rfl (by omega) (by omega)) rfl ?_
        refine OW_q (q_assign rfl) rfl ?_
        refine OW_nil ?_
        refine EW_again ((j + 1, n1)) ⟨?_, ?_⟩ ⟨rfl, rfl, rfl, rfl, trivial⟩ (fun w hw => hw.sub (by (repeat (first | exact SubL.nil | exact Pick.head | apply Pick.tail | apply SubL.cons))))
        · show g.names.toNat + 1 - (j + 1) < g.names.toNat + 1 - j; omega
        · exact ⟨by show j + 1 ≤ _; omega, hri.len.trans hln, hns1, (by rw [List.take_of_length_le (by unfold KN; rw [List.length_map]; omega)] at hri; exact hri.round hcl)⟩
    · skip
      have hKN : ClosedK (KN g) n := by
        rcases hcl with h | h
        · exact h
        · have := of_decide_eq_false h46; omega
      have hnc := nc_of hKN
      have hF0 : FS g (List.replicate g.names.toNat (List.replicate g.terms.toNat false)) := fun m t _ _ h => by rw [at2_new] at h; cases h
      refine CW_exit ?_
      refine EW_then_exit ?_
      refine EW_out ?_
      refine EW_block_exit ?_
      refine EW_then ?_
      refine CW_seq ?_
      refine CW_seq ?_
      refine CW_region ?_
      refine OW_q (q_assign rfl) rfl ?_
      refine OW_nil ?_
      refine EW_then ?_
      refine CW_block ?_
      refine CW_loopP (ι := Nat × List (List Bool)) (fun i_ => i_.1 ≤ g.names.toNat + 1 ∧ Dim i_.2 g.names.toNat g.terms.toNat ∧ FS g i_.2 ∧ (∀ u : Int, 0 ≤ u → u < g.terms → ClosedK (KF g n u) (colL i_.2 u) ∨ fls (colL i_.2 u) + i_.1 ≤ g.names.toNat)) (fun i_ => [(1, .pointer (some ⟨b1, 0, none⟩)), (2, .pointer (some ⟨b2, 0, none⟩)), (3, .pointer (some ⟨b3, 0, none⟩)), (7, .int .i64 (i_.1 : Int))]) (fun i_ => Sat (Old w) w [tabA 4 blf i_.2, tabA 4 blo (List.replicate g.names.toNat (List.replicate (g.terms + 1).toNat false)), trow 36 1 (encR g.terms.toNat) (.slice (some ⟨bf, 0, none⟩) g.names.toNat cf) blf, trow 36 1 (encR (g.terms + 1).toNat) (.slice (some ⟨bo, 0, none⟩) g.names.toNat co) blo, bools b18 4 n, cel b3 53 [.slice (some ⟨b18, 0, none⟩) g.names.toNat g.names.toNat, (.slice (some ⟨bf, 0, none⟩) g.names.toNat cf), (.slice (some ⟨bo, 0, none⟩) g.names.toNat co)], cel b2 53 [.slice none 0 0, .slice none 0 0, .slice none 0 0], cel b1 24 [.int .i64 g.terms, .int .i64 g.names, .slice a g.rules.length c]]) (fun i_ => g.names.toNat + 1 - i_.1) (0, List.replicate g.names.toNat (List.replicate g.terms.toNat false)) ?_ ⟨rfl, rfl, rfl, rfl, trivial⟩ (fun w hw => hw.sub (by (repeat (first | exact SubL.nil | exact Pick.head | apply Pick.tail | apply SubL.cons)))) ?_
      · exact ⟨Nat.zero_le _, dim_new _ _, hF0, fun u _ _ => .inr (by have := fls_le (colL (List.replicate g.names.toNat (List.replicate g.terms.toNat false)) u); rw [colL_len, List.length_replicate] at this; exact this)⟩
      intro i_ hpre
      obtain ⟨jj, f⟩ := i_
      replace hpre : jj ≤ g.names.toNat + 1 ∧ Dim f g.names.toNat g.terms.toNat ∧ FS g f ∧ (∀ u : Int, 0 ≤ u → u < g.terms → ClosedK (KF g n u) (colL f u) ∨ fls (colL f u) + jj ≤ g.names.toNat) := hpre
      change CW _ _ _ _ [(1, .pointer (some ⟨b1, 0, none⟩)), (2, .pointer (some ⟨b2, 0, none⟩)), (3, .pointer (some ⟨b3, 0, none⟩)), (7, .int .i64 (jj : Int))] (Sat (Old w) w [tabA 4 blf f, tabA 4 blo (List.replicate g.names.toNat (List.replicate (g.terms + 1).toNat false)), trow 36 1 (encR g.terms.toNat) (.slice (some ⟨bf, 0, none⟩) g.names.toNat cf) blf, trow 36 1 (encR (g.terms + 1).toNat) (.slice (some ⟨bo, 0, none⟩) g.names.toNat co) blo, bools b18 4 n, cel b3 53 [.slice (some ⟨b18, 0, none⟩) g.names.toNat g.names.toNat, (.slice (some ⟨bf, 0, none⟩) g.names.toNat cf), (.slice (some ⟨bo, 0, none⟩) g.names.toNat co)], cel b2 53 [.slice none 0 0, .slice none 0 0, .slice none 0 0], cel b1 24 [.int .i64 g.terms, .int .i64 g.names, .slice a g.rules.length c]])
      obtain ⟨hjj, hdf, hfs, hclf⟩ := hpre
      refine CW_seq ?_
      refine CW_seq ?_
      refine CW_region ?_
      refine OW_q (q_move rfl) rfl ?_
      refine OW_q (q_fieldAddr Try.underlying24 rfl rfl Try.sizeOf3 rfl rfl) rfl ?_
      first | (refine OW_q (q_load1_own Try.isAgg3 rfl rfl (by (repeat (first | exact .head | apply Swap.tail))) (by rfl)) rfl ?_) | (refine OW_q (q_load1_ro Try.isAgg3 rfl (by first | assumption | exact Row.at_ (by assumption) rfl)) rfl ?_)
      refine OW_q (q_leq rfl rfl) rfl ?_
      refine OW_nil ?_
      refine EW_then ?_
      refine CW_cond rfl (fun h76 => ?_) (fun h76 => ?_)
      · skip
        have hjjle : jj ≤ g.names.toNat := by have := of_decide_eq_true h76; omega
        refine CW_skip ?_
        refine EW_then ?_
        refine CW_seq ?_
        refine CW_block ?_
        refine CW_seq ?_
        refine CW_region ?_
        refine OW_q (q_assign rfl) rfl ?_
        refine OW_nil ?_
        refine EW_then ?_
        refine CW_block ?_
        refine CW_loopP (ι := Nat × List (List Bool)) (fun i_ => i_.1 ≤ g.rules.length ∧ Dim i_.2 g.names.toNat g.terms.toNat ∧ FS g i_.2 ∧ (∀ u : Int, 0 ≤ u → u < g.terms → RI (KF g n u) ((KF g n u).take i_.1) (colL f u) (colL i_.2 u))) (fun i_ => [(1, .pointer (some ⟨b1, 0, none⟩)), (2, .pointer (some ⟨b2, 0, none⟩)), (3, .pointer (some ⟨b3, 0, none⟩)), (7, .int .i64 (jj : Int)), (8, .int .i64 (i_.1 : Int))]) (fun i_ => Sat (Old w) w [tabA 4 blf i_.2, tabA 4 blo (List.replicate g.names.toNat (List.replicate (g.terms + 1).toNat false)), trow 36 1 (encR g.terms.toNat) (.slice (some ⟨bf, 0, none⟩) g.names.toNat cf) blf, trow 36 1 (encR (g.terms + 1).toNat) (.slice (some ⟨bo, 0, none⟩) g.names.toNat co) blo, bools b18 4 n, cel b3 53 [.slice (some ⟨b18, 0, none⟩) g.names.toNat g.names.toNat, (.slice (some ⟨bf, 0, none⟩) g.names.toNat cf), (.slice (some ⟨bo, 0, none⟩) g.names.toNat co)], cel b2 53 [.slice none 0 0, .slice none 0 0, .slice none 0 0], cel b1 24 [.int .i64 g.terms, .int .i64 g.names, .slice a g.rules.length c]]) (fun i_ => g.rules.length - i_.1) (0, f) ?_ ⟨rfl, rfl, rfl, rfl, rfl, trivial⟩ (fun w hw => hw.sub (by (repeat (first | exact SubL.nil | exact Pick.head | apply Pick.tail | apply SubL.cons)))) ?_
        · exact ⟨Nat.zero_le _, hdf, hfs, fun u _ _ => RI.start _ _⟩
        intro i_ hpre
        obtain ⟨ii, f1⟩ := i_
        replace hpre : ii ≤ g.rules.length ∧ Dim f1 g.names.toNat g.terms.toNat ∧ FS g f1 ∧ (∀ u : Int, 0 ≤ u → u < g.terms → RI (KF g n u) ((KF g n u).take ii) (colL f u) (colL f1 u)) := hpre
        change CW _ _ _ _ [(1, .pointer (some ⟨b1, 0, none⟩)), (2, .pointer (some ⟨b2, 0, none⟩)), (3, .pointer (some ⟨b3, 0, none⟩)), (7, .int .i64 (jj : Int)), (8, .int .i64 (ii : Int))] (Sat (Old w) w [tabA 4 blf f1, tabA 4 blo (List.replicate g.names.toNat (List.replicate (g.terms + 1).toNat false)), trow 36 1 (encR g.terms.toNat) (.slice (some ⟨bf, 0, none⟩) g.names.toNat cf) blf, trow 36 1 (encR (g.terms + 1).toNat) (.slice (some ⟨bo, 0, none⟩) g.names.toNat co) blo, bools b18 4 n, cel b3 53 [.slice (some ⟨b18, 0, none⟩) g.names.toNat g.names.toNat, (.slice (some ⟨bf, 0, none⟩) g.names.toNat cf), (.slice (some ⟨bo, 0, none⟩) g.names.toNat co)], cel b2 53 [.slice none 0 0, .slice none 0 0, .slice none 0 0], cel b1 24 [.int .i64 g.terms, .int .i64 g.names, .slice a g.rules.length c]])
        obtain ⟨hii, hdf1, hfs1, hri1⟩ := hpre
        refine CW_seq ?_
        refine CW_seq ?_
        refine CW_region ?_
        refine OW_q (q_move rfl) rfl ?_
        refine OW_q (q_fieldAddr Try.underlying24 rfl rfl Try.sizeOf22 rfl rfl) rfl ?_
        first | (refine OW_q (q_load1_own Try.isAgg22 rfl rfl (by (repeat (first | exact .head | apply Swap.tail))) (by rfl)) rfl ?_) | (refine OW_q (q_load1_ro Try.isAgg22 rfl (by first | assumption | exact Row.at_ (by assumption) rfl)) rfl ?_)
        refine OW_q (q_len Try.underlying22 rfl) rfl ?_
        refine OW_q (q_lss rfl rfl) rfl ?_
        refine OW_nil ?_
        refine EW_then ?_
        refine CW_cond rfl (fun h83 => ?_) (fun h83 => ?_)
        · skip
          have hltii : ii < g.rules.length := by have := of_decide_eq_true h83; omega
          obtain ⟨r, hx⟩ := get_of_lt hltii
          have hmem := List.mem_of_getElem? hx
          obtain ⟨p, rfl, rv2, hsy, hrow⟩ := hrs ii r hx
          have hr1 := hall r hmem
          have hlN : r.left < (g.names.toNat : Int) := by omega
          have hpos : Pos r.right := fun s hs ht => (hr1.2.2 s hs ht).1
          obtain ⟨a2, c2, hrv2, _⟩ := id hsy
          subst hrv2
          refine CW_skip ?_
          refine EW_then ?_
          refine CW_seq ?_
          refine CW_block ?_
          refine CW_seq ?_
          refine CW_region ?_
          refine OW_q (q_assign rfl) rfl ?_
          refine OW_nil ?_
          refine EW_then ?_
          refine CW_block ?_
          refine CW_loopP (ι := Nat × List (List Bool)) (fun i_ => i_.1 ≤ g.terms.toNat ∧ Dim i_.2 g.names.toNat g.terms.toNat ∧ FS g i_.2 ∧ (∀ u : Int, 0 ≤ u → u < g.terms → RI (KF g n u) ((KF g n u).take (if u < (i_.1 : Int) then ii + 1 else ii)) (colL f u) (colL i_.2 u))) (fun i_ => [(1, .pointer (some ⟨b1, 0, none⟩)), (2, .pointer (some ⟨b2, 0, none⟩)), (3, .pointer (some ⟨b3, 0, none⟩)), (7, .int .i64 (jj : Int)), (8, .int .i64 (ii : Int)), (9, .int .i64 (i_.1 : Int))]) (fun i_ => Sat (Old w) w [tabA 4 blf i_.2, tabA 4 blo (List.replicate g.names.toNat (List.replicate (g.terms + 1).toNat false)), trow 36 1 (encR g.terms.toNat) (.slice (some ⟨bf, 0, none⟩) g.names.toNat cf) blf, trow 36 1 (encR (g.terms + 1).toNat) (.slice (some ⟨bo, 0, none⟩) g.names.toNat co) blo, bools b18 4 n, cel b3 53 [.slice (some ⟨b18, 0, none⟩) g.names.toNat g.names.toNat, (.slice (some ⟨bf, 0, none⟩) g.names.toNat cf), (.slice (some ⟨bo, 0, none⟩) g.names.toNat co)], cel b2 53 [.slice none 0 0, .slice none 0 0, .slice none 0 0], cel b1 24 [.int .i64 g.terms, .int .i64 g.names, .slice (some p) g.rules.length c]]) (fun i_ => g.terms.toNat - i_.1) (0, f1) ?_ ⟨rfl, rfl, rfl, rfl, rfl, rfl, trivial⟩ (fun w hw => hw.sub (by (repeat (first | exact SubL.nil | exact Pick.head | apply Pick.tail | apply SubL.cons)))) ?_
          · exact ⟨Nat.zero_le _, hdf1, hfs1, fun u hu0 hu1 => by rw [if_neg (show ¬ u < (((0, f1) : Nat × List (List Bool)).1 : Int) from by show ¬ u < 0; omega)]; exact hri1 u hu0 hu1⟩
          intro i_ hpre
          obtain ⟨tt, f2⟩ := i_
          replace hpre : tt ≤ g.terms.toNat ∧ Dim f2 g.names.toNat g.terms.toNat ∧ FS g f2 ∧ (∀ u : Int, 0 ≤ u → u < g.terms → RI (KF g n u) ((KF g n u).take (if u < (tt : Int) then ii + 1 else ii)) (colL f u) (colL f2 u)) := hpre
          change CW _ _ _ _ [(1, .pointer (some ⟨b1, 0, none⟩)), (2, .pointer (some ⟨b2, 0, none⟩)), (3, .pointer (some ⟨b3, 0, none⟩)), (7, .int .i64 (jj : Int)), (8, .int .i64 (ii : Int)), (9, .int .i64 (tt : Int))] (Sat (Old w) w [tabA 4 blf f2, tabA 4 blo (List.replicate g.names.toNat (List.replicate (g.terms + 1).toNat false)), trow 36 1 (encR g.terms.toNat) (.slice (some ⟨bf, 0, none⟩) g.names.toNat cf) blf, trow 36 1 (encR (g.terms + 1).toNat) (.slice (some ⟨bo, 0, none⟩) g.names.toNat co) blo, bools b18 4 n, cel b3 53 [.slice (some ⟨b18, 0, none⟩) g.names.toNat g.names.toNat, (.slice (some ⟨bf, 0, none⟩) g.names.toNat cf), (.slice (some ⟨bo, 0, none⟩) g.names.toNat co)], cel b2 53 [.slice none 0 0, .slice none 0 0, .slice none 0 0], cel b1 24 [.int .i64 g.terms, .int .i64 g.names, .slice (some p) g.rules.length c]])
          obtain ⟨htt, hdf2, hfs2, hri2⟩ := hpre
          have hf2N := hdf2.1
          refine CW_seq ?_
          refine CW_seq ?_
          refine CW_region ?_
          refine OW_q (q_move rfl) rfl ?_
          refine OW_q (q_fieldAddr Try.underlying24 rfl rfl Try.sizeOf3 rfl rfl) rfl ?_
          first | (refine OW_q (q_load1_own Try.isAgg3 rfl rfl (by (repeat (first | exact .head | apply Swap.tail))) (by rfl)) rfl ?_) | (refine OW_q (q_load1_ro Try.isAgg3 rfl (by first | assumption | exact Row.at_ (by assumption) rfl)) rfl ?_)
          refine OW_q (q_lss rfl rfl) rfl ?_
          refine OW_nil ?_
          refine EW_then ?_
          refine CW_cond rfl (fun h89 => ?_) (fun h89 => ?_)
          · skip
            have hltt : tt < g.terms.toNat := by have := of_decide_eq_true h89; omega
            obtain ⟨bi, hbl⟩ := get_of_lt (l := blf) (k := r.left.toNat) (by omega)
            have hrow2 := row2_get (tab := f2) (n := r.left) hr1.1 (by omega)
            have hrl2 := hdf2.row hr1.1 hlN
            refine CW_skip ?_
            refine EW_then ?_
            refine CW_seq ?_
            refine CW_block ?_
            refine CW_seq ?_
            refine CW_drawS 8 [(0, false), (1, false), (2, false), (3, false), (4, false), (5, false), (6, false), (7, false), (8, true)] (by kernel_rfl) (Blind.then (Blind.block (Blind.then (Blind.again (Blind.block (Blind.block (Blind.then (Blind.again (Blind.block (Blind.block (Blind.then (Blind.again (Blind.block (Blind.then (Blind.body (by intro c w h; simp at h)))))))))))))))) (by kernel_rfl) (fun w hw => hw.drew) ?_
            first | (refine DW_q rfl (fun w hw => hw.sub (by (repeat (first | exact SubL.nil | exact Pick.head | apply Pick.tail | apply SubL.cons)))) (q_loadN_own Try.isAgg53 Try.sizeOf53 rfl rfl (by (repeat (first | exact .head | apply Swap.tail))) (by rfl)) rfl ?_) | (refine DW_q rfl (fun w hw => hw.sub (by (repeat (first | exact SubL.nil | exact Pick.head | apply Pick.tail | apply SubL.cons)))) (q_loadN_ro Try.isAgg53 Try.sizeOf53 rfl (by first | assumption | exact Row.at_ (by assumption) rfl) (by rfl)) rfl ?_)
            refine DW_q rfl (fun w hw => hw.sub (by (repeat (first | exact SubL.nil | exact Pick.head | apply Pick.tail | apply SubL.cons)))) (q_fieldAddr Try.underlying24 rfl rfl Try.sizeOf22 rfl rfl) rfl ?_
            first | (refine DW_q rfl (fun w hw => hw.sub (by (repeat (first | exact SubL.nil | exact Pick.head | apply Pick.tail | apply SubL.cons)))) (q_load1_own Try.isAgg22 rfl rfl (by (repeat (first | exact .head | apply Swap.tail))) (by rfl)) rfl ?_) | (refine DW_q rfl (fun w hw => hw.sub (by (repeat (first | exact SubL.nil | exact Pick.head | apply Pick.tail | apply SubL.cons)))) (q_load1_ro Try.isAgg22 rfl (by first | assumption | exact Row.at_ (by assumption) rfl)) rfl ?_)
            refine DW_q rfl (fun w hw => hw.sub (by (repeat (first | exact SubL.nil | exact Pick.head | apply Pick.tail | apply SubL.cons)))) (q_move rfl) rfl ?_
            refine DW_q rfl (fun w hw => hw.sub (by (repeat (first | exact SubL.nil | exact Pick.head | apply Pick.tail | apply SubL.cons)))) (q_indexAddr Try.underlying22 Try.sizeOf41 rfl rfl (by first | omega | assumption)) rfl ?_
            refine DW_q rfl (fun w hw => hw.sub (by (repeat (first | exact SubL.nil | exact Pick.head | apply Pick.tail | apply SubL.cons)))) (q_fieldAddr Try.underlying41 rfl rfl Try.sizeOf39 rfl rfl) rfl ?_
            refine DW_q rfl (fun w hw => hw.sub (by (repeat (first | exact SubL.nil | exact Pick.head | apply Pick.tail | apply SubL.cons)))) (q_load1_ro Try.isAgg39 rfl (by first | assumption | exact Row.at_ (by assumption) rfl)) rfl ?_
            refine DW_q rfl (fun w hw => hw.sub (by (repeat (first | exact SubL.nil | exact Pick.head | apply Pick.tail | apply SubL.cons)))) (q_move rfl) rfl ?_
            refine DW_z rfl (e_call Try.call54 rfl (fun w hw => lift_ro (begins_any _ _ _ _ r.right n f2 g.terms.toNat (tt : Int) w (hsy.mono hw.rd_cl) (hw.boolsAt (A' := bools 0 0 []) (by repeat (first | exact .head | apply Swap.tail)) hln (Nat.le_refl _) (by omega)) (hw.tabAt (bl := blf) (by repeat (first | exact .head | apply Swap.tail)) (by repeat (first | exact .head | apply Swap.tail)) (by rw [hlf, hdf2.1]) hdf2.2 (by omega)) (fun s hs ht => by have := hr1.2.2 s hs ht; omega) (by rw [hln]; exact hdf2) (Int.natCast_nonneg tt) (by omega)) hw)) rfl (fun x100 => ?_)
            refine EW_then ?_
            refine CW_cond rfl (fun h100 => ?_) (fun h100 => ?_)
            · skip
              refine CW_drawS 12 [(0, false), (1, false), (2, false), (3, false), (4, false), (5, false), (6, false), (7, false), (8, false), (9, false), (10, false), (11, false), (12, true)] (by kernel_rfl) (Blind.block (Blind.then (Blind.again (Blind.block (Blind.block (Blind.then (Blind.again (Blind.block (Blind.block (Blind.then (Blind.again (Blind.block (Blind.then (Blind.body (by intro c w h; simp at h))))))))))))))) (by kernel_rfl) (fun w hw => hw.drew) ?_
              refine DW_q rfl (fun w hw => hw.sub (by (repeat (first | exact SubL.nil | exact Pick.head | apply Pick.tail | apply SubL.cons)))) (q_fieldAddr Try.underlying53 rfl rfl Try.sizeOf51 rfl rfl) rfl ?_
              first | (refine DW_q rfl (fun w hw => hw.sub (by (repeat (first | exact SubL.nil | exact Pick.head | apply Pick.tail | apply SubL.cons)))) (q_load1_own Try.isAgg51 rfl rfl (by (repeat (first | exact .head | apply Swap.tail))) (by rfl)) rfl ?_) | (refine DW_q rfl (fun w hw => hw.sub (by (repeat (first | exact SubL.nil | exact Pick.head | apply Pick.tail | apply SubL.cons)))) (q_load1_ro Try.isAgg51 rfl (by first | assumption | exact Row.at_ (by assumption) rfl)) rfl ?_)
              refine DW_q rfl (fun w hw => hw.sub (by (repeat (first | exact SubL.nil | exact Pick.head | apply Pick.tail | apply SubL.cons)))) (q_fieldAddr Try.underlying24 rfl rfl Try.sizeOf22 rfl rfl) rfl ?_
              first | (refine DW_q rfl (fun w hw => hw.sub (by (repeat (first | exact SubL.nil | exact Pick.head | apply Pick.tail | apply SubL.cons)))) (q_load1_own Try.isAgg22 rfl rfl (by (repeat (first | exact .head | apply Swap.tail))) (by rfl)) rfl ?_) | (refine DW_q rfl (fun w hw => hw.sub (by (repeat (first | exact SubL.nil | exact Pick.head | apply Pick.tail | apply SubL.cons)))) (q_load1_ro Try.isAgg22 rfl (by first | assumption | exact Row.at_ (by assumption) rfl)) rfl ?_)
              refine DW_q rfl (fun w hw => hw.sub (by (repeat (first | exact SubL.nil | exact Pick.head | apply Pick.tail | apply SubL.cons)))) (q_move rfl) rfl ?_
              refine DW_q rfl (fun w hw => hw.sub (by (repeat (first | exact SubL.nil | exact Pick.head | apply Pick.tail | apply SubL.cons)))) (q_indexAddr Try.underlying22 Try.sizeOf41 rfl rfl (by first | omega | assumption)) rfl ?_
              refine DW_q rfl (fun w hw => hw.sub (by (repeat (first | exact SubL.nil | exact Pick.head | apply Pick.tail | apply SubL.cons)))) (q_fieldAddr Try.underlying41 rfl rfl Try.sizeOf3 rfl rfl) rfl ?_
              refine DW_q rfl (fun w hw => hw.sub (by (repeat (first | exact SubL.nil | exact Pick.head | apply Pick.tail | apply SubL.cons)))) (q_load1_ro Try.isAgg3 rfl (by first | assumption | exact Row.at_ (by assumption) rfl)) rfl ?_
              refine DW_q rfl (fun w hw => hw.sub (by (repeat (first | exact SubL.nil | exact Pick.head | apply Pick.tail | apply SubL.cons)))) (q_indexAddrI Try.underlying51 Try.sizeOf36 rfl rfl (by first | omega | assumption) (by first | omega | assumption)) rfl ?_
              refine DW_q rfl (fun w hw => hw.sub (by repeat (first | exact SubL.nil | exact Pick.head | apply Pick.tail | apply SubL.cons))) (q_load_t1 Try.isAgg36 (fun _ => rfl) rfl (by repeat (first | exact .head | apply Swap.tail)) rfl hbl rfl) rfl ?_
              refine DW_q rfl (fun w hw => hw.sub (by (repeat (first | exact SubL.nil | exact Pick.head | apply Pick.tail | apply SubL.cons)))) (q_move rfl) rfl ?_
              refine DW_q rfl (fun w hw => hw.sub (by (repeat (first | exact SubL.nil | exact Pick.head | apply Pick.tail | apply SubL.cons)))) (q_indexAddr Try.underlying36 Try.sizeOf4 rfl rfl (by first | omega | assumption)) rfl ?_
              refine DW_z0 rfl (e_store_bools (l := row2 f2 r.left) Try.sizeOf4 rfl rfl ((Hole.tab hbl hrow2).swap _) (by omega)) (fun _ => ?_)
              refine EW_block_normal ?_
              refine EW_then ?_
              refine CW_region ?_
              refine OW_q (q_move rfl) rfl ?_
              first | refine OW_q (q_inc rfl rfl (by omega)) rfl ?_ | refine OW_q (q_add rfl rfl (by omega) (by omega)) rfl ?_
              refine OW_q (q_assign rfl) rfl ?_
              refine OW_nil ?_
              refine EW_again ((tt + 1, put2 f2 r.left (tt : Int))) ⟨?_, ?_⟩ ⟨rfl, rfl, rfl, rfl, rfl, rfl, trivial⟩ (fun w hw => by rw [tabL_set hbl] at hw; exact Sat.sub (hw : Sat _ _ (tabA 4 blf (put2 f2 r.left (tt : Int)) :: _) _) (by repeat (first | exact SubL.nil | exact Pick.head | apply Pick.tail | apply SubL.cons)))
              · show g.terms.toNat - (tt + 1) < g.terms.toNat - tt; omega
              · exact ⟨by show tt + 1 ≤ _; omega, hdf2.put hr1.1 hlN, fs_put hfs2 (.name hmem (begB_sound hns hfs2 (Int.natCast_nonneg tt) hpos h100)) hr1.1 (by omega) (Int.natCast_nonneg tt) (by omega), (kf_put hx hdf hdf2 hr1.1 hlN hltt (fun s hs ht => by have := hr1.2.2 s hs ht; omega) hri2).1 h100⟩
            · skip
              refine CW_skip ?_
              refine EW_block_normal ?_
              refine EW_then ?_
              refine CW_region ?_
              refine OW_q (q_move rfl) rfl ?_
              first | refine OW_q (q_inc rfl rfl (by omega)) rfl ?_ | refine OW_q (q_add rfl rfl (by omega) (by omega)) rfl ?_
              refine OW_q (q_assign rfl) rfl ?_
              refine OW_nil ?_
              refine EW_again ((tt + 1, f2)) ⟨?_, ?_⟩ ⟨rfl, rfl, rfl, rfl, rfl, rfl, trivial⟩ (fun w hw => hw.sub (by (repeat (first | exact SubL.nil | exact Pick.head | apply Pick.tail | apply SubL.cons))))
              · show g.terms.toNat - (tt + 1) < g.terms.toNat - tt; omega
              · exact ⟨by show tt + 1 ≤ _; omega, hdf2, hfs2, (kf_put hx hdf hdf2 hr1.1 hlN hltt (fun s hs ht => by have := hr1.2.2 s hs ht; omega) hri2).2 h100⟩
          · skip
            have hte : ¬ tt < g.terms.toNat := by have := of_decide_eq_false h89; omega
            refine CW_exit ?_
            refine EW_then_exit ?_
            refine EW_out ?_
            refine EW_block_exit ?_
            refine EW_block_normal ?_
            refine EW_then ?_
            refine CW_region ?_
            refine OW_q (q_move rfl) rfl ?_
            first | refine OW_q (q_inc rfl rfl (by omega)) rfl ?_ | refine OW_q (q_add rfl rfl (by omega) (by omega)) rfl ?_
            refine OW_q (q_assign rfl) rfl ?_
            refine OW_nil ?_
            refine EW_again ((ii + 1, f2)) ⟨?_, ?_⟩ ⟨rfl, rfl, rfl, rfl, rfl, trivial⟩ (fun w hw => hw.sub (by (repeat (first | exact SubL.nil | exact Pick.head | apply Pick.tail | apply SubL.cons))))
            · show g.rules.length - (ii + 1) < g.rules.length - ii; omega
            · exact ⟨by show ii + 1 ≤ _; omega, hdf2, hfs2, fun u hu0 hu1 => by have hq := hri2 u hu0 hu1; rw [if_pos (by omega)] at hq; exact hq⟩
        · skip
          have hiie : ¬ ii < g.rules.length := by have := of_decide_eq_false h83; omega
          refine CW_exit ?_
          refine EW_then_exit ?_
          refine EW_out ?_
          refine EW_block_exit ?_
          refine EW_block_normal ?_
          refine EW_then ?_
          refine CW_region ?_
          refine OW_q (q_move rfl) rfl ?_
          first | refine OW_q (q_inc rfl rfl (by omega)) rfl ?_ | refine OW_q (q_add rfl rfl (by omega) (by omega)) rfl ?_
          refine OW_q (q_assign rfl) rfl ?_
          refine OW_nil ?_
          refine EW_again ((jj + 1, f1)) ⟨?_, ?_⟩ ⟨rfl, rfl, rfl, rfl, trivial⟩ (fun w hw => hw.sub (by (repeat (first | exact SubL.nil | exact Pick.head | apply Pick.tail | apply SubL.cons))))
          · show g.names.toNat + 1 - (jj + 1) < g.names.toNat + 1 - jj; omega
          · exact ⟨by show jj + 1 ≤ _; omega, hdf1, hfs1, fun u hu0 hu1 => by have hq := hri1 u hu0 hu1; rw [List.take_of_length_le (by unfold KF; rw [List.length_map]; omega)] at hq; exact hq.round (hclf u hu0 hu1)⟩
      · skip
        have hclF : ∀ u : Int, 0 ≤ u → u < g.terms → ClosedK (KF g n u) (colL f u) := fun u hu0 hu1 => by
          rcases hclf u hu0 hu1 with h | h
          · exact h
          · have := of_decide_eq_false h76; omega
        have hfN := hdf.1
        have hfc : FC g n f := fc_of (fun r hr => by have := hall r hr; exact ⟨⟨this.1, by omega⟩, fun s hs ht => by have := this.2.2 s hs ht; omega⟩) hclF
        refine CW_exit ?_
        refine EW_then_exit ?_
        refine EW_out ?_
        refine EW_block_exit ?_
        refine EW_then ?_
        refine CW_seq ?_
        refine CW_weak (S' := Sat (Old w) w [tabA 4 blo (List.replicate g.names.toNat (List.replicate (g.terms + 1).toNat false)), tabA 4 blf f, trow 36 1 (encR g.terms.toNat) (.slice (some ⟨bf, 0, none⟩) g.names.toNat cf) blf, trow 36 1 (encR (g.terms + 1).toNat) (.slice (some ⟨bo, 0, none⟩) g.names.toNat co) blo, bools b18 4 n, cel b3 53 [.slice (some ⟨b18, 0, none⟩) g.names.toNat g.names.toNat, (.slice (some ⟨bf, 0, none⟩) g.names.toNat cf), (.slice (some ⟨bo, 0, none⟩) g.names.toNat co)], cel b2 53 [.slice none 0 0, .slice none 0 0, .slice none 0 0], cel b1 24 [.int .i64 g.terms, .int .i64 g.names, .slice a g.rules.length c]]) (fun w hw => hw.sub (by repeat (first | exact SubL.nil | exact Pick.head | apply Pick.tail | apply SubL.cons))) ?_
        refine CW_drawS 7 [(0, false), (1, false), (2, false), (3, false), (4, false), (5, false), (6, false), (7, true)] (by kernel_rfl) (Blind.then (Blind.body (by intro c w h; simp at h))) (by kernel_rfl) (fun w hw => hw.drew) ?_
        refine DW_q rfl (fun w hw => hw.sub (by (repeat (first | exact SubL.nil | exact Pick.head | apply Pick.tail | apply SubL.cons)))) (q_fieldAddr Try.underlying53 rfl rfl Try.sizeOf51 rfl rfl) rfl ?_
        first | (refine DW_q rfl (fun w hw => hw.sub (by (repeat (first | exact SubL.nil | exact Pick.head | apply Pick.tail | apply SubL.cons)))) (q_load1_own Try.isAgg51 rfl rfl (by (repeat (first | exact .head | apply Swap.tail))) (by rfl)) rfl ?_) | (refine DW_q rfl (fun w hw => hw.sub (by (repeat (first | exact SubL.nil | exact Pick.head | apply Pick.tail | apply SubL.cons)))) (q_load1_ro Try.isAgg51 rfl (by first | assumption | exact Row.at_ (by assumption) rfl)) rfl ?_)
        refine DW_q rfl (fun w hw => hw.sub (by (repeat (first | exact SubL.nil | exact Pick.head | apply Pick.tail | apply SubL.cons)))) (q_indexAddrI Try.underlying51 Try.sizeOf36 rfl rfl (by first | omega | assumption) (by first | omega | assumption)) rfl ?_
        refine DW_q rfl (fun w hw => hw.sub (by repeat (first | exact SubL.nil | exact Pick.head | apply Pick.tail | apply SubL.cons))) (q_load_t1 (k := (0 : Int).toNat) Try.isAgg36 (fun _ => rfl) rfl (by repeat (first | exact .head | apply Swap.tail)) rfl hbl0 rfl) rfl ?_
        refine DW_q rfl (fun w hw => hw.sub (by (repeat (first | exact SubL.nil | exact Pick.head | apply Pick.tail | apply SubL.cons)))) (q_fieldAddr Try.underlying24 rfl rfl Try.sizeOf3 rfl rfl) rfl ?_
        first | (refine DW_q rfl (fun w hw => hw.sub (by (repeat (first | exact SubL.nil | exact Pick.head | apply Pick.tail | apply SubL.cons)))) (q_load1_own Try.isAgg3 rfl rfl (by (repeat (first | exact .head | apply Swap.tail))) (by rfl)) rfl ?_) | (refine DW_q rfl (fun w hw => hw.sub (by (repeat (first | exact SubL.nil | exact Pick.head | apply Pick.tail | apply SubL.cons)))) (q_load1_ro Try.isAgg3 rfl (by first | assumption | exact Row.at_ (by assumption) rfl)) rfl ?_)
        refine DW_q rfl (fun w hw => hw.sub (by (repeat (first | exact SubL.nil | exact Pick.head | apply Pick.tail | apply SubL.cons)))) (q_indexAddrI Try.underlying36 Try.sizeOf4 rfl rfl (by first | omega | assumption) (by first | omega | assumption)) rfl ?_
        refine DW_z0 rfl (e_store_bools (l := row2 (List.replicate g.names.toNat (List.replicate (g.terms + 1).toNat false)) 0) Try.sizeOf4 rfl rfl ((Hole.tab hbl0 hrow0).swap _) (by omega)) (fun _ => ?_)
        refine EW_then ?_
        refine CW_seq ?_
        refine CW_seq ?_
        refine CW_weak (fun w hw => by rw [tabL_set (i := 0) hbl0] at hw; exact hw) ?_
        refine CW_weak (fun w hw => (hw : Sat _ _ (tabA 4 blo (put2 (List.replicate g.names.toNat (List.replicate (g.terms + 1).toNat false)) 0 g.terms) :: _) w)) ?_
        refine CW_region ?_
        refine OW_q (q_assign rfl) rfl ?_
        refine OW_nil ?_
        refine EW_then ?_
        refine CW_block ?_
        have hdO : Dim (put2 (List.replicate g.names.toNat (List.replicate (g.terms + 1).toNat false)) 0 g.terms) g.names.toNat (g.terms + 1).toNat := (dim_new _ _).put (by omega) (by omega)
        refine CW_loopP (ι := Nat × List (List Bool)) (fun i_ => i_.1 ≤ g.names.toNat + 1 ∧ Dim i_.2 g.names.toNat (g.terms + 1).toNat ∧ OT2 g i_.2 ∧ (∀ u : Int, 0 ≤ u → u ≤ g.terms → ClosedK (KO g n f u) (colL i_.2 u) ∨ fls (colL i_.2 u) + i_.1 ≤ g.names.toNat)) (fun i_ => [(1, .pointer (some ⟨b1, 0, none⟩)), (2, .pointer (some ⟨b2, 0, none⟩)), (3, .pointer (some ⟨b3, 0, none⟩)), (10, .int .i64 (i_.1 : Int))]) (fun i_ => Sat (Old w) w [tabA 4 blo i_.2, tabA 4 blf f, trow 36 1 (encR g.terms.toNat) (.slice (some ⟨bf, 0, none⟩) g.names.toNat cf) blf, trow 36 1 (encR (g.terms + 1).toNat) (.slice (some ⟨bo, 0, none⟩) g.names.toNat co) blo, bools b18 4 n, cel b3 53 [.slice (some ⟨b18, 0, none⟩) g.names.toNat g.names.toNat, (.slice (some ⟨bf, 0, none⟩) g.names.toNat cf), (.slice (some ⟨bo, 0, none⟩) g.names.toNat co)], cel b2 53 [.slice none 0 0, .slice none 0 0, .slice none 0 0], cel b1 24 [.int .i64 g.terms, .int .i64 g.names, .slice a g.rules.length c]]) (fun i_ => g.names.toNat + 1 - i_.1) (0, (put2 (List.replicate g.names.toNat (List.replicate (g.terms + 1).toNat false)) 0 g.terms)) ?_ ⟨rfl, rfl, rfl, rfl, trivial⟩ (fun w hw => hw.sub (by (repeat (first | exact SubL.nil | exact Pick.head | apply Pick.tail | apply SubL.cons)))) ?_
        · exact ⟨Nat.zero_le _, hdO, ⟨ho0, ho1⟩, fun u _ _ => .inr (by have := fls_le (colL (put2 (List.replicate g.names.toNat (List.replicate (g.terms + 1).toNat false)) 0 g.terms) u); rw [colL_len, hdO.1] at this; exact this)⟩
        intro i_ hpre
        obtain ⟨rr, o0⟩ := i_
        replace hpre : rr ≤ g.names.toNat + 1 ∧ Dim o0 g.names.toNat (g.terms + 1).toNat ∧ OT2 g o0 ∧ (∀ u : Int, 0 ≤ u → u ≤ g.terms → ClosedK (KO g n f u) (colL o0 u) ∨ fls (colL o0 u) + rr ≤ g.names.toNat) := hpre
        change CW _ _ _ _ [(1, .pointer (some ⟨b1, 0, none⟩)), (2, .pointer (some ⟨b2, 0, none⟩)), (3, .pointer (some ⟨b3, 0, none⟩)), (10, .int .i64 (rr : Int))] (Sat (Old w) w [tabA 4 blo o0, tabA 4 blf f, trow 36 1 (encR g.terms.toNat) (.slice (some ⟨bf, 0, none⟩) g.names.toNat cf) blf, trow 36 1 (encR (g.terms + 1).toNat) (.slice (some ⟨bo, 0, none⟩) g.names.toNat co) blo, bools b18 4 n, cel b3 53 [.slice (some ⟨b18, 0, none⟩) g.names.toNat g.names.toNat, (.slice (some ⟨bf, 0, none⟩) g.names.toNat cf), (.slice (some ⟨bo, 0, none⟩) g.names.toNat co)], cel b2 53 [.slice none 0 0, .slice none 0 0, .slice none 0 0], cel b1 24 [.int .i64 g.terms, .int .i64 g.names, .slice a g.rules.length c]])
        obtain ⟨hrr1, hdo0, hoo0, hclo⟩ := hpre
        refine CW_seq ?_
        refine CW_seq ?_
        refine CW_region ?_
        refine OW_q (q_move rfl) rfl ?_
        refine OW_q (q_fieldAddr Try.underlying24 rfl rfl Try.sizeOf3 rfl rfl) rfl ?_
        first | (refine OW_q (q_load1_own Try.isAgg3 rfl rfl (by (repeat (first | exact .head | apply Swap.tail))) (by rfl)) rfl ?_) | (refine OW_q (q_load1_ro Try.isAgg3 rfl (by first | assumption | exact Row.at_ (by assumption) rfl)) rfl ?_)
        refine OW_q (q_leq rfl rfl) rfl ?_
        refine OW_nil ?_
        refine EW_then ?_
        refine CW_cond rfl (fun h123 => ?_) (fun h123 => ?_)
        · skip
          have hrrle : rr ≤ g.names.toNat := by have := of_decide_eq_true h123; omega
          refine CW_skip ?_
          refine EW_then ?_
          refine CW_seq ?_
          refine CW_block ?_
          refine CW_seq ?_
          refine CW_region ?_
          refine OW_q (q_assign rfl) rfl ?_
          refine OW_nil ?_
          refine EW_then ?_
          refine CW_block ?_
          refine CW_loopP (ι := Nat × List (List Bool)) (fun i_ => i_.1 ≤ g.rules.length ∧ Dim i_.2 g.names.toNat (g.terms + 1).toNat ∧ OT2 g i_.2 ∧ (∀ u : Int, 0 ≤ u → u ≤ g.terms → RI (KO g n f u) ((g.rules.take i_.1).flatMap fun q => folKs g n f u q q.right.length) (colL o0 u) (colL i_.2 u))) (fun i_ => [(1, .pointer (some ⟨b1, 0, none⟩)), (2, .pointer (some ⟨b2, 0, none⟩)), (3, .pointer (some ⟨b3, 0, none⟩)), (10, .int .i64 (rr : Int)), (11, .int .i64 (i_.1 : Int))]) (fun i_ => Sat (Old w) w [tabA 4 blo i_.2, tabA 4 blf f, trow 36 1 (encR g.terms.toNat) (.slice (some ⟨bf, 0, none⟩) g.names.toNat cf) blf, trow 36 1 (encR (g.terms + 1).toNat) (.slice (some ⟨bo, 0, none⟩) g.names.toNat co) blo, bools b18 4 n, cel b3 53 [.slice (some ⟨b18, 0, none⟩) g.names.toNat g.names.toNat, (.slice (some ⟨bf, 0, none⟩) g.names.toNat cf), (.slice (some ⟨bo, 0, none⟩) g.names.toNat co)], cel b2 53 [.slice none 0 0, .slice none 0 0, .slice none 0 0], cel b1 24 [.int .i64 g.terms, .int .i64 g.names, .slice a g.rules.length c]]) (fun i_ => g.rules.length - i_.1) (0, o0) ?_ ⟨rfl, rfl, rfl, rfl, rfl, trivial⟩ (fun w hw => hw.sub (by (repeat (first | exact SubL.nil | exact Pick.head | apply Pick.tail | apply SubL.cons)))) ?_
          · exact ⟨Nat.zero_le _, hdo0, hoo0, fun u _ _ => RI.start _ _⟩
          intro i_ hpre
          obtain ⟨qi, o1⟩ := i_
          replace hpre : qi ≤ g.rules.length ∧ Dim o1 g.names.toNat (g.terms + 1).toNat ∧ OT2 g o1 ∧ (∀ u : Int, 0 ≤ u → u ≤ g.terms → RI (KO g n f u) ((g.rules.take qi).flatMap fun q => folKs g n f u q q.right.length) (colL o0 u) (colL o1 u)) := hpre
          change CW _ _ _ _ [(1, .pointer (some ⟨b1, 0, none⟩)), (2, .pointer (some ⟨b2, 0, none⟩)), (3, .pointer (some ⟨b3, 0, none⟩)), (10, .int .i64 (rr : Int)), (11, .int .i64 (qi : Int))] (Sat (Old w) w [tabA 4 blo o1, tabA 4 blf f, trow 36 1 (encR g.terms.toNat) (.slice (some ⟨bf, 0, none⟩) g.names.toNat cf) blf, trow 36 1 (encR (g.terms + 1).toNat) (.slice (some ⟨bo, 0, none⟩) g.names.toNat co) blo, bools b18 4 n, cel b3 53 [.slice (some ⟨b18, 0, none⟩) g.names.toNat g.names.toNat, (.slice (some ⟨bf, 0, none⟩) g.names.toNat cf), (.slice (some ⟨bo, 0, none⟩) g.names.toNat co)], cel b2 53 [.slice none 0 0, .slice none 0 0, .slice none 0 0], cel b1 24 [.int .i64 g.terms, .int .i64 g.names, .slice a g.rules.length c]])
          obtain ⟨hqi, hdo1, hoo1, hriq⟩ := hpre
          refine CW_seq ?_
          refine CW_seq ?_
          refine CW_region ?_
          refine OW_q (q_move rfl) rfl ?_
          refine OW_q (q_fieldAddr Try.underlying24 rfl rfl Try.sizeOf22 rfl rfl) rfl ?_
          first | (refine OW_q (q_load1_own Try.isAgg22 rfl rfl (by (repeat (first | exact .head | apply Swap.tail))) (by rfl)) rfl ?_) | (refine OW_q (q_load1_ro Try.isAgg22 rfl (by first | assumption | exact Row.at_ (by assumption) rfl)) rfl ?_)
          refine OW_q (q_len Try.underlying22 rfl) rfl ?_
          refine OW_q (q_lss rfl rfl) rfl ?_
          refine OW_nil ?_
          refine EW_then ?_
          refine CW_cond rfl (fun h130 => ?_) (fun h130 => ?_)
          · skip
            have hltqi : qi < g.rules.length := by have := of_decide_eq_true h130; omega
            obtain ⟨r, hx⟩ := get_of_lt hltqi
            have hmem := List.mem_of_getElem? hx
            obtain ⟨p, rfl, rv2, hsy, hrow⟩ := hrs qi r hx
            have hr1 := hall r hmem
            have hlN : r.left < (g.names.toNat : Int) := by omega
            have hpos : Pos r.right := fun s hs ht => (hr1.2.2 s hs ht).1
            obtain ⟨a2, c2, rfl, hd1, hd2, hss⟩ := id hsy
            refine CW_skip ?_
            refine EW_then ?_
            refine CW_seq ?_
            refine CW_block ?_
            refine CW_seq ?_
            refine CW_region ?_
            refine OW_q (q_fieldAddr Try.underlying24 rfl rfl Try.sizeOf22 rfl rfl) rfl ?_
            first | (refine OW_q (q_load1_own Try.isAgg22 rfl rfl (by (repeat (first | exact .head | apply Swap.tail))) (by rfl)) rfl ?_) | (refine OW_q (q_load1_ro Try.isAgg22 rfl (by first | assumption | exact Row.at_ (by assumption) rfl)) rfl ?_)
            refine OW_q (q_move rfl) rfl ?_
            refine OW_q (q_indexAddr Try.underlying22 Try.sizeOf41 rfl rfl (by first | omega | assumption)) rfl ?_
            refine OW_q (q_loadN_ro Try.isAgg41 Try.sizeOf41 rfl (by first | assumption | exact Row.at_ (by assumption) rfl) (by rfl)) rfl ?_
            refine OW_e (e_alloc Try.zeroValue41 rfl) rfl (fun b12 => ?_)
            refine OW_e0 (e_storeN Try.sizeOf41 rfl rfl rfl rfl (by simp [Value.oneCell']) (by (repeat (first | exact .head | apply Swap.tail))) (by rfl)) (fun _ => ?_)
            refine OW_nil ?_
            refine EW_then ?_
            refine CW_seq ?_
            refine CW_region ?_
            refine OW_q (q_assign rfl) rfl ?_
            refine OW_nil ?_
            refine EW_then ?_
            refine CW_block ?_
            refine CW_loopP (ι := Nat × List (List Bool)) (fun i_ => i_.1 ≤ r.right.length ∧ Dim i_.2 g.names.toNat (g.terms + 1).toNat ∧ OT2 g i_.2 ∧ (∀ u : Int, 0 ≤ u → u ≤ g.terms → RI (KO g n f u) (DO g n f u qi r i_.1) (colL o0 u) (colL i_.2 u))) (fun i_ => [(1, .pointer (some ⟨b1, 0, none⟩)), (2, .pointer (some ⟨b2, 0, none⟩)), (3, .pointer (some ⟨b3, 0, none⟩)), (10, .int .i64 (rr : Int)), (11, .int .i64 (qi : Int)), (12, .pointer (some ⟨b12, 0, none⟩)), (13, .int .i64 (i_.1 : Int))]) (fun i_ => Sat (Old w) w [tabA 4 blo i_.2, tabA 4 blf f, trow 36 1 (encR g.terms.toNat) (.slice (some ⟨bf, 0, none⟩) g.names.toNat cf) blf, trow 36 1 (encR (g.terms + 1).toNat) (.slice (some ⟨bo, 0, none⟩) g.names.toNat co) blo, bools b18 4 n, cel b3 53 [.slice (some ⟨b18, 0, none⟩) g.names.toNat g.names.toNat, (.slice (some ⟨bf, 0, none⟩) g.names.toNat cf), (.slice (some ⟨bo, 0, none⟩) g.names.toNat co)], cel b2 53 [.slice none 0 0, .slice none 0 0, .slice none 0 0], cel b1 24 [.int .i64 g.terms, .int .i64 g.names, .slice (some p) g.rules.length c], cel b12 41 [.int .i64 r.left, .slice a2 r.right.length c2]]) (fun i_ => r.right.length - i_.1) (0, o1) ?_ ⟨rfl, rfl, rfl, rfl, rfl, rfl, rfl, trivial⟩ (fun w hw => hw.sub (by (repeat (first | exact SubL.nil | exact Pick.head | apply Pick.tail | apply SubL.cons)))) ?_
            · exact ⟨Nat.zero_le _, hdo1, hoo1, fun u hu0 hu1 => by show RI _ (DO g n f u qi r 0) _ _; rw [DO_zero]; exact hriq u hu0 hu1⟩
            intro i_ hpre
            obtain ⟨kk, o2⟩ := i_
            replace hpre : kk ≤ r.right.length ∧ Dim o2 g.names.toNat (g.terms + 1).toNat ∧ OT2 g o2 ∧ (∀ u : Int, 0 ≤ u → u ≤ g.terms → RI (KO g n f u) (DO g n f u qi r kk) (colL o0 u) (colL o2 u)) := hpre
            change CW _ _ _ _ [(1, .pointer (some ⟨b1, 0, none⟩)), (2, .pointer (some ⟨b2, 0, none⟩)), (3, .pointer (some ⟨b3, 0, none⟩)), (10, .int .i64 (rr : Int)), (11, .int .i64 (qi : Int)), (12, .pointer (some ⟨b12, 0, none⟩)), (13, .int .i64 (kk : Int))] (Sat (Old w) w [tabA 4 blo o2, tabA 4 blf f, trow 36 1 (encR g.terms.toNat) (.slice (some ⟨bf, 0, none⟩) g.names.toNat cf) blf, trow 36 1 (encR (g.terms + 1).toNat) (.slice (some ⟨bo, 0, none⟩) g.names.toNat co) blo, bools b18 4 n, cel b3 53 [.slice (some ⟨b18, 0, none⟩) g.names.toNat g.names.toNat, (.slice (some ⟨bf, 0, none⟩) g.names.toNat cf), (.slice (some ⟨bo, 0, none⟩) g.names.toNat co)], cel b2 53 [.slice none 0 0, .slice none 0 0, .slice none 0 0], cel b1 24 [.int .i64 g.terms, .int .i64 g.names, .slice (some p) g.rules.length c], cel b12 41 [.int .i64 r.left, .slice a2 r.right.length c2]])
            obtain ⟨hkk, hdo2, hoo2, hrik⟩ := hpre
            refine CW_seq ?_
            refine CW_seq ?_
            refine CW_region ?_
            refine OW_q (q_move rfl) rfl ?_
            refine OW_q (q_fieldAddr Try.underlying41 rfl rfl Try.sizeOf39 rfl rfl) rfl ?_
            first | (refine OW_q (q_load1_own Try.isAgg39 rfl rfl (by (repeat (first | exact .head | apply Swap.tail))) (by rfl)) rfl ?_) | (refine OW_q (q_load1_ro Try.isAgg39 rfl (by first | assumption | exact Row.at_ (by assumption) rfl)) rfl ?_)
            refine OW_q (q_len Try.underlying39 rfl) rfl ?_
            refine OW_q (q_lss rfl rfl) rfl ?_
            refine OW_nil ?_
            refine EW_then ?_
            refine CW_cond rfl (fun h142 => ?_) (fun h142 => ?_)
            · skip
              have hltj : kk < r.right.length := by have := of_decide_eq_true h142; omega
              obtain ⟨s, hsj⟩ := get_of_lt hltj
              obtain ⟨p2, rfl, hrowS⟩ := hss kk s hsj
              have hsm := List.mem_of_getElem? hsj
              have hsub : SymsAt (Rd (Old w) w) (.slice (if c2 = kk + 1 then some p2 else (some p2).map (·.add ((kk + 1) * 2))) (r.right.length - (kk + 1)) (c2 - (kk + 1))) (r.right.drop (kk + 1)) := by
                have := SlAt.sub (lo := kk + 1) (hi := r.right.length) hsy hltj (Nat.le_refl _)
                rwa [List.take_length] at this
              refine CW_skip ?_
              refine EW_then ?_
              refine CW_seq ?_
              refine CW_block ?_
              refine CW_seq ?_
              refine CW_seq ?_
              refine CW_region ?_
              refine OW_q (q_fieldAddr Try.underlying41 rfl rfl Try.sizeOf39 rfl rfl) rfl ?_
              first | (refine OW_q (q_load1_own Try.isAgg39 rfl rfl (by (repeat (first | exact .head | apply Swap.tail))) (by rfl)) rfl ?_) | (refine OW_q (q_load1_ro Try.isAgg39 rfl (by first | assumption | exact Row.at_ (by assumption) rfl)) rfl ?_)
              refine OW_q (q_move rfl) rfl ?_
              refine OW_q (q_indexAddr Try.underlying39 Try.sizeOf62 rfl rfl (by first | omega | assumption)) rfl ?_
              refine OW_q (q_fieldAddr Try.underlying62 rfl rfl Try.sizeOf4 rfl rfl) rfl ?_
              refine OW_q (q_load1_ro Try.isAgg4 rfl (by first | assumption | exact Row.at_ (by assumption) rfl)) rfl ?_
              refine OW_nil ?_
              refine EW_then ?_
              refine CW_cond rfl (fun h150 => ?_) (fun h150 => ?_)
              · skip
                refine CW_exit ?_
                refine EW_then_exit ?_
                refine EW_block_exit ?_
                refine EW_then ?_
                refine CW_region ?_
                refine OW_q (q_move rfl) rfl ?_
                first | refine OW_q (q_inc rfl rfl (by omega)) rfl ?_ | refine OW_q (q_add rfl rfl (by omega) (by omega)) rfl ?_
                refine OW_q (q_assign rfl) rfl ?_
                refine OW_nil ?_
                refine EW_again ((kk + 1, o2)) ⟨?_, ?_⟩ ⟨rfl, rfl, rfl, rfl, rfl, rfl, rfl, trivial⟩ (fun w hw => hw.sub (by (repeat (first | exact SubL.nil | exact Pick.head | apply Pick.tail | apply SubL.cons))))
                · show r.right.length - (kk + 1) < r.right.length - kk; omega
                · exact ⟨by show kk + 1 ≤ _; omega, hdo2, hoo2, fun u hu0 hu1 => by show RI _ (DO g n f u qi r (kk + 1)) _ _; rw [DO_term hsj h150]; exact hrik u hu0 hu1⟩
              · skip
                have ht : s.term = false := h150
                have hs1 := hr1.2.2 s hsm ht
                have hs1N : s.n < (g.names.toNat : Int) := by omega
                have hposd : Pos (r.right.drop (kk + 1)) := fun q hq => hpos q (List.mem_of_mem_drop hq)
                have hlob : blo.length = g.names.toNat := hlo
                obtain ⟨bi, hbl⟩ := get_of_lt (l := blo) (k := s.n.toNat) (by omega)
                obtain ⟨bl, hbll⟩ := get_of_lt (l := blo) (k := r.left.toNat) (by omega)
                refine CW_skip ?_
                refine EW_then ?_
                refine CW_seq ?_
                refine CW_region ?_
                refine OW_q (q_fieldAddr Try.underlying41 rfl rfl Try.sizeOf39 rfl rfl) rfl ?_
                first | (refine OW_q (q_load1_own Try.isAgg39 rfl rfl (by (repeat (first | exact .head | apply Swap.tail))) (by rfl)) rfl ?_) | (refine OW_q (q_load1_ro Try.isAgg39 rfl (by first | assumption | exact Row.at_ (by assumption) rfl)) rfl ?_)
                refine OW_q (q_move rfl) rfl ?_
                first | refine OW_q (q_inc rfl rfl (by omega)) rfl ?_ | refine OW_q (q_add rfl rfl (by omega) (by omega)) rfl ?_
                refine OW_q (q_slice (l := kk + 1) (h := r.right.length) Try.underlying39 Try.sizeOf62 rfl (.inr ⟨_, rfl, rfl⟩) (.inl ⟨rfl, rfl⟩) (by omega) (by omega) (by omega)) rfl ?_
                refine OW_q (q_assign rfl) rfl ?_
                refine OW_nil ?_
                refine EW_then ?_
                refine CW_seq ?_
                refine CW_region ?_
                refine OW_q (q_assign rfl) rfl ?_
                refine OW_nil ?_
                refine EW_then ?_
                refine CW_block ?_
                refine CW_loopP (ι := Nat × List (List Bool)) (fun i_ => i_.1 ≤ (g.terms + 1).toNat ∧ Dim i_.2 g.names.toNat (g.terms + 1).toNat ∧ OT2 g i_.2 ∧ (∀ u : Int, 0 ≤ u → u ≤ g.terms → RI (KO g n f u) (DO g n f u qi r (if u < (i_.1 : Int) then kk + 1 else kk)) (colL o0 u) (colL i_.2 u))) (fun i_ => [(1, .pointer (some ⟨b1, 0, none⟩)), (2, .pointer (some ⟨b2, 0, none⟩)), (3, .pointer (some ⟨b3, 0, none⟩)), (10, .int .i64 (rr : Int)), (11, .int .i64 (qi : Int)), (12, .pointer (some ⟨b12, 0, none⟩)), (13, .int .i64 (kk : Int)), (14, .slice (if c2 = kk + 1 then some p2 else (some p2).map (·.add ((kk + 1) * 2))) (r.right.length - (kk + 1)) (c2 - (kk + 1))), (15, .int .i64 (i_.1 : Int))]) (fun i_ => Sat (Old w) w [tabA 4 blo i_.2, tabA 4 blf f, trow 36 1 (encR g.terms.toNat) (.slice (some ⟨bf, 0, none⟩) g.names.toNat cf) blf, trow 36 1 (encR (g.terms + 1).toNat) (.slice (some ⟨bo, 0, none⟩) g.names.toNat co) blo, bools b18 4 n, cel b3 53 [.slice (some ⟨b18, 0, none⟩) g.names.toNat g.names.toNat, (.slice (some ⟨bf, 0, none⟩) g.names.toNat cf), (.slice (some ⟨bo, 0, none⟩) g.names.toNat co)], cel b2 53 [.slice none 0 0, .slice none 0 0, .slice none 0 0], cel b1 24 [.int .i64 g.terms, .int .i64 g.names, .slice (some p) g.rules.length c], cel b12 41 [.int .i64 r.left, .slice (some p2) r.right.length c2]]) (fun i_ => (g.terms + 1).toNat - i_.1) (0, o2) ?_ ⟨rfl, rfl, rfl, rfl, rfl, rfl, rfl, rfl, rfl, trivial⟩ (fun w hw => hw.sub (by (repeat (first | exact SubL.nil | exact Pick.head | apply Pick.tail | apply SubL.cons)))) ?_
                · exact ⟨Nat.zero_le _, hdo2, hoo2, fun u hu0 hu1 => by rw [if_neg (show ¬ u < (((0, o2) : Nat × List (List Bool)).1 : Int) from by show ¬ u < 0; omega)]; exact hrik u hu0 hu1⟩
                intro i_ hpre
                obtain ⟨tu, o3⟩ := i_
                replace hpre : tu ≤ (g.terms + 1).toNat ∧ Dim o3 g.names.toNat (g.terms + 1).toNat ∧ OT2 g o3 ∧ (∀ u : Int, 0 ≤ u → u ≤ g.terms → RI (KO g n f u) (DO g n f u qi r (if u < (tu : Int) then kk + 1 else kk)) (colL o0 u) (colL o3 u)) := hpre
                change CW _ _ _ _ [(1, .pointer (some ⟨b1, 0, none⟩)), (2, .pointer (some ⟨b2, 0, none⟩)), (3, .pointer (some ⟨b3, 0, none⟩)), (10, .int .i64 (rr : Int)), (11, .int .i64 (qi : Int)), (12, .pointer (some ⟨b12, 0, none⟩)), (13, .int .i64 (kk : Int)), (14, .slice (if c2 = kk + 1 then some p2 else (some p2).map (·.add ((kk + 1) * 2))) (r.right.length - (kk + 1)) (c2 - (kk + 1))), (15, .int .i64 (tu : Int))] (Sat (Old w) w [tabA 4 blo o3, tabA 4 blf f, trow 36 1 (encR g.terms.toNat) (.slice (some ⟨bf, 0, none⟩) g.names.toNat cf) blf, trow 36 1 (encR (g.terms + 1).toNat) (.slice (some ⟨bo, 0, none⟩) g.names.toNat co) blo, bools b18 4 n, cel b3 53 [.slice (some ⟨b18, 0, none⟩) g.names.toNat g.names.toNat, (.slice (some ⟨bf, 0, none⟩) g.names.toNat cf), (.slice (some ⟨bo, 0, none⟩) g.names.toNat co)], cel b2 53 [.slice none 0 0, .slice none 0 0, .slice none 0 0], cel b1 24 [.int .i64 g.terms, .int .i64 g.names, .slice (some p) g.rules.length c], cel b12 41 [.int .i64 r.left, .slice (some p2) r.right.length c2]])
                obtain ⟨htu, hdo3, hoo3, hrit⟩ := hpre
                have ho3N := hdo3.1
                refine CW_seq ?_
                refine CW_seq ?_
                refine CW_region ?_
                refine OW_q (q_move rfl) rfl ?_
                refine OW_q (q_fieldAddr Try.underlying24 rfl rfl Try.sizeOf3 rfl rfl) rfl ?_
                first | (refine OW_q (q_load1_own Try.isAgg3 rfl rfl (by (repeat (first | exact .head | apply Swap.tail))) (by rfl)) rfl ?_) | (refine OW_q (q_load1_ro Try.isAgg3 rfl (by first | assumption | exact Row.at_ (by assumption) rfl)) rfl ?_)
                refine OW_q (q_leq rfl rfl) rfl ?_
                refine OW_nil ?_
                refine EW_then ?_
                refine CW_cond rfl (fun h159 => ?_) (fun h159 => ?_)
                · skip
                  have hltu : tu < (g.terms + 1).toNat := by have := of_decide_eq_true h159; omega
                  have hrl3 := hdo3.row hs1.1 hs1N
                  have hrll := hdo3.row hr1.1 hlN
                  have hrow3 := row2_get (tab := o3) (n := s.n) hs1.1 (by omega)
                  have hco := atB_get (is := row2 o3 r.left) (n := (tu : Int)) (by omega) (by omega)
                  rw [Int.toNat_natCast] at hco
                  refine CW_skip ?_
                  refine EW_then ?_
                  refine CW_seq ?_
                  refine CW_block ?_
                  refine CW_seq ?_
                  refine CW_region ?_
                  refine OW_q (q_move rfl) rfl ?_
                  refine OW_q (q_fieldAddr Try.underlying24 rfl rfl Try.sizeOf3 rfl rfl) rfl ?_
                  first | (refine OW_q (q_load1_own Try.isAgg3 rfl rfl (by (repeat (first | exact .head | apply Swap.tail))) (by rfl)) rfl ?_) | (refine OW_q (q_load1_ro Try.isAgg3 rfl (by first | assumption | exact Row.at_ (by assumption) rfl)) rfl ?_)
                  refine OW_q (q_lss rfl rfl) rfl ?_
                  refine OW_q (q_move rfl) rfl ?_
                  refine OW_part (t := 166) rfl (fun hg166 => ?_) (fun hg166 => ?_)
                  · skip
                    refine OW_wanted rfl rfl rfl ?_
                    first | (refine OW_q (q_loadN_own Try.isAgg53 Try.sizeOf53 rfl rfl (by (repeat (first | exact .head | apply Swap.tail))) (by rfl)) rfl ?_) | (refine OW_q (q_loadN_ro Try.isAgg53 Try.sizeOf53 rfl (by first | assumption | exact Row.at_ (by assumption) rfl) (by rfl)) rfl ?_)
                    refine OW_wanted rfl rfl rfl ?_
                    refine OW_q (q_move rfl) rfl ?_
                    refine OW_wanted rfl rfl rfl ?_
                    refine OW_q (q_move rfl) rfl ?_
                    refine OW_wanted rfl rfl rfl ?_
                    refine OW_e (e_call Try.call54 rfl (fun w hw => lift_ro (begins_any _ _ _ _ (r.right.drop (kk + 1)) n f g.terms.toNat (tu : Int) w (hsub.mono hw.rd_cl) (hw.boolsAt (A' := bools 0 0 []) (by repeat (first | exact .head | apply Swap.tail)) hln (Nat.le_refl _) (by omega)) (hw.tabAt (bl := blf) (by repeat (first | exact .head | apply Swap.tail)) (by repeat (first | exact .head | apply Swap.tail)) (by rw [hlf, hdf.1]) hdf.2 (by omega)) (fun q hq hqt => by have := hr1.2.2 q (List.mem_of_mem_drop hq) hqt; omega) (by rw [hln]; exact hdf) (Int.natCast_nonneg tu) (by have := of_decide_eq_true hg166; omega)) hw)) rfl (fun x170 => ?_)
                    refine OW_q (q_pick_t rfl rfl) rfl ?_
                    refine OW_q (q_move rfl) rfl ?_
                    refine OW_part (t := 172) rfl (fun hg172 => ?_) (fun hg172 => ?_)
                    · skip
                      refine OW_skip rfl rfl rfl rfl ?_
                      refine OW_skip rfl rfl rfl rfl ?_
                      refine OW_skip rfl rfl rfl rfl ?_
                      refine OW_skip rfl rfl rfl rfl ?_
                      refine OW_skipU rfl rfl rfl ?_
                      refine OW_skipU rfl rfl rfl ?_
                      refine OW_skipU rfl rfl rfl ?_
                      refine OW_skipU rfl rfl rfl ?_
                      refine OW_skipU rfl rfl rfl ?_
                      refine OW_skipU rfl rfl rfl ?_
                      refine OW_skipU rfl rfl rfl ?_
                      refine OW_skipU rfl rfl rfl ?_
                      refine OW_skipU rfl rfl rfl ?_
                      refine OW_skip rfl rfl rfl rfl ?_
                      refine OW_q (q_pick_t rfl rfl) rfl ?_
                      refine OW_nil ?_
                      refine EW_then ?_
                      refine CW_true rfl rfl ?_
                      refine CW_drawS 12 [(0, false), (1, false), (2, false), (3, false), (4, false), (5, false), (6, false), (7, false), (8, false), (9, false), (10, false), (11, false), (12, true)] (by kernel_rfl) (Blind.block (Blind.then (Blind.again (Blind.block (Blind.block (Blind.then (Blind.again (Blind.block (Blind.block (Blind.then (Blind.again (Blind.block (Blind.block (Blind.then (Blind.again (Blind.block (Blind.then (Blind.body (by intro c w h; simp at h))))))))))))))))))) (by kernel_rfl) (fun w hw => hw.drew) ?_
                      refine DW_q rfl (fun w hw => hw.sub (by (repeat (first | exact SubL.nil | exact Pick.head | apply Pick.tail | apply SubL.cons)))) (q_fieldAddr Try.underlying53 rfl rfl Try.sizeOf51 rfl rfl) rfl ?_
                      first | (refine DW_q rfl (fun w hw => hw.sub (by (repeat (first | exact SubL.nil | exact Pick.head | apply Pick.tail | apply SubL.cons)))) (q_load1_own Try.isAgg51 rfl rfl (by (repeat (first | exact .head | apply Swap.tail))) (by rfl)) rfl ?_) | (refine DW_q rfl (fun w hw => hw.sub (by (repeat (first | exact SubL.nil | exact Pick.head | apply Pick.tail | apply SubL.cons)))) (q_load1_ro Try.isAgg51 rfl (by first | assumption | exact Row.at_ (by assumption) rfl)) rfl ?_)
                      refine DW_q rfl (fun w hw => hw.sub (by (repeat (first | exact SubL.nil | exact Pick.head | apply Pick.tail | apply SubL.cons)))) (q_fieldAddr Try.underlying41 rfl rfl Try.sizeOf39 rfl rfl) rfl ?_
                      first | (refine DW_q rfl (fun w hw => hw.sub (by (repeat (first | exact SubL.nil | exact Pick.head | apply Pick.tail | apply SubL.cons)))) (q_load1_own Try.isAgg39 rfl rfl (by (repeat (first | exact .head | apply Swap.tail))) (by rfl)) rfl ?_) | (refine DW_q rfl (fun w hw => hw.sub (by (repeat (first | exact SubL.nil | exact Pick.head | apply Pick.tail | apply SubL.cons)))) (q_load1_ro Try.isAgg39 rfl (by first | assumption | exact Row.at_ (by assumption) rfl)) rfl ?_)
                      refine DW_q rfl (fun w hw => hw.sub (by (repeat (first | exact SubL.nil | exact Pick.head | apply Pick.tail | apply SubL.cons)))) (q_move rfl) rfl ?_
                      refine DW_q rfl (fun w hw => hw.sub (by (repeat (first | exact SubL.nil | exact Pick.head | apply Pick.tail | apply SubL.cons)))) (q_indexAddr Try.underlying39 Try.sizeOf62 rfl rfl (by first | omega | assumption)) rfl ?_
                      refine DW_q rfl (fun w hw => hw.sub (by (repeat (first | exact SubL.nil | exact Pick.head | apply Pick.tail | apply SubL.cons)))) (q_fieldAddr Try.underlying62 rfl rfl Try.sizeOf3 rfl rfl) rfl ?_
                      refine DW_q rfl (fun w hw => hw.sub (by (repeat (first | exact SubL.nil | exact Pick.head | apply Pick.tail | apply SubL.cons)))) (q_load1_ro Try.isAgg3 rfl (by first | assumption | exact Row.at_ (by assumption) rfl)) rfl ?_
                      refine DW_q rfl (fun w hw => hw.sub (by (repeat (first | exact SubL.nil | exact Pick.head | apply Pick.tail | apply SubL.cons)))) (q_indexAddrI Try.underlying51 Try.sizeOf36 rfl rfl (by first | omega | assumption) (by first | omega | assumption)) rfl ?_
                      refine DW_q rfl (fun w hw => hw.sub (by repeat (first | exact SubL.nil | exact Pick.head | apply Pick.tail | apply SubL.cons))) (q_load_t1 Try.isAgg36 (fun _ => rfl) rfl (by repeat (first | exact .head | apply Swap.tail)) rfl hbl rfl) rfl ?_
                      refine DW_q rfl (fun w hw => hw.sub (by (repeat (first | exact SubL.nil | exact Pick.head | apply Pick.tail | apply SubL.cons)))) (q_move rfl) rfl ?_
                      refine DW_q rfl (fun w hw => hw.sub (by (repeat (first | exact SubL.nil | exact Pick.head | apply Pick.tail | apply SubL.cons)))) (q_indexAddr Try.underlying36 Try.sizeOf4 rfl rfl (by first | omega | assumption)) rfl ?_
                      refine DW_z0 rfl (e_store_bools (l := row2 o3 s.n) Try.sizeOf4 rfl rfl ((Hole.tab hbl hrow3).swap _) (by omega)) (fun _ => ?_)
                      refine EW_block_normal ?_
                      refine EW_then ?_
                      refine CW_region ?_
                      refine OW_q (q_move rfl) rfl ?_
                      first | refine OW_q (q_inc rfl rfl (by omega)) rfl ?_ | refine OW_q (q_add rfl rfl (by omega) (by omega)) rfl ?_
                      refine OW_q (q_assign rfl) rfl ?_
                      refine OW_nil ?_
                      refine EW_again ((tu + 1, put2 o3 s.n (tu : Int))) ⟨?_, ?_⟩ ⟨rfl, rfl, rfl, rfl, rfl, rfl, rfl, rfl, rfl, trivial⟩ (fun w hw => by rw [tabL_set hbl] at hw; exact Sat.sub (hw : Sat _ _ (tabA 4 blo (put2 o3 s.n (tu : Int)) :: _) _) (by repeat (first | exact SubL.nil | exact Pick.head | apply Pick.tail | apply SubL.cons)))
                      · show (g.terms + 1).toNat - (tu + 1) < (g.terms + 1).toNat - tu; omega
                      · exact ⟨by show tu + 1 ≤ _; omega, hdo3.put hs1.1 hs1N, os_put hM.1 hoo3 (.fst hmem hsj ht (begB_sound hns hfs (Int.natCast_nonneg tu) hposd hg172)) hs1.1 (by omega) (Int.natCast_nonneg tu) (by omega), (kof_put hx hsj ht hdo0 hdo3 hr1.1 hlN hs1.1 hs1N hltu hrit).1 (by rw [hg166, hg172]; rfl)⟩
                    · skip
                      refine OW_wanted rfl rfl rfl ?_
                      first | (refine OW_q (q_loadN_own Try.isAgg53 Try.sizeOf53 rfl rfl (by (repeat (first | exact .head | apply Swap.tail))) (by rfl)) rfl ?_) | (refine OW_q (q_loadN_ro Try.isAgg53 Try.sizeOf53 rfl (by first | assumption | exact Row.at_ (by assumption) rfl) (by rfl)) rfl ?_)
                      refine OW_wanted rfl rfl rfl ?_
                      refine OW_q (q_move rfl) rfl ?_
                      refine OW_wanted rfl rfl rfl ?_
                      refine OW_e (e_call Try.call53 rfl (fun w hw => lift_ro (null_any _ _ _ _ (r.right.drop (kk + 1)) n w (hsub.mono hw.rd_cl) (hw.boolsAt (A' := bools 0 0 []) (by repeat (first | exact .head | apply Swap.tail)) hln (Nat.le_refl _) (by omega)) (fun q hq hqt => by have := hr1.2.2 q (List.mem_of_mem_drop hq) hqt; omega)) hw)) rfl (fun x175 => ?_)
                      refine OW_wanted rfl rfl rfl ?_
                      refine OW_q (q_move rfl) rfl ?_
                      refine OW_part (t := 176) rfl (fun hg176 => ?_) (fun hg176 => ?_)
                      · skip
                        refine OW_wanted rfl rfl rfl ?_
                        refine OW_q (q_fieldAddr Try.underlying53 rfl rfl Try.sizeOf51 rfl rfl) rfl ?_
                        refine OW_wanted rfl rfl rfl ?_
                        first | (refine OW_q (q_load1_own Try.isAgg51 rfl rfl (by (repeat (first | exact .head | apply Swap.tail))) (by rfl)) rfl ?_) | (refine OW_q (q_load1_ro Try.isAgg51 rfl (by first | assumption | exact Row.at_ (by assumption) rfl)) rfl ?_)
                        refine OW_wanted rfl rfl rfl ?_
                        refine OW_q (q_fieldAddr Try.underlying41 rfl rfl Try.sizeOf3 rfl rfl) rfl ?_
                        refine OW_wanted rfl rfl rfl ?_
                        first | (refine OW_q (q_load1_own Try.isAgg3 rfl rfl (by (repeat (first | exact .head | apply Swap.tail))) (by rfl)) rfl ?_) | (refine OW_q (q_load1_ro Try.isAgg3 rfl (by first | assumption | exact Row.at_ (by assumption) rfl)) rfl ?_)
                        refine OW_wanted rfl rfl rfl ?_
                        refine OW_q (q_indexAddrI Try.underlying51 Try.sizeOf36 rfl rfl (by first | omega | assumption) (by first | omega | assumption)) rfl ?_
                        refine OW_wanted rfl rfl rfl ?_
                        refine OW_q (q_load_t1 Try.isAgg36 (fun _ => rfl) rfl (by repeat (first | exact .head | apply Swap.tail)) rfl hbll rfl) rfl ?_
                        refine OW_wanted rfl rfl rfl ?_
                        refine OW_q (q_move rfl) rfl ?_
                        refine OW_wanted rfl rfl rfl ?_
                        refine OW_q (q_indexAddr Try.underlying36 Try.sizeOf4 rfl rfl (by first | omega | assumption)) rfl ?_
                        refine OW_wanted rfl rfl rfl ?_
                        refine OW_q (q_load_bools Try.isAgg4 rfl ((Hole.tab hbll (row2_get hr1.1 (by omega))).swap _) hco) rfl ?_
                        refine OW_wanted rfl rfl rfl ?_
                        refine OW_q (q_pick_t rfl rfl) rfl ?_
                        refine OW_q (q_pick_f rfl rfl) rfl ?_
                        refine OW_nil ?_
                        refine EW_then ?_
                        refine CW_cond rfl (fun h187 => ?_) (fun h187 => ?_)
                        · skip
                          refine CW_drawS 12 [(0, false), (1, false), (2, false), (3, false), (4, false), (5, false), (6, false), (7, false), (8, false), (9, false), (10, false), (11, false), (12, true)] (by kernel_rfl) (Blind.block (Blind.then (Blind.again (Blind.block (Blind.block (Blind.then (Blind.again (Blind.block (Blind.block (Blind.then (Blind.again (Blind.block (Blind.block (Blind.then (Blind.again (Blind.block (Blind.then (Blind.body (by intro c w h; simp at h))))))))))))))))))) (by kernel_rfl) (fun w hw => hw.drew) ?_
                          refine DW_q rfl (fun w hw => hw.sub (by (repeat (first | exact SubL.nil | exact Pick.head | apply Pick.tail | apply SubL.cons)))) (q_fieldAddr Try.underlying53 rfl rfl Try.sizeOf51 rfl rfl) rfl ?_
                          first | (refine DW_q rfl (fun w hw => hw.sub (by (repeat (first | exact SubL.nil | exact Pick.head | apply Pick.tail | apply SubL.cons)))) (q_load1_own Try.isAgg51 rfl rfl (by (repeat (first | exact .head | apply Swap.tail))) (by rfl)) rfl ?_) | (refine DW_q rfl (fun w hw => hw.sub (by (repeat (first | exact SubL.nil | exact Pick.head | apply Pick.tail | apply SubL.cons)))) (q_load1_ro Try.isAgg51 rfl (by first | assumption | exact Row.at_ (by assumption) rfl)) rfl ?_)
                          refine DW_q rfl (fun w hw => hw.sub (by (repeat (first | exact SubL.nil | exact Pick.head | apply Pick.tail | apply SubL.cons)))) (q_fieldAddr Try.underlying41 rfl rfl Try.sizeOf39 rfl rfl) rfl ?_
                          first | (refine DW_q rfl (fun w hw => hw.sub (by (repeat (first | exact SubL.nil | exact Pick.head | apply Pick.tail | apply SubL.cons)))) (q_load1_own Try.isAgg39 rfl rfl (by (repeat (first | exact .head | apply Swap.tail))) (by rfl)) rfl ?_) | (refine DW_q rfl (fun w hw => hw.sub (by (repeat (first | exact SubL.nil | exact Pick.head | apply Pick.tail | apply SubL.cons)))) (q_load1_ro Try.isAgg39 rfl (by first | assumption | exact Row.at_ (by assumption) rfl)) rfl ?_)
                          refine DW_q rfl (fun w hw => hw.sub (by (repeat (first | exact SubL.nil | exact Pick.head | apply Pick.tail | apply SubL.cons)))) (q_move rfl) rfl ?_
                          refine DW_q rfl (fun w hw => hw.sub (by (repeat (first | exact SubL.nil | exact Pick.head | apply Pick.tail | apply SubL.cons)))) (q_indexAddr Try.underlying39 Try.sizeOf62 rfl rfl (by first | omega | assumption)) rfl ?_
                          refine DW_q rfl (fun w hw => hw.sub (by (repeat (first | exact SubL.nil | exact Pick.head | apply Pick.tail | apply SubL.cons)))) (q_fieldAddr Try.underlying62 rfl rfl Try.sizeOf3 rfl rfl) rfl ?_
                          refine DW_q rfl (fun w hw => hw.sub (by (repeat (first | exact SubL.nil | exact Pick.head | apply Pick.tail | apply SubL.cons)))) (q_load1_ro Try.isAgg3 rfl (by first | assumption | exact Row.at_ (by assumption) rfl)) rfl ?_
                          refine DW_q rfl (fun w hw => hw.sub (by (repeat (first | exact SubL.nil | exact Pick.head | apply Pick.tail | apply SubL.cons)))) (q_indexAddrI Try.underlying51 Try.sizeOf36 rfl rfl (by first | omega | assumption) (by first | omega | assumption)) rfl ?_
                          refine DW_q rfl (fun w hw => hw.sub (by repeat (first | exact SubL.nil | exact Pick.head | apply Pick.tail | apply SubL.cons))) (q_load_t1 Try.isAgg36 (fun _ => rfl) rfl (by repeat (first | exact .head | apply Swap.tail)) rfl hbl rfl) rfl ?_
                          refine DW_q rfl (fun w hw => hw.sub (by (repeat (first | exact SubL.nil | exact Pick.head | apply Pick.tail | apply SubL.cons)))) (q_move rfl) rfl ?_
                          refine DW_q rfl (fun w hw => hw.sub (by (repeat (first | exact SubL.nil | exact Pick.head | apply Pick.tail | apply SubL.cons)))) (q_indexAddr Try.underlying36 Try.sizeOf4 rfl rfl (by first | omega | assumption)) rfl ?_
                          refine DW_z0 rfl (e_store_bools (l := row2 o3 s.n) Try.sizeOf4 rfl rfl ((Hole.tab hbl hrow3).swap _) (by omega)) (fun _ => ?_)
                          refine EW_block_normal ?_
                          refine EW_then ?_
                          refine CW_region ?_
                          refine OW_q (q_move rfl) rfl ?_
                          first | refine OW_q (q_inc rfl rfl (by omega)) rfl ?_ | refine OW_q (q_add rfl rfl (by omega) (by omega)) rfl ?_
                          refine OW_q (q_assign rfl) rfl ?_
                          refine OW_nil ?_
                          refine EW_again ((tu + 1, put2 o3 s.n (tu : Int))) ⟨?_, ?_⟩ ⟨rfl, rfl, rfl, rfl, rfl, rfl, rfl, rfl, rfl, trivial⟩ (fun w hw => by rw [tabL_set hbl] at hw; exact Sat.sub (hw : Sat _ _ (tabA 4 blo (put2 o3 s.n (tu : Int)) :: _) _) (by repeat (first | exact SubL.nil | exact Pick.head | apply Pick.tail | apply SubL.cons)))
                          · show (g.terms + 1).toNat - (tu + 1) < (g.terms + 1).toNat - tu; omega
                          · exact ⟨by show tu + 1 ≤ _; omega, hdo3.put hs1.1 hs1N, os_put hM.1 hoo3 (.fol hmem hsj ht (nullB_sound hns hposd hg176) (hoo3.1 r.left (tu : Int) hr1.1 (Int.natCast_nonneg tu) h187)) hs1.1 (by omega) (Int.natCast_nonneg tu) (by omega), (kof_put hx hsj ht hdo0 hdo3 hr1.1 hlN hs1.1 hs1N hltu hrit).1 (by have h187' : at2 o3 r.left (tu : Int) = true := h187; rw [hg172, hg176, h187']; simp)⟩
                        · skip
                          refine CW_skip ?_
                          refine EW_block_normal ?_
                          refine EW_then ?_
                          refine CW_region ?_
                          refine OW_q (q_move rfl) rfl ?_
                          first | refine OW_q (q_inc rfl rfl (by omega)) rfl ?_ | refine OW_q (q_add rfl rfl (by omega) (by omega)) rfl ?_
                          refine OW_q (q_assign rfl) rfl ?_
                          refine OW_nil ?_
                          refine EW_again ((tu + 1, o3)) ⟨?_, ?_⟩ ⟨rfl, rfl, rfl, rfl, rfl, rfl, rfl, rfl, rfl, trivial⟩ (fun w hw => hw.sub (by (repeat (first | exact SubL.nil | exact Pick.head | apply Pick.tail | apply SubL.cons))))
                          · show (g.terms + 1).toNat - (tu + 1) < (g.terms + 1).toNat - tu; omega
                          · exact ⟨by show tu + 1 ≤ _; omega, hdo3, hoo3, (kof_put hx hsj ht hdo0 hdo3 hr1.1 hlN hs1.1 hs1N hltu hrit).2 (by have h187' : at2 o3 r.left (tu : Int) = false := h187; rw [hg172, hg176, h187']; simp)⟩
                      · skip
                        refine OW_skip rfl rfl rfl rfl ?_
                        refine OW_skip rfl rfl rfl rfl ?_
                        refine OW_skip rfl rfl rfl rfl ?_
                        refine OW_skip rfl rfl rfl rfl ?_
                        refine OW_skip rfl rfl rfl rfl ?_
                        refine OW_skip rfl rfl rfl rfl ?_
                        refine OW_skip rfl rfl rfl rfl ?_
                        refine OW_skip rfl rfl rfl rfl ?_
                        refine OW_skip rfl rfl rfl rfl ?_
                        refine OW_wanted rfl rfl rfl ?_
                        refine OW_q (q_pick_f rfl rfl) rfl ?_
                        refine OW_q (q_pick_f rfl rfl) rfl ?_
                        refine OW_nil ?_
                        refine EW_then ?_
                        refine CW_false rfl rfl ?_
                        refine CW_skip ?_
                        refine EW_block_normal ?_
                        refine EW_then ?_
                        refine CW_region ?_
                        refine OW_q (q_move rfl) rfl ?_
                        first | refine OW_q (q_inc rfl rfl (by omega)) rfl ?_ | refine OW_q (q_add rfl rfl (by omega) (by omega)) rfl ?_
                        refine OW_q (q_assign rfl) rfl ?_
                        refine OW_nil ?_
                        refine EW_again ((tu + 1, o3)) ⟨?_, ?_⟩ ⟨rfl, rfl, rfl, rfl, rfl, rfl, rfl, rfl, rfl, trivial⟩ (fun w hw => hw.sub (by (repeat (first | exact SubL.nil | exact Pick.head | apply Pick.tail | apply SubL.cons))))
                        · show (g.terms + 1).toNat - (tu + 1) < (g.terms + 1).toNat - tu; omega
                        · exact ⟨by show tu + 1 ≤ _; omega, hdo3, hoo3, (kof_put hx hsj ht hdo0 hdo3 hr1.1 hlN hs1.1 hs1N hltu hrit).2 (by rw [hg172, hg176]; simp)⟩
                  · skip
                    refine OW_skip rfl rfl rfl rfl ?_
                    refine OW_skip rfl rfl rfl rfl ?_
                    refine OW_skip rfl rfl rfl rfl ?_
                    refine OW_skip rfl rfl rfl rfl ?_
                    refine OW_q (q_pick_f rfl rfl) rfl ?_
                    refine OW_q (q_move rfl) rfl ?_
                    refine OW_wanted rfl rfl rfl ?_
                    first | (refine OW_q (q_loadN_own Try.isAgg53 Try.sizeOf53 rfl rfl (by (repeat (first | exact .head | apply Swap.tail))) (by rfl)) rfl ?_) | (refine OW_q (q_loadN_ro Try.isAgg53 Try.sizeOf53 rfl (by first | assumption | exact Row.at_ (by assumption) rfl) (by rfl)) rfl ?_)
                    refine OW_wanted rfl rfl rfl ?_
                    refine OW_q (q_move rfl) rfl ?_
                    refine OW_wanted rfl rfl rfl ?_
                    refine OW_e (e_call Try.call53 rfl (fun w hw => lift_ro (null_any _ _ _ _ (r.right.drop (kk + 1)) n w (hsub.mono hw.rd_cl) (hw.boolsAt (A' := bools 0 0 []) (by repeat (first | exact .head | apply Swap.tail)) hln (Nat.le_refl _) (by omega)) (fun q hq hqt => by have := hr1.2.2 q (List.mem_of_mem_drop hq) hqt; omega)) hw)) rfl (fun x175 => ?_)
                    refine OW_wanted rfl rfl rfl ?_
                    refine OW_q (q_move rfl) rfl ?_
                    refine OW_part (t := 176) rfl (fun hg176 => ?_) (fun hg176 => ?_)
                    · skip
                      refine OW_wanted rfl rfl rfl ?_
                      refine OW_q (q_fieldAddr Try.underlying53 rfl rfl Try.sizeOf51 rfl rfl) rfl ?_
                      refine OW_wanted rfl rfl rfl ?_
                      first | (refine OW_q (q_load1_own Try.isAgg51 rfl rfl (by (repeat (first | exact .head | apply Swap.tail))) (by rfl)) rfl ?_) | (refine OW_q (q_load1_ro Try.isAgg51 rfl (by first | assumption | exact Row.at_ (by assumption) rfl)) rfl ?_)
                      refine OW_wanted rfl rfl rfl ?_
                      refine OW_q (q_fieldAddr Try.underlying41 rfl rfl Try.sizeOf3 rfl rfl) rfl ?_
                      refine OW_wanted rfl rfl rfl ?_
                      first | (refine OW_q (q_load1_own Try.isAgg3 rfl rfl (by (repeat (first | exact .head | apply Swap.tail))) (by rfl)) rfl ?_) | (refine OW_q (q_load1_ro Try.isAgg3 rfl (by first | assumption | exact Row.at_ (by assumption) rfl)) rfl ?_)
                      refine OW_wanted rfl rfl rfl ?_
                      refine OW_q (q_indexAddrI Try.underlying51 Try.sizeOf36 rfl rfl (by first | omega | assumption) (by first | omega | assumption)) rfl ?_
                      refine OW_wanted rfl rfl rfl ?_
                      refine OW_q (q_load_t1 Try.isAgg36 (fun _ => rfl) rfl (by repeat (first | exact .head | apply Swap.tail)) rfl hbll rfl) rfl ?_
                      refine OW_wanted rfl rfl rfl ?_
                      refine OW_q (q_move rfl) rfl ?_
                      refine OW_wanted rfl rfl rfl ?_
                      refine OW_q (q_indexAddr Try.underlying36 Try.sizeOf4 rfl rfl (by first | omega | assumption)) rfl ?_
                      refine OW_wanted rfl rfl rfl ?_
                      refine OW_q (q_load_bools Try.isAgg4 rfl ((Hole.tab hbll (row2_get hr1.1 (by omega))).swap _) hco) rfl ?_
                      refine OW_wanted rfl rfl rfl ?_
                      refine OW_q (q_pick_t rfl rfl) rfl ?_
                      refine OW_q (q_pick_f rfl rfl) rfl ?_
                      refine OW_nil ?_
                      refine EW_then ?_
                      refine CW_cond rfl (fun h187 => ?_) (fun h187 => ?_)
                      · skip
                        refine CW_drawS 12 [(0, false), (1, false), (2, false), (3, false), (4, false), (5, false), (6, false), (7, false), (8, false), (9, false), (10, false), (11, false), (12, true)] (by kernel_rfl) (Blind.block (Blind.then (Blind.again (Blind.block (Blind.block (Blind.then (Blind.again (Blind.block (Blind.block (Blind.then (Blind.again (Blind.block (Blind.block (Blind.then (Blind.again (Blind.block (Blind.then (Blind.body (by intro c w h; simp at h))))))))))))))))))) (by kernel_rfl) (fun w hw => hw.drew) ?_
                        refine DW_q rfl (fun w hw => hw.sub (by (repeat (first | exact SubL.nil | exact Pick.head | apply Pick.tail | apply SubL.cons)))) (q_fieldAddr Try.underlying53 rfl rfl Try.sizeOf51 rfl rfl) rfl ?_
                        first | (refine DW_q rfl (fun w hw => hw.sub (by (repeat (first | exact SubL.nil | exact Pick.head | apply Pick.tail | apply SubL.cons)))) (q_load1_own Try.isAgg51 rfl rfl (by (repeat (first | exact .head | apply Swap.tail))) (by rfl)) rfl ?_) | (refine DW_q rfl (fun w hw => hw.sub (by (repeat (first | exact SubL.nil | exact Pick.head | apply Pick.tail | apply SubL.cons)))) (q_load1_ro Try.isAgg51 rfl (by first | assumption | exact Row.at_ (by assumption) rfl)) rfl ?_)
                        refine DW_q rfl (fun w hw => hw.sub (by (repeat (first | exact SubL.nil | exact Pick.head | apply Pick.tail | apply SubL.cons)))) (q_fieldAddr Try.underlying41 rfl rfl Try.sizeOf39 rfl rfl) rfl ?_
                        first | (refine DW_q rfl (fun w hw => hw.sub (by (repeat (first | exact SubL.nil | exact Pick.head | apply Pick.tail | apply SubL.cons)))) (q_load1_own Try.isAgg39 rfl rfl (by (repeat (first | exact .head | apply Swap.tail))) (by rfl)) rfl ?_) | (refine DW_q rfl (fun w hw => hw.sub (by (repeat (first | exact SubL.nil | exact Pick.head | apply Pick.tail | apply SubL.cons)))) (q_load1_ro Try.isAgg39 rfl (by first | assumption | exact Row.at_ (by assumption) rfl)) rfl ?_)
                        refine DW_q rfl (fun w hw => hw.sub (by (repeat (first | exact SubL.nil | exact Pick.head | apply Pick.tail | apply SubL.cons)))) (q_move rfl) rfl ?_
                        refine DW_q rfl (fun w hw => hw.sub (by (repeat (first | exact SubL.nil | exact Pick.head | apply Pick.tail | apply SubL.cons)))) (q_indexAddr Try.underlying39 Try.sizeOf62 rfl rfl (by first | omega | assumption)) rfl ?_
                        refine DW_q rfl (fun w hw => hw.sub (by (repeat (first | exact SubL.nil | exact Pick.head | apply Pick.tail | apply SubL.cons)))) (q_fieldAddr Try.underlying62 rfl rfl Try.sizeOf3 rfl rfl) rfl ?_
                        refine DW_q rfl (fun w hw => hw.sub (by (repeat (first | exact SubL.nil | exact Pick.head | apply Pick.tail | apply SubL.cons)))) (q_load1_ro Try.isAgg3 rfl (by first | assumption | exact Row.at_ (by assumption) rfl)) rfl ?_
                        refine DW_q rfl (fun w hw => hw.sub (by (repeat (first | exact SubL.nil | exact Pick.head | apply Pick.tail | apply SubL.cons)))) (q_indexAddrI Try.underlying51 Try.sizeOf36 rfl rfl (by first | omega | assumption) (by first | omega | assumption)) rfl ?_
                        refine DW_q rfl (fun w hw => hw.sub (by repeat (first | exact SubL.nil | exact Pick.head | apply Pick.tail | apply SubL.cons))) (q_load_t1 Try.isAgg36 (fun _ => rfl) rfl (by repeat (first | exact .head | apply Swap.tail)) rfl hbl rfl) rfl ?_
                        refine DW_q rfl (fun w hw => hw.sub (by (repeat (first | exact SubL.nil | exact Pick.head | apply Pick.tail | apply SubL.cons)))) (q_move rfl) rfl ?_
                        refine DW_q rfl (fun w hw => hw.sub (by (repeat (first | exact SubL.nil | exact Pick.head | apply Pick.tail | apply SubL.cons)))) (q_indexAddr Try.underlying36 Try.sizeOf4 rfl rfl (by first | omega | assumption)) rfl ?_
                        refine DW_z0 rfl (e_store_bools (l := row2 o3 s.n) Try.sizeOf4 rfl rfl ((Hole.tab hbl hrow3).swap _) (by omega)) (fun _ => ?_)
                        refine EW_block_normal ?_
                        refine EW_then ?_
                        refine CW_region ?_
                        refine OW_q (q_move rfl) rfl ?_
                        first | refine OW_q (q_inc rfl rfl (by omega)) rfl ?_ | refine OW_q (q_add rfl rfl (by omega) (by omega)) rfl ?_
                        refine OW_q (q_assign rfl) rfl ?_
                        refine OW_nil ?_
                        refine EW_again ((tu + 1, put2 o3 s.n (tu : Int))) ⟨?_, ?_⟩ ⟨rfl, rfl, rfl, rfl, rfl, rfl, rfl, rfl, rfl, trivial⟩ (fun w hw => by rw [tabL_set hbl] at hw; exact Sat.sub (hw : Sat _ _ (tabA 4 blo (put2 o3 s.n (tu : Int)) :: _) _) (by repeat (first | exact SubL.nil | exact Pick.head | apply Pick.tail | apply SubL.cons)))
                        · show (g.terms + 1).toNat - (tu + 1) < (g.terms + 1).toNat - tu; omega
                        · exact ⟨by show tu + 1 ≤ _; omega, hdo3.put hs1.1 hs1N, os_put hM.1 hoo3 (.fol hmem hsj ht (nullB_sound hns hposd hg176) (hoo3.1 r.left (tu : Int) hr1.1 (Int.natCast_nonneg tu) h187)) hs1.1 (by omega) (Int.natCast_nonneg tu) (by omega), (kof_put hx hsj ht hdo0 hdo3 hr1.1 hlN hs1.1 hs1N hltu hrit).1 (by have h187' : at2 o3 r.left (tu : Int) = true := h187; rw [hg166, hg176, h187']; simp)⟩
                      · skip
                        refine CW_skip ?_
                        refine EW_block_normal ?_
                        refine EW_then ?_
                        refine CW_region ?_
                        refine OW_q (q_move rfl) rfl ?_
                        first | refine OW_q (q_inc rfl rfl (by omega)) rfl ?_ | refine OW_q (q_add rfl rfl (by omega) (by omega)) rfl ?_
                        refine OW_q (q_assign rfl) rfl ?_
                        refine OW_nil ?_
                        refine EW_again ((tu + 1, o3)) ⟨?_, ?_⟩ ⟨rfl, rfl, rfl, rfl, rfl, rfl, rfl, rfl, rfl, trivial⟩ (fun w hw => hw.sub (by (repeat (first | exact SubL.nil | exact Pick.head | apply Pick.tail | apply SubL.cons))))
                        · show (g.terms + 1).toNat - (tu + 1) < (g.terms + 1).toNat - tu; omega
                        · exact ⟨by show tu + 1 ≤ _; omega, hdo3, hoo3, (kof_put hx hsj ht hdo0 hdo3 hr1.1 hlN hs1.1 hs1N hltu hrit).2 (by have h187' : at2 o3 r.left (tu : Int) = false := h187; rw [hg166, hg176, h187']; simp)⟩
                    · skip
                      refine OW_skip rfl rfl rfl rfl ?_
                      refine OW_skip rfl rfl rfl rfl ?_
                      refine OW_skip rfl rfl rfl rfl ?_
                      refine OW_skip rfl rfl rfl rfl ?_
                      refine OW_skip rfl rfl rfl rfl ?_
                      refine OW_skip rfl rfl rfl rfl ?_
                      refine OW_skip rfl rfl rfl rfl ?_
                      refine OW_skip rfl rfl rfl rfl ?_
                      refine OW_skip rfl rfl rfl rfl ?_
                      refine OW_wanted rfl rfl rfl ?_
                      refine OW_q (q_pick_f rfl rfl) rfl ?_
                      refine OW_q (q_pick_f rfl rfl) rfl ?_
                      refine OW_nil ?_
                      refine EW_then ?_
                      refine CW_false rfl rfl ?_
                      refine CW_skip ?_
                      refine EW_block_normal ?_
                      refine EW_then ?_
                      refine CW_region ?_
                      refine OW_q (q_move rfl) rfl ?_
                      first | refine OW_q (q_inc rfl rfl (by omega)) rfl ?_ | refine OW_q (q_add rfl rfl (by omega) (by omega)) rfl ?_
                      refine OW_q (q_assign rfl) rfl ?_
                      refine OW_nil ?_
                      refine EW_again ((tu + 1, o3)) ⟨?_, ?_⟩ ⟨rfl, rfl, rfl, rfl, rfl, rfl, rfl, rfl, rfl, trivial⟩ (fun w hw => hw.sub (by (repeat (first | exact SubL.nil | exact Pick.head | apply Pick.tail | apply SubL.cons))))
                      · show (g.terms + 1).toNat - (tu + 1) < (g.terms + 1).toNat - tu; omega
                      · exact ⟨by show tu + 1 ≤ _; omega, hdo3, hoo3, (kof_put hx hsj ht hdo0 hdo3 hr1.1 hlN hs1.1 hs1N hltu hrit).2 (by rw [hg166, hg176]; simp)⟩
                · skip
                  have htue : ¬ tu < (g.terms + 1).toNat := by have := of_decide_eq_false h159; omega
                  refine CW_exit ?_
                  refine EW_then_exit ?_
                  refine EW_out ?_
                  refine EW_block_exit ?_
                  refine EW_block_normal ?_
                  refine EW_then ?_
                  refine CW_region ?_
                  refine OW_q (q_move rfl) rfl ?_
                  first | refine OW_q (q_inc rfl rfl (by omega)) rfl ?_ | refine OW_q (q_add rfl rfl (by omega) (by omega)) rfl ?_
                  refine OW_q (q_assign rfl) rfl ?_
                  refine OW_nil ?_
                  refine EW_again ((kk + 1, o3)) ⟨?_, ?_⟩ ⟨rfl, rfl, rfl, rfl, rfl, rfl, rfl, trivial⟩ (fun w hw => hw.sub (by (repeat (first | exact SubL.nil | exact Pick.head | apply Pick.tail | apply SubL.cons))))
                  · show r.right.length - (kk + 1) < r.right.length - kk; omega
                  · exact ⟨by show kk + 1 ≤ _; omega, hdo3, hoo3, fun u hu0 hu1 => by have hq := hrit u hu0 hu1; rw [if_pos (by omega)] at hq; exact hq⟩
            · skip
              have hke : ¬ kk < r.right.length := by have := of_decide_eq_false h142; omega
              refine CW_exit ?_
              refine EW_then_exit ?_
              refine EW_out ?_
              refine EW_block_exit ?_
              refine EW_block_normal ?_
              refine EW_then ?_
              refine CW_region ?_
              refine OW_q (q_move rfl) rfl ?_
              first | refine OW_q (q_inc rfl rfl (by omega)) rfl ?_ | refine OW_q (q_add rfl rfl (by omega) (by omega)) rfl ?_
              refine OW_q (q_assign rfl) rfl ?_
              refine OW_nil ?_
              refine EW_again ((qi + 1, o2)) ⟨?_, ?_⟩ ⟨rfl, rfl, rfl, rfl, rfl, trivial⟩ (fun w hw => hw.sub (by (repeat (first | exact SubL.nil | exact Pick.head | apply Pick.tail | apply SubL.cons))))
              · show g.rules.length - (qi + 1) < g.rules.length - qi; omega
              · exact ⟨by show qi + 1 ≤ _; omega, hdo2, hoo2, fun u hu0 hu1 => by have hq := hrik u hu0 hu1; rw [show kk = r.right.length by omega] at hq; show RI _ ((g.rules.take (qi + 1)).flatMap _) _ _; rw [DO_next hx]; exact hq⟩
          · skip
            have hqe : ¬ qi < g.rules.length := by have := of_decide_eq_false h130; omega
            refine CW_exit ?_
            refine EW_then_exit ?_
            refine EW_out ?_
            refine EW_block_exit ?_
            refine EW_block_normal ?_
            refine EW_then ?_
            refine CW_region ?_
            refine OW_q (q_move rfl) rfl ?_
            first | refine OW_q (q_inc rfl rfl (by omega)) rfl ?_ | refine OW_q (q_add rfl rfl (by omega) (by omega)) rfl ?_
            refine OW_q (q_assign rfl) rfl ?_
            refine OW_nil ?_
            refine EW_again ((rr + 1, o1)) ⟨?_, ?_⟩ ⟨rfl, rfl, rfl, rfl, trivial⟩ (fun w hw => hw.sub (by (repeat (first | exact SubL.nil | exact Pick.head | apply Pick.tail | apply SubL.cons))))
            · show g.names.toNat + 1 - (rr + 1) < g.names.toNat + 1 - rr; omega
            · exact ⟨by show rr + 1 ≤ _; omega, hdo1, hoo1, fun u hu0 hu1 => by have hq := hriq u hu0 hu1; rw [List.take_of_length_le (by omega)] at hq; exact RI.round (all := KO g n f u) hq (hclo u hu0 hu1)⟩
        · skip
          have hclO : ∀ u : Int, 0 ≤ u → u ≤ g.terms → ClosedK (KO g n f u) (colL o0 u) := fun u hu0 hu1 => by
            rcases hclo u hu0 hu1 with h | h
            · exact h
            · have := of_decide_eq_false h123; omega
          have ho0N := hdo0.1
          have hoc : OC g n f o0 := oc_of (fun r hr => by have := hall r hr; exact ⟨⟨this.1, by omega⟩, fun s hs ht => by have := this.2.2 s hs ht; omega⟩) hclO
          refine CW_exit ?_
          refine EW_then_exit ?_
          refine EW_out ?_
          refine EW_block_exit ?_
          refine EW_then ?_
          refine CW_seq ?_
          refine CW_region ?_
          first | (refine OW_q (q_loadN_own Try.isAgg53 Try.sizeOf53 rfl rfl (by (repeat (first | exact .head | apply Swap.tail))) (by rfl)) rfl ?_) | (refine OW_q (q_loadN_ro Try.isAgg53 Try.sizeOf53 rfl (by first | assumption | exact Row.at_ (by assumption) rfl) (by rfl)) rfl ?_)
          refine OW_e0 (e_storeN Try.sizeOf53 rfl rfl rfl rfl (by simp [Value.oneCell']) (by (repeat (first | exact .head | apply Swap.tail))) (by rfl)) (fun _ => ?_)
          refine OW_nil ?_
          refine EW_then ?_
          refine CW_ret ?_
          refine retc1a (vs := [.slice (some ⟨b18, 0, none⟩) g.names.toNat g.names.toNat, (.slice (some ⟨bf, 0, none⟩) g.names.toNat cf), (.slice (some ⟨bo, 0, none⟩) g.names.toNat co)]) Try.results28 Try.isAgg53 Try.sizeOf53 rfl rfl (fun w hw j u hj => by rw [Addr.add_lit, hw.cell (b := b2) (A' := ints 0 0 []) (by repeat (first | exact .head | apply Swap.tail))]; simpa using hj) (fun w hw => ?_)
          exact ⟨⟨b18, bf, bo, cf, co, blf, blo, n, f, o0⟩, rfl, ⟨⟨hln, hdf, hdo0, hlf, hlo⟩, ⟨hns, hfs, hoo0⟩, hnc, hfc, hoc⟩, hw.sub (by repeat (first | exact SubL.nil | exact Pick.head | apply Pick.tail | apply SubL.cons))⟩

end Go.Sy
