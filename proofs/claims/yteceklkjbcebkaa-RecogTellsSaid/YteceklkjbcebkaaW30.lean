/- Package recog: a row, read till nothing is added. No condition. -/
import Derived.Test.YteceklkjbcebkaaW29
namespace Go.Sy
open Go Go.RowKit Go.Proofs

def sT (o : Option Sym) : Bool := (o.map (·.term)).getD false
def sN (o : Option Sym) : Int := (o.map (·.n)).getD 0
theorem next_any (bc : Nat) (g : Gram) (a : Option Addr) (c : Nat) (x : Itt) (q : Rule) (w : World) (hc : w.cell? ⟨bc, 2, none⟩ = some (.slice a g.rules.length c)) (hr : RulesAt (Cl w) (.slice a g.rules.length c) g.rules) (hq : g.rules[x.rule]? = some q) : Calls Try.prog 44 #[.pointer (some ⟨bc, 0, none⟩), itV x] w (fun e w' => e = .returned (.tuple #[.agg #[.bool (sT (q.right[x.dot]?)), .int .i64 (sN (q.right[x.dot]?))], .bool (q.right[x.dot]?).isSome]) ∧ Sat (Old w) w [] w') := by
  cases h : q.right[x.dot]? with
  | none => exact next_none bc g a c x q w hc hr hq h
  | some s => exact next_some bc g a c x q w hc hr hq s h

/-- Lists that have grown, at a place and behind it. -/
structure GL (L L' : List (List Itt)) (i : Nat) : Prop where
  pre : ∀ j, rowAt L j <+: rowAt L' j
  same : ∀ j, j ≠ i → j ≠ i + 1 → rowAt L' j = rowAt L j
theorem GL.refl (L : List (List Itt)) (i : Nat) : GL L L i := ⟨fun _ => List.prefix_refl _, fun _ _ _ => rfl⟩
theorem GL.trans {L L' L2 : List (List Itt)} {i : Nat} (h : GL L L' i) (h2 : GL L' L2 i) : GL L L2 i := ⟨fun j => (h.pre j).trans (h2.pre j), fun j h3 h4 => (h2.same j h3 h4).trans (h.same j h3 h4)⟩
theorem GL.of {S S' : List RowS} {i : Nat} (h : Grow S S' i) : GL (Ls S) (Ls S') i := ⟨grow_pre h, fun _ h1 _ => grow_same h h1⟩
theorem GL.of1 {S S' : List RowS} {i : Nat} (h : Grow S S' (i + 1)) : GL (Ls S) (Ls S') i := ⟨grow_pre h, fun _ _ h1 => grow_same h h1⟩
theorem cli_mono {g : Gram} {tk : List Int} {L L' : List (List Itt)} {i : Nat} {x : Itt} (h : ClI g tk L i x) (hp : ∀ j, rowAt L j <+: rowAt L' j) (hf : rowAt L' x.frm = rowAt L x.frm) : ClI g tk L' i x := fun q hq => by
  obtain ⟨h1, h2⟩ := h q hq
  refine ⟨fun hd y hy q2 s e1 e2 e3 e4 => (hp i).subset (h1 hd y (by rw [← hf]; exact hy) q2 s e1 e2 e3 e4), fun s hs => ⟨fun ht k q2 e1 e2 => (hp i).subset ((h2 s hs).1 ht k q2 e1 e2), fun ht e1 => (hp (i + 1)).subset ((h2 s hs).2 ht e1)⟩⟩
/-- One item more is read. -/
theorem row_step {g : Gram} {tk : List Int} {L L' : List (List Itt)} {i n k : Nat} {x : Itt} (hG : GL L L' i) (hn : n ≤ (rowAt L i).length) (hok : ∀ x ∈ rowAt L i, x.frm ≤ i) (hx : (rowAt L i)[k]? = some x) (hP : (rowAt L i).length = n → ∀ j y, j < k → (rowAt L i)[j]? = some y → ClI g tk L i y) (hnew : rowAt L' i = rowAt L i → ClI g tk L' i x) :
    n ≤ (rowAt L' i).length ∧ k + 1 ≤ (rowAt L' i).length ∧ ((rowAt L' i).length = n → ∀ j y, j < k + 1 → (rowAt L' i)[j]? = some y → ClI g tk L' i y) := by
  have hle := (hG.pre i).length_le
  have hlt := (List.getElem?_eq_some_iff.1 hx).1
  refine ⟨by omega, by omega, fun e j y hj hy => ?_⟩
  have heq : rowAt L' i = rowAt L i := ((hG.pre i).eq_of_length (by omega)).symm
  rw [heq] at hy
  by_cases ej : j = k
  · subst ej
    rw [hx] at hy
    cases hy
    exact hnew heq
  · refine cli_mono (hP (by omega) j y (by omega) hy) hG.pre ?_
    have := hok y (List.mem_of_getElem? hy)
    by_cases e2 : y.frm = i
    · rw [e2]; exact heq
    · exact hG.same _ e2 (by omega)
theorem chi_frm {g : Gram} {tk : List Int} {S : List RowS} {i : Nat} {r : RowS} (h : ChI g tk S) (hr : S[i]? = some r) : ∀ x ∈ rowAt (Ls S) i, x.frm ≤ i := fun x hx => by
  rw [rowAt_S hr] at hx
  obtain ⟨_, _, _, h3, _⟩ := (h.rows i r hr).2 x hx
  exact h3
/-- A view is laid over a row. -/
theorem view_ls {S : List RowS} {i : Nat} {r : RowS} (h : S[i]? = some r) : Ls (S.set i ⟨r.m, r.v, r.l, r.v, r.l⟩) = Ls S := by
  unfold Ls
  rw [List.map_set]
  apply List.ext_getElem?
  intro j
  rw [List.getElem?_set]
  split
  · rename_i e
    subst e
    split
    · rw [List.getElem?_map, h]; rfl
    · rename_i h2
      rw [List.getElem?_eq_none (by omega)]
  · rfl
theorem view_v {S : List RowS} {i : Nat} {r : RowS} (h : S[i]? = some r) : (S.set i ⟨r.m, r.v, r.l, r.v, r.l⟩).map (·.v) = S.map (·.v) := by
  rw [List.map_set]
  apply List.ext_getElem?
  intro j
  rw [List.getElem?_set]
  split
  · rename_i e
    subst e
    split
    · rw [List.getElem?_map, h]; rfl
    · rename_i h2
      rw [List.getElem?_eq_none (by omega)]
  · rfl
theorem view_maps {S : List RowS} {i : Nat} {r : RowS} (h : S[i]? = some r) : mapsA (S.set i ⟨r.m, r.v, r.l, r.v, r.l⟩) = mapsA S := by
  unfold mapsA
  rw [List.map_set]
  congr 1
  apply List.ext_getElem?
  intro j
  rw [List.getElem?_set]
  split
  · rename_i e
    subst e
    split
    · rw [List.getElem?_map, h]; rfl
    · rename_i h2
      rw [List.getElem?_eq_none (by omega)]
  · rfl
theorem chi_view {g : Gram} {tk : List Int} {S : List RowS} {i : Nat} {r : RowS} (h : ChI g tk S) (hr : S[i]? = some r) : ChI g tk (S.set i ⟨r.m, r.v, r.l, r.v, r.l⟩) := by
  have hlt := (List.getElem?_eq_some_iff.1 hr).1
  refine ⟨by rw [List.length_set]; exact h.len, fun j r' hj => ?_⟩
  by_cases e : i = j
  · subst e
    rw [List.getElem?_set_self hlt] at hj
    cases hj
    exact h.rows i r hr
  · rw [List.getElem?_set_ne e] at hj
    exact h.rows j r' hj
theorem chi_ok {g : Gram} {tk : List Int} {S : List RowS} {i k : Nat} {r : RowS} {x : Itt} (h : ChI g tk S) (hr : S[i]? = some r) (hx : r.l[k]? = some x) : ItOk g tk x i := (h.rows i r hr).2 x (List.mem_of_getElem? hx)

theorem view_keep {S S' : List RowS} {i f : Nat} {r : RowS} {u : Value} {ys : List Itt} (h : Grow S S' i) (hr : S[f]? = some r) (hu : r.u = u) (hy : r.ys = ys) : ∃ r', S'[f]? = some r' ∧ r'.u = u ∧ r'.ys = ys := by
  by_cases e : f = i
  · subst e
    obtain ⟨r', h1, _, h3, h4, _⟩ := h.here r hr
    exact ⟨r', h1, h3.trans hu, h4.trans hy⟩
  · exact ⟨r, (h.other f e).trans hr, hu, hy⟩

set_option maxRecDepth 20000 in
theorem row_any (g : Gram) (hm : mayB g = true) (tk : List Int) (htk : tk.length ≤ 30) (a : Option Addr) (c bc : Nat) (tkv vs vr : Value) (at_ : Nat) (hat : at_ ≤ tk.length) (S : List RowS) (hI : ChI g tk S) (R : Nat → Prop) (w0 w : World) (F : HP) (hr : RulesAt (Rd R w0) (.slice a g.rules.length c) g.rules) (htkv : IntsAt (Rd R w0) tkv tk) (hw : Sat R w0 ([cel bc 79 [.int .i64 g.terms, .int .i64 g.names, .slice a g.rules.length c, tkv, vs, vr], msA vs (S), hsA vr (S), mapsA (S), rowsA (S)] ++ [F]) w) : Calls Try.prog 43 #[.pointer (some ⟨bc, 0, none⟩), .int .i64 (at_ : Int)] w (fun e w' => ∃ S' : List RowS, e = .returned (.tuple #[]) ∧ (ChI g tk S' ∧ GL (Ls S) (Ls S') at_ ∧ Clo g tk (Ls S') at_) ∧ Sat R w0 ([cel bc 79 [.int .i64 g.terms, .int .i64 g.names, .slice a g.rules.length c, tkv, vs, vr], msA vs (S'), hsA vr (S'), mapsA (S'), rowsA (S')] ++ [F]) w') := by
  obtain ⟨a', c', hv, hc1, hc2, hrs⟩ := id hr
  injection hv with e1 _ e2
  subst e1
  subst e2
  have hM := mayB_true.1 hm
  obtain ⟨ta, tc, rfl, ht1, ht2, hts⟩ := id htkv
  obtain ⟨ar, cr, hvr, hvr1, hvr2, hvr3⟩ := hw.tform (v := vr) (l := S.map (·.v)) (enc := encW) (by repeat (first | exact .head | apply Swap.tail))
  rw [List.length_map, hI.len] at hvr hvr1 hvr3
  obtain ⟨br, rfl⟩ := hvr3 (by omega)
  subst hvr
  refine calls_CW (S := Sat R w0 [cel bc 79 [.int .i64 g.terms, .int .i64 g.names, .slice a g.rules.length c, (.slice ta tk.length tc), vs, (.slice (some ⟨br, 0, none⟩) (tk.length + 2) cr)], msA vs (S), hsA (.slice (some ⟨br, 0, none⟩) (tk.length + 2) cr) (S), mapsA (S), rowsA (S), F]) Try.func43 rfl Try.ntmps43 rfl (hw) ?_
  refine CW_seq ?_
  refine CW_region ?_
  refine OW_q (q_assign rfl) rfl ?_
  refine OW_nil ?_
  refine EW_then ?_
  refine CW_block ?_
  refine CW_loopP (ι := Int × List RowS) (fun i_ => ChI g tk i_.2 ∧ GL (Ls S) (Ls i_.2) at_ ∧ -1 ≤ i_.1 ∧ i_.1 ≤ ((rowAt (Ls i_.2) at_).length : Int) ∧ (i_.1 = ((rowAt (Ls i_.2) at_).length : Int) → Clo g tk (Ls i_.2) at_)) (fun i_ => [(0, .pointer (some ⟨bc, 0, none⟩)), (1, .int .i64 (at_ : Int)), (4, .int .i64 i_.1)]) (fun i_ => Sat R w0 [cel bc 79 [.int .i64 g.terms, .int .i64 g.names, .slice a g.rules.length c, (.slice ta tk.length tc), vs, (.slice (some ⟨br, 0, none⟩) (tk.length + 2) cr)], msA vs (i_.2), hsA (.slice (some ⟨br, 0, none⟩) (tk.length + 2) cr) (i_.2), mapsA (i_.2), rowsA (i_.2), F]) (fun i_ => (11160 - i_.1).toNat) (-1, S) ?_ ⟨rfl, rfl, rfl, trivial⟩ (fun w hw => hw.sub (by (repeat (first | exact SubL.nil | exact Pick.head | apply Pick.tail | apply SubL.cons)))) ?_
  · exact ⟨hI, GL.refl _ _, by show (-1 : Int) ≤ -1; omega, by show (-1 : Int) ≤ _; omega, fun h => by have h' : (-1 : Int) = _ := h; omega⟩
  intro i_ hpre
  obtain ⟨was, S1⟩ := i_
  replace hpre : ChI g tk S1 ∧ GL (Ls S) (Ls S1) at_ ∧ -1 ≤ was ∧ was ≤ ((rowAt (Ls S1) at_).length : Int) ∧ (was = ((rowAt (Ls S1) at_).length : Int) → Clo g tk (Ls S1) at_) := hpre
  change CW _ _ _ _ [(0, .pointer (some ⟨bc, 0, none⟩)), (1, .int .i64 (at_ : Int)), (4, .int .i64 was)] (Sat R w0 [cel bc 79 [.int .i64 g.terms, .int .i64 g.names, .slice a g.rules.length c, (.slice ta tk.length tc), vs, (.slice (some ⟨br, 0, none⟩) (tk.length + 2) cr)], msA vs (S1), hsA (.slice (some ⟨br, 0, none⟩) (tk.length + 2) cr) (S1), mapsA (S1), rowsA (S1), F])
  obtain ⟨hI1, hG1, hw1, hw2, hclo⟩ := hpre
  obtain ⟨r1, hr1⟩ := get_of_lt (l := S1) (k := at_) (by have := hI1.len; omega)
  have hk1 : (S1.map (·.v))[at_]? = some r1.v := by rw [List.getElem?_map, hr1]; rfl
  have hrow1 := rowAt_S hr1
  rw [hrow1] at hw2 hclo
  have hbd1 := chi_bound hm htk hI1 hat hr1
  refine CW_fact (fun w hw => hw.vform (v := r1.v) (l := r1.l) (u := r1.u) (ys := r1.ys) (by repeat (first | exact (Hole.rows hr1).swap _ | apply Swap.tail))) (fun hf => ?_)
  obtain ⟨a1, c1, hv1, hv1a, hv1b, hv1c⟩ := hf
  
  refine CW_seq ?_
  refine CW_seq ?_
  refine CW_region ?_
  refine OW_q (q_move rfl) rfl ?_
  refine OW_q (q_move rfl) rfl ?_
  refine OW_q (q_nilCheck rfl) rfl ?_
  refine OW_q (q_fieldAddr Try.underlying79 rfl rfl Try.sizeOf77 rfl rfl) rfl ?_
  first | (refine OW_q (q_load1_own Try.isAgg77 rfl rfl (by (repeat (first | exact .head | apply Swap.tail))) (by rfl)) rfl ?_) | (refine OW_q (q_load1_ro Try.isAgg77 rfl (by first | assumption | exact Row.at_ (by assumption) rfl)) rfl ?_)
  refine OW_q (q_move rfl) rfl ?_
  refine OW_q (q_indexAddr Try.underlying77 Try.sizeOf103 rfl rfl (by first | omega | assumption)) rfl ?_
  refine OW_q (q_load_t1 (v := (.slice (some ⟨br, 0, none⟩) (tk.length + 2) cr)) (l := S1.map (·.v)) (enc := encW) Try.isAgg103 (fun _ => rfl) rfl (by repeat (first | exact .head | apply Swap.tail)) rfl hk1 (by show [r1.v] = _; rw [hv1])) rfl ?_
  refine OW_q (q_len Try.underlying103 rfl) rfl ?_
  refine OW_q (q_lss rfl rfl) rfl ?_
  refine OW_nil ?_
  refine EW_then ?_
  refine CW_cond rfl (fun h22 => ?_) (fun h22 => ?_)
  · skip
    refine CW_skip ?_
    refine EW_then ?_
    refine CW_block ?_
    refine CW_seq ?_
    refine CW_region ?_
    refine OW_q (q_move rfl) rfl ?_
    refine OW_q (q_nilCheck rfl) rfl ?_
    refine OW_q (q_fieldAddr Try.underlying79 rfl rfl Try.sizeOf77 rfl rfl) rfl ?_
    first | (refine OW_q (q_load1_own Try.isAgg77 rfl rfl (by (repeat (first | exact .head | apply Swap.tail))) (by rfl)) rfl ?_) | (refine OW_q (q_load1_ro Try.isAgg77 rfl (by first | assumption | exact Row.at_ (by assumption) rfl)) rfl ?_)
    refine OW_q (q_move rfl) rfl ?_
    refine OW_q (q_indexAddr Try.underlying77 Try.sizeOf103 rfl rfl (by first | omega | assumption)) rfl ?_
    refine OW_q (q_load_t1 (v := (.slice (some ⟨br, 0, none⟩) (tk.length + 2) cr)) (l := S1.map (·.v)) (enc := encW) Try.isAgg103 (fun _ => rfl) rfl (by repeat (first | exact .head | apply Swap.tail)) rfl hk1 (by show [r1.v] = _; rw [hv1])) rfl ?_
    refine OW_q (q_len Try.underlying103 rfl) rfl ?_
    refine OW_q (q_assign rfl) rfl ?_
    refine OW_nil ?_
    refine EW_then ?_
    refine CW_seq ?_
    refine CW_region ?_
    refine OW_q (q_assign rfl) rfl ?_
    refine OW_nil ?_
    refine EW_then ?_
    refine CW_block ?_
    refine CW_loopP (ι := Nat × List RowS) (fun i_ => ChI g tk i_.2 ∧ GL (Ls S) (Ls i_.2) at_ ∧ r1.l.length ≤ (rowAt (Ls i_.2) at_).length ∧ i_.1 ≤ (rowAt (Ls i_.2) at_).length ∧ ((rowAt (Ls i_.2) at_).length = r1.l.length → ∀ i x, i < i_.1 → (rowAt (Ls i_.2) at_)[i]? = some x → ClI g tk (Ls i_.2) at_ x)) (fun i_ => [(0, .pointer (some ⟨bc, 0, none⟩)), (1, .int .i64 (at_ : Int)), (4, .int .i64 (r1.l.length : Int)), (5, .int .i64 (i_.1 : Int))]) (fun i_ => Sat R w0 [cel bc 79 [.int .i64 g.terms, .int .i64 g.names, .slice a g.rules.length c, (.slice ta tk.length tc), vs, (.slice (some ⟨br, 0, none⟩) (tk.length + 2) cr)], msA vs (i_.2), hsA (.slice (some ⟨br, 0, none⟩) (tk.length + 2) cr) (i_.2), mapsA (i_.2), rowsA (i_.2), F]) (fun i_ => 11161 - i_.1) (0, S1) ?_ ⟨rfl, rfl, rfl, rfl, trivial⟩ (fun w hw => hw.sub (by (repeat (first | exact SubL.nil | exact Pick.head | apply Pick.tail | apply SubL.cons)))) ?_
    · exact ⟨hI1, hG1, by rw [hrow1]; exact Nat.le_refl _, Nat.zero_le _, fun _ i x h => absurd h (Nat.not_lt_zero _)⟩
    intro i_ hpre
    obtain ⟨k, S2⟩ := i_
    replace hpre : ChI g tk S2 ∧ GL (Ls S) (Ls S2) at_ ∧ r1.l.length ≤ (rowAt (Ls S2) at_).length ∧ k ≤ (rowAt (Ls S2) at_).length ∧ ((rowAt (Ls S2) at_).length = r1.l.length → ∀ i x, i < k → (rowAt (Ls S2) at_)[i]? = some x → ClI g tk (Ls S2) at_ x) := hpre
    change CW _ _ _ _ [(0, .pointer (some ⟨bc, 0, none⟩)), (1, .int .i64 (at_ : Int)), (4, .int .i64 (r1.l.length : Int)), (5, .int .i64 (k : Int))] (Sat R w0 [cel bc 79 [.int .i64 g.terms, .int .i64 g.names, .slice a g.rules.length c, (.slice ta tk.length tc), vs, (.slice (some ⟨br, 0, none⟩) (tk.length + 2) cr)], msA vs (S2), hsA (.slice (some ⟨br, 0, none⟩) (tk.length + 2) cr) (S2), mapsA (S2), rowsA (S2), F])
    obtain ⟨hI2, hG2, hn2, hk, hP⟩ := hpre
    obtain ⟨r2, hr2⟩ := get_of_lt (l := S2) (k := at_) (by have := hI2.len; omega)
    have hk2 : (S2.map (·.v))[at_]? = some r2.v := by rw [List.getElem?_map, hr2]; rfl
    have hrow2 := rowAt_S hr2
    have hbd2 := chi_bound hm htk hI2 hat hr2
    refine CW_fact (fun w hw => hw.vform (v := r2.v) (l := r2.l) (u := r2.u) (ys := r2.ys) (by repeat (first | exact (Hole.rows hr2).swap _ | apply Swap.tail))) (fun hf => ?_)
    obtain ⟨a2, c2, hv2, hv2a, hv2b, hv2c⟩ := hf
    
    refine CW_seq ?_
    refine CW_seq ?_
    refine CW_region ?_
    refine OW_q (q_move rfl) rfl ?_
    refine OW_q (q_move rfl) rfl ?_
    refine OW_q (q_nilCheck rfl) rfl ?_
    refine OW_q (q_fieldAddr Try.underlying79 rfl rfl Try.sizeOf77 rfl rfl) rfl ?_
    first | (refine OW_q (q_load1_own Try.isAgg77 rfl rfl (by (repeat (first | exact .head | apply Swap.tail))) (by rfl)) rfl ?_) | (refine OW_q (q_load1_ro Try.isAgg77 rfl (by first | assumption | exact Row.at_ (by assumption) rfl)) rfl ?_)
    refine OW_q (q_move rfl) rfl ?_
    refine OW_q (q_indexAddr Try.underlying77 Try.sizeOf103 rfl rfl (by first | omega | assumption)) rfl ?_
    refine OW_q (q_load_t1 (v := (.slice (some ⟨br, 0, none⟩) (tk.length + 2) cr)) (l := S2.map (·.v)) (enc := encW) Try.isAgg103 (fun _ => rfl) rfl (by repeat (first | exact .head | apply Swap.tail)) rfl hk2 (by show [r2.v] = _; rw [hv2])) rfl ?_
    refine OW_q (q_len Try.underlying103 rfl) rfl ?_
    refine OW_q (q_lss rfl rfl) rfl ?_
    refine OW_nil ?_
    refine EW_then ?_
    refine CW_cond rfl (fun h40 => ?_) (fun h40 => ?_)
    · skip
      have hltk : k < r2.l.length := by have := of_decide_eq_true h40; omega
      obtain ⟨x, hxk⟩ := get_of_lt hltk
      obtain ⟨b2, rfl⟩ := hv2c (by omega)
      have hokx := chi_ok hI2 hr2 hxk
      obtain ⟨q, hq, hxd, hxf, hxy⟩ := id hokx
      have hqr := (List.getElem?_eq_some_iff.1 hq).1
      have hdot8 := (may_rule hm hq).2.2
      obtain ⟨p, rfl, rvq, hsyq, hrowq⟩ := hrs x.rule q hq
      have hrowq' : Row (Rd R w0) (p.add ((x.rule : Int).toNat * 2)) [.int .i64 q.left, rvq] := hrowq
      refine CW_skip ?_
      refine EW_then ?_
      refine CW_seq ?_
      refine CW_block ?_
      refine CW_seq ?_
      refine CW_region ?_
      refine OW_q (q_move rfl) rfl ?_
      refine OW_q (q_nilCheck rfl) rfl ?_
      refine OW_q (q_fieldAddr Try.underlying79 rfl rfl Try.sizeOf77 rfl rfl) rfl ?_
      first | (refine OW_q (q_load1_own Try.isAgg77 rfl rfl (by (repeat (first | exact .head | apply Swap.tail))) (by rfl)) rfl ?_) | (refine OW_q (q_load1_ro Try.isAgg77 rfl (by first | assumption | exact Row.at_ (by assumption) rfl)) rfl ?_)
      refine OW_q (q_move rfl) rfl ?_
      refine OW_q (q_indexAddr Try.underlying77 Try.sizeOf103 rfl rfl (by first | omega | assumption)) rfl ?_
      refine OW_q (q_load_t1 (v := (.slice (some ⟨br, 0, none⟩) (tk.length + 2) cr)) (l := S2.map (·.v)) (enc := encW) Try.isAgg103 (fun _ => rfl) rfl (by repeat (first | exact .head | apply Swap.tail)) rfl hk2 (by show [r2.v] = _; rw [hv2])) rfl ?_
      refine OW_q (q_move rfl) rfl ?_
      refine OW_q (q_indexAddr Try.underlying103 Try.sizeOf84 rfl rfl (by first | omega | assumption)) rfl ?_
      refine OW_q (q_loadN Try.isAgg84 Try.sizeOf84 rfl (vs := encI x) rfl (fun w hw => hw.vget (v := r2.v) (l := r2.l) (u := r2.u) (ys := r2.ys) (by repeat (first | exact (Hole.rows hr2).swap _ | apply Swap.tail)) hv2 hxk)) rfl ?_
      refine OW_e (e_alloc Try.zeroValue84 rfl) rfl (fun b6 => ?_)
      refine OW_e0 (e_storeN Try.sizeOf84 rfl rfl rfl rfl (by simp [Value.oneCell']) (by (repeat (first | exact .head | apply Swap.tail))) (by rfl)) (fun _ => ?_)
      refine OW_nil ?_
      refine EW_then ?_
      refine CW_seq ?_
      refine CW_region ?_
      refine OW_q (q_move rfl) rfl ?_
      first | (refine OW_q (q_loadN_own Try.isAgg84 Try.sizeOf84 rfl rfl (by (repeat (first | exact .head | apply Swap.tail))) (by rfl)) rfl ?_) | (refine OW_q (q_loadN_ro Try.isAgg84 Try.sizeOf84 rfl (by first | assumption | exact Row.at_ (by assumption) rfl) (by rfl)) rfl ?_)
      refine OW_e (e_call Try.call44 rfl (fun w hw => lift_ro (next_any bc g _ c x q w (by rw [hw.cell (b := bc) (off := 2) (A' := emp0A) (by repeat (first | exact .head | apply Swap.tail))]; rfl) (hr.mono hw.rd_cl) hq) hw)) rfl (fun x56 => ?_)
      refine OW_q (q_move rfl) rfl ?_
      refine OW_q (q_extract rfl rfl) rfl ?_
      refine OW_q (q_extract rfl rfl) rfl ?_
      refine OW_e (e_alloc Try.zeroValue62 rfl) rfl (fun b7 => ?_)
      refine OW_e0 (e_storeN Try.sizeOf62 rfl rfl rfl rfl (by simp [Value.oneCell']) (by (repeat (first | exact .head | apply Swap.tail))) (by rfl)) (fun _ => ?_)
      refine OW_q (q_assign rfl) rfl ?_
      refine OW_nil ?_
      refine EW_then ?_
      refine CW_block ?_
      refine CW_seq ?_
      refine CW_region ?_
      refine OW_q (q_move rfl) rfl ?_
      refine OW_q (q_not rfl) rfl ?_
      refine OW_q (q_assign rfl) rfl ?_
      refine OW_nil ?_
      refine EW_then ?_
      refine CW_cond rfl (fun h59 => ?_) (fun h59 => ?_)
      · skip
        have hox : q.right[x.dot]? = none := by
          cases ho : q.right[x.dot]? with
          | none => rfl
          | some s => rw [ho] at h59; cases h59
        obtain ⟨rf, hrf⟩ := get_of_lt (l := S2) (k := x.frm) (by have := hI2.len; omega)
        have hkf : (S2.map (·.v))[(x.frm : Int).toNat]? = some rf.v := by rw [List.getElem?_map, show (x.frm : Int).toNat = x.frm from rfl, hrf]; rfl
        refine CW_fact (fun w hw => hw.vform (v := rf.v) (l := rf.l) (u := rf.u) (ys := rf.ys) (by repeat (first | exact (Hole.rows hrf).swap _ | apply Swap.tail))) (fun hf => ?_)
        obtain ⟨af, cf, hvf, hvfa, hvfb, hvfc⟩ := hf
        
        refine CW_seq ?_
        refine CW_drawS 10 [(0, false), (1, false), (2, false), (3, false), (4, false), (5, false), (6, false), (7, false), (8, false), (9, false)] (by kernel_rfl) (Blind.then (Blind.block (Blind.block (Blind.then (Blind.again (Blind.block (Blind.block (Blind.again (Blind.block Blind.bodyP))))))))) (by kernel_rfl) (fun w hw => hw.drew) ?_
        refine DW_q rfl (fun w hw => hw.sub (by (repeat (first | exact SubL.nil | exact Pick.head | apply Pick.tail | apply SubL.cons)))) (q_move rfl) rfl ?_
        refine DW_q rfl (fun w hw => hw.sub (by (repeat (first | exact SubL.nil | exact Pick.head | apply Pick.tail | apply SubL.cons)))) (q_nilCheck rfl) rfl ?_
        refine DW_q rfl (fun w hw => hw.sub (by (repeat (first | exact SubL.nil | exact Pick.head | apply Pick.tail | apply SubL.cons)))) (q_fieldAddr Try.underlying79 rfl rfl Try.sizeOf77 rfl rfl) rfl ?_
        first | (refine DW_q rfl (fun w hw => hw.sub (by (repeat (first | exact SubL.nil | exact Pick.head | apply Pick.tail | apply SubL.cons)))) (q_load1_own Try.isAgg77 rfl rfl (by (repeat (first | exact .head | apply Swap.tail))) (by rfl)) rfl ?_) | (refine DW_q rfl (fun w hw => hw.sub (by (repeat (first | exact SubL.nil | exact Pick.head | apply Pick.tail | apply SubL.cons)))) (q_load1_ro Try.isAgg77 rfl (by first | assumption | exact Row.at_ (by assumption) rfl)) rfl ?_)
        refine DW_q rfl (fun w hw => hw.sub (by (repeat (first | exact SubL.nil | exact Pick.head | apply Pick.tail | apply SubL.cons)))) (q_fieldAddr Try.underlying84 rfl rfl Try.sizeOf3 rfl rfl) rfl ?_
        first | (refine DW_q rfl (fun w hw => hw.sub (by (repeat (first | exact SubL.nil | exact Pick.head | apply Pick.tail | apply SubL.cons)))) (q_load1_own Try.isAgg3 rfl rfl (by (repeat (first | exact .head | apply Swap.tail))) (by rfl)) rfl ?_) | (refine DW_q rfl (fun w hw => hw.sub (by (repeat (first | exact SubL.nil | exact Pick.head | apply Pick.tail | apply SubL.cons)))) (q_load1_ro Try.isAgg3 rfl (by first | assumption | exact Row.at_ (by assumption) rfl)) rfl ?_)
        refine DW_q rfl (fun w hw => hw.sub (by (repeat (first | exact SubL.nil | exact Pick.head | apply Pick.tail | apply SubL.cons)))) (q_indexAddrI Try.underlying77 Try.sizeOf103 rfl rfl (by first | omega | assumption) (by first | omega | assumption)) rfl ?_
        refine DW_q rfl (fun w hw => hw.sub (by repeat (first | exact SubL.nil | exact Pick.head | apply Pick.tail | apply SubL.cons))) (q_load_t1 (v := (.slice (some ⟨br, 0, none⟩) (tk.length + 2) cr)) (l := S2.map (·.v)) (enc := encW) Try.isAgg103 (fun _ => rfl) rfl (by repeat (first | exact .head | apply Swap.tail)) rfl hkf (by show [rf.v] = _; rw [hvf])) rfl ?_
        refine DW_q rfl (fun w hw => hw.sub (by (repeat (first | exact SubL.nil | exact Pick.head | apply Pick.tail | apply SubL.cons)))) (q_len Try.underlying103 rfl) rfl ?_
        refine DW_q rfl (fun w hw => hw.sub (by (repeat (first | exact SubL.nil | exact Pick.head | apply Pick.tail | apply SubL.cons)))) (q_move rfl) rfl ?_
        refine DW_nil ?_
        refine EW_then ?_
        refine CW_block ?_
        refine CW_weak (S' := Sat R w0 [cel b6 84 (encI x), cel b7 62 [.bool (sT (q.right[x.dot]?)), .int .i64 (sN (q.right[x.dot]?))], cel bc 79 [.int .i64 g.terms, .int .i64 g.names, .slice (some p) g.rules.length c, (.slice ta tk.length tc), vs, (.slice (some ⟨br, 0, none⟩) (tk.length + 2) cr)], msA vs (S2.set x.frm ⟨rf.m, rf.v, rf.l, rf.v, rf.l⟩), hsA (.slice (some ⟨br, 0, none⟩) (tk.length + 2) cr) (S2.set x.frm ⟨rf.m, rf.v, rf.l, rf.v, rf.l⟩), mapsA (S2.set x.frm ⟨rf.m, rf.v, rf.l, rf.v, rf.l⟩), rowsA (S2.set x.frm ⟨rf.m, rf.v, rf.l, rf.v, rf.l⟩), F]) (fun w hw => by
          have h1 := hw.lookV (v := rf.v) (l := rf.l) (u := rf.u) (ys := rf.ys) (by repeat (first | exact (Hole.rows hrf).swap _ | apply Swap.tail))
          rw [rows_set S2 x.frm ⟨rf.m, rf.v, rf.l, rf.v, rf.l⟩] at h1
          show Sat R w0 [_, _, _, trow _ 1 encM _ _, trow _ 1 encW _ _, mapsA _, rowsA _, F] w
          rw [view_v hrf, view_maps hrf, set_same_m (r' := ⟨rf.m, rf.v, rf.l, rf.v, rf.l⟩) hrf rfl]
          exact h1.sub (by repeat (first | exact SubL.nil | exact Pick.head | apply Pick.tail | apply SubL.cons))) ?_
        refine CW_loopP (ι := Nat × List RowS) (fun i_ => i_.1 ≤ rf.l.length ∧ ChI g tk i_.2 ∧ GL (Ls S2) (Ls i_.2) at_ ∧ (∃ r3, i_.2[x.frm]? = some r3 ∧ r3.u = .slice af rf.l.length cf ∧ r3.ys = rf.l) ∧ (∀ y, y ∈ (rf.l.take i_.1) → ∀ q2 s, g.rules[y.rule]? = some q2 → q2.right[y.dot]? = some s → s.term = false → s.n = q.left → (⟨y.rule, y.dot + 1, y.frm⟩ : Itt) ∈ rowAt (Ls i_.2) at_)) (fun i_ => [(0, .pointer (some ⟨bc, 0, none⟩)), (1, .int .i64 (at_ : Int)), (4, .int .i64 (r1.l.length : Int)), (5, .int .i64 (k : Int)), (6, .pointer (some ⟨b6, 0, none⟩)), (69, .slice af rf.l.length cf), (70, .int .i64 (rf.l.length : Int)), (71, .int .i64 (i_.1 : Int))]) (fun i_ => Sat R w0 [cel b6 84 (encI x), cel bc 79 [.int .i64 g.terms, .int .i64 g.names, .slice (some p) g.rules.length c, (.slice ta tk.length tc), vs, (.slice (some ⟨br, 0, none⟩) (tk.length + 2) cr)], msA vs (i_.2), hsA (.slice (some ⟨br, 0, none⟩) (tk.length + 2) cr) (i_.2), mapsA (i_.2), rowsA (i_.2), F]) (fun i_ => rf.l.length - i_.1) (0, S2.set x.frm ⟨rf.m, rf.v, rf.l, rf.v, rf.l⟩) ?_ ⟨rfl, rfl, rfl, rfl, rfl, rfl, rfl, rfl, trivial⟩ (fun w hw => hw.sub (by (repeat (first | exact SubL.nil | exact Pick.head | apply Pick.tail | apply SubL.cons)))) ?_
        · exact ⟨Nat.zero_le _, chi_view hI2 hrf, by show GL _ (Ls (S2.set _ _)) _; rw [view_ls hrf]; exact GL.refl _ _, ⟨_, List.getElem?_set_self (by have := hI2.len; omega), hvf, rfl⟩, fun y hy => by simp at hy⟩
        intro i_ hpre
        obtain ⟨j, S3⟩ := i_
        replace hpre : j ≤ rf.l.length ∧ ChI g tk S3 ∧ GL (Ls S2) (Ls S3) at_ ∧ (∃ r3, S3[x.frm]? = some r3 ∧ r3.u = .slice af rf.l.length cf ∧ r3.ys = rf.l) ∧ (∀ y, y ∈ (rf.l.take j) → ∀ q2 s, g.rules[y.rule]? = some q2 → q2.right[y.dot]? = some s → s.term = false → s.n = q.left → (⟨y.rule, y.dot + 1, y.frm⟩ : Itt) ∈ rowAt (Ls S3) at_) := hpre
        change CW _ _ _ _ [(0, .pointer (some ⟨bc, 0, none⟩)), (1, .int .i64 (at_ : Int)), (4, .int .i64 (r1.l.length : Int)), (5, .int .i64 (k : Int)), (6, .pointer (some ⟨b6, 0, none⟩)), (69, .slice af rf.l.length cf), (70, .int .i64 (rf.l.length : Int)), (71, .int .i64 (j : Int))] (Sat R w0 [cel b6 84 (encI x), cel bc 79 [.int .i64 g.terms, .int .i64 g.names, .slice (some p) g.rules.length c, (.slice ta tk.length tc), vs, (.slice (some ⟨br, 0, none⟩) (tk.length + 2) cr)], msA vs (S3), hsA (.slice (some ⟨br, 0, none⟩) (tk.length + 2) cr) (S3), mapsA (S3), rowsA (S3), F])
        obtain ⟨hj, hI3, hG3, ⟨r3, hr3, hu3, hys3⟩, hpair⟩ := hpre
        refine CW_seq ?_
        refine CW_region ?_
        refine OW_q (q_lss rfl rfl) rfl ?_
        refine OW_nil ?_
        refine EW_then ?_
        refine CW_seq ?_
        refine CW_cond rfl (fun h72 => ?_) (fun h72 => ?_)
        · skip
          have hltj : j < rf.l.length := by have := of_decide_eq_true h72; omega
          obtain ⟨y, hyj⟩ := get_of_lt hltj
          obtain ⟨bf, rfl⟩ := hvfc (by omega)
          have hoky := chi_ok hI2 hrf hyj
          obtain ⟨q2, hq2, hyd, hyfr, hyy⟩ := id hoky
          have hdot82 := (may_rule hm hq2).2.2
          refine CW_skip ?_
          refine EW_then ?_
          refine CW_seq ?_
          refine CW_block ?_
          refine CW_seq ?_
          refine CW_region ?_
          refine OW_q (q_indexAddr Try.underlying103 Try.sizeOf84 rfl rfl (by first | omega | assumption)) rfl ?_
          refine OW_q (q_loadN Try.isAgg84 Try.sizeOf84 rfl (vs := encI y) rfl (fun w hw => hw.uget (v := r3.v) (l := r3.l) (u := r3.u) (ys := r3.ys) (by repeat (first | exact (Hole.rows hr3).swap _ | apply Swap.tail)) hu3 (by rw [hys3]; exact hyj))) rfl ?_
          refine OW_e (e_alloc Try.zeroValue84 rfl) rfl (fun b10 => ?_)
          refine OW_e0 (e_storeN Try.sizeOf84 rfl rfl rfl rfl (by simp [Value.oneCell']) (by (repeat (first | exact .head | apply Swap.tail))) (by rfl)) (fun _ => ?_)
          refine OW_nil ?_
          refine EW_then ?_
          refine CW_seq ?_
          refine CW_region ?_
          refine OW_q (q_move rfl) rfl ?_
          first | (refine OW_q (q_loadN_own Try.isAgg84 Try.sizeOf84 rfl rfl (by (repeat (first | exact .head | apply Swap.tail))) (by rfl)) rfl ?_) | (refine OW_q (q_loadN_ro Try.isAgg84 Try.sizeOf84 rfl (by first | assumption | exact Row.at_ (by assumption) rfl) (by rfl)) rfl ?_)
          refine OW_e (e_call Try.call44 rfl (fun w hw => lift_ro (next_any bc g _ c y q2 w (by rw [hw.cell (b := bc) (off := 2) (A' := emp0A) (by repeat (first | exact .head | apply Swap.tail))]; rfl) (hr.mono hw.rd_cl) hq2) hw)) rfl (fun x78 => ?_)
          refine OW_q (q_move rfl) rfl ?_
          refine OW_q (q_extract rfl rfl) rfl ?_
          refine OW_q (q_extract rfl rfl) rfl ?_
          refine OW_e (e_alloc Try.zeroValue62 rfl) rfl (fun b11 => ?_)
          refine OW_e0 (e_storeN Try.sizeOf62 rfl rfl rfl rfl (by simp [Value.oneCell']) (by (repeat (first | exact .head | apply Swap.tail))) (by rfl)) (fun _ => ?_)
          refine OW_q (q_assign rfl) rfl ?_
          refine OW_nil ?_
          refine EW_then ?_
          refine CW_seq ?_
          refine CW_drawS 21 [(0, false), (1, false), (2, false), (3, false), (4, false), (5, false), (6, false), (7, false), (8, false), (9, false), (10, false), (11, false), (12, false), (13, false), (14, false), (15, false), (16, false), (17, false), (18, false), (19, false), (20, false)] (by kernel_rfl) (Blind.then (Blind.block (Blind.then (Blind.again (Blind.block (Blind.block (Blind.block (Blind.then (Blind.again (Blind.block (Blind.block (Blind.again (Blind.block Blind.bodyP))))))))))))) (by kernel_rfl) (fun w hw => hw.drew) ?_
          refine DW_q rfl (fun w hw => hw.sub (by (repeat (first | exact SubL.nil | exact Pick.head | apply Pick.tail | apply SubL.cons)))) (q_move rfl) rfl ?_
          refine DW_q rfl (fun w hw => hw.sub (by (repeat (first | exact SubL.nil | exact Pick.head | apply Pick.tail | apply SubL.cons)))) (q_move rfl) rfl ?_
          refine DW_part (t := 82) rfl (fun hg82 => ?_) (fun hg82 => ?_)
          · skip
            refine DW_qg rfl (fun w hw => hw.sub (by (repeat (first | exact SubL.nil | exact Pick.head | apply Pick.tail | apply SubL.cons)))) rfl rfl rfl (q_fieldAddr Try.underlying62 rfl rfl Try.sizeOf4 rfl rfl) rfl ?_
            first | (refine DW_qg rfl (fun w hw => hw.sub (by (repeat (first | exact SubL.nil | exact Pick.head | apply Pick.tail | apply SubL.cons)))) rfl rfl rfl (q_load1_own Try.isAgg4 rfl rfl (by (repeat (first | exact .head | apply Swap.tail))) (by rfl)) rfl ?_) | (refine DW_qg rfl (fun w hw => hw.sub (by (repeat (first | exact SubL.nil | exact Pick.head | apply Pick.tail | apply SubL.cons)))) rfl rfl rfl (q_load1_ro Try.isAgg4 rfl (by first | assumption | exact Row.at_ (by assumption) rfl)) rfl ?_)
            refine DW_qg rfl (fun w hw => hw.sub (by (repeat (first | exact SubL.nil | exact Pick.head | apply Pick.tail | apply SubL.cons)))) rfl rfl rfl (q_not rfl) rfl ?_
            refine DW_q rfl (fun w hw => hw.sub (by (repeat (first | exact SubL.nil | exact Pick.head | apply Pick.tail | apply SubL.cons)))) (q_pick_t rfl rfl) rfl ?_
            refine DW_q rfl (fun w hw => hw.sub (by (repeat (first | exact SubL.nil | exact Pick.head | apply Pick.tail | apply SubL.cons)))) (q_move rfl) rfl ?_
            refine DW_part (t := 87) rfl (fun hg87 => ?_) (fun hg87 => ?_)
            · skip
              refine DW_qg rfl (fun w hw => hw.sub (by (repeat (first | exact SubL.nil | exact Pick.head | apply Pick.tail | apply SubL.cons)))) rfl rfl rfl (q_fieldAddr Try.underlying62 rfl rfl Try.sizeOf3 rfl rfl) rfl ?_
              first | (refine DW_qg rfl (fun w hw => hw.sub (by (repeat (first | exact SubL.nil | exact Pick.head | apply Pick.tail | apply SubL.cons)))) rfl rfl rfl (q_load1_own Try.isAgg3 rfl rfl (by (repeat (first | exact .head | apply Swap.tail))) (by rfl)) rfl ?_) | (refine DW_qg rfl (fun w hw => hw.sub (by (repeat (first | exact SubL.nil | exact Pick.head | apply Pick.tail | apply SubL.cons)))) rfl rfl rfl (q_load1_ro Try.isAgg3 rfl (by first | assumption | exact Row.at_ (by assumption) rfl)) rfl ?_)
              refine DW_qg rfl (fun w hw => hw.sub (by (repeat (first | exact SubL.nil | exact Pick.head | apply Pick.tail | apply SubL.cons)))) rfl rfl rfl (q_move rfl) rfl ?_
              refine DW_qg rfl (fun w hw => hw.sub (by (repeat (first | exact SubL.nil | exact Pick.head | apply Pick.tail | apply SubL.cons)))) rfl rfl rfl (q_nilCheck rfl) rfl ?_
              refine DW_qg rfl (fun w hw => hw.sub (by (repeat (first | exact SubL.nil | exact Pick.head | apply Pick.tail | apply SubL.cons)))) rfl rfl rfl (q_fieldAddr Try.underlying79 rfl rfl Try.sizeOf24 rfl rfl) rfl ?_
              refine DW_qg rfl (fun w hw => hw.sub (by (repeat (first | exact SubL.nil | exact Pick.head | apply Pick.tail | apply SubL.cons)))) rfl rfl rfl (q_fieldAddr Try.underlying24 rfl rfl Try.sizeOf22 rfl rfl) rfl ?_
              first | (refine DW_qg rfl (fun w hw => hw.sub (by (repeat (first | exact SubL.nil | exact Pick.head | apply Pick.tail | apply SubL.cons)))) rfl rfl rfl (q_load1_own Try.isAgg22 rfl rfl (by (repeat (first | exact .head | apply Swap.tail))) (by rfl)) rfl ?_) | (refine DW_qg rfl (fun w hw => hw.sub (by (repeat (first | exact SubL.nil | exact Pick.head | apply Pick.tail | apply SubL.cons)))) rfl rfl rfl (q_load1_ro Try.isAgg22 rfl (by first | assumption | exact Row.at_ (by assumption) rfl)) rfl ?_)
              refine DW_qg rfl (fun w hw => hw.sub (by (repeat (first | exact SubL.nil | exact Pick.head | apply Pick.tail | apply SubL.cons)))) rfl rfl rfl (q_fieldAddr Try.underlying84 rfl rfl Try.sizeOf3 rfl rfl) rfl ?_
              first | (refine DW_qg rfl (fun w hw => hw.sub (by (repeat (first | exact SubL.nil | exact Pick.head | apply Pick.tail | apply SubL.cons)))) rfl rfl rfl (q_load1_own Try.isAgg3 rfl rfl (by (repeat (first | exact .head | apply Swap.tail))) (by rfl)) rfl ?_) | (refine DW_qg rfl (fun w hw => hw.sub (by (repeat (first | exact SubL.nil | exact Pick.head | apply Pick.tail | apply SubL.cons)))) rfl rfl rfl (q_load1_ro Try.isAgg3 rfl (by first | assumption | exact Row.at_ (by assumption) rfl)) rfl ?_)
              refine DW_qg rfl (fun w hw => hw.sub (by (repeat (first | exact SubL.nil | exact Pick.head | apply Pick.tail | apply SubL.cons)))) rfl rfl rfl (q_indexAddrI Try.underlying22 Try.sizeOf41 rfl rfl (by first | omega | assumption) (by first | omega | assumption)) rfl ?_
              refine DW_qg rfl (fun w hw => hw.sub (by (repeat (first | exact SubL.nil | exact Pick.head | apply Pick.tail | apply SubL.cons)))) rfl rfl rfl (q_fieldAddr Try.underlying41 rfl rfl Try.sizeOf3 rfl rfl) rfl ?_
              refine DW_qg rfl (fun w hw => hw.sub (by (repeat (first | exact SubL.nil | exact Pick.head | apply Pick.tail | apply SubL.cons)))) rfl rfl rfl (q_load1_ro Try.isAgg3 rfl (by first | exact Row.at0 hrowq')) rfl ?_
              refine DW_qg rfl (fun w hw => hw.sub (by (repeat (first | exact SubL.nil | exact Pick.head | apply Pick.tail | apply SubL.cons)))) rfl rfl rfl (q_eqi rfl rfl) rfl ?_
              refine DW_q rfl (fun w hw => hw.sub (by (repeat (first | exact SubL.nil | exact Pick.head | apply Pick.tail | apply SubL.cons)))) (q_pick_t rfl rfl) rfl ?_
              refine DW_nil ?_
              refine EW_then ?_
              refine CW_cond rfl (fun h101 => ?_) (fun h101 => ?_)
              · skip
                have hq2s : ∃ s2, q2.right[y.dot]? = some s2 := by
                  cases ho : q2.right[y.dot]? with
                  | none => rw [ho] at hg82; cases hg82
                  | some s2 => exact ⟨s2, rfl⟩
                obtain ⟨s2, hs2⟩ := hq2s
                have hok3 : ItOk g tk ⟨y.rule, y.dot + 1, y.frm⟩ at_ := ok_comp hokx hq hox hoky hq2 hs2 (by rw [hs2] at hg87; simpa [sT] using hg87) (by rw [hs2] at h101; simpa [sN] using h101)
                refine CW_region ?_
                refine OW_q (q_move rfl) rfl ?_
                refine OW_q (q_move rfl) rfl ?_
                refine OW_q (q_fieldAddr Try.underlying84 rfl rfl Try.sizeOf3 rfl rfl) rfl ?_
                first | (refine OW_q (q_load1_own Try.isAgg3 rfl rfl (by (repeat (first | exact .head | apply Swap.tail))) (by rfl)) rfl ?_) | (refine OW_q (q_load1_ro Try.isAgg3 rfl (by first | assumption | exact Row.at_ (by assumption) rfl)) rfl ?_)
                refine OW_q (q_fieldAddr Try.underlying84 rfl rfl Try.sizeOf3 rfl rfl) rfl ?_
                first | (refine OW_q (q_load1_own Try.isAgg3 rfl rfl (by (repeat (first | exact .head | apply Swap.tail))) (by rfl)) rfl ?_) | (refine OW_q (q_load1_ro Try.isAgg3 rfl (by first | assumption | exact Row.at_ (by assumption) rfl)) rfl ?_)
                first | refine OW_q (q_inc rfl rfl (by omega)) rfl ?_ | refine OW_q (q_add rfl rfl (by omega) (by omega)) rfl ?_
                refine OW_q (q_fieldAddr Try.underlying84 rfl rfl Try.sizeOf3 rfl rfl) rfl ?_
                first | (refine OW_q (q_load1_own Try.isAgg3 rfl rfl (by (repeat (first | exact .head | apply Swap.tail))) (by rfl)) rfl ?_) | (refine OW_q (q_load1_ro Try.isAgg3 rfl (by first | assumption | exact Row.at_ (by assumption) rfl)) rfl ?_)
                refine OW_q (q_build (ps := #[(0, .int .i64 (y.rule : Int)), (1, .int .i64 ((y.dot + 1 : Nat) : Int)), (2, .int .i64 (y.frm : Int))]) (v := .agg #[.int .i64 (y.rule : Int), .int .i64 ((y.dot + 1 : Nat) : Int), .int .i64 (y.frm : Int)]) rfl (fun w => by kernel_rfl)) rfl ?_
                refine OW_e (e_call Try.call59 rfl (fun w hw => lift_mutL (M0 := [cel bc 79 [.int .i64 g.terms, .int .i64 g.names, .slice (some p) g.rules.length c, (.slice ta tk.length tc), vs, (.slice (some ⟨br, 0, none⟩) (tk.length + 2) cr)], msA vs (S3), hsA (.slice (some ⟨br, 0, none⟩) (tk.length + 2) cr) (S3), mapsA (S3), rowsA (S3)]) (L1 := [cel b6 84 (encI x), F]) (hw.sub (by repeat (first | exact SubL.nil | exact Pick.head | apply Pick.tail | apply SubL.cons))) (fun F2 hF => add_any g hm tk htk _ c bc (.slice ta tk.length tc) vs (.slice (some ⟨br, 0, none⟩) (tk.length + 2) cr) at_ hat ⟨y.rule, y.dot + 1, y.frm⟩ S3 hI3 hok3 R w0 w F2 hF))) rfl (fun x112 => ?_)
                refine OW_pure fun hx112 => ?_
                refine OW_nil ?_
                refine EW_block_normal ?_
                refine EW_then ?_
                refine CW_region ?_
                first | refine OW_q (q_inc rfl rfl (by omega)) rfl ?_ | refine OW_q (q_add rfl rfl (by omega) (by omega)) rfl ?_
                refine OW_q (q_move rfl) rfl ?_
                refine OW_nil ?_
                refine EW_again ((j + 1, x112)) ⟨?_, ?_⟩ ⟨rfl, rfl, rfl, rfl, rfl, rfl, rfl, rfl, trivial⟩ (fun w hw => hw.sub (by (repeat (first | exact SubL.nil | exact Pick.head | apply Pick.tail | apply SubL.cons))))
                · show rf.l.length - (j + 1) < rf.l.length - j; omega
                · refine ⟨by show j + 1 ≤ _; omega, hx112.1, hG3.trans (GL.of hx112.2.1), view_keep hx112.2.1 hr3 hu3 hys3, fun y' hy' q' s' e1 e2 e3 e4 => ?_⟩
                  rw [List.take_add_one, hyj, List.mem_append] at hy'
                  rcases hy' with hy' | hy'
                  · exact grow_mem hx112.2.1 (hpair y' hy' q' s' e1 e2 e3 e4)
                  · simp only [Option.toList_some, List.mem_singleton] at hy'
                    subst hy'
                    rw [hq2] at e1
                    cases e1
                    exact hx112.2.2
              · skip
                refine CW_skip ?_
                refine EW_block_normal ?_
                refine EW_then ?_
                refine CW_region ?_
                first | refine OW_q (q_inc rfl rfl (by omega)) rfl ?_ | refine OW_q (q_add rfl rfl (by omega) (by omega)) rfl ?_
                refine OW_q (q_move rfl) rfl ?_
                refine OW_nil ?_
                refine EW_again ((j + 1, S3)) ⟨?_, ?_⟩ ⟨rfl, rfl, rfl, rfl, rfl, rfl, rfl, rfl, trivial⟩ (fun w hw => hw.sub (by (repeat (first | exact SubL.nil | exact Pick.head | apply Pick.tail | apply SubL.cons))))
                · show rf.l.length - (j + 1) < rf.l.length - j; omega
                · refine ⟨by show j + 1 ≤ _; omega, hI3, hG3, ⟨r3, hr3, hu3, hys3⟩, fun y' hy' q' s' e1 e2 e3 e4 => ?_⟩
                  rw [List.take_add_one, hyj, List.mem_append] at hy'
                  rcases hy' with hy' | hy'
                  · exact hpair y' hy' q' s' e1 e2 e3 e4
                  · simp only [Option.toList_some, List.mem_singleton] at hy'
                    subst hy'
                    rw [hq2] at e1
                    cases e1
                    exfalso
                    rw [e2] at h101
                    simp [sN, e4] at h101
            · skip
              refine DW_skip rfl (fun w hw => hw.sub (by (repeat (first | exact SubL.nil | exact Pick.head | apply Pick.tail | apply SubL.cons)))) rfl rfl rfl rfl ?_
              refine DW_skip rfl (fun w hw => hw.sub (by (repeat (first | exact SubL.nil | exact Pick.head | apply Pick.tail | apply SubL.cons)))) rfl rfl rfl rfl ?_
              refine DW_skip rfl (fun w hw => hw.sub (by (repeat (first | exact SubL.nil | exact Pick.head | apply Pick.tail | apply SubL.cons)))) rfl rfl rfl rfl ?_
              refine DW_skip rfl (fun w hw => hw.sub (by (repeat (first | exact SubL.nil | exact Pick.head | apply Pick.tail | apply SubL.cons)))) rfl rfl rfl rfl ?_
              refine DW_skip rfl (fun w hw => hw.sub (by (repeat (first | exact SubL.nil | exact Pick.head | apply Pick.tail | apply SubL.cons)))) rfl rfl rfl rfl ?_
              refine DW_skip rfl (fun w hw => hw.sub (by (repeat (first | exact SubL.nil | exact Pick.head | apply Pick.tail | apply SubL.cons)))) rfl rfl rfl rfl ?_
              refine DW_skip rfl (fun w hw => hw.sub (by (repeat (first | exact SubL.nil | exact Pick.head | apply Pick.tail | apply SubL.cons)))) rfl rfl rfl rfl ?_
              refine DW_skip rfl (fun w hw => hw.sub (by (repeat (first | exact SubL.nil | exact Pick.head | apply Pick.tail | apply SubL.cons)))) rfl rfl rfl rfl ?_
              refine DW_skip rfl (fun w hw => hw.sub (by (repeat (first | exact SubL.nil | exact Pick.head | apply Pick.tail | apply SubL.cons)))) rfl rfl rfl rfl ?_
              refine DW_skip rfl (fun w hw => hw.sub (by (repeat (first | exact SubL.nil | exact Pick.head | apply Pick.tail | apply SubL.cons)))) rfl rfl rfl rfl ?_
              refine DW_skip rfl (fun w hw => hw.sub (by (repeat (first | exact SubL.nil | exact Pick.head | apply Pick.tail | apply SubL.cons)))) rfl rfl rfl rfl ?_
              refine DW_skip rfl (fun w hw => hw.sub (by (repeat (first | exact SubL.nil | exact Pick.head | apply Pick.tail | apply SubL.cons)))) rfl rfl rfl rfl ?_
              refine DW_skip rfl (fun w hw => hw.sub (by (repeat (first | exact SubL.nil | exact Pick.head | apply Pick.tail | apply SubL.cons)))) rfl rfl rfl rfl ?_
              refine DW_q rfl (fun w hw => hw.sub (by (repeat (first | exact SubL.nil | exact Pick.head | apply Pick.tail | apply SubL.cons)))) (q_pick_f rfl rfl) rfl ?_
              refine DW_nil ?_
              refine EW_then ?_
              refine CW_false rfl rfl ?_
              refine CW_skip ?_
              refine EW_block_normal ?_
              refine EW_then ?_
              refine CW_region ?_
              first | refine OW_q (q_inc rfl rfl (by omega)) rfl ?_ | refine OW_q (q_add rfl rfl (by omega) (by omega)) rfl ?_
              refine OW_q (q_move rfl) rfl ?_
              refine OW_nil ?_
              refine EW_again ((j + 1, S3)) ⟨?_, ?_⟩ ⟨rfl, rfl, rfl, rfl, rfl, rfl, rfl, rfl, trivial⟩ (fun w hw => hw.sub (by (repeat (first | exact SubL.nil | exact Pick.head | apply Pick.tail | apply SubL.cons))))
              · show rf.l.length - (j + 1) < rf.l.length - j; omega
              · refine ⟨by show j + 1 ≤ _; omega, hI3, hG3, ⟨r3, hr3, hu3, hys3⟩, fun y' hy' q' s' e1 e2 e3 e4 => ?_⟩
                rw [List.take_add_one, hyj, List.mem_append] at hy'
                rcases hy' with hy' | hy'
                · exact hpair y' hy' q' s' e1 e2 e3 e4
                · simp only [Option.toList_some, List.mem_singleton] at hy'
                  subst hy'
                  rw [hq2] at e1
                  cases e1
                  exfalso
                  rw [e2] at hg87
                  simp [sT, e3] at hg87
          · skip
            refine DW_skip rfl (fun w hw => hw.sub (by (repeat (first | exact SubL.nil | exact Pick.head | apply Pick.tail | apply SubL.cons)))) rfl rfl rfl rfl ?_
            refine DW_skip rfl (fun w hw => hw.sub (by (repeat (first | exact SubL.nil | exact Pick.head | apply Pick.tail | apply SubL.cons)))) rfl rfl rfl rfl ?_
            refine DW_skip rfl (fun w hw => hw.sub (by (repeat (first | exact SubL.nil | exact Pick.head | apply Pick.tail | apply SubL.cons)))) rfl rfl rfl rfl ?_
            refine DW_q rfl (fun w hw => hw.sub (by (repeat (first | exact SubL.nil | exact Pick.head | apply Pick.tail | apply SubL.cons)))) (q_pick_f rfl rfl) rfl ?_
            refine DW_q rfl (fun w hw => hw.sub (by (repeat (first | exact SubL.nil | exact Pick.head | apply Pick.tail | apply SubL.cons)))) (q_move rfl) rfl ?_
            refine DW_skip rfl (fun w hw => hw.sub (by (repeat (first | exact SubL.nil | exact Pick.head | apply Pick.tail | apply SubL.cons)))) rfl rfl rfl rfl ?_
            refine DW_skip rfl (fun w hw => hw.sub (by (repeat (first | exact SubL.nil | exact Pick.head | apply Pick.tail | apply SubL.cons)))) rfl rfl rfl rfl ?_
            refine DW_skip rfl (fun w hw => hw.sub (by (repeat (first | exact SubL.nil | exact Pick.head | apply Pick.tail | apply SubL.cons)))) rfl rfl rfl rfl ?_
            refine DW_skip rfl (fun w hw => hw.sub (by (repeat (first | exact SubL.nil | exact Pick.head | apply Pick.tail | apply SubL.cons)))) rfl rfl rfl rfl ?_
            refine DW_skip rfl (fun w hw => hw.sub (by (repeat (first | exact SubL.nil | exact Pick.head | apply Pick.tail | apply SubL.cons)))) rfl rfl rfl rfl ?_
            refine DW_skip rfl (fun w hw => hw.sub (by (repeat (first | exact SubL.nil | exact Pick.head | apply Pick.tail | apply SubL.cons)))) rfl rfl rfl rfl ?_
            refine DW_skip rfl (fun w hw => hw.sub (by (repeat (first | exact SubL.nil | exact Pick.head | apply Pick.tail | apply SubL.cons)))) rfl rfl rfl rfl ?_
            refine DW_skip rfl (fun w hw => hw.sub (by (repeat (first | exact SubL.nil | exact Pick.head | apply Pick.tail | apply SubL.cons)))) rfl rfl rfl rfl ?_
            refine DW_skip rfl (fun w hw => hw.sub (by (repeat (first | exact SubL.nil | exact Pick.head | apply Pick.tail | apply SubL.cons)))) rfl rfl rfl rfl ?_
            refine DW_skip rfl (fun w hw => hw.sub (by (repeat (first | exact SubL.nil | exact Pick.head | apply Pick.tail | apply SubL.cons)))) rfl rfl rfl rfl ?_
            refine DW_skip rfl (fun w hw => hw.sub (by (repeat (first | exact SubL.nil | exact Pick.head | apply Pick.tail | apply SubL.cons)))) rfl rfl rfl rfl ?_
            refine DW_skip rfl (fun w hw => hw.sub (by (repeat (first | exact SubL.nil | exact Pick.head | apply Pick.tail | apply SubL.cons)))) rfl rfl rfl rfl ?_
            refine DW_skip rfl (fun w hw => hw.sub (by (repeat (first | exact SubL.nil | exact Pick.head | apply Pick.tail | apply SubL.cons)))) rfl rfl rfl rfl ?_
            refine DW_q rfl (fun w hw => hw.sub (by (repeat (first | exact SubL.nil | exact Pick.head | apply Pick.tail | apply SubL.cons)))) (q_pick_f rfl rfl) rfl ?_
            refine DW_nil ?_
            refine EW_then ?_
            refine CW_false rfl rfl ?_
            refine CW_skip ?_
            refine EW_block_normal ?_
            refine EW_then ?_
            refine CW_region ?_
            first | refine OW_q (q_inc rfl rfl (by omega)) rfl ?_ | refine OW_q (q_add rfl rfl (by omega) (by omega)) rfl ?_
            refine OW_q (q_move rfl) rfl ?_
            refine OW_nil ?_
            refine EW_again ((j + 1, S3)) ⟨?_, ?_⟩ ⟨rfl, rfl, rfl, rfl, rfl, rfl, rfl, rfl, trivial⟩ (fun w hw => hw.sub (by (repeat (first | exact SubL.nil | exact Pick.head | apply Pick.tail | apply SubL.cons))))
            · show rf.l.length - (j + 1) < rf.l.length - j; omega
            · refine ⟨by show j + 1 ≤ _; omega, hI3, hG3, ⟨r3, hr3, hu3, hys3⟩, fun y' hy' q' s' e1 e2 e3 e4 => ?_⟩
              rw [List.take_add_one, hyj, List.mem_append] at hy'
              rcases hy' with hy' | hy'
              · exact hpair y' hy' q' s' e1 e2 e3 e4
              · simp only [Option.toList_some, List.mem_singleton] at hy'
                subst hy'
                rw [hq2] at e1
                cases e1
                exfalso
                rw [e2] at hg82
                simp at hg82
        · skip
          have hje : rf.l.length ≤ j := by have := of_decide_eq_false h72; omega
          refine CW_exit ?_
          refine EW_then_exit ?_
          refine EW_out ?_
          refine EW_block_exit ?_
          refine EW_block_normal ?_
          refine EW_block_normal ?_
          refine EW_then ?_
          refine CW_region ?_
          refine OW_q (q_move rfl) rfl ?_
          first | refine OW_q (q_inc rfl rfl (by omega)) rfl ?_ | refine OW_q (q_add rfl rfl (by omega) (by omega)) rfl ?_
          refine OW_q (q_assign rfl) rfl ?_
          refine OW_nil ?_
          refine EW_again ((k + 1, S3)) ⟨?_, ?_⟩ ⟨rfl, rfl, rfl, rfl, trivial⟩ (fun w hw => hw.sub (by (repeat (first | exact SubL.nil | exact Pick.head | apply Pick.tail | apply SubL.cons))))
          · show 11161 - (k + 1) < 11161 - k; omega
          · have hG' : GL (Ls S2) (Ls S3) at_ := hG3
            have hst := row_step (g := g) (tk := tk) (k := k) (x := x) hG' hn2 (chi_frm hI2 hr2) (by rw [hrow2]; exact hxk) hP (fun heq => fun q' hq' => by
              rw [hq] at hq'
              cases hq'
              refine ⟨fun _ y hy q2 s e1 e2 e3 e4 => ?_, (fun s hs => by rw [hox] at hs; cases hs)⟩
              have hyf : y ∈ rf.l := by
                have e5 : rowAt (Ls S3) x.frm = rf.l := by
                  rw [← rowAt_S hrf]
                  by_cases e6 : x.frm = at_
                  · rw [e6]; exact heq
                  · exact hG3.same _ e6 (by omega)
                rw [← e5]; exact hy
              exact hpair y (by rw [List.take_of_length_le (by omega)]; exact hyf) q2 s e1 e2 e3 e4)
            exact ⟨hI3, hG2.trans hG', hst.1, hst.2.1, hst.2.2⟩
      · skip
        obtain ⟨s, hox⟩ : ∃ s, q.right[x.dot]? = some s := by
          cases ho : q.right[x.dot]? with
          | none => rw [ho] at h59; cases h59
          | some s => exact ⟨s, rfl⟩
        refine CW_seq ?_
        refine CW_region ?_
        refine OW_q (q_fieldAddr Try.underlying62 rfl rfl Try.sizeOf4 rfl rfl) rfl ?_
        first | (refine OW_q (q_load1_own Try.isAgg4 rfl rfl (by (repeat (first | exact .head | apply Swap.tail))) (by rfl)) rfl ?_) | (refine OW_q (q_load1_ro Try.isAgg4 rfl (by first | assumption | exact Row.at_ (by assumption) rfl)) rfl ?_)
        refine OW_q (q_not rfl) rfl ?_
        refine OW_q (q_assign rfl) rfl ?_
        refine OW_nil ?_
        refine EW_then ?_
        refine CW_cond rfl (fun h114 => ?_) (fun h114 => ?_)
        · skip
          have hst' : s.term = false := by rw [hox] at h114; simpa [sT] using h114
          have hsn : sN (q.right[x.dot]?) = s.n := by rw [hox]; rfl
          refine CW_region ?_
          refine OW_q (q_move rfl) rfl ?_
          refine OW_q (q_move rfl) rfl ?_
          refine OW_q (q_fieldAddr Try.underlying62 rfl rfl Try.sizeOf3 rfl rfl) rfl ?_
          first | (refine OW_q (q_load1_own Try.isAgg3 rfl rfl (by (repeat (first | exact .head | apply Swap.tail))) (by rfl)) rfl ?_) | (refine OW_q (q_load1_ro Try.isAgg3 rfl (by first | assumption | exact Row.at_ (by assumption) rfl)) rfl ?_)
          refine OW_spell 121 (.int .i64 s.n) rfl (by rw [hsn]) ?_
          refine OW_e (e_call Try.call42 rfl (fun w hw => lift_mutL (M0 := [cel bc 79 [.int .i64 g.terms, .int .i64 g.names, .slice (some p) g.rules.length c, (.slice ta tk.length tc), vs, (.slice (some ⟨br, 0, none⟩) (tk.length + 2) cr)], msA vs (S2), hsA (.slice (some ⟨br, 0, none⟩) (tk.length + 2) cr) (S2), mapsA (S2), rowsA (S2)]) (L1 := [F]) (hw.sub (by repeat (first | exact SubL.nil | exact Pick.head | apply Pick.tail | apply SubL.cons))) (fun F2 hF => rbegin_any g hm tk htk _ c bc (.slice ta tk.length tc) vs (.slice (some ⟨br, 0, none⟩) (tk.length + 2) cr) at_ hat s.n S2 hI2 R w0 w F2 hr hF))) rfl (fun x122 => ?_)
          refine OW_pure fun hx122 => ?_
          refine OW_nil ?_
          refine EW_block_normal ?_
          refine EW_block_normal ?_
          refine EW_then ?_
          refine CW_region ?_
          refine OW_q (q_move rfl) rfl ?_
          first | refine OW_q (q_inc rfl rfl (by omega)) rfl ?_ | refine OW_q (q_add rfl rfl (by omega) (by omega)) rfl ?_
          refine OW_q (q_assign rfl) rfl ?_
          refine OW_nil ?_
          refine EW_again ((k + 1, x122)) ⟨?_, ?_⟩ ⟨rfl, rfl, rfl, rfl, trivial⟩ (fun w hw => hw.sub (by (repeat (first | exact SubL.nil | exact Pick.head | apply Pick.tail | apply SubL.cons))))
          · show 11161 - (k + 1) < 11161 - k; omega
          · have hG' : GL (Ls S2) (Ls x122) at_ := GL.of hx122.2.1
            have hst := row_step (g := g) (tk := tk) (k := k) (x := x) hG' hn2 (chi_frm hI2 hr2) (by rw [hrow2]; exact hxk) hP (fun heq => fun q' hq' => by
              rw [hq] at hq'
              cases hq'
              refine ⟨(fun hd => by rw [hox] at hd; cases hd), fun s' hs' => ⟨fun _ kk q2 e1 e2 => ?_, fun ht => ?_⟩⟩
              · rw [hox] at hs'
                cases hs'
                exact hx122.2.2 kk q2 e1 e2
              · rw [hox] at hs'
                cases hs'
                rw [hst'] at ht
                cases ht)
            exact ⟨hx122.1, hG2.trans hG', hst.1, hst.2.1, hst.2.2⟩
        · skip
          have hst' : s.term = true := by rw [hox] at h114; simpa [sT] using h114
          have hsn : sN (q.right[x.dot]?) = s.n := by rw [hox]; rfl
          refine CW_seq ?_
          refine CW_drawS 20 [(0, false), (1, false), (2, false), (3, false), (4, false), (5, false), (6, false), (7, false), (8, false), (9, false), (10, false), (11, false), (12, false), (13, false), (14, false), (15, false), (16, false), (17, false), (18, false), (19, false)] (by kernel_rfl) (Blind.then (Blind.block (Blind.block (Blind.then (Blind.again (Blind.block (Blind.block (Blind.again (Blind.block Blind.bodyP))))))))) (by kernel_rfl) (fun w hw => hw.drew) ?_
          refine DW_q rfl (fun w hw => hw.sub (by (repeat (first | exact SubL.nil | exact Pick.head | apply Pick.tail | apply SubL.cons)))) (q_move rfl) rfl ?_
          refine DW_q rfl (fun w hw => hw.sub (by (repeat (first | exact SubL.nil | exact Pick.head | apply Pick.tail | apply SubL.cons)))) (q_move rfl) rfl ?_
          refine DW_q rfl (fun w hw => hw.sub (by (repeat (first | exact SubL.nil | exact Pick.head | apply Pick.tail | apply SubL.cons)))) (q_nilCheck rfl) rfl ?_
          refine DW_q rfl (fun w hw => hw.sub (by (repeat (first | exact SubL.nil | exact Pick.head | apply Pick.tail | apply SubL.cons)))) (q_fieldAddr Try.underlying79 rfl rfl Try.sizeOf25 rfl rfl) rfl ?_
          first | (refine DW_q rfl (fun w hw => hw.sub (by (repeat (first | exact SubL.nil | exact Pick.head | apply Pick.tail | apply SubL.cons)))) (q_load1_own Try.isAgg25 rfl rfl (by (repeat (first | exact .head | apply Swap.tail))) (by rfl)) rfl ?_) | (refine DW_q rfl (fun w hw => hw.sub (by (repeat (first | exact SubL.nil | exact Pick.head | apply Pick.tail | apply SubL.cons)))) (q_load1_ro Try.isAgg25 rfl (by first | assumption | exact Row.at_ (by assumption) rfl)) rfl ?_)
          refine DW_q rfl (fun w hw => hw.sub (by (repeat (first | exact SubL.nil | exact Pick.head | apply Pick.tail | apply SubL.cons)))) (q_len Try.underlying25 rfl) rfl ?_
          refine DW_q rfl (fun w hw => hw.sub (by (repeat (first | exact SubL.nil | exact Pick.head | apply Pick.tail | apply SubL.cons)))) (q_lss rfl rfl) rfl ?_
          refine DW_q rfl (fun w hw => hw.sub (by (repeat (first | exact SubL.nil | exact Pick.head | apply Pick.tail | apply SubL.cons)))) (q_move rfl) rfl ?_
          refine DW_part (t := 131) rfl (fun hg131 => ?_) (fun hg131 => ?_)
          · skip
            have hlta : at_ < tk.length := by have := of_decide_eq_true hg131; omega
            obtain ⟨t, htk1⟩ := get_of_lt hlta
            obtain ⟨pt, rfl, hrt⟩ := hts at_ t htk1
            refine DW_qg rfl (fun w hw => hw.sub (by (repeat (first | exact SubL.nil | exact Pick.head | apply Pick.tail | apply SubL.cons)))) rfl rfl rfl (q_move rfl) rfl ?_
            refine DW_qg rfl (fun w hw => hw.sub (by (repeat (first | exact SubL.nil | exact Pick.head | apply Pick.tail | apply SubL.cons)))) rfl rfl rfl (q_nilCheck rfl) rfl ?_
            refine DW_qg rfl (fun w hw => hw.sub (by (repeat (first | exact SubL.nil | exact Pick.head | apply Pick.tail | apply SubL.cons)))) rfl rfl rfl (q_fieldAddr Try.underlying79 rfl rfl Try.sizeOf25 rfl rfl) rfl ?_
            first | (refine DW_qg rfl (fun w hw => hw.sub (by (repeat (first | exact SubL.nil | exact Pick.head | apply Pick.tail | apply SubL.cons)))) rfl rfl rfl (q_load1_own Try.isAgg25 rfl rfl (by (repeat (first | exact .head | apply Swap.tail))) (by rfl)) rfl ?_) | (refine DW_qg rfl (fun w hw => hw.sub (by (repeat (first | exact SubL.nil | exact Pick.head | apply Pick.tail | apply SubL.cons)))) rfl rfl rfl (q_load1_ro Try.isAgg25 rfl (by first | assumption | exact Row.at_ (by assumption) rfl)) rfl ?_)
            refine DW_qg rfl (fun w hw => hw.sub (by (repeat (first | exact SubL.nil | exact Pick.head | apply Pick.tail | apply SubL.cons)))) rfl rfl rfl (q_move rfl) rfl ?_
            refine DW_qg rfl (fun w hw => hw.sub (by (repeat (first | exact SubL.nil | exact Pick.head | apply Pick.tail | apply SubL.cons)))) rfl rfl rfl (q_indexAddr Try.underlying25 Try.sizeOf3 rfl rfl (by first | omega | assumption)) rfl ?_
            refine DW_qg rfl (fun w hw => hw.sub (by (repeat (first | exact SubL.nil | exact Pick.head | apply Pick.tail | apply SubL.cons)))) rfl rfl rfl (q_load1_ro Try.isAgg3 rfl (by first | exact hrt)) rfl ?_
            refine DW_qg rfl (fun w hw => hw.sub (by (repeat (first | exact SubL.nil | exact Pick.head | apply Pick.tail | apply SubL.cons)))) rfl rfl rfl (q_fieldAddr Try.underlying62 rfl rfl Try.sizeOf3 rfl rfl) rfl ?_
            first | (refine DW_qg rfl (fun w hw => hw.sub (by (repeat (first | exact SubL.nil | exact Pick.head | apply Pick.tail | apply SubL.cons)))) rfl rfl rfl (q_load1_own Try.isAgg3 rfl rfl (by (repeat (first | exact .head | apply Swap.tail))) (by rfl)) rfl ?_) | (refine DW_qg rfl (fun w hw => hw.sub (by (repeat (first | exact SubL.nil | exact Pick.head | apply Pick.tail | apply SubL.cons)))) rfl rfl rfl (q_load1_ro Try.isAgg3 rfl (by first | assumption | exact Row.at_ (by assumption) rfl)) rfl ?_)
            refine DW_qg rfl (fun w hw => hw.sub (by (repeat (first | exact SubL.nil | exact Pick.head | apply Pick.tail | apply SubL.cons)))) rfl rfl rfl (q_eqi rfl rfl) rfl ?_
            refine DW_q rfl (fun w hw => hw.sub (by (repeat (first | exact SubL.nil | exact Pick.head | apply Pick.tail | apply SubL.cons)))) (q_pick_t rfl rfl) rfl ?_
            refine DW_q rfl (fun w hw => hw.sub (by (repeat (first | exact SubL.nil | exact Pick.head | apply Pick.tail | apply SubL.cons)))) (q_assign rfl) rfl ?_
            refine DW_nil ?_
            refine EW_then ?_
            refine CW_cond rfl (fun h123 => ?_) (fun h123 => ?_)
            · skip
              have htn : t = s.n := by
                have h123' : (t == sN (q.right[x.dot]?)) = true := h123
                rw [hsn] at h123'
                simpa using h123'
              have hok2 : ItOk g tk ⟨x.rule, x.dot + 1, x.frm⟩ (at_ + 1) := ok_scan hokx hq hox hst' (by rw [htk1, htn])
              refine CW_region ?_
              refine OW_q (q_move rfl) rfl ?_
              refine OW_q (q_move rfl) rfl ?_
              first | refine OW_q (q_inc rfl rfl (by omega)) rfl ?_ | refine OW_q (q_add rfl rfl (by omega) (by omega)) rfl ?_
              refine OW_q (q_fieldAddr Try.underlying84 rfl rfl Try.sizeOf3 rfl rfl) rfl ?_
              first | (refine OW_q (q_load1_own Try.isAgg3 rfl rfl (by (repeat (first | exact .head | apply Swap.tail))) (by rfl)) rfl ?_) | (refine OW_q (q_load1_ro Try.isAgg3 rfl (by first | assumption | exact Row.at_ (by assumption) rfl)) rfl ?_)
              refine OW_q (q_fieldAddr Try.underlying84 rfl rfl Try.sizeOf3 rfl rfl) rfl ?_
              first | (refine OW_q (q_load1_own Try.isAgg3 rfl rfl (by (repeat (first | exact .head | apply Swap.tail))) (by rfl)) rfl ?_) | (refine OW_q (q_load1_ro Try.isAgg3 rfl (by first | assumption | exact Row.at_ (by assumption) rfl)) rfl ?_)
              first | refine OW_q (q_inc rfl rfl (by omega)) rfl ?_ | refine OW_q (q_add rfl rfl (by omega) (by omega)) rfl ?_
              refine OW_q (q_fieldAddr Try.underlying84 rfl rfl Try.sizeOf3 rfl rfl) rfl ?_
              first | (refine OW_q (q_load1_own Try.isAgg3 rfl rfl (by (repeat (first | exact .head | apply Swap.tail))) (by rfl)) rfl ?_) | (refine OW_q (q_load1_ro Try.isAgg3 rfl (by first | assumption | exact Row.at_ (by assumption) rfl)) rfl ?_)
              refine OW_q (q_build (ps := #[(0, .int .i64 (x.rule : Int)), (1, .int .i64 ((x.dot + 1 : Nat) : Int)), (2, .int .i64 (x.frm : Int))]) (v := .agg #[.int .i64 (x.rule : Int), .int .i64 ((x.dot + 1 : Nat) : Int), .int .i64 (x.frm : Int)]) rfl (fun w => by kernel_rfl)) rfl ?_
              refine OW_e (e_call Try.call59 rfl (fun w hw => lift_mutL (M0 := [cel bc 79 [.int .i64 g.terms, .int .i64 g.names, .slice (some p) g.rules.length c, (.slice (some pt) tk.length tc), vs, (.slice (some ⟨br, 0, none⟩) (tk.length + 2) cr)], msA vs (S2), hsA (.slice (some ⟨br, 0, none⟩) (tk.length + 2) cr) (S2), mapsA (S2), rowsA (S2)]) (L1 := [F]) (hw.sub (by repeat (first | exact SubL.nil | exact Pick.head | apply Pick.tail | apply SubL.cons))) (fun F2 hF => add_any g hm tk htk _ c bc (.slice (some pt) tk.length tc) vs (.slice (some ⟨br, 0, none⟩) (tk.length + 2) cr) (at_ + 1) (by omega) ⟨x.rule, x.dot + 1, x.frm⟩ S2 hI2 hok2 R w0 w F2 hF))) rfl (fun x154 => ?_)
              refine OW_pure fun hx154 => ?_
              refine OW_nil ?_
              refine EW_block_normal ?_
              refine EW_block_normal ?_
              refine EW_then ?_
              refine CW_region ?_
              refine OW_q (q_move rfl) rfl ?_
              first | refine OW_q (q_inc rfl rfl (by omega)) rfl ?_ | refine OW_q (q_add rfl rfl (by omega) (by omega)) rfl ?_
              refine OW_q (q_assign rfl) rfl ?_
              refine OW_nil ?_
              refine EW_again ((k + 1, x154)) ⟨?_, ?_⟩ ⟨rfl, rfl, rfl, rfl, trivial⟩ (fun w hw => hw.sub (by (repeat (first | exact SubL.nil | exact Pick.head | apply Pick.tail | apply SubL.cons))))
              · show 11161 - (k + 1) < 11161 - k; omega
              · have hG' : GL (Ls S2) (Ls x154) at_ := GL.of1 hx154.2.1
                have hst := row_step (g := g) (tk := tk) (k := k) (x := x) hG' hn2 (chi_frm hI2 hr2) (by rw [hrow2]; exact hxk) hP (fun heq => fun q' hq' => by
                  rw [hq] at hq'
                  cases hq'
                  refine ⟨(fun hd => by rw [hox] at hd; cases hd), fun s' hs' => ⟨fun ht => ?_, fun _ _ => hx154.2.2⟩⟩
                  rw [hox] at hs'
                  cases hs'
                  rw [hst'] at ht
                  cases ht)
                exact ⟨hx154.1, hG2.trans hG', hst.1, hst.2.1, hst.2.2⟩
            · skip
              refine CW_skip ?_
              refine EW_block_normal ?_
              refine EW_block_normal ?_
              refine EW_then ?_
              refine CW_region ?_
              refine OW_q (q_move rfl) rfl ?_
              first | refine OW_q (q_inc rfl rfl (by omega)) rfl ?_ | refine OW_q (q_add rfl rfl (by omega) (by omega)) rfl ?_
              refine OW_q (q_assign rfl) rfl ?_
              refine OW_nil ?_
              refine EW_again ((k + 1, S2)) ⟨?_, ?_⟩ ⟨rfl, rfl, rfl, rfl, trivial⟩ (fun w hw => hw.sub (by (repeat (first | exact SubL.nil | exact Pick.head | apply Pick.tail | apply SubL.cons))))
              · show 11161 - (k + 1) < 11161 - k; omega
              · have hG' : GL (Ls S2) (Ls S2) at_ := GL.refl _ _
                have hst := row_step (g := g) (tk := tk) (k := k) (x := x) hG' hn2 (chi_frm hI2 hr2) (by rw [hrow2]; exact hxk) hP (fun heq => fun q' hq' => by
                  rw [hq] at hq'
                  cases hq'
                  refine ⟨(fun hd => by rw [hox] at hd; cases hd), fun s' hs' => ⟨fun ht => ?_, fun _ e1 => ?_⟩⟩
                  · rw [hox] at hs'
                    cases hs'
                    rw [hst'] at ht
                    cases ht
                  · rw [hox] at hs'
                    cases hs'
                    rw [htk1] at e1
                    have e2 := Option.some.inj e1
                    have h123' : (t == sN (q.right[x.dot]?)) = false := h123
                    rw [hox] at h123'
                    simp [sN, e2] at h123')
                exact ⟨hI2, hG2.trans hG', hst.1, hst.2.1, hst.2.2⟩
          · skip
            refine DW_skip rfl (fun w hw => hw.sub (by (repeat (first | exact SubL.nil | exact Pick.head | apply Pick.tail | apply SubL.cons)))) rfl rfl rfl rfl ?_
            refine DW_skip rfl (fun w hw => hw.sub (by (repeat (first | exact SubL.nil | exact Pick.head | apply Pick.tail | apply SubL.cons)))) rfl rfl rfl rfl ?_
            refine DW_skip rfl (fun w hw => hw.sub (by (repeat (first | exact SubL.nil | exact Pick.head | apply Pick.tail | apply SubL.cons)))) rfl rfl rfl rfl ?_
            refine DW_skip rfl (fun w hw => hw.sub (by (repeat (first | exact SubL.nil | exact Pick.head | apply Pick.tail | apply SubL.cons)))) rfl rfl rfl rfl ?_
            refine DW_skip rfl (fun w hw => hw.sub (by (repeat (first | exact SubL.nil | exact Pick.head | apply Pick.tail | apply SubL.cons)))) rfl rfl rfl rfl ?_
            refine DW_skip rfl (fun w hw => hw.sub (by (repeat (first | exact SubL.nil | exact Pick.head | apply Pick.tail | apply SubL.cons)))) rfl rfl rfl rfl ?_
            refine DW_skip rfl (fun w hw => hw.sub (by (repeat (first | exact SubL.nil | exact Pick.head | apply Pick.tail | apply SubL.cons)))) rfl rfl rfl rfl ?_
            refine DW_skip rfl (fun w hw => hw.sub (by (repeat (first | exact SubL.nil | exact Pick.head | apply Pick.tail | apply SubL.cons)))) rfl rfl rfl rfl ?_
            refine DW_skip rfl (fun w hw => hw.sub (by (repeat (first | exact SubL.nil | exact Pick.head | apply Pick.tail | apply SubL.cons)))) rfl rfl rfl rfl ?_
            refine DW_skip rfl (fun w hw => hw.sub (by (repeat (first | exact SubL.nil | exact Pick.head | apply Pick.tail | apply SubL.cons)))) rfl rfl rfl rfl ?_
            refine DW_q rfl (fun w hw => hw.sub (by (repeat (first | exact SubL.nil | exact Pick.head | apply Pick.tail | apply SubL.cons)))) (q_pick_f rfl rfl) rfl ?_
            refine DW_q rfl (fun w hw => hw.sub (by (repeat (first | exact SubL.nil | exact Pick.head | apply Pick.tail | apply SubL.cons)))) (q_assign rfl) rfl ?_
            refine DW_nil ?_
            refine EW_then ?_
            refine CW_false rfl rfl ?_
            refine CW_skip ?_
            refine EW_block_normal ?_
            refine EW_block_normal ?_
            refine EW_then ?_
            refine CW_region ?_
            refine OW_q (q_move rfl) rfl ?_
            first | refine OW_q (q_inc rfl rfl (by omega)) rfl ?_ | refine OW_q (q_add rfl rfl (by omega) (by omega)) rfl ?_
            refine OW_q (q_assign rfl) rfl ?_
            refine OW_nil ?_
            refine EW_again ((k + 1, S2)) ⟨?_, ?_⟩ ⟨rfl, rfl, rfl, rfl, trivial⟩ (fun w hw => hw.sub (by (repeat (first | exact SubL.nil | exact Pick.head | apply Pick.tail | apply SubL.cons))))
            · show 11161 - (k + 1) < 11161 - k; omega
            · have hG' : GL (Ls S2) (Ls S2) at_ := GL.refl _ _
              have hst := row_step (g := g) (tk := tk) (k := k) (x := x) hG' hn2 (chi_frm hI2 hr2) (by rw [hrow2]; exact hxk) hP (fun heq => fun q' hq' => by
                rw [hq] at hq'
                cases hq'
                refine ⟨(fun hd => by rw [hox] at hd; cases hd), fun s' hs' => ⟨fun ht => ?_, fun _ e1 => ?_⟩⟩
                · rw [hox] at hs'
                  cases hs'
                  rw [hst'] at ht
                  cases ht
                · have := (List.getElem?_eq_some_iff.1 e1).1
                  have := of_decide_eq_false hg131
                  omega)
              exact ⟨hI2, hG2.trans hG', hst.1, hst.2.1, hst.2.2⟩
    · skip
      have hke : k = r2.l.length := by rw [hrow2] at hk; have := of_decide_eq_false h40; omega
      refine CW_exit ?_
      refine EW_then_exit ?_
      refine EW_out ?_
      refine EW_block_exit ?_
      refine EW_block_normal ?_
      refine EW_again (((r1.l.length : Int), S2)) ⟨?_, ?_⟩ ⟨rfl, rfl, rfl, trivial⟩ (fun w hw => hw.sub (by (repeat (first | exact SubL.nil | exact Pick.head | apply Pick.tail | apply SubL.cons))))
      · show (11160 - (r1.l.length : Int)).toNat < (11160 - was).toNat; have := of_decide_eq_true h22; omega
      · refine ⟨hI2, hG2, by show (-1 : Int) ≤ (r1.l.length : Int); omega, by show (r1.l.length : Int) ≤ ((rowAt (Ls S2) at_).length : Int); omega, fun e x hx => ?_⟩
        have e' : (r1.l.length : Int) = ((rowAt (Ls S2) at_).length : Int) := e
        obtain ⟨i, hi⟩ := List.getElem?_of_mem hx
        have := (List.getElem?_eq_some_iff.1 hi).1
        exact hP (by omega) i x (by rw [hrow2] at this; omega) hi
  · skip
    have hend : was = (r1.l.length : Int) := by have := of_decide_eq_false h22; omega
    refine CW_exit ?_
    refine EW_then_exit ?_
    refine EW_out ?_
    refine EW_block_exit ?_
    refine end0 Try.results43 (fun w hw => ?_)
    exact ⟨S1, rfl, ⟨hI1, hG1, hclo hend⟩, hw.sub (by repeat (first | exact SubL.nil | exact Pick.head | apply Pick.tail | apply SubL.cons))⟩

end Go.Sy
