/- Package recog: the small functions of a chart. No condition. -/
import Derived.Test.YteceklkjbcebkaaW1
import Derived.Test.YteceklkjbcebkaaRec
namespace Go.Sy
open Go Go.RowKit Go.Proofs

section
variable {R : Nat → Prop} {w0 w : World} {L L' : List HP} {A B : HP} {K' : HP → List HP}
theorem Hole.at_ (o : Hole L A K') (X : HP) : Hole (K' X) X K' := by
  induction o with
  | head => exact .head
  | tail _ ih => exact .tail ih
  | big _ ih => exact .big ih
theorem Sat.out (o : Hole L A K') (h : Sat R w0 L w) : Sat R w0 (A :: K' emp0A) w :=
  h.imp_ fun x hx => by
    obtain ⟨h1, h2, hd, rfl, hA, hk⟩ := o.focus x hx
    have := hk emp0A emp0 (dis_emp h2).symm rfl
    rw [emp_uni] at this
    exact ⟨h1, h2, hd, rfl, hA, this⟩
theorem Sat.back_ (o : Hole L A K') (h : Sat R w0 (B :: K' emp0A) w) : Sat R w0 (K' B) w :=
  h.imp_ fun x ⟨h1, h2, hd, e, hB, hK⟩ => by
    obtain ⟨h3, h4, hd', rfl, he, hk⟩ := (o.at_ emp0A).focus h2 hK
    have e3 : h3 = emp0 := he
    subst e3
    rw [emp_uni] at hd e
    rw [e]
    exact hk B h1 hd hB
theorem e_store_t1 {P : Program} {n : Nat} {K : Env} {dst : Option Nat} {T : TypeId} {pos : String} {af : Array Edge} {g : Option (Nat × Bool)} {α : Type} {enc : α → List Value} {e : TypeId} {v : Value} {l : List α} {t : TypeId} {x z : Operand} {b len cap k : Nat} {y y' : α} {u : Value} (hs : ∀ w, (sizeOf t).run P w = .ok 1 w) (he : ∀ x, (enc x).length = 1)
    (hx : ev K x = some (.pointer (some ((⟨b, 0, none⟩ : Addr).add (k * 1))))) (hz : ev K z = some u) (hu : u.oneCell' = true) (hv : v = .slice (some ⟨b, 0, none⟩) len cap) (hk : l[k]? = some y) (hset : enc y' = [u])
    (s : Swap L (trow e 1 enc v l) (trow e 1 enc v (l.set k y')) L') :
    Ef P n K (Sat R w0 L) ⟨dst, .store t x z, T, pos, af, g⟩ (fun _ : Unit => undef) (fun _ => Sat R w0 L') := by
  intro a w ha hw next Q h
  have h1 : ∃ c, enc y = [c] := by
    have := he y
    match enc y, this with
    | [c], _ => exact ⟨c, rfl⟩
  obtain ⟨c, hc⟩ := h1
  have hx' : ev K x = some (.pointer (some (((⟨b, 0, none⟩ : Addr).add (k * 1)).add 0))) := by rw [Addr.add_zero']; exact hx
  exact e_store_t (off := 0) (y := y) (y' := y') hs he hx' hz hu hv hk (by rw [hc, hset]; rfl) s a w ha hw next Q h
theorem ef_map [Inhabited (List Deferred)] {P : Program} {n : Nat} {K : Env} {S : World → Prop} {o : Oper} {ι κ : Type} {V : ι → Value} {V' : κ → Value} {S1 : ι → World → Prop} {S2 : κ → World → Prop} (h : Ef P n K S o V S1) (f : ι → κ) (hV : ∀ x, V x = V' (f x)) (hS : ∀ x w, S1 x w → S2 (f x) w) : Ef P n K S o V' S2 :=
  fun a w ha hw next Q hn => h a w ha hw next Q fun x w' hx => by rw [hV]; exact hn (f x) w' (hS x w' hx)
end

theorem Try.itTy : ItTy Try.prog 80 84 4 where
  map := Try.underlying80
  wide := by rw [Try.underlying84]
  check := fun em x w => by
    have key : ∀ n, (Instr.checkKey em (n + 2) 84 (itV x)).run Try.prog w = .ok () w := fun n => by
      simp [Instr.checkKey, run_underlying Try.underlying84, run_underlying Try.underlying3, part, Try.sizeOf3]
    exact key 9998
  eq := fun x y w => by
    have h1 : Try.prog.underlying 84 = some (.struct (Try.prog.fieldsOf 84)) := by kernel_rfl
    have h2 : Try.prog.stoodInHeld 84 = false := by kernel_rfl
    have h3 : (Try.prog.fieldsOf 84).toList = [⟨"rule", 3, 0, false, "", "pollarding/recog", 0⟩, ⟨"dot", 3, 1, false, "", "pollarding/recog", 8⟩, ⟨"from", 3, 2, false, "", "pollarding/recog", 16⟩] := by kernel_rfl
    show (Op.equalIn 10000 84 _ _).run _ _ = _
    rw [run_equalIn_agg w 9999 84 _ _ h1 h2, h3]
    simp [Op.eqFields, go_sem, Try.sizeOf3, Try.underlying3]
    have e : (x = y) ↔ ((x.rule : Int) = y.rule ∧ (x.dot : Int) = y.dot ∧ (x.frm : Int) = y.frm) := by
      cases x; cases y; simp; omega
    by_cases a1 : (x.rule : Int) = y.rule <;> by_cases a2 : (x.dot : Int) = y.dot <;> by_cases a3 : (x.frm : Int) = y.frm <;> simp [e, a1, a2, a3]
  zero := Try.zeroValue4

/-- A row of a chart: its map, its header and items; a view of it. -/
structure RowS where
  m : Nat
  v : Value
  l : List Itt
  u : Value
  ys : List Itt
abbrev mapP (r : RowS) : HP := blk r.m (mapObj r.l)
abbrev rowP (r : RowS) : HP := rowV 84 r.v r.l r.u r.ys
def mapsA (S : List RowS) : HP := stars (S.map mapP)
def rowsA (S : List RowS) : HP := stars (S.map rowP)
abbrev msA (vs : Value) (S : List RowS) : HP := trow 80 1 encM vs (S.map (·.m))
abbrev hsA (vr : Value) (S : List RowS) : HP := trow 103 1 encW vr (S.map (·.v))
theorem Hole.maps {S : List RowS} {i : Nat} {r : RowS} {L : List HP} (h : S[i]? = some r) : Hole (mapsA S :: L) (mapP r) (fun X => stars ((S.map mapP).set i X) :: L) := .big (.idx (by rw [List.getElem?_map, h]; rfl))
theorem Hole.rows {S : List RowS} {i : Nat} {r : RowS} {L : List HP} (h : S[i]? = some r) : Hole (rowsA S :: L) (rowP r) (fun X => stars ((S.map rowP).set i X) :: L) := .big (.idx (by rw [List.getElem?_map, h]; rfl))
theorem maps_set (S : List RowS) (i : Nat) (r : RowS) : stars ((S.map mapP).set i (mapP r)) = mapsA (S.set i r) := by unfold mapsA; rw [List.map_set]
theorem rows_set (S : List RowS) (i : Nat) (r : RowS) : stars ((S.map rowP).set i (rowP r)) = rowsA (S.set i r) := by unfold rowsA; rw [List.map_set]
theorem set_same_m {S : List RowS} {i : Nat} {r r' : RowS} (h : S[i]? = some r) (hm : r'.m = r.m) : (S.set i r').map (·.m) = S.map (·.m) := by
  rw [List.map_set, hm]
  apply List.ext_getElem?
  intro j
  rw [List.getElem?_set]
  split
  · rename_i e
    subst e
    split
    · rw [List.getElem?_map, h]; rfl
    · rename_i h2
      rw [List.getElem?_eq_none (by omega)]
  · rfl

/-- What a chart is to be. -/
structure ChI (g : Gram) (tk : List Int) (S : List RowS) : Prop where
  len : S.length = tk.length + 2
  rows : ∀ i r, S[i]? = some r → r.l.Nodup ∧ ∀ x ∈ r.l, ItOk g tk x i
/-- One row has grown, at most. -/
structure Grow (S S' : List RowS) (i : Nat) : Prop where
  len : S'.length = S.length
  other : ∀ j, j ≠ i → S'[j]? = S[j]?
  here : ∀ r, S[i]? = some r → ∃ r', S'[i]? = some r' ∧ r'.m = r.m ∧ r'.u = r.u ∧ r'.ys = r.ys ∧ r.l <+: r'.l
theorem Grow.refl (S : List RowS) (i : Nat) : Grow S S i := ⟨rfl, fun _ _ => rfl, fun r h => ⟨r, h, rfl, rfl, rfl, List.prefix_refl _⟩⟩
theorem Grow.trans {S S' S2 : List RowS} {i : Nat} (h : Grow S S' i) (h2 : Grow S' S2 i) : Grow S S2 i := by
  refine ⟨h2.len.trans h.len, fun j hj => (h2.other j hj).trans (h.other j hj), fun r hr => ?_⟩
  obtain ⟨r', h3, h4, h5, h6, h7⟩ := h.here r hr
  obtain ⟨r2, k3, k4, k5, k6, k7⟩ := h2.here r' h3
  exact ⟨r2, k3, k4.trans h4, k5.trans h5, k6.trans h6, h7.trans k7⟩
theorem grow_set {S : List RowS} {i : Nat} {r : RowS} (h : S[i]? = some r) (v : Value) (x : Itt) : Grow S (S.set i ⟨r.m, v, r.l ++ [x], r.u, r.ys⟩) i := by
  have hlt := (List.getElem?_eq_some_iff.1 h).1
  refine ⟨List.length_set, fun j hj => List.getElem?_set_ne (Ne.symm hj), fun r' hr' => ?_⟩
  rw [h] at hr'
  cases hr'
  exact ⟨_, List.getElem?_set_self hlt, rfl, rfl, rfl, List.prefix_append _ _⟩
theorem chi_set {g : Gram} {tk : List Int} {S : List RowS} {i : Nat} {r : RowS} {x : Itt} (h : ChI g tk S) (hr : S[i]? = some r) (hx : x ∉ r.l) (hok : ItOk g tk x i) (v : Value) : ChI g tk (S.set i ⟨r.m, v, r.l ++ [x], r.u, r.ys⟩) := by
  have hlt := (List.getElem?_eq_some_iff.1 hr).1
  refine ⟨by rw [List.length_set]; exact h.len, fun j r' hj => ?_⟩
  by_cases e : i = j
  · subst e
    rw [List.getElem?_set_self hlt] at hj
    cases hj
    have := h.rows i r hr
    refine ⟨List.nodup_append.2 ⟨this.1, by simp, fun a ha b hb => by rw [List.mem_singleton.1 hb]; exact fun e => hx (e ▸ ha)⟩, fun y hy => ?_⟩
    rcases List.mem_append.1 hy with hy | hy
    · exact this.2 y hy
    · rw [List.mem_singleton.1 hy]; exact hok
  · rw [List.getElem?_set_ne e] at hj
    exact h.rows j r' hj
theorem chi_bound {g : Gram} {tk : List Int} {S : List RowS} {i : Nat} {r : RowS} (hm : mayB g = true) (ht : tk.length ≤ 30) (h : ChI g tk S) (hi : i ≤ tk.length) (hr : S[i]? = some r) : r.l.length ≤ 11160 :=
  row_bound hm ht hi (h.rows i r hr).1 (h.rows i r hr).2

set_option maxRecDepth 20000 in
theorem next_none (bc : Nat) (g : Gram) (a : Option Addr) (c : Nat) (x : Itt) (q : Rule) (w : World) (hc : w.cell? ⟨bc, 2, none⟩ = some (.slice a g.rules.length c)) (hr : RulesAt (Cl w) (.slice a g.rules.length c) g.rules) (hq : g.rules[x.rule]? = some q) (hd : q.right[x.dot]? = none) : Calls Try.prog 44 #[.pointer (some ⟨bc, 0, none⟩), itV x] w (fun e w' => e = .returned (.tuple #[.agg #[.bool false, .int .i64 0], .bool false]) ∧ Sat (Old w) w [] w') := by
  have hcr : Rd (Old w) w ⟨bc, 2, none⟩ (.slice a g.rules.length c) := Rd.old hc
  obtain ⟨a', c', hv, hc1, hc2, hrs⟩ := hr.mono old_rd
  injection hv with e1 _ e2
  subst e1
  subst e2
  have hxr := (List.getElem?_eq_some_iff.1 hq).1
  obtain ⟨p, rfl, rv, hsy, hrow⟩ := hrs x.rule q hq
  have hrow' : Row (Rd (Old w) w) (p.add ((x.rule : Int).toNat * 2)) [.int .i64 q.left, rv] := hrow
  obtain ⟨a2, c2, rfl, hl1, hl2, hss⟩ := hsy
  refine calls_CW Try.func44 rfl Try.ntmps44 rfl (Sat.start w) ?_
  refine CW_seq ?_
  refine CW_region ?_
  refine OW_e (e_box rfl rfl) rfl (fun b3 => ?_)
  refine OW_e (e_alloc Try.zeroValue62 rfl) rfl (fun b4 => ?_)
  refine OW_q (q_assign rfl) rfl ?_
  refine OW_nil ?_
  refine EW_then ?_
  refine CW_seq ?_
  refine CW_drawS 11 [(0, false), (1, false), (2, false), (3, false), (4, false), (5, false), (6, false), (7, false), (8, false), (9, false), (10, false)] (by kernel_rfl) (Blind.then (Blind.body (by intro c w h; simp at h))) (by kernel_rfl) (fun w hw => hw.drew) ?_
  refine DW_q rfl (fun w hw => hw.sub (by (repeat (first | exact SubL.nil | exact Pick.head | apply Pick.tail | apply SubL.cons)))) (q_move rfl) rfl ?_
  refine DW_q rfl (fun w hw => hw.sub (by (repeat (first | exact SubL.nil | exact Pick.head | apply Pick.tail | apply SubL.cons)))) (q_nilCheck rfl) rfl ?_
  refine DW_q rfl (fun w hw => hw.sub (by (repeat (first | exact SubL.nil | exact Pick.head | apply Pick.tail | apply SubL.cons)))) (q_fieldAddr Try.underlying79 rfl rfl Try.sizeOf24 rfl rfl) rfl ?_
  refine DW_q rfl (fun w hw => hw.sub (by (repeat (first | exact SubL.nil | exact Pick.head | apply Pick.tail | apply SubL.cons)))) (q_fieldAddr Try.underlying24 rfl rfl Try.sizeOf22 rfl rfl) rfl ?_
  first | (refine DW_q rfl (fun w hw => hw.sub (by (repeat (first | exact SubL.nil | exact Pick.head | apply Pick.tail | apply SubL.cons)))) (q_load1_own Try.isAgg22 rfl rfl (by (repeat (first | exact .head | apply Swap.tail))) (by rfl)) rfl ?_) | (refine DW_q rfl (fun w hw => hw.sub (by (repeat (first | exact SubL.nil | exact Pick.head | apply Pick.tail | apply SubL.cons)))) (q_load1_ro Try.isAgg22 rfl (by first | exact hcr)) rfl ?_)
  refine DW_q rfl (fun w hw => hw.sub (by (repeat (first | exact SubL.nil | exact Pick.head | apply Pick.tail | apply SubL.cons)))) (q_fieldAddr Try.underlying84 rfl rfl Try.sizeOf3 rfl rfl) rfl ?_
  first | (refine DW_q rfl (fun w hw => hw.sub (by (repeat (first | exact SubL.nil | exact Pick.head | apply Pick.tail | apply SubL.cons)))) (q_load1_own Try.isAgg3 rfl rfl (by (repeat (first | exact .head | apply Swap.tail))) (by rfl)) rfl ?_) | (refine DW_q rfl (fun w hw => hw.sub (by (repeat (first | exact SubL.nil | exact Pick.head | apply Pick.tail | apply SubL.cons)))) (q_load1_ro Try.isAgg3 rfl (by first | assumption | exact Row.at_ (by assumption) rfl)) rfl ?_)
  refine DW_q rfl (fun w hw => hw.sub (by (repeat (first | exact SubL.nil | exact Pick.head | apply Pick.tail | apply SubL.cons)))) (q_indexAddrI Try.underlying22 Try.sizeOf41 rfl rfl (by first | omega | assumption) (by first | omega | assumption)) rfl ?_
  refine DW_q rfl (fun w hw => hw.sub (by (repeat (first | exact SubL.nil | exact Pick.head | apply Pick.tail | apply SubL.cons)))) (q_fieldAddr Try.underlying41 rfl rfl Try.sizeOf39 rfl rfl) rfl ?_
  refine DW_q rfl (fun w hw => hw.sub (by (repeat (first | exact SubL.nil | exact Pick.head | apply Pick.tail | apply SubL.cons)))) (q_load1_ro Try.isAgg39 rfl (by first | exact Row.at_ hrow' rfl)) rfl ?_
  refine DW_q rfl (fun w hw => hw.sub (by (repeat (first | exact SubL.nil | exact Pick.head | apply Pick.tail | apply SubL.cons)))) (q_assign rfl) rfl ?_
  refine DW_nil ?_
  refine EW_then ?_
  refine CW_seq ?_
  refine CW_seq ?_
  refine CW_region ?_
  refine OW_q (q_fieldAddr Try.underlying84 rfl rfl Try.sizeOf3 rfl rfl) rfl ?_
  first | (refine OW_q (q_load1_own Try.isAgg3 rfl rfl (by (repeat (first | exact .head | apply Swap.tail))) (by rfl)) rfl ?_) | (refine OW_q (q_load1_ro Try.isAgg3 rfl (by first | assumption | exact Row.at_ (by assumption) rfl)) rfl ?_)
  refine OW_q (q_move rfl) rfl ?_
  refine OW_q (q_len Try.underlying39 rfl) rfl ?_
  refine OW_q (q_geq rfl rfl) rfl ?_
  refine OW_nil ?_
  refine EW_then ?_
  refine CW_true rfl (by have := List.getElem?_eq_none_iff.1 hd; simp; omega) ?_
  refine CW_seq ?_
  refine CW_region ?_
  refine OW_q (q_build (ps := #[]) (v := .agg #[.bool false, .int .i64 0]) rfl (fun w => by kernel_rfl)) rfl ?_
  refine OW_e0 (e_storeN Try.sizeOf62 rfl rfl rfl rfl (by simp [Value.oneCell']) (by (repeat (first | exact .head | apply Swap.tail))) (by rfl)) (fun _ => ?_)
  refine OW_q (q_assign rfl) rfl ?_
  refine OW_nil ?_
  refine EW_then ?_
  refine CW_ret ?_
  refine EW_then_ret ?_
  refine retc2 (vs := [.bool false, .int .i64 0]) Try.results44 Try.isAgg62 Try.sizeOf62 rfl rfl (fun w hw j u hj => by rw [Addr.add_lit, hw.cell (b := b4) (A' := emp0A) (by repeat (first | exact .head | apply Swap.tail))]; simpa using hj) rfl (fun w hw => ?_)
  exact ⟨rfl, hw.sub .nil⟩

set_option maxRecDepth 20000 in
theorem next_some (bc : Nat) (g : Gram) (a : Option Addr) (c : Nat) (x : Itt) (q : Rule) (w : World) (hc : w.cell? ⟨bc, 2, none⟩ = some (.slice a g.rules.length c)) (hr : RulesAt (Cl w) (.slice a g.rules.length c) g.rules) (hq : g.rules[x.rule]? = some q) (s : Sym) (hs : q.right[x.dot]? = some s) : Calls Try.prog 44 #[.pointer (some ⟨bc, 0, none⟩), itV x] w (fun e w' => e = .returned (.tuple #[.agg #[.bool s.term, .int .i64 s.n], .bool true]) ∧ Sat (Old w) w [] w') := by
  have hcr : Rd (Old w) w ⟨bc, 2, none⟩ (.slice a g.rules.length c) := Rd.old hc
  obtain ⟨a', c', hv, hc1, hc2, hrs⟩ := hr.mono old_rd
  injection hv with e1 _ e2
  subst e1
  subst e2
  have hxr := (List.getElem?_eq_some_iff.1 hq).1
  obtain ⟨p, rfl, rv, hsy, hrow⟩ := hrs x.rule q hq
  have hrow' : Row (Rd (Old w) w) (p.add ((x.rule : Int).toNat * 2)) [.int .i64 q.left, rv] := hrow
  obtain ⟨a2, c2, rfl, hl1, hl2, hss⟩ := hsy
  have hxd := (List.getElem?_eq_some_iff.1 hs).1
  obtain ⟨p2, rfl, hsym⟩ := hss x.dot s hs
  have hsym' : Row (Rd (Old w) w) (p2.add ((x.dot : Int).toNat * 2)) [.bool s.term, .int .i64 s.n] := hsym
  refine calls_CW Try.func44 rfl Try.ntmps44 rfl (Sat.start w) ?_
  refine CW_seq ?_
  refine CW_region ?_
  refine OW_e (e_box rfl rfl) rfl (fun b3 => ?_)
  refine OW_e (e_alloc Try.zeroValue62 rfl) rfl (fun b4 => ?_)
  refine OW_q (q_assign rfl) rfl ?_
  refine OW_nil ?_
  refine EW_then ?_
  refine CW_seq ?_
  refine CW_drawS 11 [(0, false), (1, false), (2, false), (3, false), (4, false), (5, false), (6, false), (7, false), (8, false), (9, false), (10, false)] (by kernel_rfl) (Blind.then (Blind.body (by intro c w h; simp at h))) (by kernel_rfl) (fun w hw => hw.drew) ?_
  refine DW_q rfl (fun w hw => hw.sub (by (repeat (first | exact SubL.nil | exact Pick.head | apply Pick.tail | apply SubL.cons)))) (q_move rfl) rfl ?_
  refine DW_q rfl (fun w hw => hw.sub (by (repeat (first | exact SubL.nil | exact Pick.head | apply Pick.tail | apply SubL.cons)))) (q_nilCheck rfl) rfl ?_
  refine DW_q rfl (fun w hw => hw.sub (by (repeat (first | exact SubL.nil | exact Pick.head | apply Pick.tail | apply SubL.cons)))) (q_fieldAddr Try.underlying79 rfl rfl Try.sizeOf24 rfl rfl) rfl ?_
  refine DW_q rfl (fun w hw => hw.sub (by (repeat (first | exact SubL.nil | exact Pick.head | apply Pick.tail | apply SubL.cons)))) (q_fieldAddr Try.underlying24 rfl rfl Try.sizeOf22 rfl rfl) rfl ?_
  first | (refine DW_q rfl (fun w hw => hw.sub (by (repeat (first | exact SubL.nil | exact Pick.head | apply Pick.tail | apply SubL.cons)))) (q_load1_own Try.isAgg22 rfl rfl (by (repeat (first | exact .head | apply Swap.tail))) (by rfl)) rfl ?_) | (refine DW_q rfl (fun w hw => hw.sub (by (repeat (first | exact SubL.nil | exact Pick.head | apply Pick.tail | apply SubL.cons)))) (q_load1_ro Try.isAgg22 rfl (by first | exact hcr)) rfl ?_)
  refine DW_q rfl (fun w hw => hw.sub (by (repeat (first | exact SubL.nil | exact Pick.head | apply Pick.tail | apply SubL.cons)))) (q_fieldAddr Try.underlying84 rfl rfl Try.sizeOf3 rfl rfl) rfl ?_
  first | (refine DW_q rfl (fun w hw => hw.sub (by (repeat (first | exact SubL.nil | exact Pick.head | apply Pick.tail | apply SubL.cons)))) (q_load1_own Try.isAgg3 rfl rfl (by (repeat (first | exact .head | apply Swap.tail))) (by rfl)) rfl ?_) | (refine DW_q rfl (fun w hw => hw.sub (by (repeat (first | exact SubL.nil | exact Pick.head | apply Pick.tail | apply SubL.cons)))) (q_load1_ro Try.isAgg3 rfl (by first | assumption | exact Row.at_ (by assumption) rfl)) rfl ?_)
  refine DW_q rfl (fun w hw => hw.sub (by (repeat (first | exact SubL.nil | exact Pick.head | apply Pick.tail | apply SubL.cons)))) (q_indexAddrI Try.underlying22 Try.sizeOf41 rfl rfl (by first | omega | assumption) (by first | omega | assumption)) rfl ?_
  refine DW_q rfl (fun w hw => hw.sub (by (repeat (first | exact SubL.nil | exact Pick.head | apply Pick.tail | apply SubL.cons)))) (q_fieldAddr Try.underlying41 rfl rfl Try.sizeOf39 rfl rfl) rfl ?_
  refine DW_q rfl (fun w hw => hw.sub (by (repeat (first | exact SubL.nil | exact Pick.head | apply Pick.tail | apply SubL.cons)))) (q_load1_ro Try.isAgg39 rfl (by first | exact Row.at_ hrow' rfl)) rfl ?_
  refine DW_q rfl (fun w hw => hw.sub (by (repeat (first | exact SubL.nil | exact Pick.head | apply Pick.tail | apply SubL.cons)))) (q_assign rfl) rfl ?_
  refine DW_nil ?_
  refine EW_then ?_
  refine CW_seq ?_
  refine CW_seq ?_
  refine CW_region ?_
  refine OW_q (q_fieldAddr Try.underlying84 rfl rfl Try.sizeOf3 rfl rfl) rfl ?_
  first | (refine OW_q (q_load1_own Try.isAgg3 rfl rfl (by (repeat (first | exact .head | apply Swap.tail))) (by rfl)) rfl ?_) | (refine OW_q (q_load1_ro Try.isAgg3 rfl (by first | assumption | exact Row.at_ (by assumption) rfl)) rfl ?_)
  refine OW_q (q_move rfl) rfl ?_
  refine OW_q (q_len Try.underlying39 rfl) rfl ?_
  refine OW_q (q_geq rfl rfl) rfl ?_
  refine OW_nil ?_
  refine EW_then ?_
  refine CW_false rfl (by simp; omega) ?_
  refine CW_skip ?_
  refine EW_then ?_
  refine CW_seq ?_
  refine CW_region ?_
  refine OW_q (q_move rfl) rfl ?_
  refine OW_q (q_fieldAddr Try.underlying84 rfl rfl Try.sizeOf3 rfl rfl) rfl ?_
  first | (refine OW_q (q_load1_own Try.isAgg3 rfl rfl (by (repeat (first | exact .head | apply Swap.tail))) (by rfl)) rfl ?_) | (refine OW_q (q_load1_ro Try.isAgg3 rfl (by first | assumption | exact Row.at_ (by assumption) rfl)) rfl ?_)
  refine OW_q (q_indexAddrI Try.underlying39 Try.sizeOf62 rfl rfl (by first | omega | assumption) (by first | omega | assumption)) rfl ?_
  refine OW_q (q_loadN_ro Try.isAgg62 Try.sizeOf62 rfl (by first | exact hsym') (by rfl)) rfl ?_
  refine OW_e0 (e_storeN Try.sizeOf62 rfl rfl rfl rfl (by simp [Value.oneCell']) (by (repeat (first | exact .head | apply Swap.tail))) (by rfl)) (fun _ => ?_)
  refine OW_q (q_assign rfl) rfl ?_
  refine OW_nil ?_
  refine EW_then ?_
  refine CW_ret ?_
  refine retc2 (vs := [.bool s.term, .int .i64 s.n]) Try.results44 Try.isAgg62 Try.sizeOf62 rfl rfl (fun w hw j u hj => by rw [Addr.add_lit, hw.cell (b := b4) (A' := emp0A) (by repeat (first | exact .head | apply Swap.tail))]; simpa using hj) rfl (fun w hw => ?_)
  exact ⟨rfl, hw.sub .nil⟩

set_option maxRecDepth 20000 in
theorem add_any (g : Gram) (hm : mayB g = true) (tk : List Int) (htk : tk.length ≤ 30) (a : Option Addr) (c bc : Nat) (tkv vs vr : Value) (at_ : Nat) (hat : at_ ≤ tk.length) (x : Itt) (S : List RowS) (hI : ChI g tk S) (hok : ItOk g tk x at_) (R : Nat → Prop) (w0 w : World) (F : HP) (hw : Sat R w0 ([cel bc 79 [.int .i64 g.terms, .int .i64 g.names, .slice a g.rules.length c, tkv, vs, vr], msA vs (S), hsA vr (S), mapsA (S), rowsA (S)] ++ [F]) w) : Calls Try.prog 59 #[.pointer (some ⟨bc, 0, none⟩), .int .i64 (at_ : Int), itV x] w (fun e w' => ∃ S' : List RowS, e = .returned (.tuple #[]) ∧ (ChI g tk S' ∧ Grow S S' at_ ∧ x ∈ rowAt (S'.map (·.l)) at_) ∧ Sat R w0 ([cel bc 79 [.int .i64 g.terms, .int .i64 g.names, .slice a g.rules.length c, tkv, vs, vr], msA vs (S'), hsA vr (S'), mapsA (S'), rowsA (S')] ++ [F]) w') := by
  have hSl := hI.len
  obtain ⟨r, hr⟩ := get_of_lt (l := S) (k := at_) (by omega)
  have hbd := chi_bound hm htk hI hat hr
  obtain ⟨aq, cs, hvs, hvs1, hvs2, hvs3⟩ := hw.tform (v := vs) (l := S.map (·.m)) (enc := encM) (by repeat (first | exact .head | apply Swap.tail))
  obtain ⟨ar, cr, hvr, hvr1, hvr2, hvr3⟩ := hw.tform (v := vr) (l := S.map (·.v)) (enc := encW) (by repeat (first | exact .head | apply Swap.tail))
  rw [List.length_map] at hvs hvs1 hvs3 hvr hvr1 hvr3
  obtain ⟨bs, rfl⟩ := hvs3 (by omega)
  obtain ⟨br, rfl⟩ := hvr3 (by omega)
  subst hvs
  subst hvr
  have hmk : (S.map (·.m))[at_]? = some r.m := by rw [List.getElem?_map, hr]; rfl
  have hvk : (S.map (·.v))[at_]? = some r.v := by rw [List.getElem?_map, hr]; rfl
  refine calls_CW (S := Sat R w0 [cel bc 79 [.int .i64 g.terms, .int .i64 g.names, .slice a g.rules.length c, tkv, (.slice (some ⟨bs, 0, none⟩) S.length cs), (.slice (some ⟨br, 0, none⟩) S.length cr)], msA (.slice (some ⟨bs, 0, none⟩) S.length cs) (S), hsA (.slice (some ⟨br, 0, none⟩) S.length cr) (S), mapsA (S), rowsA (S), F]) Try.func59 rfl Try.ntmps59 rfl (hw) ?_
  refine CW_seq ?_
  refine CW_region ?_
  refine OW_e (e_box rfl rfl) rfl (fun b5 => ?_)
  refine OW_nil ?_
  refine EW_then ?_
  refine CW_seq ?_
  refine CW_drawS 10 [(0, false), (1, false), (2, false), (3, false), (4, false), (5, false), (6, false), (7, false), (8, false), (9, false)] (by kernel_rfl) (Blind.then Blind.bodyP) (by kernel_rfl) (fun w hw => hw.drew) ?_
  refine DW_q rfl (fun w hw => hw.sub (by (repeat (first | exact SubL.nil | exact Pick.head | apply Pick.tail | apply SubL.cons)))) (q_move rfl) rfl ?_
  refine DW_q rfl (fun w hw => hw.sub (by (repeat (first | exact SubL.nil | exact Pick.head | apply Pick.tail | apply SubL.cons)))) (q_nilCheck rfl) rfl ?_
  refine DW_q rfl (fun w hw => hw.sub (by (repeat (first | exact SubL.nil | exact Pick.head | apply Pick.tail | apply SubL.cons)))) (q_fieldAddr Try.underlying79 rfl rfl Try.sizeOf76 rfl rfl) rfl ?_
  first | (refine DW_q rfl (fun w hw => hw.sub (by (repeat (first | exact SubL.nil | exact Pick.head | apply Pick.tail | apply SubL.cons)))) (q_load1_own Try.isAgg76 rfl rfl (by (repeat (first | exact .head | apply Swap.tail))) (by rfl)) rfl ?_) | (refine DW_q rfl (fun w hw => hw.sub (by (repeat (first | exact SubL.nil | exact Pick.head | apply Pick.tail | apply SubL.cons)))) (q_load1_ro Try.isAgg76 rfl (by first | assumption | exact Row.at_ (by assumption) rfl)) rfl ?_)
  refine DW_q rfl (fun w hw => hw.sub (by (repeat (first | exact SubL.nil | exact Pick.head | apply Pick.tail | apply SubL.cons)))) (q_move rfl) rfl ?_
  refine DW_q rfl (fun w hw => hw.sub (by (repeat (first | exact SubL.nil | exact Pick.head | apply Pick.tail | apply SubL.cons)))) (q_indexAddr Try.underlying76 Try.sizeOf80 rfl rfl (by first | omega | assumption)) rfl ?_
  refine DW_q rfl (fun w hw => hw.sub (by repeat (first | exact SubL.nil | exact Pick.head | apply Pick.tail | apply SubL.cons))) (q_load_t1 (v := .slice (some ⟨bs, 0, none⟩) S.length cs) (l := S.map (·.m)) (enc := encM) Try.isAgg80 (fun _ => rfl) rfl (by repeat (first | exact .head | apply Swap.tail)) rfl hmk rfl) rfl ?_
  first | (refine DW_q rfl (fun w hw => hw.sub (by (repeat (first | exact SubL.nil | exact Pick.head | apply Pick.tail | apply SubL.cons)))) (q_loadN_own Try.isAgg84 Try.sizeOf84 rfl rfl (by (repeat (first | exact .head | apply Swap.tail))) (by rfl)) rfl ?_) | (refine DW_q rfl (fun w hw => hw.sub (by (repeat (first | exact SubL.nil | exact Pick.head | apply Pick.tail | apply SubL.cons)))) (q_loadN_ro Try.isAgg84 Try.sizeOf84 rfl (by first | assumption | exact Row.at_ (by assumption) rfl) (by rfl)) rfl ?_)
  refine DW_q rfl (fun w hw => hw.sub (by repeat (first | exact SubL.nil | exact Pick.head | apply Pick.tail | apply SubL.cons))) (q_lookupI (y := x) Try.itTy rfl rfl (.tail (.tail (.tail (.tail (Hole.maps hr |>.swap emp0A)))))) rfl ?_
  refine DW_q rfl (fun w hw => hw.sub (by (repeat (first | exact SubL.nil | exact Pick.head | apply Pick.tail | apply SubL.cons)))) (q_not rfl) rfl ?_
  refine DW_nil ?_
  refine EW_then ?_
  refine CW_cond rfl (fun h15 => ?_) (fun h15 => ?_)
  · skip
    have hxn : x ∉ r.l := by simpa using h15
    refine CW_seq ?_
    refine CW_draw (Sat R w0 [cel b5 84 (encI x), cel bc 79 [.int .i64 g.terms, .int .i64 g.names, .slice a g.rules.length c, tkv, (.slice (some ⟨bs, 0, none⟩) S.length cs), (.slice (some ⟨br, 0, none⟩) S.length cr)], msA (.slice (some ⟨bs, 0, none⟩) S.length cs) (S), hsA (.slice (some ⟨br, 0, none⟩) S.length cr) (S), mapsA (S), rowsA (S), F]) 8 [(0, false), (1, false), (2, false), (3, false), (4, false), (5, false), (6, false), (7, false), (8, true)] (by kernel_rfl) (Blind.then Blind.bodyP) (by kernel_rfl) (fun w hw => hw.drew) ?_
    refine DW_q rfl (fun w hw => hw.sub (by (repeat (first | exact SubL.nil | exact Pick.head | apply Pick.tail | apply SubL.cons)))) (q_move rfl) rfl ?_
    refine DW_q rfl (fun w hw => hw.sub (by (repeat (first | exact SubL.nil | exact Pick.head | apply Pick.tail | apply SubL.cons)))) (q_nilCheck rfl) rfl ?_
    refine DW_q rfl (fun w hw => hw.sub (by (repeat (first | exact SubL.nil | exact Pick.head | apply Pick.tail | apply SubL.cons)))) (q_fieldAddr Try.underlying79 rfl rfl Try.sizeOf76 rfl rfl) rfl ?_
    first | (refine DW_q rfl (fun w hw => hw.sub (by (repeat (first | exact SubL.nil | exact Pick.head | apply Pick.tail | apply SubL.cons)))) (q_load1_own Try.isAgg76 rfl rfl (by (repeat (first | exact .head | apply Swap.tail))) (by rfl)) rfl ?_) | (refine DW_q rfl (fun w hw => hw.sub (by (repeat (first | exact SubL.nil | exact Pick.head | apply Pick.tail | apply SubL.cons)))) (q_load1_ro Try.isAgg76 rfl (by first | assumption | exact Row.at_ (by assumption) rfl)) rfl ?_)
    refine DW_q rfl (fun w hw => hw.sub (by (repeat (first | exact SubL.nil | exact Pick.head | apply Pick.tail | apply SubL.cons)))) (q_move rfl) rfl ?_
    refine DW_q rfl (fun w hw => hw.sub (by (repeat (first | exact SubL.nil | exact Pick.head | apply Pick.tail | apply SubL.cons)))) (q_indexAddr Try.underlying76 Try.sizeOf80 rfl rfl (by first | omega | assumption)) rfl ?_
    refine DW_q rfl (fun w hw => hw.sub (by repeat (first | exact SubL.nil | exact Pick.head | apply Pick.tail | apply SubL.cons))) (q_load_t1 (v := .slice (some ⟨bs, 0, none⟩) S.length cs) (l := S.map (·.m)) (enc := encM) Try.isAgg80 (fun _ => rfl) rfl (by repeat (first | exact .head | apply Swap.tail)) rfl hmk rfl) rfl ?_
    first | (refine DW_q rfl (fun w hw => hw.sub (by (repeat (first | exact SubL.nil | exact Pick.head | apply Pick.tail | apply SubL.cons)))) (q_loadN_own Try.isAgg84 Try.sizeOf84 rfl rfl (by (repeat (first | exact .head | apply Swap.tail))) (by rfl)) rfl ?_) | (refine DW_q rfl (fun w hw => hw.sub (by (repeat (first | exact SubL.nil | exact Pick.head | apply Pick.tail | apply SubL.cons)))) (q_loadN_ro Try.isAgg84 Try.sizeOf84 rfl (by first | assumption | exact Row.at_ (by assumption) rfl) (by rfl)) rfl ?_)
    refine DW_z0 rfl (e_mapUpd (y := x) Try.itTy rfl rfl rfl hxn (.tail (.tail (.tail (.tail ((Hole.maps hr).swap _)))))) (fun _ => ?_)
    refine EW_then ?_
    refine CW_weak (S' := Sat R w0 (rowsA S :: [cel b5 84 (encI x), cel bc 79 [.int .i64 g.terms, .int .i64 g.names, .slice a g.rules.length c, tkv, (.slice (some ⟨bs, 0, none⟩) S.length cs), (.slice (some ⟨br, 0, none⟩) S.length cr)], msA (.slice (some ⟨bs, 0, none⟩) S.length cs) S, hsA (.slice (some ⟨br, 0, none⟩) S.length cr) S, mapsA (S.set at_ ⟨r.m, r.v, r.l ++ [x], r.u, r.ys⟩), F])) (fun w hw => by rw [← maps_set]; exact hw.sub (by repeat (first | exact SubL.nil | exact Pick.head | apply Pick.tail | apply SubL.cons))) ?_
    refine CW_weak (fun w hw => hw.out (Hole.rows hr)) ?_
    refine CW_draw (Sat R w0 [cel b5 84 (encI x), cel bc 79 [.int .i64 g.terms, .int .i64 g.names, .slice a g.rules.length c, tkv, (.slice (some ⟨bs, 0, none⟩) S.length cs), (.slice (some ⟨br, 0, none⟩) S.length cr)], hsA (.slice (some ⟨br, 0, none⟩) S.length cr) S]) 16 [(0, false), (1, false), (2, false), (3, false), (4, false), (5, false), (6, false), (7, false), (8, false), (9, false), (10, false), (11, false), (12, false), (13, true), (14, true), (15, false), (16, true)] (by kernel_rfl) Blind.bodyP (by kernel_rfl) (fun w hw => hw.drew) ?_
    refine DW_q rfl (fun w hw => hw.sub (by (repeat (first | exact SubL.nil | exact Pick.head | apply Pick.tail | apply SubL.cons)))) (q_move rfl) rfl ?_
    refine DW_q rfl (fun w hw => hw.sub (by (repeat (first | exact SubL.nil | exact Pick.head | apply Pick.tail | apply SubL.cons)))) (q_nilCheck rfl) rfl ?_
    refine DW_q rfl (fun w hw => hw.sub (by (repeat (first | exact SubL.nil | exact Pick.head | apply Pick.tail | apply SubL.cons)))) (q_fieldAddr Try.underlying79 rfl rfl Try.sizeOf77 rfl rfl) rfl ?_
    first | (refine DW_q rfl (fun w hw => hw.sub (by (repeat (first | exact SubL.nil | exact Pick.head | apply Pick.tail | apply SubL.cons)))) (q_load1_own Try.isAgg77 rfl rfl (by (repeat (first | exact .head | apply Swap.tail))) (by rfl)) rfl ?_) | (refine DW_q rfl (fun w hw => hw.sub (by (repeat (first | exact SubL.nil | exact Pick.head | apply Pick.tail | apply SubL.cons)))) (q_load1_ro Try.isAgg77 rfl (by first | assumption | exact Row.at_ (by assumption) rfl)) rfl ?_)
    refine DW_q rfl (fun w hw => hw.sub (by (repeat (first | exact SubL.nil | exact Pick.head | apply Pick.tail | apply SubL.cons)))) (q_move rfl) rfl ?_
    refine DW_q rfl (fun w hw => hw.sub (by (repeat (first | exact SubL.nil | exact Pick.head | apply Pick.tail | apply SubL.cons)))) (q_move rfl) rfl ?_
    refine DW_q rfl (fun w hw => hw.sub (by (repeat (first | exact SubL.nil | exact Pick.head | apply Pick.tail | apply SubL.cons)))) (q_nilCheck rfl) rfl ?_
    refine DW_q rfl (fun w hw => hw.sub (by (repeat (first | exact SubL.nil | exact Pick.head | apply Pick.tail | apply SubL.cons)))) (q_fieldAddr Try.underlying79 rfl rfl Try.sizeOf77 rfl rfl) rfl ?_
    first | (refine DW_q rfl (fun w hw => hw.sub (by (repeat (first | exact SubL.nil | exact Pick.head | apply Pick.tail | apply SubL.cons)))) (q_load1_own Try.isAgg77 rfl rfl (by (repeat (first | exact .head | apply Swap.tail))) (by rfl)) rfl ?_) | (refine DW_q rfl (fun w hw => hw.sub (by (repeat (first | exact SubL.nil | exact Pick.head | apply Pick.tail | apply SubL.cons)))) (q_load1_ro Try.isAgg77 rfl (by first | assumption | exact Row.at_ (by assumption) rfl)) rfl ?_)
    refine DW_q rfl (fun w hw => hw.sub (by (repeat (first | exact SubL.nil | exact Pick.head | apply Pick.tail | apply SubL.cons)))) (q_move rfl) rfl ?_
    refine DW_q rfl (fun w hw => hw.sub (by (repeat (first | exact SubL.nil | exact Pick.head | apply Pick.tail | apply SubL.cons)))) (q_indexAddr Try.underlying77 Try.sizeOf103 rfl rfl (by first | omega | assumption)) rfl ?_
    refine DW_q rfl (fun w hw => hw.sub (by repeat (first | exact SubL.nil | exact Pick.head | apply Pick.tail | apply SubL.cons))) (q_load_t1 (v := (.slice (some ⟨br, 0, none⟩) S.length cr)) (l := S.map (·.v)) (enc := encW) Try.isAgg103 (fun _ => rfl) rfl (by repeat (first | exact .head | apply Swap.tail)) rfl hvk rfl) rfl ?_
    first | (refine DW_q rfl (fun w hw => hw.sub (by (repeat (first | exact SubL.nil | exact Pick.head | apply Pick.tail | apply SubL.cons)))) (q_loadN_own Try.isAgg84 Try.sizeOf84 rfl rfl (by (repeat (first | exact .head | apply Swap.tail))) (by rfl)) rfl ?_) | (refine DW_q rfl (fun w hw => hw.sub (by (repeat (first | exact SubL.nil | exact Pick.head | apply Pick.tail | apply SubL.cons)))) (q_loadN_ro Try.isAgg84 Try.sizeOf84 rfl (by first | assumption | exact Row.at_ (by assumption) rfl) (by rfl)) rfl ?_)
    refine DW_e rfl (e_single Try.underlying103 Try.sizeOf84 Try.zeroValue84 (e := 84) (v := itV x) (cs := encI x) rfl rfl rfl rfl (by decide) (by decide)) rfl (fun _ w hw => hw.sub (by repeat (first | exact SubL.nil | exact Pick.head | apply Pick.tail | apply SubL.cons))) (fun b37 => ?_)
    refine DW_e rfl (e_appendV x Try.underlying103 Try.typeInfo84 rfl rfl rfl rfl rfl rfl (by repeat (first | exact .head | apply Pick.tail)) (by exact fun w hw => hw.news (by repeat (first | exact .head | apply Swap.tail))) (by omega) (by decide)) rfl (fun _ w hw => hw.sub (by repeat (first | exact SubL.nil | exact Pick.head | apply Pick.tail | apply SubL.cons))) (fun v38 => ?_)
    refine DW_q rfl (fun w hw => hw.sub (by (repeat (first | exact SubL.nil | exact Pick.head | apply Pick.tail | apply SubL.cons)))) (q_indexAddr Try.underlying77 Try.sizeOf103 rfl rfl (by first | omega | assumption)) rfl ?_
    refine DW_fact (fun w hw => hw.vform (v := v38) (l := r.l ++ [x]) (u := r.u) (ys := r.ys) (by repeat (first | exact .head | apply Swap.tail))) (fun hf => ?_)
    obtain ⟨_, _, h38, _⟩ := hf
    refine DW_z0 rfl (e_store_t1 (enc := encW) (y := r.v) (y' := v38) Try.sizeOf103 (fun _ => rfl) rfl rfl (by rw [h38]; rfl) rfl hvk rfl (by repeat (first | exact .head | apply Swap.tail))) (fun _ => ?_)
    refine end0 Try.results59 (fun w hw => ?_)
    have hw2 := Sat.back_ (Hole.rows hr) (hw.drop (.tail .head) : Sat _ _ (rowP ⟨r.m, v38, r.l ++ [x], r.u, r.ys⟩ :: stars ((S.map rowP).set at_ emp0A) :: _) w)
    rw [rows_set] at hw2
    have e1 : (S.set at_ ⟨r.m, v38, r.l ++ [x], r.u, r.ys⟩).map (·.m) = S.map (·.m) := set_same_m hr rfl
    have e2 : (S.set at_ ⟨r.m, v38, r.l ++ [x], r.u, r.ys⟩).map (·.v) = (S.map (·.v)).set at_ v38 := by rw [List.map_set]
    have e3 : mapsA (S.set at_ ⟨r.m, v38, r.l ++ [x], r.u, r.ys⟩) = mapsA (S.set at_ ⟨r.m, r.v, r.l ++ [x], r.u, r.ys⟩) := by rw [← maps_set, ← maps_set]
    refine ⟨S.set at_ ⟨r.m, v38, r.l ++ [x], r.u, r.ys⟩, rfl, ⟨chi_set hI hr hxn hok v38, grow_set hr v38 x, ?_⟩, ?_⟩
    · rw [rowAt_get (l := r.l ++ [x]) (by rw [List.getElem?_map, List.getElem?_set_self (by omega)]; rfl)]; simp
    · show Sat R w0 ([_, trow _ 1 encM _ _, trow _ 1 encW _ _, mapsA _, rowsA _] ++ [F]) w
      rw [e1, e2, e3]
      exact hw2.sub (by repeat (first | exact SubL.nil | exact Pick.head | apply Pick.tail | apply SubL.cons))
  · skip
    have hxi : x ∈ r.l := by simpa using h15
    refine CW_skip ?_
    refine end0 Try.results59 (fun w hw => ?_)
    exact ⟨S, rfl, ⟨hI, Grow.refl _ _, by rw [rowAt_get (l := r.l) (by rw [List.getElem?_map, hr]; rfl)]; exact hxi⟩, hw.sub (by repeat (first | exact SubL.nil | exact Pick.head | apply Pick.tail | apply SubL.cons))⟩

end Go.Sy
