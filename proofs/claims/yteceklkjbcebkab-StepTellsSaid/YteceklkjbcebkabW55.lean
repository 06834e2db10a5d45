/- pollardingref8.one: swaps. No condition. -/
import Derived.Test.YteceklkjbcebkabW53
import Derived.Test.YteceklkjbcebkabW48
import Derived.Test.YteceklkjbcebkabSyt2
namespace Go.Sy
open Go Go.RowKit Go.Proofs

section
variable {P : Program} {n : Nat} {K : Env} {dst : Option Nat} {T : TypeId} {pos : String} {af : Array Edge} {g : Option (Nat × Bool)} {R : Nat → Prop} {w0 : World} {L : List HP}
/-- append of what can be read, be it nothing. -/
theorem e_appendG [Inhabited (List Deferred)] {α : Type} {enc : α → List Value} {t e : TypeId} {s x : Operand} {i : TypeInfo} {z v : Value} {size bytes m c : Nat} {l ys : List α} {sa : Option Addr} {L1 : List HP} (he : ∀ x, (enc x).length = size) (hu : P.underlying t = some (.slice e)) (hi : ∀ w, (typeInfo e).run P w = .ok i w) (hz : i.zero = some z)
    (hsize : i.size = size) (hby : i.bytes = bytes) (hzs : z.cells.size = size) (hsz : Nat.beq size 0 = false)
    (hs : ev K s = some v) (hx : ev K x = some (.slice sa m c)) (hp : Pick L (trow e size enc v l) L1)
    (hl : ys.length = m) (hsrc : ∀ w, Sat R w0 L w → ∀ j u, (ys.flatMap enc)[j]? = some u → ∃ a, sa = some a ∧ w.cell? (a.add j) = some u) (h1 : ∀ u ∈ ys.flatMap enc, u.oneCell' = true)
    (hroom : l.length + m ≤ 1000000000000) (hbyt : bytes ≤ 64) :
    Ef P n K (Sat R w0 L) ⟨dst, .call { callee := .builtin .append, args := #[s, x], argTypes := #[t, t] }, T, pos, af, g⟩ (fun v' : Value => v') (fun v' => Sat R w0 (trow e size enc v' (l ++ ys) :: L1)) := by
  intro a w ha hw next Q h
  cases ys with
  | nil =>
    have hm0 : m = 0 := hl.symm
    subst hm0
    have hpk := hw.pick hp
    obtain ⟨p, cc, e1, hc1, _⟩ := hpk.rowSl (A' := trow e size enc v l) .head
    subst e1
    have := h (.slice p l.length cc) w (by rw [List.append_nil]; exact hpk)
    have hl0 : ∀ (x : Addr), (loadCells x 0).run P w = .ok #[] w := fun x => by simpa using run_loadCells_list (P := P) w x [] (by simp)
    have hinfo := info_of P hi w
    have hr : (Builtin.append_ #[t, t] T #[.slice p l.length cc, .slice sa 0 c]).run P w = .ok (.slice p l.length cc) w := by
      cases sa <;> cases p <;> simp [Builtin.append_, run_underlying hu, sizeOf, typeInfo, hinfo, Builtin.lenOf, Builtin.firstCells, hc1, storeCells, hl0]
    simp only [Oper.wp, execOp, resolve, invoke, builtin, Sem.run_bind, Sem.run_pure, Result.andThen_ok, List.map_toArray, List.map_cons, List.map_nil, ha.ev hs, ha.ev hx, hr, Oper.upon]
    exact this
  | cons y ys =>
    have hsr := hsrc w hw
    have hf : ((y :: ys).flatMap enc).length = m * size := by rw [flat_length he, hl]
    have hsz' : 0 < size := Nat.pos_of_ne_zero (Nat.ne_of_beq_eq_false hsz)
    obtain ⟨u0, us, hus⟩ : ∃ u us, (y :: ys).flatMap enc = u :: us := by
      cases hc : (y :: ys).flatMap enc with
      | nil =>
        rw [hc] at hf
        have hm1 : 0 < m := by rw [← hl]; simp
        have := Nat.mul_pos hm1 hsz'
        rw [← hf] at this
        simp at this
      | cons u us => exact ⟨u, us, rfl⟩
    obtain ⟨ad, rfl, _⟩ := hsr 0 u0 (by rw [hus]; rfl)
    have key := e_append (P := P) (n := n) (K := K) (dst := dst) (T := T) (pos := pos) (af := af) (g := g) (R := R) (w0 := w0) (L := L) hu hi hz hsize hby hzs hsz hs hx (hp : Pick L (row e size v l.length (l.flatMap enc)) L1) hf
      (fun w hw j u hj => by
        obtain ⟨a1, e1, hc⟩ := hsrc w hw j u hj
        cases e1
        exact hc) h1 hroom hbyt
    refine key a w ha hw next Q fun v' w' hS => h v' w' ?_
    unfold trow
    rw [List.flatMap_append, List.length_append, hl]
    exact hS
end
section
variable {R : Nat → Prop} {w0 w : World} {L L' : List HP}
theorem Sat.oneRule {b : Nat} {n : Int} {v : Value} {ys : List Sym} (h : Sat R w0 (cel b 49 [.int .i64 n, v] :: trow 51 2 encY v ys :: L) w) : Sat R w0 (rulesA (.slice (some ⟨b, 0, none⟩) 1 1) [⟨⟨n, ys⟩, v⟩] :: symsA [⟨⟨n, ys⟩, v⟩] :: L) w := by
  have h1 : Sat R w0 (rulesA (.slice (some ⟨b, 0, none⟩) 1 1) [⟨⟨n, ys⟩, v⟩] :: trow 51 2 encY v ys :: L) w := h.swap .head fun hh hb => row_of_cel (n := 1) (size := 2) rfl (by simp [maxLen]) hh hb
  have h2 : Sat R w0 (symsA [] :: symA ⟨⟨n, ys⟩, v⟩ :: rulesA (.slice (some ⟨b, 0, none⟩) 1 1) [⟨⟨n, ys⟩, v⟩] :: L) w := (h1.pick (.tail .head)).addEmp rfl
  exact (h2.symsPush).pick (.tail .head)
/-- Cells of a part of an owned row. -/
theorem Sat.tailIn {v : Value} {l : List Sym} {a : Option Addr} {c k : Nat} (h : Sat R w0 L w) (s : Swap L (trow 51 2 encY v l) (trow 51 2 encY v l) L') (hv : v = .slice a l.length c) (hk : k ≤ l.length) : ∀ j u, ((l.drop k).flatMap encY)[j]? = some u → ∃ p, (if c = k then a else a.map (·.add (k * 2))) = some p ∧ w.cell? (p.add j) = some u := by
  intro j u hj
  have h1 := SlAt.sub (hv ▸ h.symsIn s) hk (Nat.le_refl _)
  rw [List.take_length] at h1
  obtain ⟨a', c', e1, _, _, hx⟩ := h1
  injection e1 with e2 _ _
  have hj2 := (List.getElem?_eq_some_iff.1 hj).1
  rw [flat_length (enc := encY) (size := 2) (fun _ => rfl)] at hj2
  obtain ⟨x, hx2⟩ := get_of_lt (l := l.drop k) (k := j / 2) (by omega)
  obtain ⟨p, hp, hr⟩ := hx (j / 2) x hx2
  refine ⟨p, e2.trans hp, ?_⟩
  have hf := flat_get (enc := encY) (size := 2) (fun _ => rfl) hx2 (Nat.mod_lt j (by omega : 0 < 2))
  rw [Nat.div_add_mod' j 2] at hf
  rw [hf] at hj
  have := hr (j % 2) u hj
  rw [add_twice, Nat.div_add_mod' j 2] at this
  exact this
end
/-- What a rule becomes. -/
def oneR (g : Gram) (s : SStep) (ms cs : List Bool) (k : Nat) (q : Rule) : List Rule :=
  if s.op = 1 then [swapR s.a s.b q] else if s.op = 2 then (if (k : Int) = s.a then [extR q s.b.toNat s.c.toNat (nameS g.names)] else [q]) else if s.op = 3 then (if (k : Int) = s.a then inlL g s else [q]) else if s.op = 4 then [leftR g s.a q] else if keptB ms cs q then [q] else []
set_option maxRecDepth 20000 in
theorem one1_any (gv : Value) (g : Gram) (s : SStep) (k : Nat) (q : Rule) (w : World) (hm : mayB g = true) (hs : mayS g s = true) (hop : s.op = 1) (hq : g.rules[k]? = some q) (hg : GramAt (Cl w) gv g) : Calls Try.prog 22 #[gv, stepV s, .int .i64 (k : Int)] w (fun e w' => ∃ x : Value × List RV × List Bool × List Bool, e = .returned x.1 ∧ ((s.op = 5 → MksOk g x.2.2.1 ∧ CmsOk g x.2.2.2) ∧ plainR x.2.1 = oneR g s x.2.2.1 x.2.2.2 k q) ∧ Sat (Old w) w [rulesA x.1 x.2.1, symsA x.2.1] w') := by
  have hg0 := hg
  obtain ⟨rv, rfl, hr⟩ := hg.mono old_rd
  obtain ⟨a, c, rfl, hc1, hc2, hrs⟩ := id hr
  clear hg
  have hM := mayB_true.1 hm
  have hlk := (List.getElem?_eq_some_iff.1 hq).1
  have hq8 := (may_rule hm hq).2.2
  obtain ⟨p, rfl, rvq, hsy, hrow⟩ := hrs k q hq
  obtain ⟨ya, yc, rfl, hy1, hy2, hys⟩ := id hsy
  refine calls_CW Try.func22 rfl Try.ntmps22 rfl (Sat.start w) ?_
  refine CW_seq ?_
  refine CW_region ?_
  refine OW_e (e_box rfl rfl) rfl (fun b3 => ?_)
  refine OW_e (e_box rfl rfl) rfl (fun b4 => ?_)
  refine OW_q (q_assign rfl) rfl ?_
  refine OW_nil ?_
  refine EW_then ?_
  refine CW_seqJ (ι := Nat × Option Addr × Nat) (fun i_ => q.right.length ≤ i_.2.2 ∧ i_.2.2 ≤ 9223372036854775807 ∧ (0 < q.right.length → ∃ g, i_.2.1 = some ⟨g, 0, none⟩)) (fun i_ => [(2, .int .i64 (k : Int)), (3, .pointer (some ⟨b3, 0, none⟩)), (4, .pointer (some ⟨b4, 0, none⟩)), (7, .pointer (some ⟨i_.1, 0, none⟩))]) (fun i_ => Sat (Old w) w [cel i_.1 49 [.int .i64 q.left, .slice i_.2.1 q.right.length i_.2.2], trow 51 2 encY (.slice i_.2.1 q.right.length i_.2.2) q.right, cel b4 26 [.int .i64 s.op, .int .i64 s.a, .int .i64 s.b, .int .i64 s.c], cel b3 24 [.int .i64 g.terms, .int .i64 g.names, .slice (some p) g.rules.length c]]) ?_ ?_
  · skip
    refine CW_drawT (Sat (Old w) w [cel b4 26 [.int .i64 s.op, .int .i64 s.a, .int .i64 s.b, .int .i64 s.c], cel b3 24 [.int .i64 g.terms, .int .i64 g.names, .slice (some p) g.rules.length c]]) [15] (.q 0 false (.q 1 true (.q 2 false (.q 3 false (.q 4 false (.q 5 true (.q 6 false (.q 7 true (.q 8 false (.q 9 false (.q 10 false (.q 11 true (.alt 12 (.q 13 false (.e 14 (.e 15 .nil))) 14 (.e 12 (.q 13 false (.e 15 .nil)))))))))))))))) (by kernel_rfl) (Blind.again Blind.bodyP) (by kernel_rfl) (fun w hw => hw.drew) ?_
    refine DT_p rfl (.inr (fun w hw => (by first | exact hw.sub (by (repeat (first | exact SubL.nil | exact Pick.head | apply Pick.tail | apply SubL.cons))) | exact hw.2.sub (by (repeat (first | exact SubL.nil | exact Pick.head | apply Pick.tail | apply SubL.cons)))))) (q_fieldAddr Try.underlying24 rfl rfl Try.sizeOf22 rfl rfl) rfl ?_
    first | (refine DT_q rfl (fun w hw => (by first | exact hw.sub (by (repeat (first | exact SubL.nil | exact Pick.head | apply Pick.tail | apply SubL.cons))) | exact hw.2.sub (by (repeat (first | exact SubL.nil | exact Pick.head | apply Pick.tail | apply SubL.cons))))) (q_load1_own Try.isAgg22 rfl rfl (by (repeat (first | exact .head | apply Swap.tail))) (by rfl)) rfl ?_) | (refine DT_q rfl (fun w hw => (by first | exact hw.sub (by (repeat (first | exact SubL.nil | exact Pick.head | apply Pick.tail | apply SubL.cons))) | exact hw.2.sub (by (repeat (first | exact SubL.nil | exact Pick.head | apply Pick.tail | apply SubL.cons))))) (q_load1_ro Try.isAgg22 rfl (by first | assumption | exact Row.at_ (by assumption) rfl)) rfl ?_)
    refine DT_p rfl (.inr (fun w hw => (by first | exact hw.sub (by (repeat (first | exact SubL.nil | exact Pick.head | apply Pick.tail | apply SubL.cons))) | exact hw.2.sub (by (repeat (first | exact SubL.nil | exact Pick.head | apply Pick.tail | apply SubL.cons)))))) (q_move rfl) rfl ?_
    refine DT_p rfl (.inr (fun w hw => (by first | exact hw.sub (by (repeat (first | exact SubL.nil | exact Pick.head | apply Pick.tail | apply SubL.cons))) | exact hw.2.sub (by (repeat (first | exact SubL.nil | exact Pick.head | apply Pick.tail | apply SubL.cons)))))) (q_indexAddr Try.underlying22 Try.sizeOf49 rfl rfl (by first | omega | assumption)) rfl ?_
    refine DT_p rfl (.inr (fun w hw => (by first | exact hw.sub (by (repeat (first | exact SubL.nil | exact Pick.head | apply Pick.tail | apply SubL.cons))) | exact hw.2.sub (by (repeat (first | exact SubL.nil | exact Pick.head | apply Pick.tail | apply SubL.cons)))))) (q_fieldAddr Try.underlying49 rfl rfl Try.sizeOf3 rfl rfl) rfl ?_
    refine DT_q rfl (fun w hw => (by first | exact hw.sub (by (repeat (first | exact SubL.nil | exact Pick.head | apply Pick.tail | apply SubL.cons))) | exact hw.2.sub (by (repeat (first | exact SubL.nil | exact Pick.head | apply Pick.tail | apply SubL.cons))))) (q_load1_ro Try.isAgg3 rfl (by first | exact Row.at0 hrow)) rfl ?_
    refine DT_p rfl (.inr (fun w hw => (by first | exact hw.sub (by (repeat (first | exact SubL.nil | exact Pick.head | apply Pick.tail | apply SubL.cons))) | exact hw.2.sub (by (repeat (first | exact SubL.nil | exact Pick.head | apply Pick.tail | apply SubL.cons)))))) (q_fieldAddr Try.underlying24 rfl rfl Try.sizeOf22 rfl rfl) rfl ?_
    first | (refine DT_q rfl (fun w hw => (by first | exact hw.sub (by (repeat (first | exact SubL.nil | exact Pick.head | apply Pick.tail | apply SubL.cons))) | exact hw.2.sub (by (repeat (first | exact SubL.nil | exact Pick.head | apply Pick.tail | apply SubL.cons))))) (q_load1_own Try.isAgg22 rfl rfl (by (repeat (first | exact .head | apply Swap.tail))) (by rfl)) rfl ?_) | (refine DT_q rfl (fun w hw => (by first | exact hw.sub (by (repeat (first | exact SubL.nil | exact Pick.head | apply Pick.tail | apply SubL.cons))) | exact hw.2.sub (by (repeat (first | exact SubL.nil | exact Pick.head | apply Pick.tail | apply SubL.cons))))) (q_load1_ro Try.isAgg22 rfl (by first | assumption | exact Row.at_ (by assumption) rfl)) rfl ?_)
    refine DT_p rfl (.inr (fun w hw => (by first | exact hw.sub (by (repeat (first | exact SubL.nil | exact Pick.head | apply Pick.tail | apply SubL.cons))) | exact hw.2.sub (by (repeat (first | exact SubL.nil | exact Pick.head | apply Pick.tail | apply SubL.cons)))))) (q_move rfl) rfl ?_
    refine DT_p rfl (.inr (fun w hw => (by first | exact hw.sub (by (repeat (first | exact SubL.nil | exact Pick.head | apply Pick.tail | apply SubL.cons))) | exact hw.2.sub (by (repeat (first | exact SubL.nil | exact Pick.head | apply Pick.tail | apply SubL.cons)))))) (q_indexAddr Try.underlying22 Try.sizeOf49 rfl rfl (by first | omega | assumption)) rfl ?_
    refine DT_p rfl (.inr (fun w hw => (by first | exact hw.sub (by (repeat (first | exact SubL.nil | exact Pick.head | apply Pick.tail | apply SubL.cons))) | exact hw.2.sub (by (repeat (first | exact SubL.nil | exact Pick.head | apply Pick.tail | apply SubL.cons)))))) (q_fieldAddr Try.underlying49 rfl rfl Try.sizeOf46 rfl rfl) rfl ?_
    refine DT_q rfl (fun w hw => (by first | exact hw.sub (by (repeat (first | exact SubL.nil | exact Pick.head | apply Pick.tail | apply SubL.cons))) | exact hw.2.sub (by (repeat (first | exact SubL.nil | exact Pick.head | apply Pick.tail | apply SubL.cons))))) (q_load1_ro Try.isAgg46 rfl (by first | exact hrow.at_ (j := 1) rfl)) rfl ?_
    refine DT_alt ?_ ?_
    · skip
      refine DT_e rfl (e_call Try.call23 rfl (fun w hw => lift_old (copied_any _ q.right w (by omega) (hsy.mono fun _ _ h => hw.rd h)) hw)) rfl (.inr (fun _ w hw => (by first | exact hw.sub (by (repeat (first | exact SubL.nil | exact Pick.head | apply Pick.tail | apply SubL.cons))) | exact hw.2.sub (by (repeat (first | exact SubL.nil | exact Pick.head | apply Pick.tail | apply SubL.cons)))))) (fun x30 => ?_)
      refine DT_fact (fun w hw => hw.tform (v := x30) (l := q.right) (enc := encY) (by repeat (first | exact .head | apply Swap.tail))) (fun hf => ?_)
      obtain ⟨ax, cx, rfl, hcx1, hcx2, hbx⟩ := hf
      refine DT_p rfl (.inr (fun w hw => (by first | exact hw.sub (by (repeat (first | exact SubL.nil | exact Pick.head | apply Pick.tail | apply SubL.cons))) | exact hw.2.sub (by (repeat (first | exact SubL.nil | exact Pick.head | apply Pick.tail | apply SubL.cons)))))) (q_build (ps := #[(0, .int .i64 q.left), (1, .slice ax q.right.length cx)]) (v := .agg #[.int .i64 q.left, .slice ax q.right.length cx]) rfl (fun w => by kernel_rfl)) rfl ?_
      refine DT_e rfl (e_alloc Try.zeroValue49 rfl) rfl (.inr (fun _ w hw => (by first | exact hw.sub (by (repeat (first | exact SubL.nil | exact Pick.head | apply Pick.tail | apply SubL.cons))) | exact hw.2.sub (by (repeat (first | exact SubL.nil | exact Pick.head | apply Pick.tail | apply SubL.cons)))))) (fun b7 => ?_)
      refine DT_e0 rfl (e_storeN Try.sizeOf49 rfl rfl rfl rfl (by simp [Value.oneCell']) (by (repeat (first | exact .head | apply Swap.tail))) (by rfl)) (.inl rfl) (fun _ => ?_)
      refine DT_nil ?_
      refine EW_again ((b7, ax, cx)) ?_ ⟨rfl, rfl, rfl, rfl, trivial⟩ (fun w hw => hw.sub (by (repeat (first | exact SubL.nil | exact Pick.head | apply Pick.tail | apply SubL.cons))))
      · exact ⟨hcx1, hcx2, hbx⟩
    · skip
      refine DT_e rfl (e_alloc Try.zeroValue49 rfl) rfl (.inr (fun _ w hw => (by first | exact hw.sub (by (repeat (first | exact SubL.nil | exact Pick.head | apply Pick.tail | apply SubL.cons))) | exact hw.2.sub (by (repeat (first | exact SubL.nil | exact Pick.head | apply Pick.tail | apply SubL.cons)))))) (fun b7 => ?_)
      refine DT_e rfl (e_call Try.call23 rfl (fun w hw => lift_old (copied_any _ q.right w (by omega) (hsy.mono fun _ _ h => hw.rd h)) hw)) rfl (.inr (fun _ w hw => (by first | exact hw.sub (by (repeat (first | exact SubL.nil | exact Pick.head | apply Pick.tail | apply SubL.cons))) | exact hw.2.sub (by (repeat (first | exact SubL.nil | exact Pick.head | apply Pick.tail | apply SubL.cons)))))) (fun x30 => ?_)
      refine DT_fact (fun w hw => hw.tform (v := x30) (l := q.right) (enc := encY) (by repeat (first | exact .head | apply Swap.tail))) (fun hf => ?_)
      obtain ⟨ax, cx, rfl, hcx1, hcx2, hbx⟩ := hf
      refine DT_p rfl (.inr (fun w hw => (by first | exact hw.sub (by (repeat (first | exact SubL.nil | exact Pick.head | apply Pick.tail | apply SubL.cons))) | exact hw.2.sub (by (repeat (first | exact SubL.nil | exact Pick.head | apply Pick.tail | apply SubL.cons)))))) (q_build (ps := #[(0, .int .i64 q.left), (1, .slice ax q.right.length cx)]) (v := .agg #[.int .i64 q.left, .slice ax q.right.length cx]) rfl (fun w => by kernel_rfl)) rfl ?_
      refine DT_e0 rfl (e_storeN Try.sizeOf49 rfl rfl rfl rfl (by simp [Value.oneCell']) (by (repeat (first | exact .head | apply Swap.tail))) (by rfl)) (.inl rfl) (fun _ => ?_)
      refine DT_nil ?_
      refine EW_again ((b7, ax, cx)) ?_ ⟨rfl, rfl, rfl, rfl, trivial⟩ (fun w hw => hw.sub (by (repeat (first | exact SubL.nil | exact Pick.head | apply Pick.tail | apply SubL.cons))))
      · exact ⟨hcx1, hcx2, hbx⟩
  intro i_ hpre
  obtain ⟨b7, ax, cx⟩ := i_
  replace hpre : q.right.length ≤ cx ∧ cx ≤ 9223372036854775807 ∧ (0 < q.right.length → ∃ g, ax = some ⟨g, 0, none⟩) := hpre
  change CW _ _ _ _ [(2, .int .i64 (k : Int)), (3, .pointer (some ⟨b3, 0, none⟩)), (4, .pointer (some ⟨b4, 0, none⟩)), (7, .pointer (some ⟨b7, 0, none⟩))] (Sat (Old w) w [cel b7 49 [.int .i64 q.left, .slice ax q.right.length cx], trow 51 2 encY (.slice ax q.right.length cx) q.right, cel b4 26 [.int .i64 s.op, .int .i64 s.a, .int .i64 s.b, .int .i64 s.c], cel b3 24 [.int .i64 g.terms, .int .i64 g.names, .slice (some p) g.rules.length c]])
  obtain ⟨hcx1, hcx2, hbx⟩ := hpre
  refine CW_seq ?_
  refine CW_region ?_
  refine OW_q (q_fieldAddr Try.underlying24 rfl rfl Try.sizeOf3 rfl rfl) rfl ?_
  first | (refine OW_q (q_load1_own Try.isAgg3 rfl rfl (by (repeat (first | exact .head | apply Swap.tail))) (by rfl)) rfl ?_) | (refine OW_q (q_load1_ro Try.isAgg3 rfl (by first | assumption | exact Row.at_ (by assumption) rfl)) rfl ?_)
  refine OW_q (q_build (ps := #[(1, .int .i64 g.names)]) (v := .agg #[.bool false, .int .i64 g.names]) rfl (fun w => by kernel_rfl)) rfl ?_
  refine OW_e (e_alloc Try.zeroValue51 rfl) rfl (fun b8 => ?_)
  refine OW_e0 (e_storeN Try.sizeOf51 rfl rfl rfl rfl (by simp [Value.oneCell']) (by (repeat (first | exact .head | apply Swap.tail))) (by rfl)) (fun _ => ?_)
  refine OW_nil ?_
  refine EW_then ?_
  refine CW_seq ?_
  refine CW_seq ?_
  refine CW_region ?_
  refine OW_q (q_fieldAddr Try.underlying26 rfl rfl Try.sizeOf3 rfl rfl) rfl ?_
  first | (refine OW_q (q_load1_own Try.isAgg3 rfl rfl (by (repeat (first | exact .head | apply Swap.tail))) (by rfl)) rfl ?_) | (refine OW_q (q_load1_ro Try.isAgg3 rfl (by first | assumption | exact Row.at_ (by assumption) rfl)) rfl ?_)
  refine OW_nil ?_
  refine EW_then ?_
  refine CW_block ?_
  refine CW_seq ?_
  refine CW_region ?_
  refine OW_q (q_eqi rfl rfl) rfl ?_
  refine OW_q (q_assign rfl) rfl ?_
  refine OW_nil ?_
  refine EW_then ?_
  refine CW_true rfl (by simp [hop]) ?_
  refine CW_seq ?_
  refine CW_region ?_
  refine OW_q (q_fieldAddr Try.underlying49 rfl rfl Try.sizeOf3 rfl rfl) rfl ?_
  first | (refine OW_q (q_load1_own Try.isAgg3 rfl rfl (by (repeat (first | exact .head | apply Swap.tail))) (by rfl)) rfl ?_) | (refine OW_q (q_load1_ro Try.isAgg3 rfl (by first | assumption | exact Row.at_ (by assumption) rfl)) rfl ?_)
  refine OW_q (q_fieldAddr Try.underlying26 rfl rfl Try.sizeOf3 rfl rfl) rfl ?_
  first | (refine OW_q (q_load1_own Try.isAgg3 rfl rfl (by (repeat (first | exact .head | apply Swap.tail))) (by rfl)) rfl ?_) | (refine OW_q (q_load1_ro Try.isAgg3 rfl (by first | assumption | exact Row.at_ (by assumption) rfl)) rfl ?_)
  refine OW_q (q_fieldAddr Try.underlying26 rfl rfl Try.sizeOf3 rfl rfl) rfl ?_
  first | (refine OW_q (q_load1_own Try.isAgg3 rfl rfl (by (repeat (first | exact .head | apply Swap.tail))) (by rfl)) rfl ?_) | (refine OW_q (q_load1_ro Try.isAgg3 rfl (by first | assumption | exact Row.at_ (by assumption) rfl)) rfl ?_)
  refine OW_e (e_call Try.call38 rfl (fun w hw => lift_ro (swapped_any _ _ _ w) hw)) rfl (fun x45 => ?_)
  refine OW_q (q_fieldAddr Try.underlying49 rfl rfl Try.sizeOf3 rfl rfl) rfl ?_
  refine OW_e0 (e_store Try.sizeOf3 rfl rfl rfl rfl (by (repeat (first | exact .head | apply Swap.tail))) (by rfl)) (fun _ => ?_)
  refine OW_nil ?_
  refine EW_then ?_
  refine CW_seq ?_
  refine CW_region ?_
  refine OW_q (q_assign rfl) rfl ?_
  refine OW_nil ?_
  refine EW_then ?_
  refine CW_block ?_
  refine CW_loopP (ι := Nat × List Sym) (fun i_ => i_.1 ≤ q.right.length ∧ i_.2.length = q.right.length ∧ ∀ j, i_.2[j]? = if j < i_.1 then (q.right[j]?).map (swapY s.a s.b) else q.right[j]?) (fun i_ => [(2, .int .i64 (k : Int)), (3, .pointer (some ⟨b3, 0, none⟩)), (4, .pointer (some ⟨b4, 0, none⟩)), (7, .pointer (some ⟨b7, 0, none⟩)), (8, .pointer (some ⟨b8, 0, none⟩)), (9, .int .i64 (i_.1 : Int))]) (fun i_ => Sat (Old w) w [cel b8 51 [.bool false, .int .i64 g.names], cel b7 49 [.int .i64 (swapN s.a s.b q.left), .slice ax q.right.length cx], trow 51 2 encY (.slice ax q.right.length cx) i_.2, cel b4 26 [.int .i64 s.op, .int .i64 s.a, .int .i64 s.b, .int .i64 s.c], cel b3 24 [.int .i64 g.terms, .int .i64 g.names, .slice (some p) g.rules.length c]]) (fun i_ => q.right.length - i_.1) (0, q.right) ?_ ⟨rfl, rfl, rfl, rfl, rfl, rfl, trivial⟩ (fun w hw => hw.sub (by (repeat (first | exact SubL.nil | exact Pick.head | apply Pick.tail | apply SubL.cons)))) ?_
  · exact ⟨Nat.zero_le _, rfl, fun j => by simp⟩
  intro i_ hpre
  obtain ⟨i, ys⟩ := i_
  replace hpre : i ≤ q.right.length ∧ ys.length = q.right.length ∧ ∀ j, ys[j]? = if j < i then (q.right[j]?).map (swapY s.a s.b) else q.right[j]? := hpre
  change CW _ _ _ _ [(2, .int .i64 (k : Int)), (3, .pointer (some ⟨b3, 0, none⟩)), (4, .pointer (some ⟨b4, 0, none⟩)), (7, .pointer (some ⟨b7, 0, none⟩)), (8, .pointer (some ⟨b8, 0, none⟩)), (9, .int .i64 (i : Int))] (Sat (Old w) w [cel b8 51 [.bool false, .int .i64 g.names], cel b7 49 [.int .i64 (swapN s.a s.b q.left), .slice ax q.right.length cx], trow 51 2 encY (.slice ax q.right.length cx) ys, cel b4 26 [.int .i64 s.op, .int .i64 s.a, .int .i64 s.b, .int .i64 s.c], cel b3 24 [.int .i64 g.terms, .int .i64 g.names, .slice (some p) g.rules.length c]])
  obtain ⟨hi, hysl, hyk⟩ := hpre
  refine CW_seq ?_
  refine CW_seq ?_
  refine CW_region ?_
  refine OW_q (q_move rfl) rfl ?_
  refine OW_q (q_fieldAddr Try.underlying49 rfl rfl Try.sizeOf46 rfl rfl) rfl ?_
  first | (refine OW_q (q_load1_own Try.isAgg46 rfl rfl (by (repeat (first | exact .head | apply Swap.tail))) (by rfl)) rfl ?_) | (refine OW_q (q_load1_ro Try.isAgg46 rfl (by first | assumption | exact Row.at_ (by assumption) rfl)) rfl ?_)
  refine OW_q (q_len Try.underlying46 rfl) rfl ?_
  refine OW_q (q_lss rfl rfl) rfl ?_
  refine OW_nil ?_
  refine EW_then ?_
  refine CW_cond rfl (fun h51 => ?_) (fun h51 => ?_)
  · skip
    have hli : i < q.right.length := by have := of_decide_eq_true h51; omega
    obtain ⟨bx, rfl⟩ := hbx (by omega)
    obtain ⟨y, hyi⟩ := get_of_lt (l := ys) (k := i) (by omega)
    have hxi := hyk i
    rw [if_neg (by omega), hyi] at hxi
    refine CW_skip ?_
    refine EW_then ?_
    refine CW_seq ?_
    refine CW_block ?_
    refine CW_seq ?_
    refine CW_region ?_
    refine OW_q (q_fieldAddr Try.underlying49 rfl rfl Try.sizeOf46 rfl rfl) rfl ?_
    first | (refine OW_q (q_load1_own Try.isAgg46 rfl rfl (by (repeat (first | exact .head | apply Swap.tail))) (by rfl)) rfl ?_) | (refine OW_q (q_load1_ro Try.isAgg46 rfl (by first | assumption | exact Row.at_ (by assumption) rfl)) rfl ?_)
    refine OW_q (q_move rfl) rfl ?_
    refine OW_q (q_indexAddr Try.underlying46 Try.sizeOf51 rfl rfl (by first | omega | assumption)) rfl ?_
    refine OW_q (q_fieldAddr Try.underlying51 rfl rfl Try.sizeOf4 rfl rfl) rfl ?_
    refine OW_q (q_load1_t (enc := encY) (k := i) (off := 0) (v := .slice (some ⟨bx, 0, none⟩) q.right.length cx) (l := ys) Try.isAgg4 (fun _ => rfl) rfl (by repeat (first | exact .head | apply Swap.tail)) rfl hyi rfl) rfl ?_
    refine OW_q (q_not rfl) rfl ?_
    refine OW_nil ?_
    refine EW_then ?_
    refine CW_cond rfl (fun h60 => ?_) (fun h60 => ?_)
    · skip
      refine CW_drawS 16 [(0, false), (1, false), (2, false), (3, false), (4, false), (5, false), (6, false), (7, false), (8, false), (9, false), (10, false), (11, false), (12, false), (13, true), (14, false), (15, false), (16, true)] (by kernel_rfl) (Blind.block (Blind.then (Blind.again (Blind.block (Blind.block (Blind.then Blind.bodyP)))))) (by kernel_rfl) (fun w hw => hw.drew) ?_
      refine DW_q rfl (fun w hw => hw.sub (by (repeat (first | exact SubL.nil | exact Pick.head | apply Pick.tail | apply SubL.cons)))) (q_fieldAddr Try.underlying49 rfl rfl Try.sizeOf46 rfl rfl) rfl ?_
      first | (refine DW_q rfl (fun w hw => hw.sub (by (repeat (first | exact SubL.nil | exact Pick.head | apply Pick.tail | apply SubL.cons)))) (q_load1_own Try.isAgg46 rfl rfl (by (repeat (first | exact .head | apply Swap.tail))) (by rfl)) rfl ?_) | (refine DW_q rfl (fun w hw => hw.sub (by (repeat (first | exact SubL.nil | exact Pick.head | apply Pick.tail | apply SubL.cons)))) (q_load1_ro Try.isAgg46 rfl (by first | assumption | exact Row.at_ (by assumption) rfl)) rfl ?_)
      refine DW_q rfl (fun w hw => hw.sub (by (repeat (first | exact SubL.nil | exact Pick.head | apply Pick.tail | apply SubL.cons)))) (q_move rfl) rfl ?_
      refine DW_q rfl (fun w hw => hw.sub (by (repeat (first | exact SubL.nil | exact Pick.head | apply Pick.tail | apply SubL.cons)))) (q_fieldAddr Try.underlying49 rfl rfl Try.sizeOf46 rfl rfl) rfl ?_
      first | (refine DW_q rfl (fun w hw => hw.sub (by (repeat (first | exact SubL.nil | exact Pick.head | apply Pick.tail | apply SubL.cons)))) (q_load1_own Try.isAgg46 rfl rfl (by (repeat (first | exact .head | apply Swap.tail))) (by rfl)) rfl ?_) | (refine DW_q rfl (fun w hw => hw.sub (by (repeat (first | exact SubL.nil | exact Pick.head | apply Pick.tail | apply SubL.cons)))) (q_load1_ro Try.isAgg46 rfl (by first | assumption | exact Row.at_ (by assumption) rfl)) rfl ?_)
      refine DW_q rfl (fun w hw => hw.sub (by (repeat (first | exact SubL.nil | exact Pick.head | apply Pick.tail | apply SubL.cons)))) (q_move rfl) rfl ?_
      refine DW_q rfl (fun w hw => hw.sub (by (repeat (first | exact SubL.nil | exact Pick.head | apply Pick.tail | apply SubL.cons)))) (q_indexAddr Try.underlying46 Try.sizeOf51 rfl rfl (by first | omega | assumption)) rfl ?_
      refine DW_q rfl (fun w hw => hw.sub (by (repeat (first | exact SubL.nil | exact Pick.head | apply Pick.tail | apply SubL.cons)))) (q_fieldAddr Try.underlying51 rfl rfl Try.sizeOf3 rfl rfl) rfl ?_
      refine DW_q rfl (fun w hw => hw.sub (by repeat (first | exact SubL.nil | exact Pick.head | apply Pick.tail | apply SubL.cons))) (q_load1_t (enc := encY) (k := i) (off := 1) (v := .slice (some ⟨bx, 0, none⟩) q.right.length cx) (l := ys) Try.isAgg3 (fun _ => rfl) rfl (by repeat (first | exact .head | apply Swap.tail)) rfl hyi rfl) rfl ?_
      refine DW_q rfl (fun w hw => hw.sub (by (repeat (first | exact SubL.nil | exact Pick.head | apply Pick.tail | apply SubL.cons)))) (q_fieldAddr Try.underlying26 rfl rfl Try.sizeOf3 rfl rfl) rfl ?_
      first | (refine DW_q rfl (fun w hw => hw.sub (by (repeat (first | exact SubL.nil | exact Pick.head | apply Pick.tail | apply SubL.cons)))) (q_load1_own Try.isAgg3 rfl rfl (by (repeat (first | exact .head | apply Swap.tail))) (by rfl)) rfl ?_) | (refine DW_q rfl (fun w hw => hw.sub (by (repeat (first | exact SubL.nil | exact Pick.head | apply Pick.tail | apply SubL.cons)))) (q_load1_ro Try.isAgg3 rfl (by first | assumption | exact Row.at_ (by assumption) rfl)) rfl ?_)
      refine DW_q rfl (fun w hw => hw.sub (by (repeat (first | exact SubL.nil | exact Pick.head | apply Pick.tail | apply SubL.cons)))) (q_fieldAddr Try.underlying26 rfl rfl Try.sizeOf3 rfl rfl) rfl ?_
      first | (refine DW_q rfl (fun w hw => hw.sub (by (repeat (first | exact SubL.nil | exact Pick.head | apply Pick.tail | apply SubL.cons)))) (q_load1_own Try.isAgg3 rfl rfl (by (repeat (first | exact .head | apply Swap.tail))) (by rfl)) rfl ?_) | (refine DW_q rfl (fun w hw => hw.sub (by (repeat (first | exact SubL.nil | exact Pick.head | apply Pick.tail | apply SubL.cons)))) (q_load1_ro Try.isAgg3 rfl (by first | assumption | exact Row.at_ (by assumption) rfl)) rfl ?_)
      refine DW_e rfl (e_call Try.call38 rfl (fun w hw => lift_ro (swapped_any _ _ _ w) hw)) rfl (fun _ w hw => by first | exact hw.sub (by (repeat (first | exact SubL.nil | exact Pick.head | apply Pick.tail | apply SubL.cons))) | exact hw.2.sub (by (repeat (first | exact SubL.nil | exact Pick.head | apply Pick.tail | apply SubL.cons)))) (fun x74 => ?_)
      refine DW_q rfl (fun w hw => hw.sub (by (repeat (first | exact SubL.nil | exact Pick.head | apply Pick.tail | apply SubL.cons)))) (q_indexAddr Try.underlying46 Try.sizeOf51 rfl rfl (by first | omega | assumption)) rfl ?_
      refine DW_q rfl (fun w hw => hw.sub (by (repeat (first | exact SubL.nil | exact Pick.head | apply Pick.tail | apply SubL.cons)))) (q_fieldAddr Try.underlying51 rfl rfl Try.sizeOf3 rfl rfl) rfl ?_
      refine DW_z0 rfl (e_store_t (enc := encY) (k := i) (off := 1) (v := .slice (some ⟨bx, 0, none⟩) q.right.length cx) (l := ys) (y := y) (y' := ⟨y.term, swapN s.a s.b y.n⟩) Try.sizeOf3 (fun _ => rfl) rfl rfl rfl rfl hyi rfl (by repeat (first | exact .head | apply Swap.tail))) (fun _ => ?_)
      refine EW_block_normal ?_
      refine EW_then ?_
      refine CW_region ?_
      refine OW_q (q_move rfl) rfl ?_
      first | refine OW_q (q_inc rfl rfl (by omega)) rfl ?_ | refine OW_q (q_add rfl rfl (by omega) (by omega)) rfl ?_
      refine OW_q (q_assign rfl) rfl ?_
      refine OW_nil ?_
      refine EW_again ((i + 1, ys.set i ⟨y.term, swapN s.a s.b y.n⟩)) ⟨?_, ?_⟩ ⟨rfl, rfl, rfl, rfl, rfl, rfl, trivial⟩ (fun w hw => hw.sub (by (repeat (first | exact SubL.nil | exact Pick.head | apply Pick.tail | apply SubL.cons))))
      · show q.right.length - (i + 1) < q.right.length - i; omega
      · refine ⟨by show i + 1 ≤ _; omega, by show (ys.set i _).length = _; rw [List.length_set]; exact hysl, fun j => ?_⟩
        show (ys.set i _)[j]? = if j < i + 1 then _ else _
        by_cases e : i = j
        · subst e
          rw [List.getElem?_set_self (by omega), if_pos (by omega), ← hxi]
          show some _ = some (swapY s.a s.b y)
          unfold swapY
          have hf : y.term = false := by simpa using h60
          rw [if_neg (by rw [hf]; decide), hf]
        · rw [List.getElem?_set_ne e, hyk j]
          by_cases e2 : j < i
          · rw [if_pos e2, if_pos (by omega)]
          · rw [if_neg e2, if_neg (by omega)]
    · skip
      refine CW_skip ?_
      refine EW_block_normal ?_
      refine EW_then ?_
      refine CW_region ?_
      refine OW_q (q_move rfl) rfl ?_
      first | refine OW_q (q_inc rfl rfl (by omega)) rfl ?_ | refine OW_q (q_add rfl rfl (by omega) (by omega)) rfl ?_
      refine OW_q (q_assign rfl) rfl ?_
      refine OW_nil ?_
      refine EW_again ((i + 1, ys)) ⟨?_, ?_⟩ ⟨rfl, rfl, rfl, rfl, rfl, rfl, trivial⟩ (fun w hw => hw.sub (by (repeat (first | exact SubL.nil | exact Pick.head | apply Pick.tail | apply SubL.cons))))
      · show q.right.length - (i + 1) < q.right.length - i; omega
      · refine ⟨by show i + 1 ≤ _; omega, hysl, fun j => ?_⟩
        show ys[j]? = if j < i + 1 then _ else _
        rw [hyk j]
        by_cases e : i = j
        · subst e
          rw [if_neg (by omega), if_pos (by omega), ← hxi]
          show some _ = some (swapY s.a s.b y)
          unfold swapY
          have hf : y.term = true := by simpa using h60
          rw [if_pos hf]
        · by_cases e2 : j < i
          · rw [if_pos e2, if_pos (by omega)]
          · rw [if_neg e2, if_neg (by omega)]
  · skip
    have hie : q.right.length ≤ i := by have := of_decide_eq_false h51; omega
    have hye : ys = q.right.map (swapY s.a s.b) := by
      apply List.ext_getElem?
      intro z
      rw [hyk z, List.getElem?_map]
      split
      · rfl
      · rw [List.getElem?_eq_none (by omega)]; rfl
    refine CW_exit ?_
    refine EW_then_exit ?_
    refine EW_out ?_
    refine EW_block_exit ?_
    refine EW_block_normal ?_
    refine EW_then ?_
    refine CW_seq ?_
    refine CW_region ?_
    first | (refine OW_q (q_loadN_own Try.isAgg49 Try.sizeOf49 rfl rfl (by (repeat (first | exact .head | apply Swap.tail))) (by rfl)) rfl ?_) | (refine OW_q (q_loadN_ro Try.isAgg49 Try.sizeOf49 rfl (by first | assumption | exact Row.at_ (by assumption) rfl) (by rfl)) rfl ?_)
    refine OW_e (e_single Try.underlying22 Try.sizeOf49 Try.zeroValue49 (e := 49) (v := .agg #[.int .i64 (swapN s.a s.b q.left), .slice ax q.right.length cx]) (cs := [.int .i64 (swapN s.a s.b q.left), .slice ax q.right.length cx]) rfl rfl rfl rfl (by decide) (by decide)) rfl (fun b229 => ?_)
    refine OW_q (q_assign rfl) rfl ?_
    refine OW_nil ?_
    refine EW_then ?_
    refine CW_ret ?_
    refine ret1 Try.results22 rfl (fun w hw => ?_)
    refine ⟨(.slice (some ⟨b229, 0, none⟩) 1 1, [⟨⟨(swapN s.a s.b q.left), ys⟩, .slice ax q.right.length cx⟩], [], []), rfl, ⟨(fun h => by omega), ?_⟩, ?_⟩
    · unfold oneR; rw [if_pos hop, hye]; rfl
    · have h1 : Sat (Old _) _ [cel b229 49 [.int .i64 (swapN s.a s.b q.left), .slice ax q.right.length cx], trow 51 2 encY (.slice ax q.right.length cx) ys] w := hw.sub (by repeat (first | exact SubL.nil | exact Pick.head | apply Pick.tail | apply SubL.cons))
      exact h1.oneRule

end Go.Sy
