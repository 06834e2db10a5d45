/- step.change: what it stands on. No condition. -/
import Derived.Test.YteceklkjbcebkabW44
namespace Go.Sy
open Go Go.RowKit Go.Proofs

section
variable {P : Program} {R : Nat → Prop} {w0 w : World} {L L' L1 L2 : List HP} {A VA : HP} {K' : HP → List HP} {sa : Option Addr} {vs : List Value}
theorem VIn.star {F : HP} (h : VIn R w0 VA sa vs) : VIn R w0 (stars [VA, F]) sa vs := fun h1 hh w hR hw j u hj => by
  obtain ⟨ha, hb, hd, rfl, hA, _⟩ := hh
  obtain ⟨a, e, h2, h3⟩ := h ha hA w hR (fun b o hb => hw b o (by simp [uni, hb])) j u hj
  refine ⟨a, e, h2.imp_right fun h4 => ?_, h3⟩
  cases h5 : ha a.block with
  | none => rw [h5] at h4; cases h4
  | some o => simp [uni, h5]
theorem VIn.cel {b off : Nat} {e : TypeId} {cs : List Value} : VIn R w0 (cel b e cs) (some ⟨b, off, none⟩) (cs.drop off) :=
  VIn.own (b := b) (cs := cs) (e := e) (fun h hh => by rw [show h = one b _ from hh]; exact one_same _ _) (fun j u hj => by rw [List.getElem?_drop] at hj; exact hj)
theorem VIn.trow {α : Type} {e : TypeId} {size n c : Nat} {enc : α → List Value} {l : List α} {a : Option Addr} : VIn R w0 (trow e size enc (.slice a n c) l) a (l.flatMap enc) := fun h1 hh w _ hw j u hj => by
  obtain ⟨hl, _, ⟨h0, h2, rfl⟩ | ⟨g, cap, rest, h0, h2, h3, h4, rfl⟩⟩ := hh
  · exfalso
    rw [h2, Nat.zero_mul] at hl
    have := (List.getElem?_eq_some_iff.1 hj).1
    omega
  · injection h0 with e1 _ _
    subst e1
    refine ⟨_, rfl, .inr (by rw [show (⟨g, 0, none⟩ : Addr).block = g from rfl, one_same]; rfl), ?_⟩
    have hb := hw g _ (one_same _ _)
    have hlt := (List.getElem?_eq_some_iff.1 hj).1
    rw [Addr.add_lit, Nat.zero_add]
    simp [World.cell?, hb, List.getElem?_append_left hlt, hj]
theorem lift_two {f : FuncId} {us : Array Value} {ι : Type} {V : ι → Value} {A' : ι → HP} (o : Hole L1 A K') (hS : Sat R w0 (VA :: L1) w)
    (h : ∀ F, Sat R w0 ([A] ++ [stars [VA, F]]) w → Calls P f us w (fun e w' => ∃ x, e = .returned (V x) ∧ Sat R w0 ([A' x] ++ [stars [VA, F]]) w')) :
    Calls P f us w (fun e w' => ∃ x, e = .returned (V x) ∧ Sat R w0 (VA :: K' (A' x)) w') := by
  obtain ⟨x, ⟨hv, hl, hd, rfl, hV, hL⟩, hy⟩ := hS.own
  obtain ⟨h1, h2, hd2, rfl, hA, hk⟩ := o.focus hl hL
  have d1 : Dis hv h1 := hd.symm.left.symm
  have d2 : Dis hv h2 := hd.symm.right.symm
  have e0 : uni hv (uni h1 h2) = uni h1 (uni hv h2) := by rw [← uni_assoc, uni_comm d1, uni_assoc]
  have hS' : Sat R w0 ([A] ++ [stars [VA, fun h => h = h2]]) w := ⟨hS.os, hS.tape, hS.output, hS.size, hS.ro, uni h1 (uni hv h2), ⟨h1, uni hv h2, (Dis.join d1 hd2.symm).symm, rfl, hA, uni hv h2, emp0, dis_emp _, (uni_emp _).symm, ⟨hv, h2, d2, rfl, hV, h2, emp0, dis_emp h2, (uni_emp h2).symm, rfl, rfl⟩, rfl⟩, fun b o hb => hy b o (by rw [e0]; exact hb)⟩
  refine (h _ hS').mono fun e w' ⟨x, he, hw⟩ => ⟨x, he, hw.imp_ fun y hy2 => ?_⟩
  obtain ⟨h3, h4, hd3, rfl, hA3, h5, h6, hd5, rfl, ⟨h7, h8, hd7, rfl, hV7, h9, h10, hd9, rfl, h9e, h10e⟩, h6e⟩ := hy2
  have e6 : h6 = emp0 := h6e
  subst e6
  have e10 : h10 = emp0 := h10e
  subst e10
  have e9 : h9 = h2 := h9e
  subst e9
  rw [uni_emp, uni_emp]
  rw [uni_emp, uni_emp] at hd3
  rw [uni_emp] at hd7
  have d3 : Dis h3 h7 := hd3.symm.left.symm
  have d4 : Dis h3 h9 := hd3.symm.right.symm
  refine ⟨h7, uni h3 h9, (Dis.join d3 hd7.symm).symm, ?_, hV7, hk _ h3 d4 hA3⟩
  rw [← uni_assoc, uni_comm d3, uni_assoc]
theorem Sat.drop_hole {X : HP} (o : Hole L A K') (h : Sat R w0 (X :: L) w) : Sat R w0 (K' X) w := by
  obtain ⟨x, ⟨hv, hl, hd, rfl, hV, hL⟩, hy⟩ := h.own
  obtain ⟨h1, h2, hd2, rfl, hA, hk⟩ := o.focus hl hL
  refine ⟨h.os, h.tape, h.output, h.size, h.ro, uni hv h2, hk X hv hd.symm.right.symm hV, fun b o hb => hy b o ?_⟩
  cases h7 : hv b with
  | some o' => simp [uni, h7] at hb ⊢; exact hb
  | none =>
    simp [uni, h7] at hb ⊢
    rcases hd2 b with e | e
    · simp [e, hb]
    · rw [hb] at e; cases e
theorem Sat.symsPut {rs : List RV} {k : Nat} {x y : RV} (hk : rs[k]? = some x) (h : Sat R w0 (symA y :: symsA rs :: L) w) : Sat R w0 (symsA (rs.set k y) :: L) w := by
  have := h.drop_hole (Hole.sym (L := L) hk)
  rw [symsA_set] at this
  exact this
theorem stars_sub {l m : List HP} (hs : l.Sublist m) : ∀ h, stars m h → ∃ h1 h2, Dis h1 h2 ∧ h = uni h1 h2 ∧ stars l h1 := by
  induction hs with
  | slnil => intro h hh; exact ⟨h, emp0, dis_emp h, (uni_emp h).symm, hh⟩
  | @cons l m a _ ih =>
    rintro h ⟨h1, h2, hd, rfl, _, hM⟩
    obtain ⟨h3, h4, hd2, rfl, h5⟩ := ih h2 hM
    have d1 : Dis h3 h1 := hd.symm.left
    refine ⟨h3, uni h1 h4, (Dis.join d1.symm hd2.symm).symm, ?_, h5⟩
    rw [← uni_assoc, uni_comm d1.symm, uni_assoc]
  | @cons_cons l m a _ ih =>
    rintro h ⟨h1, h2, hd, rfl, hA, hM⟩
    obtain ⟨h3, h4, hd2, rfl, h5⟩ := ih h2 hM
    have d1 : Dis h1 h3 := hd.symm.left.symm
    have d2 : Dis h1 h4 := hd.symm.right.symm
    exact ⟨uni h1 h3, h4, Dis.join d2 hd2, (uni_assoc _ _ _).symm, h1, h3, d1, rfl, hA, h5⟩
theorem Sat.symsSub {l rs : List RV} (hs : l.Sublist rs) (h : Sat R w0 (symsA rs :: L) w) : Sat R w0 (symsA l :: L) w := by
  obtain ⟨x, ⟨h1, h2, hd, rfl, hA, hL⟩, hy⟩ := h.own
  obtain ⟨h3, h4, hd2, rfl, h5⟩ := stars_sub (hs.map symA) h1 hA
  have d1 : Dis h3 h2 := hd.left
  refine ⟨h.os, h.tape, h.output, h.size, h.ro, uni h3 h2, ⟨h3, h2, d1, rfl, h5, hL⟩, fun b o hb => hy b o ?_⟩
  cases h7 : h3 b with
  | some o' => simp [uni, h7] at hb ⊢; exact hb
  | none =>
    simp [uni, h7] at hb ⊢
    rcases hd b with e | e
    · simp [uni, h7] at e; simp [e, hb]
    · rw [hb] at e; cases e
theorem Sat.symsJoin {l m : List RV} (h : Sat R w0 (symsA l :: symsA m :: L) w) : Sat R w0 (symsA (l ++ m) :: L) w := h.imp_ fun y hy => by
  obtain ⟨h1, h2, hd, rfl, hA, h3, h4, hd2, rfl, hB, hL⟩ := hy
  refine ⟨uni h1 h3, h4, Dis.join hd.symm.right.symm hd2, (uni_assoc _ _ _).symm, ?_, hL⟩
  unfold symsA
  rw [List.map_append]
  exact (stars_append _ _ _).2 ⟨h1, h3, hd.symm.left.symm, rfl, hA, hB⟩
theorem Sat.symsCut {l m : List RV} (h : Sat R w0 (symsA (l ++ m) :: L) w) : Sat R w0 (symsA l :: symsA m :: L) w := h.imp_ fun y hy => by
  obtain ⟨h1, h2, hd, rfl, hA, hL⟩ := hy
  unfold symsA at hA
  rw [List.map_append] at hA
  obtain ⟨h3, h4, hd2, rfl, h5, h6⟩ := (stars_append _ _ _).1 hA
  exact ⟨h3, uni h4 h2, (Dis.join hd2.symm hd.left.symm).symm, uni_assoc _ _ _, h5, h4, h2, hd.right, rfl, h6, hL⟩
theorem Sat.symsOne {rs : List RV} (h : Sat R w0 L w) (s : Swap L (symsA rs) (symsA rs) L') : ∀ x ∈ rs, x.v.oneCell' = true := fun x hx => by
  obtain ⟨k, hk⟩ := List.getElem?_of_mem hx
  obtain ⟨a, c, e, _⟩ := (h.alone s).tform (v := x.v) (l := x.r.right) (enc := encY) ((Hole.sym (L := []) hk).swap _)
  rw [e]; rfl
end
theorem flat_take {α : Type} {enc : α → List Value} {size : Nat} (he : ∀ x, (enc x).length = size) : ∀ (l : List α) (i : Nat), (l.flatMap enc).take (i * size) = (l.take i).flatMap enc
  | [], i => by simp
  | x :: l, 0 => by simp
  | x :: l, i + 1 => by
    rw [List.flatMap_cons, List.take_succ_cons, List.flatMap_cons, Nat.succ_mul, List.take_append, he, Nat.add_sub_cancel, flat_take he l i, List.take_of_length_le (by rw [he]; omega)]
theorem flat_drop {α : Type} {enc : α → List Value} {size : Nat} (he : ∀ x, (enc x).length = size) : ∀ (l : List α) (i : Nat), (l.flatMap enc).drop (i * size) = (l.drop i).flatMap enc
  | [], i => by simp
  | x :: l, 0 => by simp
  | x :: l, i + 1 => by
    rw [List.flatMap_cons, List.drop_succ_cons, Nat.succ_mul, List.drop_append, he, Nat.add_sub_cancel, flat_drop he l i, List.drop_eq_nil_of_le (by rw [he]; omega), List.nil_append]
theorem rep_row {α : Type} {enc : α → List Value} {size : Nat} (he : ∀ x, (enc x).length = size) {e : TypeId} {v : Value} {l ys : List α} {i j : Nat} (hij : i < j) (hj : j ≤ l.length) : row e size v (l.length - (j - i) + ys.length) ((l.flatMap enc).take (i * size) ++ ys.flatMap enc ++ (l.flatMap enc).drop (j * size)) = trow e size enc v (l.take i ++ ys ++ l.drop j) := by
  unfold trow
  rw [flat_take he, flat_drop he, List.flatMap_append, List.flatMap_append]
  congr 1
  simp only [List.length_append, List.length_take, List.length_drop]
  omega
theorem replY_any (v : Value) (l ys : List Sym) (i j vc : Nat) (sa : Option Addr) (R : Nat → Prop) (w0 w : World) (F : HP) (hij : i < j) (hj : j ≤ l.length) (hlm : l.length + ys.length ≤ 1000) (hvi : VIn R w0 F sa (ys.flatMap encY)) (hw : Sat R w0 ([trow 51 2 encY v l] ++ [F]) w) : Calls Try.prog 34 #[v, .int .i64 (i : Int), .int .i64 (j : Int), .slice sa ys.length vc] w (fun e w' => ∃ v' : Value, e = .returned v' ∧ Sat R w0 ([trow 51 2 encY v' (l.take i ++ ys ++ l.drop j)] ++ [F]) w') := by
  refine (replS_any v (l.flatMap encY) (ys.flatMap encY) l.length i j ys.length vc sa R w0 w F hij hj hlm (flat_length (enc := encY) (size := 2) (fun _ => rfl) ys) hvi (encY_one ys) (encY_one l) hw).mono ?_
  rintro e w' ⟨v', h1, h2⟩
  rw [rep_row (enc := encY) (fun _ => rfl) hij hj] at h2
  exact ⟨v', h1, h2⟩
theorem encRV_1 {x : RV} (h : x.v.oneCell' = true) : ∀ u ∈ encRV x, u.oneCell' = true := fun u hu => by
  simp only [List.mem_cons, List.not_mem_nil, or_false] at hu
  rcases hu with rfl | rfl
  · rfl
  · exact h
theorem encRV_one {l : List RV} (h : ∀ x ∈ l, x.v.oneCell' = true) : ∀ u ∈ l.flatMap encRV, u.oneCell' = true := fun u hu => by
  obtain ⟨x, hx, hs⟩ := List.mem_flatMap.1 hu
  simp only [List.mem_cons, List.not_mem_nil, or_false] at hs
  rcases hs with rfl | rfl
  · rfl
  · exact h x hx
theorem replRV_any (v : Value) (l ys : List RV) (i j vc : Nat) (sa : Option Addr) (R : Nat → Prop) (w0 w : World) (F : HP) (hij : i < j) (hj : j ≤ l.length) (hlm : l.length + ys.length ≤ 1000) (h1 : ∀ x ∈ l, x.v.oneCell' = true) (h2 : ∀ x ∈ ys, x.v.oneCell' = true) (hvi : VIn R w0 F sa (ys.flatMap encRV)) (hw : Sat R w0 ([rulesA v l] ++ [F]) w) : Calls Try.prog 35 #[v, .int .i64 (i : Int), .int .i64 (j : Int), .slice sa ys.length vc] w (fun e w' => ∃ v' : Value, e = .returned v' ∧ Sat R w0 ([rulesA v' (l.take i ++ ys ++ l.drop j)] ++ [F]) w') := by
  refine (replR_any v (l.flatMap encRV) (ys.flatMap encRV) l.length i j ys.length vc sa R w0 w F hij hj hlm (flat_length (enc := encRV) (size := 2) (fun _ => rfl) ys) hvi (encRV_one h2) (encRV_one h1) hw).mono ?_
  rintro e w' ⟨v', h1, h2⟩
  rw [rep_row (enc := encRV) (fun _ => rfl) hij hj] at h2
  exact ⟨v', h1, h2⟩
end Go.Sy
