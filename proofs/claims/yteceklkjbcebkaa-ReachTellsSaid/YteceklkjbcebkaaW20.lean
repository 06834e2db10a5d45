/- Which names begin with themselves. No condition. -/
import Derived.Test.YteceklkjbcebkaaW18
import Derived.Test.YteceklkjbcebkaaW19
import Derived.Test.YteceklkjbcebkaaPLeft
namespace Go.Sy
open Go Go.RowKit Go.Proofs

abbrev encB : Bool → List Value := fun x => [vb x]
section
variable {R : Nat → Prop} {w0 w : World} {L L' : List HP} {v : Value}
theorem Sat.tbools {T : TypeId} {l : List Bool} (s : Swap L (trow T 1 encB v l) (trow T 1 encB v l) L') (h : Sat R w0 L w) : BoolsAt (Cl w) v l := by
  obtain ⟨a, c, rfl, h1, h2, h3⟩ := h.tform s
  refine ⟨a, c, rfl, h1, h2, fun k x hx => ?_⟩
  obtain ⟨b, rfl⟩ := h3 (by have := (List.getElem?_eq_some_iff.1 hx).1; omega)
  refine ⟨_, rfl, ?_⟩
  have := h.tget (enc := encB) (fun _ => rfl) s rfl hx 0 (vb x) rfl
  rwa [Addr.add_zero'] at this
/-- A made row, seen as a row of elements. -/
theorem Sat.cel_trow {α : Type} {e : TypeId} {size b n : Nat} {enc : α → List Value} {l : List α} (he : ∀ x, (enc x).length = size) (hl : l.length = n) (hn : n ≤ maxLen) (h : Sat R w0 (cel b e (l.flatMap enc) :: L) w) : Sat R w0 (trow e size enc (.slice (some ⟨b, 0, none⟩) n n) l :: L) w := by
  subst hl
  exact h.swap .head fun hp hh => row_of_cel (flat_length he l) hn hp hh
theorem e_store_celJ {P : Program} {n : Nat} {K : Env} {dst : Option Nat} {T : TypeId} {pos : String} {af : Array Edge} {g : Option (Nat × Bool)} {t e : TypeId} {x y : Operand} {b j : Nat} {cs : List Value} {u : Value} (hs : ∀ w, (sizeOf t).run P w = .ok 1 w) (hx : ev K x = some (.pointer (some ((⟨b, 0, none⟩ : Addr).add (j * 1))))) (hy : ev K y = some u) (hu : u.oneCell' = true)
    (s : Swap L (cel b e cs) (cel b e (cs.set j u)) L') (hj : j < cs.length) :
    Ef P n K (Sat R w0 L) ⟨dst, .store t x y, T, pos, af, g⟩ (fun _ : Unit => undef) (fun _ => Sat R w0 L') := by
  rw [Addr.add_lit, Nat.mul_one, Nat.zero_add] at hx
  exact e_store_any hs hx hy hu fun w hw => ⟨⟨cs[j], by rw [hw.cell s j]; exact List.getElem?_eq_getElem hj⟩, hw.unfrozen s j, hw.set_ s⟩
theorem cells_fill {N k m : Nat} {bl : List Nat} {b : Nat} {z : Value} (h : bl.length = k) (hk : k < N) : (bl.flatMap (encR m) ++ List.replicate (N - k) z).set k (.slice (some ⟨b, 0, none⟩) m m) = (bl ++ [b]).flatMap (encR m) ++ List.replicate (N - (k + 1)) z := by
  have hl := flat_length (enc := encR m) (size := 1) (fun _ => rfl) bl
  rw [List.set_append_right _ _ (by omega), hl, h, Nat.mul_one, Nat.sub_self, show N - k = (N - (k + 1)) + 1 by omega, List.replicate_succ, List.set_cons_zero, List.flatMap_append]
  simp
end

/-- What leads from name to name. -/
abbrev Eg (g : Gram) (nl : List Bool) : Int → Int → Prop := fun a b => fstB g.rules nl a b = true
/-- So much of a rule is behind us. -/
def SeenL (g : Gram) (nl : List Bool) (N : Nat) (t : List (List Bool)) (i : Nat) (r : Rule) (k : Nat) : Prop :=
  (In2 N fun a b => at2 t a b = (fstB (g.rules.take i) nl a b || (decide (r.left = a) && (r.right.take k).any (fun s => decide (s.n = b))))) ∧ ∀ b, fstL nl b r.right = ((r.right.take k).any (fun s => decide (s.n = b)) || fstL nl b (r.right.drop k))
theorem any_take {α : Type} {p : α → Bool} {l : List α} {k : Nat} {x : α} (h : l[k]? = some x) : (l.take (k + 1)).any p = ((l.take k).any p || p x) := by
  rw [List.take_add_one, h, List.any_append]; simp
theorem SeenL.start {g : Gram} {nl : List Bool} {N : Nat} {t : List (List Bool)} {i : Nat} {r : Rule} (h : In2 N fun a b => at2 t a b = fstB (g.rules.take i) nl a b) : SeenL g nl N t i r 0 := by
  refine ⟨fun a b h0 h1 h2 h3 => ?_, fun b => by simp⟩
  show at2 t a b = _
  rw [h a b h0 h1 h2 h3]; simp
theorem SeenL.done {g : Gram} {nl : List Bool} {N : Nat} {t : List (List Bool)} {i : Nat} {r : Rule} {k : Nat} (h : SeenL g nl N t i r k) (hx : g.rules[i]? = some r) (he : ∀ b, fstL nl b (r.right.drop k) = false) : In2 N fun a b => at2 t a b = fstB (g.rules.take (i + 1)) nl a b := by
  intro a b h0 h1 h2 h3
  show at2 t a b = _
  rw [h.1 a b h0 h1 h2 h3, fstB_take hx, h.2 b, he b, Bool.or_false]
theorem SeenL.step {g : Gram} {nl : List Bool} {N : Nat} {t : List (List Bool)} {i : Nat} {r : Rule} {k : Nat} {s : Sym} (h : SeenL g nl N t i r k) (hd : Dim t N N) (h0 : 0 ≤ r.left) (h1 : r.left < (N : Int)) (hs : r.right[k]? = some s) (ht : s.term = false) (hs0 : 0 ≤ s.n) (hs1 : s.n < (N : Int)) :
    (atB nl s.n = true → SeenL g nl N (put2 t r.left s.n) i r (k + 1)) ∧ (atB nl s.n = false → (In2 N fun a b => at2 (put2 t r.left s.n) a b = (fstB (g.rules.take i) nl a b || (decide (r.left = a) && fstL nl b r.right)))) := by
  have hl := hd.1
  have hr := hd.row h0 h1
  have key : In2 N fun a b => at2 (put2 t r.left s.n) a b = (fstB (g.rules.take i) nl a b || (decide (r.left = a) && (r.right.take (k + 1)).any (fun s => decide (s.n = b)))) := fun a b ha0 ha1 hb0 hb1 => by
    show at2 (put2 t r.left s.n) a b = _
    rw [at2_put h0 (by omega) hs0 (by omega) ha0 hb0, h.1 a b ha0 ha1 hb0 hb1, any_take hs]
    have e1 : decide (a = r.left) = decide (r.left = a) := decide_eq_decide.2 ⟨Eq.symm, Eq.symm⟩
    have e2 : decide (b = s.n) = decide (s.n = b) := decide_eq_decide.2 ⟨Eq.symm, Eq.symm⟩
    rw [e1, e2]
    cases fstB (g.rules.take i) nl a b <;> cases decide (r.left = a) <;> simp
  refine ⟨fun hn => ⟨key, fun b => ?_⟩, fun hn a b ha0 ha1 hb0 hb1 => ?_⟩
  · rw [h.2 b, fstL_drop hs, any_take hs, ht, hn]
    simp [Bool.or_assoc]
  · show at2 (put2 t r.left s.n) a b = _
    rw [key a b ha0 ha1 hb0 hb1, h.2 b, fstL_drop hs, any_take hs, ht, hn]
    simp

set_option maxRecDepth 20000 in
theorem first_any (gv nv fv ov : Value) (g : Gram) (nl : List Bool) (na nb : Int) (w : World) (hg : GramAt (Cl w) gv g) (hm : mayB g = true) (hb : BoolsAt (Cl w) nv nl) (hln : nl.length = g.names.toNat) : Calls Try.prog 56 #[gv, .agg #[nv, fv, ov], .int .i64 na, .int .i64 nb] w (fun e w' => e = .returned (.bool (fstB g.rules nl na nb)) ∧ Sat (Old w) w [] w') := by
  have hg0 := hg
  obtain ⟨rv, rfl, hr⟩ := hg.mono old_rd
  obtain ⟨a, c, rfl, hc1, hc2, hrs⟩ := hr
  have hg1 := hg.mono old_rd
  have hM := mayB_true.1 hm
  have hall := may_all hm
  obtain ⟨a3, c3, rfl, hn1, hn2, hbb⟩ := hb.mono old_rd
  refine calls_CW Try.func56 rfl Try.ntmps56 rfl (Sat.start w) ?_
  refine CW_seq ?_
  refine CW_region ?_
  refine OW_e (e_box rfl rfl) rfl (fun b4 => ?_)
  refine OW_e (e_box rfl rfl) rfl (fun b5 => ?_)
  refine OW_q (q_assign rfl) rfl ?_
  refine OW_nil ?_
  refine EW_then ?_
  refine CW_seq ?_
  refine CW_seq ?_
  refine CW_region ?_
  refine OW_q (q_assign rfl) rfl ?_
  refine OW_nil ?_
  refine EW_then ?_
  refine CW_block ?_
  refine CW_loopP (ι := Nat) (fun i => i ≤ g.rules.length ∧ fstB (g.rules.take i) nl na nb = false) (fun i => [(2, .int .i64 na), (3, .int .i64 nb), (4, .pointer (some ⟨b4, 0, none⟩)), (5, .pointer (some ⟨b5, 0, none⟩)), (9, .int .i64 (i : Int))]) (fun i => Sat (Old w) w [cel b5 53 [.slice a3 nl.length c3, fv, ov], cel b4 24 [.int .i64 g.terms, .int .i64 g.names, .slice a g.rules.length c]]) (fun i => g.rules.length - i) 0 ?_ ⟨rfl, rfl, rfl, rfl, rfl, trivial⟩ (fun w hw => hw.sub (by (repeat (first | exact SubL.nil | exact Pick.head | apply Pick.tail | apply SubL.cons)))) ?_
  · exact ⟨Nat.zero_le _, rfl⟩
  intro i hpre
  change CW _ _ _ _ [(2, .int .i64 na), (3, .int .i64 nb), (4, .pointer (some ⟨b4, 0, none⟩)), (5, .pointer (some ⟨b5, 0, none⟩)), (9, .int .i64 (i : Int))] (Sat (Old w) w [cel b5 53 [.slice a3 nl.length c3, fv, ov], cel b4 24 [.int .i64 g.terms, .int .i64 g.names, .slice a g.rules.length c]])
  obtain ⟨hi, hok⟩ := hpre
  refine CW_seq ?_
  refine CW_seq ?_
  refine CW_region ?_
  refine OW_q (q_move rfl) rfl ?_
  refine OW_q (q_fieldAddr Try.underlying24 rfl rfl Try.sizeOf22 rfl rfl) rfl ?_
  first | (refine OW_q (q_load1_own Try.isAgg22 rfl rfl (by (repeat (first | exact .head | apply Swap.tail))) (by rfl)) rfl ?_) | (refine OW_q (q_load1_ro Try.isAgg22 rfl (by first | assumption | exact Row.at_ (by assumption) rfl)) rfl ?_)
  refine OW_q (q_len Try.underlying22 rfl) rfl ?_
  refine OW_q (q_lss rfl rfl) rfl ?_
  refine OW_nil ?_
  refine EW_then ?_
  refine CW_cond rfl (fun h17 => ?_) (fun h17 => ?_)
  · skip
    have hlt : i < g.rules.length := by have := of_decide_eq_true h17; omega
    obtain ⟨r, hx⟩ := get_of_lt hlt
    have hmem := List.mem_of_getElem? hx
    obtain ⟨p, rfl, rv2, hsy, hrow⟩ := hrs i r hx
    have hr1 := hall r hmem
    have hlN : r.left < (g.names.toNat : Int) := by omega
    obtain ⟨a2, c2, rfl, hd1, hd2, hss⟩ := id hsy
    refine CW_skip ?_
    refine EW_then ?_
    refine CW_seq ?_
    refine CW_block ?_
    refine CW_seq ?_
    refine CW_seq ?_
    refine CW_region ?_
    refine OW_q (q_fieldAddr Try.underlying24 rfl rfl Try.sizeOf22 rfl rfl) rfl ?_
    first | (refine OW_q (q_load1_own Try.isAgg22 rfl rfl (by (repeat (first | exact .head | apply Swap.tail))) (by rfl)) rfl ?_) | (refine OW_q (q_load1_ro Try.isAgg22 rfl (by first | assumption | exact Row.at_ (by assumption) rfl)) rfl ?_)
    refine OW_q (q_move rfl) rfl ?_
    refine OW_q (q_indexAddr Try.underlying22 Try.sizeOf41 rfl rfl (by first | omega | assumption)) rfl ?_
    refine OW_q (q_fieldAddr Try.underlying41 rfl rfl Try.sizeOf3 rfl rfl) rfl ?_
    refine OW_q (q_load1_ro Try.isAgg3 rfl (by first | assumption | exact Row.at_ (by assumption) rfl)) rfl ?_
    refine OW_q (q_move rfl) rfl ?_
    refine OW_q (q_nei rfl rfl) rfl ?_
    refine OW_nil ?_
    refine EW_then ?_
    refine CW_cond rfl (fun h27 => ?_) (fun h27 => ?_)
    · skip
      refine CW_exit ?_
      refine EW_then_exit ?_
      refine EW_block_exit ?_
      refine EW_then ?_
      refine CW_region ?_
      refine OW_q (q_move rfl) rfl ?_
      first | refine OW_q (q_inc rfl rfl (by omega)) rfl ?_ | refine OW_q (q_add rfl rfl (by omega) (by omega)) rfl ?_
      refine OW_q (q_assign rfl) rfl ?_
      refine OW_nil ?_
      refine EW_again (i + 1) ⟨?_, ?_⟩ ⟨rfl, rfl, rfl, rfl, rfl, trivial⟩ (fun w hw => hw.sub (by (repeat (first | exact SubL.nil | exact Pick.head | apply Pick.tail | apply SubL.cons))))
      · show g.rules.length - (i + 1) < g.rules.length - i; omega
      · refine ⟨by omega, ?_⟩
        have hne : ¬ r.left = na := by simpa using h27
        rw [fstB_take hx, hok]; simp [hne]
    · skip
      refine CW_skip ?_
      refine EW_then ?_
      refine CW_seq ?_
      refine CW_region ?_
      refine OW_q (q_assign rfl) rfl ?_
      refine OW_nil ?_
      refine EW_then ?_
      refine CW_seq ?_
      refine CW_region ?_
      refine OW_q (q_assign rfl) rfl ?_
      refine OW_nil ?_
      refine EW_then ?_
      refine CW_block ?_
      refine CW_loopP (ι := Nat × Bool) (fun i_ => i_.1 ≤ r.right.length ∧ fstL nl nb r.right = (i_.2 && fstL nl nb (r.right.drop i_.1))) (fun i_ => [(2, .int .i64 na), (3, .int .i64 nb), (4, .pointer (some ⟨b4, 0, none⟩)), (5, .pointer (some ⟨b5, 0, none⟩)), (9, .int .i64 (i : Int)), (10, .bool i_.2), (11, .int .i64 (i_.1 : Int))]) (fun i_ => Sat (Old w) w [cel b5 53 [.slice a3 nl.length c3, fv, ov], cel b4 24 [.int .i64 g.terms, .int .i64 g.names, .slice (some p) g.rules.length c]]) (fun i_ => r.right.length - i_.1) (0, true) ?_ ⟨rfl, rfl, rfl, rfl, rfl, rfl, rfl, trivial⟩ (fun w hw => hw.sub (by (repeat (first | exact SubL.nil | exact Pick.head | apply Pick.tail | apply SubL.cons)))) ?_
      · exact ⟨Nat.zero_le _, by simp⟩
      intro i_ hpre
      obtain ⟨k, ah⟩ := i_
      replace hpre : k ≤ r.right.length ∧ fstL nl nb r.right = (ah && fstL nl nb (r.right.drop k)) := hpre
      change CW _ _ _ _ [(2, .int .i64 na), (3, .int .i64 nb), (4, .pointer (some ⟨b4, 0, none⟩)), (5, .pointer (some ⟨b5, 0, none⟩)), (9, .int .i64 (i : Int)), (10, .bool ah), (11, .int .i64 (k : Int))] (Sat (Old w) w [cel b5 53 [.slice a3 nl.length c3, fv, ov], cel b4 24 [.int .i64 g.terms, .int .i64 g.names, .slice (some p) g.rules.length c]])
      obtain ⟨hk, hfl⟩ := hpre
      refine CW_seq ?_
      refine CW_seq ?_
      refine CW_region ?_
      refine OW_q (q_move rfl) rfl ?_
      refine OW_q (q_fieldAddr Try.underlying24 rfl rfl Try.sizeOf22 rfl rfl) rfl ?_
      first | (refine OW_q (q_load1_own Try.isAgg22 rfl rfl (by (repeat (first | exact .head | apply Swap.tail))) (by rfl)) rfl ?_) | (refine OW_q (q_load1_ro Try.isAgg22 rfl (by first | assumption | exact Row.at_ (by assumption) rfl)) rfl ?_)
      refine OW_q (q_move rfl) rfl ?_
      refine OW_q (q_indexAddr Try.underlying22 Try.sizeOf41 rfl rfl (by first | omega | assumption)) rfl ?_
      refine OW_q (q_fieldAddr Try.underlying41 rfl rfl Try.sizeOf39 rfl rfl) rfl ?_
      refine OW_q (q_load1_ro Try.isAgg39 rfl (by first | assumption | exact Row.at_ (by assumption) rfl)) rfl ?_
      refine OW_q (q_len Try.underlying39 rfl) rfl ?_
      refine OW_q (q_lss rfl rfl) rfl ?_
      refine OW_q (q_move rfl) rfl ?_
      refine OW_part (t := 37) rfl (fun hg37 => ?_) (fun hg37 => ?_)
      · skip
        have hltk0 : k < r.right.length := by have := of_decide_eq_true hg37; omega
        refine OW_wanted rfl rfl rfl ?_
        refine OW_q (q_move rfl) rfl ?_
        refine OW_q (q_pick_t rfl rfl) rfl ?_
        refine OW_nil ?_
        refine EW_then ?_
        refine CW_cond rfl (fun h39 => ?_) (fun h39 => ?_)
        · skip
          have hltk : k < r.right.length := by have := of_decide_eq_true hg37; omega
          obtain ⟨s, hsj⟩ := get_of_lt hltk
          obtain ⟨p2, rfl, hrowS⟩ := hss k s hsj
          have hsm := List.mem_of_getElem? hsj
          have hmemS : s.term = false → 0 ≤ s.n ∧ s.n < (nl.length : Int) := fun h => by have := hr1.2.2 s hsm h; omega
          refine CW_skip ?_
          refine EW_then ?_
          refine CW_seq ?_
          refine CW_block ?_
          refine CW_seq ?_
          refine CW_region ?_
          refine OW_q (q_fieldAddr Try.underlying24 rfl rfl Try.sizeOf22 rfl rfl) rfl ?_
          first | (refine OW_q (q_load1_own Try.isAgg22 rfl rfl (by (repeat (first | exact .head | apply Swap.tail))) (by rfl)) rfl ?_) | (refine OW_q (q_load1_ro Try.isAgg22 rfl (by first | assumption | exact Row.at_ (by assumption) rfl)) rfl ?_)
          refine OW_q (q_move rfl) rfl ?_
          refine OW_q (q_indexAddr Try.underlying22 Try.sizeOf41 rfl rfl (by first | omega | assumption)) rfl ?_
          refine OW_q (q_fieldAddr Try.underlying41 rfl rfl Try.sizeOf39 rfl rfl) rfl ?_
          refine OW_q (q_load1_ro Try.isAgg39 rfl (by first | assumption | exact Row.at_ (by assumption) rfl)) rfl ?_
          refine OW_q (q_move rfl) rfl ?_
          refine OW_q (q_indexAddr Try.underlying39 Try.sizeOf62 rfl rfl (by first | omega | assumption)) rfl ?_
          refine OW_q (q_loadN_ro Try.isAgg62 Try.sizeOf62 rfl (by first | assumption | exact Row.at_ (by assumption) rfl) (by rfl)) rfl ?_
          refine OW_e (e_alloc Try.zeroValue62 rfl) rfl (fun b12 => ?_)
          refine OW_e0 (e_storeN Try.sizeOf62 rfl rfl rfl rfl (by simp [Value.oneCell']) (by (repeat (first | exact .head | apply Swap.tail))) (by rfl)) (fun _ => ?_)
          refine OW_nil ?_
          refine EW_then ?_
          refine CW_seq ?_
          refine CW_seq ?_
          refine CW_region ?_
          refine OW_q (q_fieldAddr Try.underlying62 rfl rfl Try.sizeOf4 rfl rfl) rfl ?_
          first | (refine OW_q (q_load1_own Try.isAgg4 rfl rfl (by (repeat (first | exact .head | apply Swap.tail))) (by rfl)) rfl ?_) | (refine OW_q (q_load1_ro Try.isAgg4 rfl (by first | assumption | exact Row.at_ (by assumption) rfl)) rfl ?_)
          refine OW_q (q_not rfl) rfl ?_
          refine OW_q (q_move rfl) rfl ?_
          refine OW_part (t := 54) rfl (fun hg54 => ?_) (fun hg54 => ?_)
          · skip
            refine OW_wanted rfl rfl rfl ?_
            refine OW_q (q_fieldAddr Try.underlying62 rfl rfl Try.sizeOf3 rfl rfl) rfl ?_
            refine OW_wanted rfl rfl rfl ?_
            first | (refine OW_q (q_load1_own Try.isAgg3 rfl rfl (by (repeat (first | exact .head | apply Swap.tail))) (by rfl)) rfl ?_) | (refine OW_q (q_load1_ro Try.isAgg3 rfl (by first | assumption | exact Row.at_ (by assumption) rfl)) rfl ?_)
            refine OW_wanted rfl rfl rfl ?_
            refine OW_q (q_move rfl) rfl ?_
            refine OW_wanted rfl rfl rfl ?_
            refine OW_q (q_eqi rfl rfl) rfl ?_
            refine OW_q (q_pick_t rfl rfl) rfl ?_
            refine OW_nil ?_
            refine EW_then ?_
            refine CW_cond rfl (fun h59 => ?_) (fun h59 => ?_)
            · skip
              refine CW_seq ?_
              refine CW_region ?_
              refine OW_q (q_assign rfl) rfl ?_
              refine OW_nil ?_
              refine EW_then ?_
              refine CW_ret ?_
              refine EW_then_ret ?_
              refine EW_block_ret ?_
              refine EW_then_ret ?_
              refine EW_out_ret ?_
              refine EW_block_ret ?_
              refine EW_block_ret ?_
              refine EW_then_ret ?_
              refine EW_out_ret ?_
              refine EW_block_ret ?_
              refine EW_then_ret ?_
              refine ret1 Try.results56 rfl (fun w hw => ?_)
              exact ⟨rt (fstB_mem hmem (by simpa using h27) (by rw [hfl, fstL_drop hsj]; simp_all)), hw.sub .nil⟩
            · skip
              refine CW_skip ?_
              refine EW_then ?_
              refine CW_region ?_
              refine OW_q (q_fieldAddr Try.underlying62 rfl rfl Try.sizeOf4 rfl rfl) rfl ?_
              first | (refine OW_q (q_load1_own Try.isAgg4 rfl rfl (by (repeat (first | exact .head | apply Swap.tail))) (by rfl)) rfl ?_) | (refine OW_q (q_load1_ro Try.isAgg4 rfl (by first | assumption | exact Row.at_ (by assumption) rfl)) rfl ?_)
              refine OW_q (q_not rfl) rfl ?_
              refine OW_q (q_move rfl) rfl ?_
              refine OW_part (t := 63) rfl (fun hg63 => ?_) (fun hg63 => ?_)
              · skip
                have ht : s.term = false := by simpa using hg63
                have hs1 := hmemS ht
                have hcell := atB_get hs1.1 hs1.2
                obtain ⟨q, rfl, hq⟩ := hbb s.n.toNat _ hcell
                refine OW_wanted rfl rfl rfl ?_
                refine OW_q (q_fieldAddr Try.underlying53 rfl rfl Try.sizeOf36 rfl rfl) rfl ?_
                refine OW_wanted rfl rfl rfl ?_
                first | (refine OW_q (q_load1_own Try.isAgg36 rfl rfl (by (repeat (first | exact .head | apply Swap.tail))) (by rfl)) rfl ?_) | (refine OW_q (q_load1_ro Try.isAgg36 rfl (by first | assumption | exact Row.at_ (by assumption) rfl)) rfl ?_)
                refine OW_wanted rfl rfl rfl ?_
                refine OW_q (q_fieldAddr Try.underlying62 rfl rfl Try.sizeOf3 rfl rfl) rfl ?_
                refine OW_wanted rfl rfl rfl ?_
                first | (refine OW_q (q_load1_own Try.isAgg3 rfl rfl (by (repeat (first | exact .head | apply Swap.tail))) (by rfl)) rfl ?_) | (refine OW_q (q_load1_ro Try.isAgg3 rfl (by first | assumption | exact Row.at_ (by assumption) rfl)) rfl ?_)
                refine OW_wanted rfl rfl rfl ?_
                refine OW_q (q_indexAddrI Try.underlying36 Try.sizeOf4 rfl rfl (by first | omega | assumption) (by first | omega | assumption)) rfl ?_
                refine OW_wanted rfl rfl rfl ?_
                refine OW_q (q_load1_ro Try.isAgg4 rfl (by first | assumption | exact Row.at_ (by assumption) rfl)) rfl ?_
                refine OW_q (q_pick_t rfl rfl) rfl ?_
                refine OW_q (q_assign rfl) rfl ?_
                refine OW_nil ?_
                refine EW_block_normal ?_
                refine EW_then ?_
                refine CW_region ?_
                refine OW_q (q_move rfl) rfl ?_
                first | refine OW_q (q_inc rfl rfl (by omega)) rfl ?_ | refine OW_q (q_add rfl rfl (by omega) (by omega)) rfl ?_
                refine OW_q (q_assign rfl) rfl ?_
                refine OW_nil ?_
                refine EW_again ((k + 1, atB nl s.n)) ⟨?_, ?_⟩ ⟨rfl, rfl, rfl, rfl, rfl, rfl, rfl, trivial⟩ (fun w hw => hw.sub (by (repeat (first | exact SubL.nil | exact Pick.head | apply Pick.tail | apply SubL.cons))))
                · show r.right.length - (k + 1) < r.right.length - k; omega
                · refine ⟨by show k + 1 ≤ _; omega, ?_⟩
                  show fstL nl nb r.right = (atB nl s.n && fstL nl nb (r.right.drop (k + 1)))
                  rw [hfl, fstL_drop hsj]
                  simp_all
              · skip
                refine OW_skip rfl rfl rfl rfl ?_
                refine OW_skip rfl rfl rfl rfl ?_
                refine OW_skip rfl rfl rfl rfl ?_
                refine OW_skip rfl rfl rfl rfl ?_
                refine OW_skip rfl rfl rfl rfl ?_
                refine OW_skip rfl rfl rfl rfl ?_
                refine OW_q (q_pick_f rfl rfl) rfl ?_
                refine OW_q (q_assign rfl) rfl ?_
                refine OW_nil ?_
                refine EW_block_normal ?_
                refine EW_then ?_
                refine CW_region ?_
                refine OW_q (q_move rfl) rfl ?_
                first | refine OW_q (q_inc rfl rfl (by omega)) rfl ?_ | refine OW_q (q_add rfl rfl (by omega) (by omega)) rfl ?_
                refine OW_q (q_assign rfl) rfl ?_
                refine OW_nil ?_
                refine EW_again ((k + 1, false)) ⟨?_, ?_⟩ ⟨rfl, rfl, rfl, rfl, rfl, rfl, rfl, trivial⟩ (fun w hw => hw.sub (by (repeat (first | exact SubL.nil | exact Pick.head | apply Pick.tail | apply SubL.cons))))
                · show r.right.length - (k + 1) < r.right.length - k; omega
                · refine ⟨by show k + 1 ≤ _; omega, ?_⟩
                  show fstL nl nb r.right = (false && fstL nl nb (r.right.drop (k + 1)))
                  rw [hfl, fstL_drop hsj]
                  simp_all
          · skip
            refine OW_skip rfl rfl rfl rfl ?_
            refine OW_skip rfl rfl rfl rfl ?_
            refine OW_skip rfl rfl rfl rfl ?_
            refine OW_skip rfl rfl rfl rfl ?_
            refine OW_q (q_pick_f rfl rfl) rfl ?_
            refine OW_nil ?_
            refine EW_then ?_
            refine CW_false rfl rfl ?_
            refine CW_skip ?_
            refine EW_then ?_
            refine CW_region ?_
            refine OW_q (q_fieldAddr Try.underlying62 rfl rfl Try.sizeOf4 rfl rfl) rfl ?_
            first | (refine OW_q (q_load1_own Try.isAgg4 rfl rfl (by (repeat (first | exact .head | apply Swap.tail))) (by rfl)) rfl ?_) | (refine OW_q (q_load1_ro Try.isAgg4 rfl (by first | assumption | exact Row.at_ (by assumption) rfl)) rfl ?_)
            refine OW_q (q_not rfl) rfl ?_
            refine OW_q (q_move rfl) rfl ?_
            refine OW_part (t := 63) rfl (fun hg63 => ?_) (fun hg63 => ?_)
            · skip
              have ht : s.term = false := by simpa using hg63
              have hs1 := hmemS ht
              have hcell := atB_get hs1.1 hs1.2
              obtain ⟨q, rfl, hq⟩ := hbb s.n.toNat _ hcell
              refine OW_wanted rfl rfl rfl ?_
              refine OW_q (q_fieldAddr Try.underlying53 rfl rfl Try.sizeOf36 rfl rfl) rfl ?_
              refine OW_wanted rfl rfl rfl ?_
              first | (refine OW_q (q_load1_own Try.isAgg36 rfl rfl (by (repeat (first | exact .head | apply Swap.tail))) (by rfl)) rfl ?_) | (refine OW_q (q_load1_ro Try.isAgg36 rfl (by first | assumption | exact Row.at_ (by assumption) rfl)) rfl ?_)
              refine OW_wanted rfl rfl rfl ?_
              refine OW_q (q_fieldAddr Try.underlying62 rfl rfl Try.sizeOf3 rfl rfl) rfl ?_
              refine OW_wanted rfl rfl rfl ?_
              first | (refine OW_q (q_load1_own Try.isAgg3 rfl rfl (by (repeat (first | exact .head | apply Swap.tail))) (by rfl)) rfl ?_) | (refine OW_q (q_load1_ro Try.isAgg3 rfl (by first | assumption | exact Row.at_ (by assumption) rfl)) rfl ?_)
              refine OW_wanted rfl rfl rfl ?_
              refine OW_q (q_indexAddrI Try.underlying36 Try.sizeOf4 rfl rfl (by first | omega | assumption) (by first | omega | assumption)) rfl ?_
              refine OW_wanted rfl rfl rfl ?_
              refine OW_q (q_load1_ro Try.isAgg4 rfl (by first | assumption | exact Row.at_ (by assumption) rfl)) rfl ?_
              refine OW_q (q_pick_t rfl rfl) rfl ?_
              refine OW_q (q_assign rfl) rfl ?_
              refine OW_nil ?_
              refine EW_block_normal ?_
              refine EW_then ?_
              refine CW_region ?_
              refine OW_q (q_move rfl) rfl ?_
              first | refine OW_q (q_inc rfl rfl (by omega)) rfl ?_ | refine OW_q (q_add rfl rfl (by omega) (by omega)) rfl ?_
              refine OW_q (q_assign rfl) rfl ?_
              refine OW_nil ?_
              refine EW_again ((k + 1, atB nl s.n)) ⟨?_, ?_⟩ ⟨rfl, rfl, rfl, rfl, rfl, rfl, rfl, trivial⟩ (fun w hw => hw.sub (by (repeat (first | exact SubL.nil | exact Pick.head | apply Pick.tail | apply SubL.cons))))
              · show r.right.length - (k + 1) < r.right.length - k; omega
              · refine ⟨by show k + 1 ≤ _; omega, ?_⟩
                show fstL nl nb r.right = (atB nl s.n && fstL nl nb (r.right.drop (k + 1)))
                rw [hfl, fstL_drop hsj]
                simp_all
            · skip
              refine OW_skip rfl rfl rfl rfl ?_
              refine OW_skip rfl rfl rfl rfl ?_
              refine OW_skip rfl rfl rfl rfl ?_
              refine OW_skip rfl rfl rfl rfl ?_
              refine OW_skip rfl rfl rfl rfl ?_
              refine OW_skip rfl rfl rfl rfl ?_
              refine OW_q (q_pick_f rfl rfl) rfl ?_
              refine OW_q (q_assign rfl) rfl ?_
              refine OW_nil ?_
              refine EW_block_normal ?_
              refine EW_then ?_
              refine CW_region ?_
              refine OW_q (q_move rfl) rfl ?_
              first | refine OW_q (q_inc rfl rfl (by omega)) rfl ?_ | refine OW_q (q_add rfl rfl (by omega) (by omega)) rfl ?_
              refine OW_q (q_assign rfl) rfl ?_
              refine OW_nil ?_
              refine EW_again ((k + 1, false)) ⟨?_, ?_⟩ ⟨rfl, rfl, rfl, rfl, rfl, rfl, rfl, trivial⟩ (fun w hw => hw.sub (by (repeat (first | exact SubL.nil | exact Pick.head | apply Pick.tail | apply SubL.cons))))
              · show r.right.length - (k + 1) < r.right.length - k; omega
              · refine ⟨by show k + 1 ≤ _; omega, ?_⟩
                show fstL nl nb r.right = (false && fstL nl nb (r.right.drop (k + 1)))
                rw [hfl, fstL_drop hsj]
                simp_all
        · skip
          refine CW_exit ?_
          refine EW_then_exit ?_
          refine EW_out ?_
          refine EW_block_exit ?_
          refine EW_block_normal ?_
          refine EW_then ?_
          refine CW_region ?_
          refine OW_q (q_move rfl) rfl ?_
          first | refine OW_q (q_inc rfl rfl (by omega)) rfl ?_ | refine OW_q (q_add rfl rfl (by omega) (by omega)) rfl ?_
          refine OW_q (q_assign rfl) rfl ?_
          refine OW_nil ?_
          refine EW_again (i + 1) ⟨?_, ?_⟩ ⟨rfl, rfl, rfl, rfl, rfl, trivial⟩ (fun w hw => hw.sub (by (repeat (first | exact SubL.nil | exact Pick.head | apply Pick.tail | apply SubL.cons))))
          · show g.rules.length - (i + 1) < g.rules.length - i; omega
          · refine ⟨by omega, ?_⟩
            rw [fstB_take hx, hok, hfl, h39]; simp
      · skip
        refine OW_skip rfl rfl rfl rfl ?_
        refine OW_q (q_pick_f rfl rfl) rfl ?_
        refine OW_nil ?_
        refine EW_then ?_
        refine CW_false rfl rfl ?_
        refine CW_exit ?_
        refine EW_then_exit ?_
        refine EW_out ?_
        refine EW_block_exit ?_
        refine EW_block_normal ?_
        refine EW_then ?_
        refine CW_region ?_
        refine OW_q (q_move rfl) rfl ?_
        first | refine OW_q (q_inc rfl rfl (by omega)) rfl ?_ | refine OW_q (q_add rfl rfl (by omega) (by omega)) rfl ?_
        refine OW_q (q_assign rfl) rfl ?_
        refine OW_nil ?_
        refine EW_again (i + 1) ⟨?_, ?_⟩ ⟨rfl, rfl, rfl, rfl, rfl, trivial⟩ (fun w hw => hw.sub (by (repeat (first | exact SubL.nil | exact Pick.head | apply Pick.tail | apply SubL.cons))))
        · show g.rules.length - (i + 1) < g.rules.length - i; omega
        · refine ⟨by omega, ?_⟩
          have hkl : r.right.length ≤ k := by have := of_decide_eq_false hg37; omega
          rw [fstB_take hx, hok, hfl, List.drop_eq_nil_of_le hkl]; simp [fstL]
  · skip
    have hend := take_all (l := g.rules) (k := i) (by simpa using h17)
    rw [hend] at hok
    refine CW_exit ?_
    refine EW_then_exit ?_
    refine EW_out ?_
    refine EW_block_exit ?_
    refine EW_then ?_
    refine CW_seq ?_
    refine CW_region ?_
    refine OW_q (q_assign rfl) rfl ?_
    refine OW_nil ?_
    refine EW_then ?_
    refine CW_ret ?_
    refine ret1 Try.results56 rfl (fun w hw => ?_)
    exact ⟨rf (by rw [hok]; decide), hw.sub .nil⟩

set_option maxRecDepth 20000 in
theorem left_no (gv : Value) (g : Gram) (w : World) (hg : GramAt (Cl w) gv g) (hm : mayB g = false) : Calls Try.prog 29 #[gv] w (fun e w' => e = .returned (.tuple #[.slice none 0 0, .int .i64 2]) ∧ Sat (Old w) w [] w') := by
  have hg0 := hg
  obtain ⟨rv, rfl, hr⟩ := hg.mono old_rd
  obtain ⟨a, c, rfl, hc1, hc2, hrs⟩ := hr
  have hg1 := hg.mono old_rd
  refine calls_CW Try.func29 rfl Try.ntmps29 rfl (Sat.start w) ?_
  refine CW_seq ?_
  refine CW_region ?_
  refine OW_e (e_box rfl rfl) rfl (fun b1 => ?_)
  refine OW_q (q_assign rfl) rfl ?_
  refine OW_q (q_assign rfl) rfl ?_
  refine OW_nil ?_
  refine EW_then ?_
  refine CW_seq ?_
  refine CW_region ?_
  first | (refine OW_q (q_loadN_own Try.isAgg24 Try.sizeOf24 rfl rfl (by (repeat (first | exact .head | apply Swap.tail))) (by rfl)) rfl ?_) | (refine OW_q (q_loadN_ro Try.isAgg24 Try.sizeOf24 rfl (by first | assumption | exact Row.at_ (by assumption) rfl) (by rfl)) rfl ?_)
  refine OW_e (e_call Try.call26 rfl (fun w hw => lift_ro (setsOf_no _ g w (hg0.mono (fun _ _ h => hw.rd (Rd.old h))) hm) hw)) rfl (fun x19 => ?_)
  refine OW_q (q_move rfl) rfl ?_
  refine OW_q (q_extract rfl rfl) rfl ?_
  refine OW_q (q_extract rfl rfl) rfl ?_
  refine OW_e (e_alloc Try.zeroValue53 rfl) rfl (fun b4 => ?_)
  refine OW_e0 (e_storeN Try.sizeOf53 rfl rfl rfl rfl (by simp [Value.oneCell']) (by (repeat (first | exact .head | apply Swap.tail))) (by rfl)) (fun _ => ?_)
  refine OW_q (q_assign rfl) rfl ?_
  refine OW_nil ?_
  refine EW_then ?_
  refine CW_seq ?_
  refine CW_seq ?_
  refine CW_region ?_
  refine OW_q (q_move rfl) rfl ?_
  refine OW_q (q_nei rfl rfl) rfl ?_
  refine OW_nil ?_
  refine EW_then ?_
  refine CW_true rfl (by simp) ?_
  refine CW_seq ?_
  refine CW_region ?_
  refine OW_q (q_move rfl) rfl ?_
  refine OW_q (q_assign rfl) rfl ?_
  refine OW_q (q_assign rfl) rfl ?_
  refine OW_nil ?_
  refine EW_then ?_
  refine CW_ret ?_
  refine EW_then_ret ?_
  refine ret2 Try.results29 rfl rfl (fun w hw => ?_)
  exact ⟨rfl, hw.sub .nil⟩

set_option maxRecDepth 20000 in
theorem left_yes (gv : Value) (g : Gram) (w : World) (hg : GramAt (Cl w) gv g) (hm : mayB g = true) : Calls Try.prog 29 #[gv] w (fun e w' => ∃ x : Value × List Bool × List Bool, e = .returned (.tuple #[x.1, .int .i64 0]) ∧ (x.2.1.length = g.names.toNat ∧ x.2.2.length = g.names.toNat ∧ NS g x.2.2 ∧ NC g x.2.2 ∧ ∀ i : Int, 0 ≤ i → i < (g.names.toNat : Int) → (atB x.2.1 i = true ↔ Way (Eg g x.2.2) i i)) ∧ Sat (Old w) w [trow 4 1 encB x.1 x.2.1] w') := by
  have hg0 := hg
  obtain ⟨rv, rfl, hr⟩ := hg.mono old_rd
  obtain ⟨a, c, rfl, hc1, hc2, hrs⟩ := hr
  have hg1 := hg.mono old_rd
  have hM := mayB_true.1 hm
  have hall := may_all hm
  refine calls_CW Try.func29 rfl Try.ntmps29 rfl (Sat.start w) ?_
  refine CW_seq ?_
  refine CW_region ?_
  refine OW_e (e_box rfl rfl) rfl (fun b1 => ?_)
  refine OW_q (q_assign rfl) rfl ?_
  refine OW_q (q_assign rfl) rfl ?_
  refine OW_nil ?_
  refine EW_then ?_
  refine CW_seq ?_
  refine CW_region ?_
  first | (refine OW_q (q_loadN_own Try.isAgg24 Try.sizeOf24 rfl rfl (by (repeat (first | exact .head | apply Swap.tail))) (by rfl)) rfl ?_) | (refine OW_q (q_loadN_ro Try.isAgg24 Try.sizeOf24 rfl (by first | assumption | exact Row.at_ (by assumption) rfl) (by rfl)) rfl ?_)
  refine OW_e (e_call Try.call26 rfl (fun w hw => lift_oldP (setsOf_yes _ g w (hg0.mono (fun _ _ h => hw.rd (Rd.old h))) hm) hw)) rfl (fun x19 => ?_)
  refine OW_pure fun hx19 => ?_
  have hnl : x19.nl.length = g.names.toNat := hx19.1.1
  refine OW_q (q_move rfl) rfl ?_
  refine OW_q (q_extract rfl rfl) rfl ?_
  refine OW_q (q_extract rfl rfl) rfl ?_
  refine OW_e (e_alloc Try.zeroValue53 rfl) rfl (fun b4 => ?_)
  refine OW_e0 (e_storeN Try.sizeOf53 rfl rfl rfl rfl (by simp [Value.oneCell']) (by (repeat (first | exact .head | apply Swap.tail))) (by rfl)) (fun _ => ?_)
  refine OW_q (q_assign rfl) rfl ?_
  refine OW_nil ?_
  refine EW_then ?_
  refine CW_seq ?_
  refine CW_seq ?_
  refine CW_region ?_
  refine OW_q (q_move rfl) rfl ?_
  refine OW_q (q_nei rfl rfl) rfl ?_
  refine OW_nil ?_
  refine EW_then ?_
  refine CW_false rfl (by simp) ?_
  refine CW_skip ?_
  refine EW_then ?_
  refine CW_seq ?_
  refine CW_region ?_
  refine OW_q (q_fieldAddr Try.underlying24 rfl rfl Try.sizeOf3 rfl rfl) rfl ?_
  first | (refine OW_q (q_load1_own Try.isAgg3 rfl rfl (by (repeat (first | exact .head | apply Swap.tail))) (by rfl)) rfl ?_) | (refine OW_q (q_load1_ro Try.isAgg3 rfl (by first | assumption | exact Row.at_ (by assumption) rfl)) rfl ?_)
  refine OW_spell 26 (.int .i64 ((g.names.toNat : Nat) : Int)) rfl (by rw [Int.toNat_of_nonneg (by omega)]) ?_
  refine OW_e (e_make Try.underlying51 Try.typeInfo36 (z := .slice none 0 0) rfl rfl rfl (by decide) rfl rfl (by omega)) rfl (fun b27 => ?_)
  refine OW_q (q_assign rfl) rfl ?_
  refine OW_nil ?_
  refine EW_then ?_
  refine CW_seq ?_
  refine CW_seq ?_
  refine CW_region ?_
  refine OW_q (q_move rfl) rfl ?_
  refine OW_q (q_len Try.underlying51 rfl) rfl ?_
  refine OW_q (q_move rfl) rfl ?_
  refine OW_nil ?_
  refine EW_then ?_
  refine CW_block ?_
  refine CW_loopP (ι := Nat × List Nat) (fun i_ => i_.1 ≤ g.names.toNat ∧ i_.2.length = i_.1) (fun i_ => [(1, .pointer (some ⟨b1, 0, none⟩)), (4, .pointer (some ⟨b4, 0, none⟩)), (6, .slice (some ⟨b27, 0, none⟩) g.names.toNat g.names.toNat), (29, .int .i64 (g.names.toNat : Int)), (30, .int .i64 (i_.1 : Int))]) (fun i_ => Sat (Old w) w [cel b27 36 (i_.2.flatMap (encR g.names.toNat) ++ List.replicate (g.names.toNat - i_.1) (.slice none 0 0)), tabA 4 i_.2 (List.replicate i_.1 (List.replicate g.names.toNat false)), bools x19.bn 4 x19.nl, cel b4 53 [.slice (some ⟨x19.bn, 0, none⟩) g.names.toNat g.names.toNat, .slice (some ⟨x19.bf, 0, none⟩) g.names.toNat x19.cf, .slice (some ⟨x19.bo, 0, none⟩) g.names.toNat x19.co], cel b1 24 [.int .i64 g.terms, .int .i64 g.names, .slice a g.rules.length c]]) (fun i_ => g.names.toNat - i_.1) (0, []) ?_ ⟨rfl, rfl, rfl, rfl, rfl, trivial⟩ (fun w hw => (hw.tabNil 4).sub (by repeat (first | exact SubL.nil | exact Pick.head | apply Pick.tail | apply SubL.cons))) ?_
  · exact ⟨Nat.zero_le _, rfl⟩
  intro i_ hpre
  obtain ⟨n, bl⟩ := i_
  replace hpre : n ≤ g.names.toNat ∧ bl.length = n := hpre
  change CW _ _ _ _ [(1, .pointer (some ⟨b1, 0, none⟩)), (4, .pointer (some ⟨b4, 0, none⟩)), (6, .slice (some ⟨b27, 0, none⟩) g.names.toNat g.names.toNat), (29, .int .i64 (g.names.toNat : Int)), (30, .int .i64 (n : Int))] (Sat (Old w) w [cel b27 36 (bl.flatMap (encR g.names.toNat) ++ List.replicate (g.names.toNat - n) (.slice none 0 0)), tabA 4 bl (List.replicate n (List.replicate g.names.toNat false)), bools x19.bn 4 x19.nl, cel b4 53 [.slice (some ⟨x19.bn, 0, none⟩) g.names.toNat g.names.toNat, .slice (some ⟨x19.bf, 0, none⟩) g.names.toNat x19.cf, .slice (some ⟨x19.bo, 0, none⟩) g.names.toNat x19.co], cel b1 24 [.int .i64 g.terms, .int .i64 g.names, .slice a g.rules.length c]])
  obtain ⟨hn, hlb⟩ := hpre
  refine CW_seq ?_
  refine CW_region ?_
  refine OW_q (q_lss rfl rfl) rfl ?_
  refine OW_nil ?_
  refine EW_then ?_
  refine CW_seq ?_
  refine CW_cond rfl (fun h31 => ?_) (fun h31 => ?_)
  · skip
    have hlt : n < g.names.toNat := by have := of_decide_eq_true h31; omega
    refine CW_skip ?_
    refine EW_then ?_
    refine CW_seq ?_
    refine CW_block ?_
    refine CW_seq ?_
    refine CW_region ?_
    refine OW_q (q_move rfl) rfl ?_
    refine OW_q (q_assign rfl) rfl ?_
    refine OW_nil ?_
    refine EW_then ?_
    refine CW_region ?_
    refine OW_q (q_move rfl) rfl ?_
    refine OW_q (q_move rfl) rfl ?_
    refine OW_q (q_fieldAddr Try.underlying24 rfl rfl Try.sizeOf3 rfl rfl) rfl ?_
    first | (refine OW_q (q_load1_own Try.isAgg3 rfl rfl (by (repeat (first | exact .head | apply Swap.tail))) (by rfl)) rfl ?_) | (refine OW_q (q_load1_ro Try.isAgg3 rfl (by first | assumption | exact Row.at_ (by assumption) rfl)) rfl ?_)
    refine OW_e (e_makeB Try.underlying36 Try.typeInfo4 rfl rfl (by decide) rfl rfl (by omega) (by omega)) rfl (fun b37 => ?_)
    refine OW_q (q_indexAddr Try.underlying51 Try.sizeOf36 rfl rfl (by first | omega | assumption)) rfl ?_
    refine OW_e0 (e_store_celJ Try.sizeOf36 rfl rfl rfl (by repeat (first | exact .head | apply Swap.tail)) (by rw [List.length_append, flat_length (enc := encR g.names.toNat) (size := 1) (fun _ => rfl), List.length_replicate]; omega)) (fun _ => ?_)
    refine OW_nil ?_
    refine EW_block_normal ?_
    refine EW_then ?_
    refine CW_region ?_
    first | refine OW_q (q_inc rfl rfl (by omega)) rfl ?_ | refine OW_q (q_add rfl rfl (by omega) (by omega)) rfl ?_
    refine OW_q (q_move rfl) rfl ?_
    refine OW_nil ?_
    refine EW_again ((n + 1, bl ++ [b37])) ⟨?_, ?_⟩ ⟨rfl, rfl, rfl, rfl, rfl, trivial⟩ (fun w hw => by
        rw [cells_fill hlb (by omega)] at hw
        have h1 := (hw.sub (L' := [tabA 4 bl (List.replicate n (List.replicate g.names.toNat false)), bools b37 4 (List.replicate g.names.toNat false), cel b27 36 ((bl ++ [b37]).flatMap (encR g.names.toNat) ++ List.replicate (g.names.toNat - (n + 1)) (.slice none 0 0)), bools x19.bn 4 x19.nl, cel b4 53 [.slice (some ⟨x19.bn, 0, none⟩) g.names.toNat g.names.toNat, .slice (some ⟨x19.bf, 0, none⟩) g.names.toNat x19.cf, .slice (some ⟨x19.bo, 0, none⟩) g.names.toNat x19.co], cel b1 24 [.int .i64 g.terms, .int .i64 g.names, .slice a g.rules.length c]]) (by repeat (first | exact SubL.nil | exact Pick.head | apply Pick.tail | apply SubL.cons))).tabAdd (by rw [hlb, List.length_replicate])
        rw [← List.replicate_succ'] at h1
        exact h1.sub (by repeat (first | exact SubL.nil | exact Pick.head | apply Pick.tail | apply SubL.cons)))
    · show g.names.toNat - (n + 1) < g.names.toNat - n; omega
    · exact ⟨by show n + 1 ≤ _; omega, by show (bl ++ [b37]).length = n + 1; rw [List.length_append, hlb]; rfl⟩
  · skip
    obtain rfl : n = g.names.toNat := by have := of_decide_eq_false h31; omega
    refine CW_weak (fun w hw => by rw [Nat.sub_self, List.replicate_zero, List.append_nil] at hw; exact hw.cel_trow (size := 1) (fun _ => rfl) hlb (by simp only [maxLen]; omega)) ?_
    refine CW_exit ?_
    refine EW_then_exit ?_
    refine EW_out ?_
    refine EW_block_exit ?_
    refine EW_then ?_
    refine CW_seq ?_
    refine CW_seq ?_
    refine CW_region ?_
    refine OW_q (q_fieldAddr Try.underlying24 rfl rfl Try.sizeOf22 rfl rfl) rfl ?_
    first | (refine OW_q (q_load1_own Try.isAgg22 rfl rfl (by (repeat (first | exact .head | apply Swap.tail))) (by rfl)) rfl ?_) | (refine OW_q (q_load1_ro Try.isAgg22 rfl (by first | assumption | exact Row.at_ (by assumption) rfl)) rfl ?_)
    refine OW_q (q_len Try.underlying22 rfl) rfl ?_
    refine OW_q (q_move rfl) rfl ?_
    refine OW_nil ?_
    refine EW_then ?_
    refine CW_block ?_
    refine CW_loopP (ι := Nat × List (List Bool)) (fun i_ => i_.1 ≤ g.rules.length ∧ Dim i_.2 g.names.toNat g.names.toNat ∧ In2 g.names.toNat (fun a b => at2 i_.2 a b = fstB (g.rules.take i_.1) x19.nl a b)) (fun i_ => [(1, .pointer (some ⟨b1, 0, none⟩)), (4, .pointer (some ⟨b4, 0, none⟩)), (6, .slice (some ⟨b27, 0, none⟩) g.names.toNat g.names.toNat), (41, .slice a g.rules.length c), (42, .int .i64 (g.rules.length : Int)), (43, .int .i64 (i_.1 : Int))]) (fun i_ => Sat (Old w) w [tabA 4 bl i_.2, trow 36 1 (encR g.names.toNat) (.slice (some ⟨b27, 0, none⟩) g.names.toNat g.names.toNat) bl, bools x19.bn 4 x19.nl, cel b4 53 [.slice (some ⟨x19.bn, 0, none⟩) g.names.toNat g.names.toNat, .slice (some ⟨x19.bf, 0, none⟩) g.names.toNat x19.cf, .slice (some ⟨x19.bo, 0, none⟩) g.names.toNat x19.co], cel b1 24 [.int .i64 g.terms, .int .i64 g.names, .slice a g.rules.length c]]) (fun i_ => g.rules.length - i_.1) (0, List.replicate g.names.toNat (List.replicate g.names.toNat false)) ?_ ⟨rfl, rfl, rfl, rfl, rfl, rfl, trivial⟩ (fun w hw => (hw : Sat _ _ (_ :: _ :: _) _).sub (by repeat (first | exact SubL.nil | exact Pick.head | apply Pick.tail | apply SubL.cons))) ?_
    · exact ⟨Nat.zero_le _, dim_new _ _, fun a b _ _ _ _ => at2_new _ _ _ _⟩
    intro i_ hpre
    obtain ⟨qi, t1⟩ := i_
    replace hpre : qi ≤ g.rules.length ∧ Dim t1 g.names.toNat g.names.toNat ∧ In2 g.names.toNat (fun a b => at2 t1 a b = fstB (g.rules.take qi) x19.nl a b) := hpre
    change CW _ _ _ _ [(1, .pointer (some ⟨b1, 0, none⟩)), (4, .pointer (some ⟨b4, 0, none⟩)), (6, .slice (some ⟨b27, 0, none⟩) g.names.toNat g.names.toNat), (41, .slice a g.rules.length c), (42, .int .i64 (g.rules.length : Int)), (43, .int .i64 (qi : Int))] (Sat (Old w) w [tabA 4 bl t1, trow 36 1 (encR g.names.toNat) (.slice (some ⟨b27, 0, none⟩) g.names.toNat g.names.toNat) bl, bools x19.bn 4 x19.nl, cel b4 53 [.slice (some ⟨x19.bn, 0, none⟩) g.names.toNat g.names.toNat, .slice (some ⟨x19.bf, 0, none⟩) g.names.toNat x19.cf, .slice (some ⟨x19.bo, 0, none⟩) g.names.toNat x19.co], cel b1 24 [.int .i64 g.terms, .int .i64 g.names, .slice a g.rules.length c]])
    obtain ⟨hqi, hdt, hin⟩ := hpre
    refine CW_seq ?_
    refine CW_region ?_
    refine OW_q (q_lss rfl rfl) rfl ?_
    refine OW_nil ?_
    refine EW_then ?_
    refine CW_seq ?_
    refine CW_cond rfl (fun h44 => ?_) (fun h44 => ?_)
    · skip
      have hlt : qi < g.rules.length := by have := of_decide_eq_true h44; omega
      obtain ⟨r, hx⟩ := get_of_lt hlt
      have hmem := List.mem_of_getElem? hx
      obtain ⟨p, rfl, rv2, hsy, hrow⟩ := hrs qi r hx
      have hr1 := hall r hmem
      have hlN : r.left < (g.names.toNat : Int) := by omega
      obtain ⟨a2, c2, rfl, hd1, hd2, hss⟩ := id hsy
      refine CW_skip ?_
      refine EW_then ?_
      refine CW_seq ?_
      refine CW_block ?_
      refine CW_seq ?_
      refine CW_region ?_
      refine OW_q (q_indexAddr Try.underlying22 Try.sizeOf41 rfl rfl (by first | omega | assumption)) rfl ?_
      refine OW_q (q_loadN_ro Try.isAgg41 Try.sizeOf41 rfl (by first | assumption | exact Row.at_ (by assumption) rfl) (by rfl)) rfl ?_
      refine OW_e (e_alloc Try.zeroValue41 rfl) rfl (fun b9 => ?_)
      refine OW_e0 (e_storeN Try.sizeOf41 rfl rfl rfl rfl (by simp [Value.oneCell']) (by (repeat (first | exact .head | apply Swap.tail))) (by rfl)) (fun _ => ?_)
      refine OW_nil ?_
      refine EW_then ?_
      refine CW_seq ?_
      refine CW_region ?_
      refine OW_q (q_fieldAddr Try.underlying41 rfl rfl Try.sizeOf39 rfl rfl) rfl ?_
      first | (refine OW_q (q_load1_own Try.isAgg39 rfl rfl (by (repeat (first | exact .head | apply Swap.tail))) (by rfl)) rfl ?_) | (refine OW_q (q_load1_ro Try.isAgg39 rfl (by first | assumption | exact Row.at_ (by assumption) rfl)) rfl ?_)
      refine OW_q (q_len Try.underlying39 rfl) rfl ?_
      refine OW_q (q_move rfl) rfl ?_
      refine OW_nil ?_
      refine EW_then ?_
      refine CW_block ?_
      refine CW_loopP (ι := Nat × List (List Bool)) (fun i_ => i_.1 ≤ r.right.length ∧ Dim i_.2 g.names.toNat g.names.toNat ∧ SeenL g x19.nl g.names.toNat i_.2 qi r i_.1) (fun i_ => [(1, .pointer (some ⟨b1, 0, none⟩)), (4, .pointer (some ⟨b4, 0, none⟩)), (6, .slice (some ⟨b27, 0, none⟩) g.names.toNat g.names.toNat), (41, .slice (some p) g.rules.length c), (42, .int .i64 (g.rules.length : Int)), (43, .int .i64 (qi : Int)), (9, .pointer (some ⟨b9, 0, none⟩)), (48, .slice a2 r.right.length c2), (49, .int .i64 (r.right.length : Int)), (50, .int .i64 (i_.1 : Int))]) (fun i_ => Sat (Old w) w [tabA 4 bl i_.2, trow 36 1 (encR g.names.toNat) (.slice (some ⟨b27, 0, none⟩) g.names.toNat g.names.toNat) bl, bools x19.bn 4 x19.nl, cel b4 53 [.slice (some ⟨x19.bn, 0, none⟩) g.names.toNat g.names.toNat, .slice (some ⟨x19.bf, 0, none⟩) g.names.toNat x19.cf, .slice (some ⟨x19.bo, 0, none⟩) g.names.toNat x19.co], cel b1 24 [.int .i64 g.terms, .int .i64 g.names, .slice (some p) g.rules.length c], cel b9 41 [.int .i64 r.left, .slice a2 r.right.length c2]]) (fun i_ => r.right.length - i_.1) (0, t1) ?_ ⟨rfl, rfl, rfl, rfl, rfl, rfl, rfl, rfl, rfl, rfl, trivial⟩ (fun w hw => hw.sub (by (repeat (first | exact SubL.nil | exact Pick.head | apply Pick.tail | apply SubL.cons)))) ?_
      · exact ⟨Nat.zero_le _, hdt, SeenL.start hin⟩
      intro i_ hpre
      obtain ⟨k, t2⟩ := i_
      replace hpre : k ≤ r.right.length ∧ Dim t2 g.names.toNat g.names.toNat ∧ SeenL g x19.nl g.names.toNat t2 qi r k := hpre
      change CW _ _ _ _ [(1, .pointer (some ⟨b1, 0, none⟩)), (4, .pointer (some ⟨b4, 0, none⟩)), (6, .slice (some ⟨b27, 0, none⟩) g.names.toNat g.names.toNat), (41, .slice (some p) g.rules.length c), (42, .int .i64 (g.rules.length : Int)), (43, .int .i64 (qi : Int)), (9, .pointer (some ⟨b9, 0, none⟩)), (48, .slice a2 r.right.length c2), (49, .int .i64 (r.right.length : Int)), (50, .int .i64 (k : Int))] (Sat (Old w) w [tabA 4 bl t2, trow 36 1 (encR g.names.toNat) (.slice (some ⟨b27, 0, none⟩) g.names.toNat g.names.toNat) bl, bools x19.bn 4 x19.nl, cel b4 53 [.slice (some ⟨x19.bn, 0, none⟩) g.names.toNat g.names.toNat, .slice (some ⟨x19.bf, 0, none⟩) g.names.toNat x19.cf, .slice (some ⟨x19.bo, 0, none⟩) g.names.toNat x19.co], cel b1 24 [.int .i64 g.terms, .int .i64 g.names, .slice (some p) g.rules.length c], cel b9 41 [.int .i64 r.left, .slice a2 r.right.length c2]])
      obtain ⟨hk, hd2t, hsn⟩ := hpre
      refine CW_seq ?_
      refine CW_region ?_
      refine OW_q (q_lss rfl rfl) rfl ?_
      refine OW_nil ?_
      refine EW_then ?_
      refine CW_seq ?_
      refine CW_cond rfl (fun h51 => ?_) (fun h51 => ?_)
      · skip
        have hltk : k < r.right.length := by have := of_decide_eq_true h51; omega
        obtain ⟨s, hsj⟩ := get_of_lt hltk
        obtain ⟨p2, rfl, hrowS⟩ := hss k s hsj
        have hsm := List.mem_of_getElem? hsj
        refine CW_skip ?_
        refine EW_then ?_
        refine CW_seq ?_
        refine CW_block ?_
        refine CW_seq ?_
        refine CW_region ?_
        refine OW_q (q_indexAddr Try.underlying39 Try.sizeOf62 rfl rfl (by first | omega | assumption)) rfl ?_
        refine OW_q (q_loadN_ro Try.isAgg62 Try.sizeOf62 rfl (by first | assumption | exact Row.at_ (by assumption) rfl) (by rfl)) rfl ?_
        refine OW_e (e_alloc Try.zeroValue62 rfl) rfl (fun b11 => ?_)
        refine OW_e0 (e_storeN Try.sizeOf62 rfl rfl rfl rfl (by simp [Value.oneCell']) (by (repeat (first | exact .head | apply Swap.tail))) (by rfl)) (fun _ => ?_)
        refine OW_nil ?_
        refine EW_then ?_
        refine CW_seq ?_
        refine CW_seq ?_
        refine CW_region ?_
        refine OW_q (q_fieldAddr Try.underlying62 rfl rfl Try.sizeOf4 rfl rfl) rfl ?_
        first | (refine OW_q (q_load1_own Try.isAgg4 rfl rfl (by (repeat (first | exact .head | apply Swap.tail))) (by rfl)) rfl ?_) | (refine OW_q (q_load1_ro Try.isAgg4 rfl (by first | assumption | exact Row.at_ (by assumption) rfl)) rfl ?_)
        refine OW_nil ?_
        refine EW_then ?_
        refine CW_cond rfl (fun h55 => ?_) (fun h55 => ?_)
        · skip
          refine CW_exit ?_
          refine EW_then_exit ?_
          refine EW_block_other rfl ?_
          refine EW_then_exit ?_
          refine EW_out ?_
          refine EW_block_exit ?_
          refine EW_block_normal ?_
          refine EW_then ?_
          refine CW_region ?_
          first | refine OW_q (q_inc rfl rfl (by omega)) rfl ?_ | refine OW_q (q_add rfl rfl (by omega) (by omega)) rfl ?_
          refine OW_q (q_move rfl) rfl ?_
          refine OW_nil ?_
          refine EW_again ((qi + 1, t2)) ⟨?_, ?_⟩ ⟨rfl, rfl, rfl, rfl, rfl, rfl, trivial⟩ (fun w hw => hw.sub (by (repeat (first | exact SubL.nil | exact Pick.head | apply Pick.tail | apply SubL.cons))))
          · show g.rules.length - (qi + 1) < g.rules.length - qi; omega
          · exact ⟨by show qi + 1 ≤ _; omega, hd2t, hsn.done hx fun b => by rw [fstL_drop hsj]; have h55' : s.term = true := h55; rw [h55']; rfl⟩
        · skip
          have ht : s.term = false := h55
          have hs1 := hr1.2.2 s hsm ht
          have h2N := hd2t.1
          have hrl2 := hd2t.row hr1.1 hlN
          obtain ⟨bi, hbl⟩ := get_of_lt (l := bl) (k := r.left.toNat) (by omega)
          have hrow3 := row2_get (tab := t2) (n := r.left) hr1.1 (by omega)
          have hcn := atB_get (is := x19.nl) (n := s.n) hs1.1 (by omega)
          refine CW_skip ?_
          refine EW_then ?_
          refine CW_seq ?_
          refine CW_drawS 8 [(0, false), (1, false), (2, false), (3, false), (4, false), (5, false), (6, false), (7, false), (8, true)] (by kernel_rfl) (Blind.then (Blind.block (Blind.then (Blind.again (Blind.block (Blind.block (Blind.then (Blind.again (Blind.block (Blind.then (Blind.body (by intro c w h; simp at h)))))))))))) (by kernel_rfl) (fun w hw => hw.drew) ?_
          refine DW_q rfl (fun w hw => hw.sub (by (repeat (first | exact SubL.nil | exact Pick.head | apply Pick.tail | apply SubL.cons)))) (q_move rfl) rfl ?_
          refine DW_q rfl (fun w hw => hw.sub (by (repeat (first | exact SubL.nil | exact Pick.head | apply Pick.tail | apply SubL.cons)))) (q_fieldAddr Try.underlying41 rfl rfl Try.sizeOf3 rfl rfl) rfl ?_
          first | (refine DW_q rfl (fun w hw => hw.sub (by (repeat (first | exact SubL.nil | exact Pick.head | apply Pick.tail | apply SubL.cons)))) (q_load1_own Try.isAgg3 rfl rfl (by (repeat (first | exact .head | apply Swap.tail))) (by rfl)) rfl ?_) | (refine DW_q rfl (fun w hw => hw.sub (by (repeat (first | exact SubL.nil | exact Pick.head | apply Pick.tail | apply SubL.cons)))) (q_load1_ro Try.isAgg3 rfl (by first | assumption | exact Row.at_ (by assumption) rfl)) rfl ?_)
          refine DW_q rfl (fun w hw => hw.sub (by (repeat (first | exact SubL.nil | exact Pick.head | apply Pick.tail | apply SubL.cons)))) (q_indexAddrI Try.underlying51 Try.sizeOf36 rfl rfl (by first | omega | assumption) (by first | omega | assumption)) rfl ?_
          refine DW_q rfl (fun w hw => hw.sub (by repeat (first | exact SubL.nil | exact Pick.head | apply Pick.tail | apply SubL.cons))) (q_load_t1 Try.isAgg36 (fun _ => rfl) rfl (by repeat (first | exact .head | apply Swap.tail)) rfl hbl rfl) rfl ?_
          refine DW_q rfl (fun w hw => hw.sub (by (repeat (first | exact SubL.nil | exact Pick.head | apply Pick.tail | apply SubL.cons)))) (q_fieldAddr Try.underlying62 rfl rfl Try.sizeOf3 rfl rfl) rfl ?_
          first | (refine DW_q rfl (fun w hw => hw.sub (by (repeat (first | exact SubL.nil | exact Pick.head | apply Pick.tail | apply SubL.cons)))) (q_load1_own Try.isAgg3 rfl rfl (by (repeat (first | exact .head | apply Swap.tail))) (by rfl)) rfl ?_) | (refine DW_q rfl (fun w hw => hw.sub (by (repeat (first | exact SubL.nil | exact Pick.head | apply Pick.tail | apply SubL.cons)))) (q_load1_ro Try.isAgg3 rfl (by first | assumption | exact Row.at_ (by assumption) rfl)) rfl ?_)
          refine DW_q rfl (fun w hw => hw.sub (by (repeat (first | exact SubL.nil | exact Pick.head | apply Pick.tail | apply SubL.cons)))) (q_indexAddrI Try.underlying36 Try.sizeOf4 rfl rfl (by first | omega | assumption) (by first | omega | assumption)) rfl ?_
          refine DW_z0 rfl (e_store_bools (l := row2 t2 r.left) Try.sizeOf4 rfl rfl (.tail ((Hole.tab hbl hrow3).swap _)) (by omega)) (fun _ => ?_)
          refine EW_then ?_
          refine CW_seq ?_
          refine CW_weak (fun w hw => by rw [tabL_set hbl] at hw; exact hw) ?_
          refine CW_weak (fun w hw => (hw : Sat _ _ (_ :: tabA 4 bl (put2 t2 r.left s.n) :: _) w)) ?_
          refine CW_region ?_
          refine OW_q (q_fieldAddr Try.underlying53 rfl rfl Try.sizeOf36 rfl rfl) rfl ?_
          first | (refine OW_q (q_load1_own Try.isAgg36 rfl rfl (by (repeat (first | exact .head | apply Swap.tail))) (by rfl)) rfl ?_) | (refine OW_q (q_load1_ro Try.isAgg36 rfl (by first | assumption | exact Row.at_ (by assumption) rfl)) rfl ?_)
          refine OW_q (q_fieldAddr Try.underlying62 rfl rfl Try.sizeOf3 rfl rfl) rfl ?_
          first | (refine OW_q (q_load1_own Try.isAgg3 rfl rfl (by (repeat (first | exact .head | apply Swap.tail))) (by rfl)) rfl ?_) | (refine OW_q (q_load1_ro Try.isAgg3 rfl (by first | assumption | exact Row.at_ (by assumption) rfl)) rfl ?_)
          refine OW_q (q_indexAddrI Try.underlying36 Try.sizeOf4 rfl rfl (by first | omega | assumption) (by first | omega | assumption)) rfl ?_
          refine OW_q (q_load_bools Try.isAgg4 rfl (by (repeat (first | exact .head | apply Swap.tail))) (by exact hcn)) rfl ?_
          refine OW_q (q_not rfl) rfl ?_
          refine OW_nil ?_
          refine EW_then ?_
          refine CW_cond rfl (fun h70 => ?_) (fun h70 => ?_)
          · skip
            refine CW_exit ?_
            refine EW_block_other rfl ?_
            refine EW_then_exit ?_
            refine EW_out ?_
            refine EW_block_exit ?_
            refine EW_block_normal ?_
            refine EW_then ?_
            refine CW_region ?_
            first | refine OW_q (q_inc rfl rfl (by omega)) rfl ?_ | refine OW_q (q_add rfl rfl (by omega) (by omega)) rfl ?_
            refine OW_q (q_move rfl) rfl ?_
            refine OW_nil ?_
            refine EW_again ((qi + 1, put2 t2 r.left s.n)) ⟨?_, ?_⟩ ⟨rfl, rfl, rfl, rfl, rfl, rfl, trivial⟩ (fun w hw => hw.sub (by (repeat (first | exact SubL.nil | exact Pick.head | apply Pick.tail | apply SubL.cons))))
            · show g.rules.length - (qi + 1) < g.rules.length - qi; omega
            · refine ⟨by show qi + 1 ≤ _; omega, hd2t.put hr1.1 hlN, fun a b h0 h1 h2 h3 => ?_⟩
              show at2 (put2 t2 r.left s.n) a b = fstB (g.rules.take (qi + 1)) x19.nl a b
              rw [fstB_take hx]
              exact (hsn.step hd2t hr1.1 hlN hsj ht hs1.1 (by omega)).2 (by simpa using h70) a b h0 h1 h2 h3
          · skip
            refine CW_skip ?_
            refine EW_block_normal ?_
            refine EW_then ?_
            refine CW_region ?_
            first | refine OW_q (q_inc rfl rfl (by omega)) rfl ?_ | refine OW_q (q_add rfl rfl (by omega) (by omega)) rfl ?_
            refine OW_q (q_move rfl) rfl ?_
            refine OW_nil ?_
            refine EW_again ((k + 1, put2 t2 r.left s.n)) ⟨?_, ?_⟩ ⟨rfl, rfl, rfl, rfl, rfl, rfl, rfl, rfl, rfl, rfl, trivial⟩ (fun w hw => hw.sub (by (repeat (first | exact SubL.nil | exact Pick.head | apply Pick.tail | apply SubL.cons))))
            · show r.right.length - (k + 1) < r.right.length - k; omega
            · exact ⟨by show k + 1 ≤ _; omega, hd2t.put hr1.1 hlN, (hsn.step hd2t hr1.1 hlN hsj ht hs1.1 (by omega)).1 (by simpa using h70)⟩
      · skip
        have hke : r.right.length ≤ k := by have := of_decide_eq_false h51; omega
        refine CW_exit ?_
        refine EW_then_exit ?_
        refine EW_out ?_
        refine EW_block_exit ?_
        refine EW_block_normal ?_
        refine EW_then ?_
        refine CW_region ?_
        first | refine OW_q (q_inc rfl rfl (by omega)) rfl ?_ | refine OW_q (q_add rfl rfl (by omega) (by omega)) rfl ?_
        refine OW_q (q_move rfl) rfl ?_
        refine OW_nil ?_
        refine EW_again ((qi + 1, t2)) ⟨?_, ?_⟩ ⟨rfl, rfl, rfl, rfl, rfl, rfl, trivial⟩ (fun w hw => hw.sub (by (repeat (first | exact SubL.nil | exact Pick.head | apply Pick.tail | apply SubL.cons))))
        · show g.rules.length - (qi + 1) < g.rules.length - qi; omega
        · exact ⟨by show qi + 1 ≤ _; omega, hd2t, hsn.done hx fun b => by rw [List.drop_eq_nil_of_le hke]; rfl⟩
    · skip
      have hWT : WT (Eg g x19.nl) g.names.toNat t1 ((0 : Nat) : Int) := by
        have hte := take_all (l := g.rules) (k := qi) (by have := of_decide_eq_false h44; omega)
        rw [hte] at hin
        exact ⟨hdt, fun a b h0 h1 h2 h3 h => .one (by rw [hin a b h0 h1 h2 h3] at h; exact h), fun a b h0 h1 h2 h3 h => by rw [hin a b h0 h1 h2 h3]; exact h, fun c h0 h1 => absurd h1 (by omega)⟩
      refine CW_exit ?_
      refine EW_then_exit ?_
      refine EW_out ?_
      refine EW_block_exit ?_
      refine EW_then ?_
      refine CW_seq ?_
      refine CW_region ?_
      refine OW_q (q_assign rfl) rfl ?_
      refine OW_nil ?_
      refine EW_then ?_
      refine CW_seq ?_
      refine CW_seq ?_
      refine CW_region ?_
      refine OW_q (q_move rfl) rfl ?_
      refine OW_q (q_len Try.underlying51 rfl) rfl ?_
      refine OW_q (q_move rfl) rfl ?_
      refine OW_nil ?_
      refine EW_then ?_
      refine CW_block ?_
      refine CW_loopP (ι := Nat × List (List Bool)) (fun i_ => i_.1 ≤ g.names.toNat ∧ WT (Eg g x19.nl) g.names.toNat i_.2 (i_.1 : Int)) (fun i_ => [(6, .slice (some ⟨b27, 0, none⟩) g.names.toNat g.names.toNat), (12, (.slice none 0 0)), (74, .int .i64 (g.names.toNat : Int)), (75, .int .i64 (i_.1 : Int))]) (fun i_ => Sat (Old w) w [tabA 4 bl i_.2, trow 36 1 (encR g.names.toNat) (.slice (some ⟨b27, 0, none⟩) g.names.toNat g.names.toNat) bl, bools x19.bn 4 x19.nl, cel b4 53 [.slice (some ⟨x19.bn, 0, none⟩) g.names.toNat g.names.toNat, .slice (some ⟨x19.bf, 0, none⟩) g.names.toNat x19.cf, .slice (some ⟨x19.bo, 0, none⟩) g.names.toNat x19.co], cel b1 24 [.int .i64 g.terms, .int .i64 g.names, .slice a g.rules.length c]]) (fun i_ => g.names.toNat - i_.1) (0, t1) ?_ ⟨rfl, rfl, rfl, rfl, trivial⟩ (fun w hw => hw.sub (by (repeat (first | exact SubL.nil | exact Pick.head | apply Pick.tail | apply SubL.cons)))) ?_
      · exact ⟨Nat.zero_le _, hWT⟩
      intro i_ hpre
      obtain ⟨k, t3⟩ := i_
      replace hpre : k ≤ g.names.toNat ∧ WT (Eg g x19.nl) g.names.toNat t3 (k : Int) := hpre
      change CW _ _ _ _ [(6, .slice (some ⟨b27, 0, none⟩) g.names.toNat g.names.toNat), (12, (.slice none 0 0)), (74, .int .i64 (g.names.toNat : Int)), (75, .int .i64 (k : Int))] (Sat (Old w) w [tabA 4 bl t3, trow 36 1 (encR g.names.toNat) (.slice (some ⟨b27, 0, none⟩) g.names.toNat g.names.toNat) bl, bools x19.bn 4 x19.nl, cel b4 53 [.slice (some ⟨x19.bn, 0, none⟩) g.names.toNat g.names.toNat, .slice (some ⟨x19.bf, 0, none⟩) g.names.toNat x19.cf, .slice (some ⟨x19.bo, 0, none⟩) g.names.toNat x19.co], cel b1 24 [.int .i64 g.terms, .int .i64 g.names, .slice a g.rules.length c]])
      obtain ⟨hk, hwt⟩ := hpre
      refine CW_seq ?_
      refine CW_region ?_
      refine OW_q (q_lss rfl rfl) rfl ?_
      refine OW_nil ?_
      refine EW_then ?_
      refine CW_seq ?_
      refine CW_cond rfl (fun h76 => ?_) (fun h76 => ?_)
      · skip
        have hltk3 : k < g.names.toNat := by have := of_decide_eq_true h76; omega
        refine CW_skip ?_
        refine EW_then ?_
        refine CW_seq ?_
        refine CW_block ?_
        refine CW_seq ?_
        refine CW_region ?_
        refine OW_q (q_move rfl) rfl ?_
        refine OW_q (q_assign rfl) rfl ?_
        refine OW_nil ?_
        refine EW_then ?_
        refine CW_seq ?_
        refine CW_region ?_
        refine OW_q (q_move rfl) rfl ?_
        refine OW_q (q_len Try.underlying51 rfl) rfl ?_
        refine OW_q (q_move rfl) rfl ?_
        refine OW_nil ?_
        refine EW_then ?_
        refine CW_block ?_
        refine CW_loopP (ι := Nat × List (List Bool)) (fun i_ => i_.1 ≤ g.names.toNat ∧ Dim i_.2 g.names.toNat g.names.toNat ∧ WR g.names.toNat t3 i_.2 (k : Int) (i_.1 : Int) 0) (fun i_ => [(6, .slice (some ⟨b27, 0, none⟩) g.names.toNat g.names.toNat), (12, (.slice none 0 0)), (74, .int .i64 (g.names.toNat : Int)), (75, .int .i64 (k : Int)), (13, .int .i64 (k : Int)), (79, .int .i64 (g.names.toNat : Int)), (80, .int .i64 (i_.1 : Int))]) (fun i_ => Sat (Old w) w [tabA 4 bl i_.2, trow 36 1 (encR g.names.toNat) (.slice (some ⟨b27, 0, none⟩) g.names.toNat g.names.toNat) bl, bools x19.bn 4 x19.nl, cel b4 53 [.slice (some ⟨x19.bn, 0, none⟩) g.names.toNat g.names.toNat, .slice (some ⟨x19.bf, 0, none⟩) g.names.toNat x19.cf, .slice (some ⟨x19.bo, 0, none⟩) g.names.toNat x19.co], cel b1 24 [.int .i64 g.terms, .int .i64 g.names, .slice a g.rules.length c]]) (fun i_ => g.names.toNat - i_.1) (0, t3) ?_ ⟨rfl, rfl, rfl, rfl, rfl, rfl, rfl, trivial⟩ (fun w hw => hw.sub (by (repeat (first | exact SubL.nil | exact Pick.head | apply Pick.tail | apply SubL.cons)))) ?_
        · exact ⟨Nat.zero_le _, hwt.dim, WR.start⟩
        intro i_ hpre
        obtain ⟨i, t4⟩ := i_
        replace hpre : i ≤ g.names.toNat ∧ Dim t4 g.names.toNat g.names.toNat ∧ WR g.names.toNat t3 t4 (k : Int) (i : Int) 0 := hpre
        change CW _ _ _ _ [(6, .slice (some ⟨b27, 0, none⟩) g.names.toNat g.names.toNat), (12, (.slice none 0 0)), (74, .int .i64 (g.names.toNat : Int)), (75, .int .i64 (k : Int)), (13, .int .i64 (k : Int)), (79, .int .i64 (g.names.toNat : Int)), (80, .int .i64 (i : Int))] (Sat (Old w) w [tabA 4 bl t4, trow 36 1 (encR g.names.toNat) (.slice (some ⟨b27, 0, none⟩) g.names.toNat g.names.toNat) bl, bools x19.bn 4 x19.nl, cel b4 53 [.slice (some ⟨x19.bn, 0, none⟩) g.names.toNat g.names.toNat, .slice (some ⟨x19.bf, 0, none⟩) g.names.toNat x19.cf, .slice (some ⟨x19.bo, 0, none⟩) g.names.toNat x19.co], cel b1 24 [.int .i64 g.terms, .int .i64 g.names, .slice a g.rules.length c]])
        obtain ⟨hi, hd4, hwr0⟩ := hpre
        refine CW_seq ?_
        refine CW_region ?_
        refine OW_q (q_lss rfl rfl) rfl ?_
        refine OW_nil ?_
        refine EW_then ?_
        refine CW_seq ?_
        refine CW_cond rfl (fun h81 => ?_) (fun h81 => ?_)
        · skip
          have hlti : i < g.names.toNat := by have := of_decide_eq_true h81; omega
          refine CW_skip ?_
          refine EW_then ?_
          refine CW_seq ?_
          refine CW_block ?_
          refine CW_seq ?_
          refine CW_region ?_
          refine OW_q (q_move rfl) rfl ?_
          refine OW_q (q_assign rfl) rfl ?_
          refine OW_nil ?_
          refine EW_then ?_
          refine CW_seq ?_
          refine CW_region ?_
          refine OW_q (q_move rfl) rfl ?_
          refine OW_q (q_len Try.underlying51 rfl) rfl ?_
          refine OW_q (q_move rfl) rfl ?_
          refine OW_nil ?_
          refine EW_then ?_
          refine CW_block ?_
          refine CW_loopP (ι := Nat × List (List Bool)) (fun i_ => i_.1 ≤ g.names.toNat ∧ Dim i_.2 g.names.toNat g.names.toNat ∧ WR g.names.toNat t3 i_.2 (k : Int) (i : Int) (i_.1 : Int)) (fun i_ => [(6, .slice (some ⟨b27, 0, none⟩) g.names.toNat g.names.toNat), (12, (.slice none 0 0)), (74, .int .i64 (g.names.toNat : Int)), (75, .int .i64 (k : Int)), (13, .int .i64 (k : Int)), (79, .int .i64 (g.names.toNat : Int)), (80, .int .i64 (i : Int)), (14, .int .i64 (i : Int)), (84, .int .i64 (g.names.toNat : Int)), (85, .int .i64 (i_.1 : Int))]) (fun i_ => Sat (Old w) w [tabA 4 bl i_.2, trow 36 1 (encR g.names.toNat) (.slice (some ⟨b27, 0, none⟩) g.names.toNat g.names.toNat) bl, bools x19.bn 4 x19.nl, cel b4 53 [.slice (some ⟨x19.bn, 0, none⟩) g.names.toNat g.names.toNat, .slice (some ⟨x19.bf, 0, none⟩) g.names.toNat x19.cf, .slice (some ⟨x19.bo, 0, none⟩) g.names.toNat x19.co], cel b1 24 [.int .i64 g.terms, .int .i64 g.names, .slice a g.rules.length c]]) (fun i_ => g.names.toNat - i_.1) (0, t4) ?_ ⟨rfl, rfl, rfl, rfl, rfl, rfl, rfl, rfl, rfl, rfl, trivial⟩ (fun w hw => hw.sub (by (repeat (first | exact SubL.nil | exact Pick.head | apply Pick.tail | apply SubL.cons)))) ?_
          · exact ⟨Nat.zero_le _, hd4, hwr0⟩
          intro i_ hpre
          obtain ⟨j, t5⟩ := i_
          replace hpre : j ≤ g.names.toNat ∧ Dim t5 g.names.toNat g.names.toNat ∧ WR g.names.toNat t3 t5 (k : Int) (i : Int) (j : Int) := hpre
          change CW _ _ _ _ [(6, .slice (some ⟨b27, 0, none⟩) g.names.toNat g.names.toNat), (12, (.slice none 0 0)), (74, .int .i64 (g.names.toNat : Int)), (75, .int .i64 (k : Int)), (13, .int .i64 (k : Int)), (79, .int .i64 (g.names.toNat : Int)), (80, .int .i64 (i : Int)), (14, .int .i64 (i : Int)), (84, .int .i64 (g.names.toNat : Int)), (85, .int .i64 (j : Int))] (Sat (Old w) w [tabA 4 bl t5, trow 36 1 (encR g.names.toNat) (.slice (some ⟨b27, 0, none⟩) g.names.toNat g.names.toNat) bl, bools x19.bn 4 x19.nl, cel b4 53 [.slice (some ⟨x19.bn, 0, none⟩) g.names.toNat g.names.toNat, .slice (some ⟨x19.bf, 0, none⟩) g.names.toNat x19.cf, .slice (some ⟨x19.bo, 0, none⟩) g.names.toNat x19.co], cel b1 24 [.int .i64 g.terms, .int .i64 g.names, .slice a g.rules.length c]])
          obtain ⟨hj, hd5, hwr⟩ := hpre
          refine CW_seq ?_
          refine CW_region ?_
          refine OW_q (q_lss rfl rfl) rfl ?_
          refine OW_nil ?_
          refine EW_then ?_
          refine CW_seq ?_
          refine CW_cond rfl (fun h86 => ?_) (fun h86 => ?_)
          · skip
            have hltj : j < g.names.toNat := by have := of_decide_eq_true h86; omega
            have h5N := hd5.1
            have hli := hd5.row (n := (i : Int)) (Int.natCast_nonneg i) (by omega)
            have hlk := hd5.row (n := (k : Int)) (Int.natCast_nonneg k) (by omega)
            obtain ⟨bi, hbi⟩ := get_of_lt (l := bl) (k := i) (by omega)
            obtain ⟨bk, hbk⟩ := get_of_lt (l := bl) (k := k) (by omega)
            have hrowi : t5[i]? = some (row2 t5 (i : Int)) := row2_get (tab := t5) (n := (i : Int)) (Int.natCast_nonneg i) (by omega)
            have hrowk : t5[k]? = some (row2 t5 (k : Int)) := row2_get (tab := t5) (n := (k : Int)) (Int.natCast_nonneg k) (by omega)
            have hcij : (row2 t5 (i : Int))[j]? = some (at2 t5 (i : Int) (j : Int)) := atB_get (n := (j : Int)) (Int.natCast_nonneg j) (by omega)
            have hcik : (row2 t5 (i : Int))[k]? = some (at2 t5 (i : Int) (k : Int)) := atB_get (n := (k : Int)) (Int.natCast_nonneg k) (by omega)
            have hckj : (row2 t5 (k : Int))[j]? = some (at2 t5 (k : Int) (j : Int)) := atB_get (n := (j : Int)) (Int.natCast_nonneg j) (by omega)
            refine CW_skip ?_
            refine EW_then ?_
            refine CW_seq ?_
            refine CW_block ?_
            refine CW_seq ?_
            refine CW_region ?_
            refine OW_q (q_move rfl) rfl ?_
            refine OW_q (q_assign rfl) rfl ?_
            refine OW_nil ?_
            refine EW_then ?_
            refine CW_drawS 31 [(0, false), (1, false), (2, false), (3, false), (4, false), (5, false), (6, false), (7, false), (8, false), (9, false), (10, false), (11, false), (12, false), (13, false), (14, false), (15, false), (16, false), (17, false), (18, false), (19, false), (20, false), (21, false), (22, false), (23, false), (24, false), (25, false), (26, false), (27, false), (28, false), (29, false), (30, false), (31, true)] (by kernel_rfl) (Blind.block (Blind.then (Blind.again (Blind.block (Blind.block (Blind.then (Blind.again (Blind.block (Blind.block (Blind.then (Blind.again (Blind.block (Blind.then (Blind.body (by intro c w h; simp at h))))))))))))))) (by kernel_rfl) (fun w hw => hw.drew) ?_
            refine DW_q rfl (fun w hw => hw.sub (by (repeat (first | exact SubL.nil | exact Pick.head | apply Pick.tail | apply SubL.cons)))) (q_move rfl) rfl ?_
            refine DW_q rfl (fun w hw => hw.sub (by (repeat (first | exact SubL.nil | exact Pick.head | apply Pick.tail | apply SubL.cons)))) (q_move rfl) rfl ?_
            refine DW_q rfl (fun w hw => hw.sub (by (repeat (first | exact SubL.nil | exact Pick.head | apply Pick.tail | apply SubL.cons)))) (q_indexAddr Try.underlying51 Try.sizeOf36 rfl rfl (by first | omega | assumption)) rfl ?_
            refine DW_q rfl (fun w hw => hw.sub (by repeat (first | exact SubL.nil | exact Pick.head | apply Pick.tail | apply SubL.cons))) (q_load_t1 Try.isAgg36 (fun _ => rfl) rfl (by repeat (first | exact .head | apply Swap.tail)) rfl hbi rfl) rfl ?_
            refine DW_q rfl (fun w hw => hw.sub (by (repeat (first | exact SubL.nil | exact Pick.head | apply Pick.tail | apply SubL.cons)))) (q_move rfl) rfl ?_
            refine DW_q rfl (fun w hw => hw.sub (by (repeat (first | exact SubL.nil | exact Pick.head | apply Pick.tail | apply SubL.cons)))) (q_move rfl) rfl ?_
            refine DW_q rfl (fun w hw => hw.sub (by (repeat (first | exact SubL.nil | exact Pick.head | apply Pick.tail | apply SubL.cons)))) (q_move rfl) rfl ?_
            refine DW_q rfl (fun w hw => hw.sub (by (repeat (first | exact SubL.nil | exact Pick.head | apply Pick.tail | apply SubL.cons)))) (q_indexAddr Try.underlying51 Try.sizeOf36 rfl rfl (by first | omega | assumption)) rfl ?_
            refine DW_q rfl (fun w hw => hw.sub (by repeat (first | exact SubL.nil | exact Pick.head | apply Pick.tail | apply SubL.cons))) (q_load_t1 Try.isAgg36 (fun _ => rfl) rfl (by repeat (first | exact .head | apply Swap.tail)) rfl hbi rfl) rfl ?_
            refine DW_q rfl (fun w hw => hw.sub (by (repeat (first | exact SubL.nil | exact Pick.head | apply Pick.tail | apply SubL.cons)))) (q_move rfl) rfl ?_
            refine DW_q rfl (fun w hw => hw.sub (by (repeat (first | exact SubL.nil | exact Pick.head | apply Pick.tail | apply SubL.cons)))) (q_indexAddr Try.underlying36 Try.sizeOf4 rfl rfl (by first | omega | assumption)) rfl ?_
            refine DW_q rfl (fun w hw => hw.sub (by repeat (first | exact SubL.nil | exact Pick.head | apply Pick.tail | apply SubL.cons))) (q_load_bools Try.isAgg4 rfl ((Hole.tab hbi hrowi).swap _) hcij) rfl ?_
            refine DW_q rfl (fun w hw => hw.sub (by (repeat (first | exact SubL.nil | exact Pick.head | apply Pick.tail | apply SubL.cons)))) (q_move rfl) rfl ?_
            refine DW_part (t := 100) rfl (fun hg100 => ?_) (fun hg100 => ?_)
            · skip
              refine DW_skip rfl (fun w hw => hw.sub (by (repeat (first | exact SubL.nil | exact Pick.head | apply Pick.tail | apply SubL.cons)))) rfl rfl rfl rfl ?_
              refine DW_skip rfl (fun w hw => hw.sub (by (repeat (first | exact SubL.nil | exact Pick.head | apply Pick.tail | apply SubL.cons)))) rfl rfl rfl rfl ?_
              refine DW_skip rfl (fun w hw => hw.sub (by (repeat (first | exact SubL.nil | exact Pick.head | apply Pick.tail | apply SubL.cons)))) rfl rfl rfl rfl ?_
              refine DW_skip rfl (fun w hw => hw.sub (by (repeat (first | exact SubL.nil | exact Pick.head | apply Pick.tail | apply SubL.cons)))) rfl rfl rfl rfl ?_
              refine DW_skip rfl (fun w hw => hw.sub (by (repeat (first | exact SubL.nil | exact Pick.head | apply Pick.tail | apply SubL.cons)))) rfl rfl rfl rfl ?_
              refine DW_skip rfl (fun w hw => hw.sub (by (repeat (first | exact SubL.nil | exact Pick.head | apply Pick.tail | apply SubL.cons)))) rfl rfl rfl rfl ?_
              refine DW_skip rfl (fun w hw => hw.sub (by (repeat (first | exact SubL.nil | exact Pick.head | apply Pick.tail | apply SubL.cons)))) rfl rfl rfl rfl ?_
              refine DW_skip rfl (fun w hw => hw.sub (by (repeat (first | exact SubL.nil | exact Pick.head | apply Pick.tail | apply SubL.cons)))) rfl rfl rfl rfl ?_
              refine DW_skipU rfl (fun w hw => hw.sub (by (repeat (first | exact SubL.nil | exact Pick.head | apply Pick.tail | apply SubL.cons)))) rfl rfl rfl ?_
              refine DW_skipU rfl (fun w hw => hw.sub (by (repeat (first | exact SubL.nil | exact Pick.head | apply Pick.tail | apply SubL.cons)))) rfl rfl rfl ?_
              refine DW_skipU rfl (fun w hw => hw.sub (by (repeat (first | exact SubL.nil | exact Pick.head | apply Pick.tail | apply SubL.cons)))) rfl rfl rfl ?_
              refine DW_skipU rfl (fun w hw => hw.sub (by (repeat (first | exact SubL.nil | exact Pick.head | apply Pick.tail | apply SubL.cons)))) rfl rfl rfl ?_
              refine DW_skipU rfl (fun w hw => hw.sub (by (repeat (first | exact SubL.nil | exact Pick.head | apply Pick.tail | apply SubL.cons)))) rfl rfl rfl ?_
              refine DW_skipU rfl (fun w hw => hw.sub (by (repeat (first | exact SubL.nil | exact Pick.head | apply Pick.tail | apply SubL.cons)))) rfl rfl rfl ?_
              refine DW_skipU rfl (fun w hw => hw.sub (by (repeat (first | exact SubL.nil | exact Pick.head | apply Pick.tail | apply SubL.cons)))) rfl rfl rfl ?_
              refine DW_skip rfl (fun w hw => hw.sub (by (repeat (first | exact SubL.nil | exact Pick.head | apply Pick.tail | apply SubL.cons)))) rfl rfl rfl rfl ?_
              refine DW_q rfl (fun w hw => hw.sub (by (repeat (first | exact SubL.nil | exact Pick.head | apply Pick.tail | apply SubL.cons)))) (q_pick_t rfl rfl) rfl ?_
              refine DW_q rfl (fun w hw => hw.sub (by (repeat (first | exact SubL.nil | exact Pick.head | apply Pick.tail | apply SubL.cons)))) (q_indexAddr Try.underlying36 Try.sizeOf4 rfl rfl (by first | omega | assumption)) rfl ?_
              refine DW_z0 rfl (e_store_bools (l := row2 t5 (i : Int)) Try.sizeOf4 rfl rfl ((Hole.tab hbi hrowi).swap _) (by omega)) (fun _ => ?_)
              refine EW_block_normal ?_
              refine EW_then ?_
              refine CW_region ?_
              first | refine OW_q (q_inc rfl rfl (by omega)) rfl ?_ | refine OW_q (q_add rfl rfl (by omega) (by omega)) rfl ?_
              refine OW_q (q_move rfl) rfl ?_
              refine OW_nil ?_
              refine EW_again ((j + 1, putv t5 (i : Int) (j : Int) true)) ⟨?_, ?_⟩ ⟨rfl, rfl, rfl, rfl, rfl, rfl, rfl, rfl, rfl, rfl, trivial⟩ (fun w hw => by rw [tabL_set hbi] at hw; exact Sat.sub (hw : Sat _ _ (tabA 4 bl (putv t5 (i : Int) (j : Int) true) :: _) _) (by repeat (first | exact SubL.nil | exact Pick.head | apply Pick.tail | apply SubL.cons)))
              · show g.names.toNat - (j + 1) < g.names.toNat - j; omega
              · refine ⟨by show j + 1 ≤ _; omega, hd5.putv (Int.natCast_nonneg i) (by omega), ?_⟩
                have hst := hwr.step hd5 (Int.natCast_nonneg k) (by omega) (Int.natCast_nonneg i) (by omega) (Int.natCast_nonneg j) (by omega) (v := true) (by have e : at2 t5 (i : Int) (j : Int) = true := hg100; rw [e]; rfl)
                exact hst
            · skip
              refine DW_qg rfl (fun w hw => hw.sub (by (repeat (first | exact SubL.nil | exact Pick.head | apply Pick.tail | apply SubL.cons)))) rfl rfl rfl (q_move rfl) rfl ?_
              refine DW_qg rfl (fun w hw => hw.sub (by (repeat (first | exact SubL.nil | exact Pick.head | apply Pick.tail | apply SubL.cons)))) rfl rfl rfl (q_move rfl) rfl ?_
              refine DW_qg rfl (fun w hw => hw.sub (by (repeat (first | exact SubL.nil | exact Pick.head | apply Pick.tail | apply SubL.cons)))) rfl rfl rfl (q_indexAddr Try.underlying51 Try.sizeOf36 rfl rfl (by first | omega | assumption)) rfl ?_
              refine DW_qg rfl (fun w hw => hw.sub (by repeat (first | exact SubL.nil | exact Pick.head | apply Pick.tail | apply SubL.cons))) rfl rfl rfl (q_load_t1 Try.isAgg36 (fun _ => rfl) rfl (by repeat (first | exact .head | apply Swap.tail)) rfl hbi rfl) rfl ?_
              refine DW_qg rfl (fun w hw => hw.sub (by (repeat (first | exact SubL.nil | exact Pick.head | apply Pick.tail | apply SubL.cons)))) rfl rfl rfl (q_move rfl) rfl ?_
              refine DW_qg rfl (fun w hw => hw.sub (by (repeat (first | exact SubL.nil | exact Pick.head | apply Pick.tail | apply SubL.cons)))) rfl rfl rfl (q_indexAddr Try.underlying36 Try.sizeOf4 rfl rfl (by first | omega | assumption)) rfl ?_
              refine DW_qg rfl (fun w hw => hw.sub (by repeat (first | exact SubL.nil | exact Pick.head | apply Pick.tail | apply SubL.cons))) rfl rfl rfl (q_load_bools Try.isAgg4 rfl ((Hole.tab hbi hrowi).swap _) hcik) rfl ?_
              refine DW_qg rfl (fun w hw => hw.sub (by (repeat (first | exact SubL.nil | exact Pick.head | apply Pick.tail | apply SubL.cons)))) rfl rfl rfl (q_move rfl) rfl ?_
              refine DW_part (t := 108) rfl (fun hg108 => ?_) (fun hg108 => ?_)
              · skip
                refine DW_qg rfl (fun w hw => hw.sub (by (repeat (first | exact SubL.nil | exact Pick.head | apply Pick.tail | apply SubL.cons)))) rfl rfl rfl (q_move rfl) rfl ?_
                refine DW_qg rfl (fun w hw => hw.sub (by (repeat (first | exact SubL.nil | exact Pick.head | apply Pick.tail | apply SubL.cons)))) rfl rfl rfl (q_move rfl) rfl ?_
                refine DW_qg rfl (fun w hw => hw.sub (by (repeat (first | exact SubL.nil | exact Pick.head | apply Pick.tail | apply SubL.cons)))) rfl rfl rfl (q_indexAddr Try.underlying51 Try.sizeOf36 rfl rfl (by first | omega | assumption)) rfl ?_
                refine DW_qg rfl (fun w hw => hw.sub (by repeat (first | exact SubL.nil | exact Pick.head | apply Pick.tail | apply SubL.cons))) rfl rfl rfl (q_load_t1 Try.isAgg36 (fun _ => rfl) rfl (by repeat (first | exact .head | apply Swap.tail)) rfl hbk rfl) rfl ?_
                refine DW_qg rfl (fun w hw => hw.sub (by (repeat (first | exact SubL.nil | exact Pick.head | apply Pick.tail | apply SubL.cons)))) rfl rfl rfl (q_move rfl) rfl ?_
                refine DW_qg rfl (fun w hw => hw.sub (by (repeat (first | exact SubL.nil | exact Pick.head | apply Pick.tail | apply SubL.cons)))) rfl rfl rfl (q_indexAddr Try.underlying36 Try.sizeOf4 rfl rfl (by first | omega | assumption)) rfl ?_
                refine DW_qg rfl (fun w hw => hw.sub (by repeat (first | exact SubL.nil | exact Pick.head | apply Pick.tail | apply SubL.cons))) rfl rfl rfl (q_load_bools Try.isAgg4 rfl ((Hole.tab hbk hrowk).swap _) hckj) rfl ?_
                refine DW_qg rfl (fun w hw => hw.sub (by (repeat (first | exact SubL.nil | exact Pick.head | apply Pick.tail | apply SubL.cons)))) rfl rfl rfl (q_pick_t rfl rfl) rfl ?_
                refine DW_q rfl (fun w hw => hw.sub (by (repeat (first | exact SubL.nil | exact Pick.head | apply Pick.tail | apply SubL.cons)))) (q_pick_f rfl rfl) rfl ?_
                refine DW_q rfl (fun w hw => hw.sub (by (repeat (first | exact SubL.nil | exact Pick.head | apply Pick.tail | apply SubL.cons)))) (q_indexAddr Try.underlying36 Try.sizeOf4 rfl rfl (by first | omega | assumption)) rfl ?_
                refine DW_z0 rfl (e_store_bools (l := row2 t5 (i : Int)) Try.sizeOf4 rfl rfl ((Hole.tab hbi hrowi).swap _) (by omega)) (fun _ => ?_)
                refine EW_block_normal ?_
                refine EW_then ?_
                refine CW_region ?_
                first | refine OW_q (q_inc rfl rfl (by omega)) rfl ?_ | refine OW_q (q_add rfl rfl (by omega) (by omega)) rfl ?_
                refine OW_q (q_move rfl) rfl ?_
                refine OW_nil ?_
                refine EW_again ((j + 1, putv t5 (i : Int) (j : Int) (at2 t5 (k : Int) (j : Int)))) ⟨?_, ?_⟩ ⟨rfl, rfl, rfl, rfl, rfl, rfl, rfl, rfl, rfl, rfl, trivial⟩ (fun w hw => by rw [tabL_set hbi] at hw; exact Sat.sub (hw : Sat _ _ (tabA 4 bl (putv t5 (i : Int) (j : Int) (at2 t5 (k : Int) (j : Int))) :: _) _) (by repeat (first | exact SubL.nil | exact Pick.head | apply Pick.tail | apply SubL.cons)))
                · show g.names.toNat - (j + 1) < g.names.toNat - j; omega
                · refine ⟨by show j + 1 ≤ _; omega, hd5.putv (Int.natCast_nonneg i) (by omega), ?_⟩
                  have hst := hwr.step hd5 (Int.natCast_nonneg k) (by omega) (Int.natCast_nonneg i) (by omega) (Int.natCast_nonneg j) (by omega) (v := (at2 t5 (k : Int) (j : Int))) (by have e : at2 t5 (i : Int) (j : Int) = false := hg100; have e2 : at2 t5 (i : Int) (k : Int) = true := hg108; rw [e, e2]; simp)
                  exact hst
              · skip
                refine DW_skip rfl (fun w hw => hw.sub (by (repeat (first | exact SubL.nil | exact Pick.head | apply Pick.tail | apply SubL.cons)))) rfl rfl rfl rfl ?_
                refine DW_skip rfl (fun w hw => hw.sub (by (repeat (first | exact SubL.nil | exact Pick.head | apply Pick.tail | apply SubL.cons)))) rfl rfl rfl rfl ?_
                refine DW_skip rfl (fun w hw => hw.sub (by (repeat (first | exact SubL.nil | exact Pick.head | apply Pick.tail | apply SubL.cons)))) rfl rfl rfl rfl ?_
                refine DW_skip rfl (fun w hw => hw.sub (by (repeat (first | exact SubL.nil | exact Pick.head | apply Pick.tail | apply SubL.cons)))) rfl rfl rfl rfl ?_
                refine DW_skip rfl (fun w hw => hw.sub (by (repeat (first | exact SubL.nil | exact Pick.head | apply Pick.tail | apply SubL.cons)))) rfl rfl rfl rfl ?_
                refine DW_skip rfl (fun w hw => hw.sub (by (repeat (first | exact SubL.nil | exact Pick.head | apply Pick.tail | apply SubL.cons)))) rfl rfl rfl rfl ?_
                refine DW_skip rfl (fun w hw => hw.sub (by (repeat (first | exact SubL.nil | exact Pick.head | apply Pick.tail | apply SubL.cons)))) rfl rfl rfl rfl ?_
                refine DW_qg rfl (fun w hw => hw.sub (by (repeat (first | exact SubL.nil | exact Pick.head | apply Pick.tail | apply SubL.cons)))) rfl rfl rfl (q_pick_f rfl rfl) rfl ?_
                refine DW_q rfl (fun w hw => hw.sub (by (repeat (first | exact SubL.nil | exact Pick.head | apply Pick.tail | apply SubL.cons)))) (q_pick_f rfl rfl) rfl ?_
                refine DW_q rfl (fun w hw => hw.sub (by (repeat (first | exact SubL.nil | exact Pick.head | apply Pick.tail | apply SubL.cons)))) (q_indexAddr Try.underlying36 Try.sizeOf4 rfl rfl (by first | omega | assumption)) rfl ?_
                refine DW_z0 rfl (e_store_bools (l := row2 t5 (i : Int)) Try.sizeOf4 rfl rfl ((Hole.tab hbi hrowi).swap _) (by omega)) (fun _ => ?_)
                refine EW_block_normal ?_
                refine EW_then ?_
                refine CW_region ?_
                first | refine OW_q (q_inc rfl rfl (by omega)) rfl ?_ | refine OW_q (q_add rfl rfl (by omega) (by omega)) rfl ?_
                refine OW_q (q_move rfl) rfl ?_
                refine OW_nil ?_
                refine EW_again ((j + 1, putv t5 (i : Int) (j : Int) false)) ⟨?_, ?_⟩ ⟨rfl, rfl, rfl, rfl, rfl, rfl, rfl, rfl, rfl, rfl, trivial⟩ (fun w hw => by rw [tabL_set hbi] at hw; exact Sat.sub (hw : Sat _ _ (tabA 4 bl (putv t5 (i : Int) (j : Int) false) :: _) _) (by repeat (first | exact SubL.nil | exact Pick.head | apply Pick.tail | apply SubL.cons)))
                · show g.names.toNat - (j + 1) < g.names.toNat - j; omega
                · refine ⟨by show j + 1 ≤ _; omega, hd5.putv (Int.natCast_nonneg i) (by omega), ?_⟩
                  have hst := hwr.step hd5 (Int.natCast_nonneg k) (by omega) (Int.natCast_nonneg i) (by omega) (Int.natCast_nonneg j) (by omega) (v := false) (by have e : at2 t5 (i : Int) (j : Int) = false := hg100; have e2 : at2 t5 (i : Int) (k : Int) = false := hg108; rw [e, e2]; simp)
                  exact hst
          · skip
            have hje : g.names.toNat ≤ j := by have := of_decide_eq_false h86; omega
            refine CW_exit ?_
            refine EW_then_exit ?_
            refine EW_out ?_
            refine EW_block_exit ?_
            refine EW_block_normal ?_
            refine EW_then ?_
            refine CW_region ?_
            first | refine OW_q (q_inc rfl rfl (by omega)) rfl ?_ | refine OW_q (q_add rfl rfl (by omega) (by omega)) rfl ?_
            refine OW_q (q_move rfl) rfl ?_
            refine OW_nil ?_
            refine EW_again ((i + 1, t5)) ⟨?_, ?_⟩ ⟨rfl, rfl, rfl, rfl, rfl, rfl, rfl, trivial⟩ (fun w hw => hw.sub (by (repeat (first | exact SubL.nil | exact Pick.head | apply Pick.tail | apply SubL.cons))))
            · show g.names.toNat - (i + 1) < g.names.toNat - i; omega
            · refine ⟨by show i + 1 ≤ _; omega, hd5, ?_⟩
              have hq := hwr.next (by omega)
              show WR _ _ t5 _ ((i + 1 : Nat) : Int) 0
              rw [Int.natCast_add]; exact hq
        · skip
          have hie : g.names.toNat ≤ i := by have := of_decide_eq_false h81; omega
          refine CW_exit ?_
          refine EW_then_exit ?_
          refine EW_out ?_
          refine EW_block_exit ?_
          refine EW_block_normal ?_
          refine EW_then ?_
          refine CW_region ?_
          first | refine OW_q (q_inc rfl rfl (by omega)) rfl ?_ | refine OW_q (q_add rfl rfl (by omega) (by omega)) rfl ?_
          refine OW_q (q_move rfl) rfl ?_
          refine OW_nil ?_
          refine EW_again ((k + 1, t4)) ⟨?_, ?_⟩ ⟨rfl, rfl, rfl, rfl, trivial⟩ (fun w hw => hw.sub (by (repeat (first | exact SubL.nil | exact Pick.head | apply Pick.tail | apply SubL.cons))))
          · show g.names.toNat - (k + 1) < g.names.toNat - k; omega
          · refine ⟨by show k + 1 ≤ _; omega, ?_⟩
            have hq := hwt.round (Int.natCast_nonneg k) (by omega) hwr0 (by omega) hd4
            show WT _ _ t4 ((k + 1 : Nat) : Int)
            rw [Int.natCast_add]; exact hq
      · skip
        have hke3 : g.names.toNat ≤ k := by have := of_decide_eq_false h76; omega
        refine CW_exit ?_
        refine EW_then_exit ?_
        refine EW_out ?_
        refine EW_block_exit ?_
        refine EW_then ?_
        refine CW_seq ?_
        refine CW_seq ?_
        refine CW_region ?_
        refine OW_q (q_move rfl) rfl ?_
        refine OW_q (q_len Try.underlying51 rfl) rfl ?_
        refine OW_q (q_move rfl) rfl ?_
        refine OW_nil ?_
        refine EW_then ?_
        refine CW_block ?_
        refine CW_loopP (ι := Nat × List Bool × Value) (fun i_ => i_.1 ≤ g.names.toNat ∧ i_.2.1.length = i_.1 ∧ ∀ i : Nat, i < i_.1 → i_.2.1[i]? = some (at2 t3 (i : Int) (i : Int))) (fun i_ => [(6, .slice (some ⟨b27, 0, none⟩) g.names.toNat g.names.toNat), (12, i_.2.2), (123, .int .i64 (g.names.toNat : Int)), (124, .int .i64 (i_.1 : Int))]) (fun i_ => Sat (Old w) w [tabA 4 bl t3, trow 36 1 (encR g.names.toNat) (.slice (some ⟨b27, 0, none⟩) g.names.toNat g.names.toNat) bl, trow 4 1 encB i_.2.2 i_.2.1]) (fun i_ => g.names.toNat - i_.1) (0, [], (.slice none 0 0)) ?_ ⟨rfl, rfl, rfl, rfl, trivial⟩ (fun w hw => (hw.tnil 4 1 encB).sub (by repeat (first | exact SubL.nil | exact Pick.head | apply Pick.tail | apply SubL.cons))) ?_
        · exact ⟨Nat.zero_le _, rfl, fun i h => absurd h (Nat.not_lt_zero _)⟩
        intro i_ hpre
        obtain ⟨nn, o, vo⟩ := i_
        replace hpre : nn ≤ g.names.toNat ∧ o.length = nn ∧ ∀ i : Nat, i < nn → o[i]? = some (at2 t3 (i : Int) (i : Int)) := hpre
        change CW _ _ _ _ [(6, .slice (some ⟨b27, 0, none⟩) g.names.toNat g.names.toNat), (12, vo), (123, .int .i64 (g.names.toNat : Int)), (124, .int .i64 (nn : Int))] (Sat (Old w) w [tabA 4 bl t3, trow 36 1 (encR g.names.toNat) (.slice (some ⟨b27, 0, none⟩) g.names.toNat g.names.toNat) bl, trow 4 1 encB vo o])
        obtain ⟨hnn, hlo, hoo⟩ := hpre
        refine CW_seq ?_
        refine CW_region ?_
        refine OW_q (q_lss rfl rfl) rfl ?_
        refine OW_nil ?_
        refine EW_then ?_
        refine CW_seq ?_
        refine CW_cond rfl (fun h125 => ?_) (fun h125 => ?_)
        · skip
          have hltn : nn < g.names.toNat := by have := of_decide_eq_true h125; omega
          have h3N := hwt.dim.1
          have hln3 := hwt.dim.row (n := (nn : Int)) (Int.natCast_nonneg nn) (by omega)
          obtain ⟨bn, hbn⟩ := get_of_lt (l := bl) (k := nn) (by omega)
          have hrown : t3[nn]? = some (row2 t3 (nn : Int)) := row2_get (tab := t3) (n := (nn : Int)) (Int.natCast_nonneg nn) (by omega)
          have hcnn : (row2 t3 (nn : Int))[nn]? = some (at2 t3 (nn : Int) (nn : Int)) := atB_get (n := (nn : Int)) (Int.natCast_nonneg nn) (by omega)
          refine CW_skip ?_
          refine EW_then ?_
          refine CW_seq ?_
          refine CW_block ?_
          refine CW_seq ?_
          refine CW_region ?_
          refine OW_q (q_move rfl) rfl ?_
          refine OW_q (q_assign rfl) rfl ?_
          refine OW_nil ?_
          refine EW_then ?_
          refine CW_region ?_
          refine OW_q (q_move rfl) rfl ?_
          refine OW_q (q_move rfl) rfl ?_
          refine OW_q (q_move rfl) rfl ?_
          refine OW_q (q_indexAddr Try.underlying51 Try.sizeOf36 rfl rfl (by first | omega | assumption)) rfl ?_
          refine OW_q (q_load_t1 Try.isAgg36 (fun _ => rfl) rfl (by repeat (first | exact .head | apply Swap.tail)) rfl hbn rfl) rfl ?_
          refine OW_q (q_move rfl) rfl ?_
          refine OW_q (q_indexAddr Try.underlying36 Try.sizeOf4 rfl rfl (by first | omega | assumption)) rfl ?_
          refine OW_q (q_load_bools Try.isAgg4 rfl ((Hole.tab hbn hrown).swap _) hcnn) rfl ?_
          refine OW_e (e_single Try.underlying36 Try.sizeOf4 Try.zeroValue4 (e := 4) (v := .bool (at2 t3 (nn : Int) (nn : Int))) (cs := [.bool (at2 t3 (nn : Int) (nn : Int))]) rfl rfl rfl rfl (by decide) (by decide)) rfl (fun b135 => ?_)
          refine OW_e (e_append_t (x0 := at2 t3 (nn : Int) (nn : Int)) (enc := encB) Try.underlying36 Try.typeInfo4 rfl rfl rfl rfl rfl rfl rfl (by repeat (first | exact .head | apply Pick.tail)) rfl (by exact fun w hw => hw.news (by repeat (first | exact .head | apply Swap.tail))) (by simp [Value.oneCell']) (by omega) (by decide)) rfl (fun v136 => ?_)
          refine OW_q (q_assign rfl) rfl ?_
          refine OW_nil ?_
          refine EW_block_normal ?_
          refine EW_then ?_
          refine CW_region ?_
          first | refine OW_q (q_inc rfl rfl (by omega)) rfl ?_ | refine OW_q (q_add rfl rfl (by omega) (by omega)) rfl ?_
          refine OW_q (q_move rfl) rfl ?_
          refine OW_nil ?_
          refine EW_again ((nn + 1, o ++ [at2 t3 (nn : Int) (nn : Int)], v136)) ⟨?_, ?_⟩ ⟨rfl, rfl, rfl, rfl, trivial⟩ (fun w hw => hw.sub (by (repeat (first | exact SubL.nil | exact Pick.head | apply Pick.tail | apply SubL.cons))))
          · show g.names.toNat - (nn + 1) < g.names.toNat - nn; omega
          · refine ⟨by show nn + 1 ≤ _; omega, by show (o ++ [_]).length = nn + 1; rw [List.length_append, hlo]; rfl, fun i hi => ?_⟩
            show (o ++ [at2 t3 (nn : Int) (nn : Int)])[i]? = _
            by_cases e : i = nn
            · subst e
              rw [List.getElem?_append_right (by omega), hlo, Nat.sub_self]; rfl
            · have : i < nn + 1 := hi
              rw [List.getElem?_append_left (by omega)]; exact hoo i (by omega)
        · skip
          obtain rfl : nn = g.names.toNat := by have := of_decide_eq_false h125; omega
          refine CW_exit ?_
          refine EW_then_exit ?_
          refine EW_out ?_
          refine EW_block_exit ?_
          refine EW_then ?_
          refine CW_seq ?_
          refine CW_region ?_
          refine OW_q (q_move rfl) rfl ?_
          refine OW_q (q_assign rfl) rfl ?_
          refine OW_q (q_assign rfl) rfl ?_
          refine OW_nil ?_
          refine EW_then ?_
          refine CW_ret ?_
          refine ret2 Try.results29 rfl rfl (fun w hw => ?_)
          refine ⟨(vo, o, x19.nl), rfl, ⟨hlo, hnl, hx19.2.1.1, hx19.2.2.1, fun i h0 h1 => ?_⟩, hw.sub (by repeat (first | exact SubL.nil | exact Pick.head | apply Pick.tail | apply SubL.cons))⟩
          have hE : ∀ a b, Eg g x19.nl a b → (0 ≤ a ∧ a < (g.names.toNat : Int)) ∧ 0 ≤ b ∧ b < (g.names.toNat : Int) := fun a b h => fstB_rng (fun r hr => by have := hall r hr; exact ⟨⟨this.1, by omega⟩, fun s hs ht => by have := this.2.2 s hs ht; omega⟩) h
          have hq := hoo i.toNat (by omega)
          have e : atB o i = at2 t3 i i := by
            have h2 := atB_get (is := o) (n := i) h0 (by omega)
            rw [hq, Int.toNat_of_nonneg h0] at h2
            exact (Option.some.inj h2).symm
          show atB o i = true ↔ _
          rw [e]
          exact ⟨hwt.snd i i h0 h1 h0 h1, fun h => (hwt.all (by omega) hE h).2⟩

end Go.Sy
