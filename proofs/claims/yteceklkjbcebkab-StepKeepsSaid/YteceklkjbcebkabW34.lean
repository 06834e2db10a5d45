/- pollardingref5.Has. No condition. -/
import Derived.Test.YteceklkjbcebkabW33
namespace Go.Sy
open Go Go.RowKit Go.Proofs

theorem Sat.pushBig {R : Nat → Prop} {w0 w : World} {Bs L : List HP} {B : HP} (h : Sat R w0 (stars Bs :: B :: L) w) : Sat R w0 (stars (Bs ++ [B]) :: L) w := h.imp_ fun x hx => by
  obtain ⟨h1, h2, hd, rfl, hA, hB⟩ := hx
  have : stars ((Bs ++ [B]) ++ L) (uni h1 h2) := by
    rw [List.append_assoc]
    exact (stars_append Bs ([B] ++ L) _).2 ⟨h1, h2, hd, rfl, hA, hB⟩
  exact (stars_append (Bs ++ [B]) L _).1 this
abbrev slN (N d : Nat) : Value := .slice (some ⟨d, 0, none⟩) N N
def slL (N : Nat) (l : List Nat) (M : Nat) : List Value := l.map (slN N) ++ List.replicate M (.slice none 0 0)
theorem setL_at (A B : List Value) (z v : Value) : setL (A ++ z :: B) A.length v = some (A ++ v :: B) := by
  induction A with
  | nil => rfl
  | cons x A ih => simp only [List.cons_append, List.length_cons, setL, ih]
theorem setL_sl {N : Nat} {l : List Nat} {j M m : Nat} (hj : l.length = j) (hM : M = m + 1) (b : Nat) : setL (slL N l M) j (slN N b) = some (slL N (l ++ [b]) m) := by
  subst hM
  unfold slL
  have := setL_at (l.map (slN N)) (List.replicate m (.slice none 0 0)) (.slice none 0 0) (slN N b)
  rw [List.length_map, hj] at this
  rw [List.replicate_succ, this, List.map_append, List.append_assoc]
  rfl
theorem slL_get {N : Nat} {l : List Nat} {M i d : Nat} (h : l[i]? = some d) : (slL N l M)[i]? = some (slN N d) := by
  unfold slL
  rw [List.getElem?_append_left (by rw [List.length_map]; exact (List.getElem?_eq_some_iff.1 h).1), List.getElem?_map, h]
  rfl
def lv2 (T : TypeId) (k : Nat) (c : List (Nat × List Nat)) : HP := stars (c.map (fun p => cel p.1 T (slL k p.2 0)))
def DDk (c : List (Nat × List Nat)) : List Nat := c.flatMap (·.2)
theorem ddk_len {N : Nat} : ∀ {c : List (Nat × List Nat)}, (∀ p ∈ c, p.2.length = N) → (DDk c).length = c.length * N
  | [], _ => by simp [DDk]
  | p :: c, h => by
    have := ddk_len (c := c) (fun q hq => h q (List.mem_cons_of_mem _ hq))
    unfold DDk at this ⊢
    rw [List.flatMap_cons, List.length_append, this, h p (List.mem_cons_self ..), List.length_cons, Nat.succ_mul, Nat.add_comm]
theorem ddk_get {N : Nat} : ∀ {c : List (Nat × List Nat)} {i j : Nat} {p : Nat × List Nat}, (∀ p ∈ c, p.2.length = N) → c[i]? = some p → j < N → (DDk c)[i * N + j]? = p.2[j]?
  | [], i, j, p, _, h, _ => by cases h
  | q :: c, 0, j, p, hl, h, hj => by
    have e : q = p := by simpa using h
    unfold DDk
    rw [List.flatMap_cons, Nat.zero_mul, Nat.zero_add, List.getElem?_append_left (by rw [hl q (List.mem_cons_self ..)]; exact hj), e]
  | q :: c, i + 1, j, p, hl, h, hj => by
    have := ddk_get (c := c) (fun q hq => hl q (List.mem_cons_of_mem _ hq)) h hj
    unfold DDk at this ⊢
    rw [List.flatMap_cons, List.getElem?_append_right (by rw [hl q (List.mem_cons_self ..), Nat.succ_mul]; omega), hl q (List.mem_cons_self ..), ← this]
    congr 1
    rw [Nat.succ_mul]; omega
section
variable {R : Nat → Prop} {w0 w : World} {L L1 L2 L3 : List HP}
theorem Sat.sole {A : HP} (h : Sat R w0 L w) (s : Swap L A A L1) : Sat R w0 [A] w := by
  obtain ⟨y, hy, hz⟩ := h.own
  obtain ⟨g1, g2, hd, rfl, hA, _⟩ := s.focus y hy
  exact ⟨h.os, h.tape, h.output, h.size, h.ro, g1, ⟨g1, emp0, dis_emp g1, (uni_emp g1).symm, hA, rfl⟩, fun b o hb => hz b o (by simp [uni, hb])⟩
theorem Sat.knAt {b N k : Nat} {T1 T2 T3 : TypeId} {c : List (Nat × List Nat)} {tab : List (List Bool)} (h : Sat R w0 L w) (s1 : Swap L (cel b T1 (slL N (c.map (·.1)) 0)) (cel b T1 (slL N (c.map (·.1)) 0)) L1) (s2 : Swap L (lv2 T2 k c) (lv2 T2 k c) L2) (s3 : Swap L (tabA T3 (DDk c) tab) (tabA T3 (DDk c) tab) L3)
    (hc : c.length = N) (hp : ∀ p ∈ c, p.2.length = N) (hD : Dim tab (N * N) k) : KnAt (Cl w) (slN N b) N k (knF N tab) := by
  refine ⟨_, rfl, fun i hi => ?_⟩
  obtain ⟨p, hpi⟩ := get_of_lt (l := c) (k := i) (by omega)
  have hpl := hp p (List.mem_of_getElem? hpi)
  refine ⟨⟨p.1, 0, none⟩, ?_, fun j hj => ?_⟩
  · show w.cell? _ = _
    rw [Addr.add_lit, Nat.mul_one, Nat.zero_add, h.cell s1 i]
    exact slL_get (by rw [List.getElem?_map, hpi]; rfl)
  · obtain ⟨d, hd⟩ := get_of_lt (l := p.2) (k := j) (by omega)
    refine ⟨⟨d, 0, none⟩, ?_, fun m h0 h1 => ?_⟩
    · show w.cell? _ = _
      have hh := h.sole s2
      rw [Addr.add_lit, Nat.mul_one, Nat.zero_add, hh.cell ((Hole.big (L := []) (Hole.idx (M := c.map (fun p => cel p.1 T2 (slL k p.2 0))) (i := i) (A := cel p.1 T2 (slL k p.2 0)) (by rw [List.getElem?_map, hpi]; rfl))).swap (cel p.1 T2 (slL k p.2 0))) j]
      exact slL_get hd
    · show w.cell? _ = _
      have hh := h.sole s3
      have hfl := flat_lt hi hj
      have hbl : (DDk c)[i * N + j]? = some d := by rw [ddk_get hp hpi hj, hd]
      have hrow := row2_get (tab := tab) (n := ((i * N + j : Nat) : Int)) (by omega) (by rw [hD.1]; omega)
      have hrl := hD.row (n := ((i * N + j : Nat) : Int)) (by omega) (by omega)
      rw [Addr.add_lit, Nat.mul_one, Nat.zero_add, hh.cell (cs := (row2 tab ((i * N + j : Nat) : Int)).map vb) ((Hole.tab (L := []) hbl hrow).swap (bools d T3 (row2 tab ((i * N + j : Nat) : Int)))) m.toNat]
      rw [List.getElem?_map, atB_get h0 (by omega), knF_in hi hj h0]
      rfl
end
/-- What is known while parts of a size are read. -/
structure KI (g : Gram) (tk : List Int) (k : Nat) (sz fr : Nat) (tab : List (List Bool)) : Prop where
  dim : Dim tab ((tk.length + 1) * (tk.length + 1)) k
  snd : KnS g tk (knF (tk.length + 1) tab)
  cmp : ∀ i j, i ≤ j → j < tk.length + 1 → (j - i < sz ∨ (j - i = sz ∧ i < fr)) → KnC g tk (knF (tk.length + 1) tab) i j
theorem KI.put {g : Gram} {tk : List Int} {k sz fr i j : Nat} {tab : List (List Bool)} {q : Rule} (h : KI g tk k sz fr tab) (hi : i < tk.length + 1) (hj : j < tk.length + 1) (h0 : 0 ≤ q.left) (h1 : q.left < (k : Int)) (hq : q ∈ g.rules) (hy : YK (knF (tk.length + 1) tab) tk q.right i j) : KI g tk k sz fr (put2 tab ((i * (tk.length + 1) + j : Nat) : Int) q.left) := by
  have hfl := flat_lt hi hj
  refine ⟨h.dim.put (by omega) (by omega), fun a b m hk => ?_, fun a b hab hb hs m hm => (knF_put h.dim hi hj h0 h1 a b m).2 (.inl (h.cmp a b hab hb hs m hm))⟩
  rcases (knF_put h.dim hi hj h0 h1 a b m).1 hk with hk | ⟨rfl, rfl, rfl⟩
  · exact h.snd a b m hk
  · exact yl_one rfl hq rfl (yk_yl h.snd hy)
theorem KI.next {g : Gram} {tk : List Int} {k sz fr : Nat} {tab : List (List Bool)} (h : KI g tk k sz fr tab) (hc : ∀ r ∈ g.rules, YK (knF (tk.length + 1) tab) tk r.right fr (fr + sz) → knF (tk.length + 1) tab fr (fr + sz) r.left = true) : KI g tk k sz (fr + 1) tab :=
  ⟨h.dim, h.snd, fun i j hij hj hs => by
    by_cases e : j - i = sz ∧ i = fr
    · obtain ⟨e1, rfl⟩ := e
      have e2 : j = i + sz := by omega
      subst e2
      exact kn_close (fun a b h1 h2 h3 h4 => h.cmp a b h2 (by omega) (by omega)) hc
    · exact h.cmp i j hij hj (by omega)⟩
theorem KI.size {g : Gram} {tk : List Int} {k sz fr : Nat} {tab : List (List Bool)} (h : KI g tk k sz fr tab) (hf : tk.length + 1 ≤ fr + sz) : KI g tk k (sz + 1) 0 tab :=
  ⟨h.dim, h.snd, fun i j hij hj hs => h.cmp i j hij hj (by omega)⟩
theorem ki_new (g : Gram) (tk : List Int) (k : Nat) : KI g tk k 0 0 (List.replicate ((tk.length + 1) * (tk.length + 1)) (List.replicate k false)) :=
  ⟨⟨List.length_replicate, fun l hl => by rw [(List.mem_replicate.1 hl).2, List.length_replicate]⟩, fun i j m h => by
    exfalso
    unfold knF at h
    simp only [Bool.and_eq_true] at h
    have h2 := h.2
    unfold at2 row2 atB at h2
    rw [List.getD_eq_getElem?_getD, List.getD_eq_getElem?_getD, List.getElem?_replicate] at h2
    split at h2
    · simp only [Option.getD_some, List.getElem?_replicate] at h2
      split at h2 <;> cases h2
    · simp at h2, fun i j _ _ h => by omega⟩
set_option maxRecDepth 20000 in
theorem has5_any (gv dv : Value) (g : Gram) (tk : List Int) (w0 : World) (hg : GramAt (Cl w0) gv g) (hd : IntsAt (Cl w0) dv tk) (hm : mayB g = true) (htk : tk.length ≤ 30) : Calls Try.prog 13 #[gv, dv] w0 (fun e w' => ∃ x : Bool, e = .returned (.bool x) ∧ (x = true ↔ Yl g tk [⟨false, 0⟩] 0 tk.length) ∧ Sat (Old w0) w0 [] w') := by
  have hM := mayB_true.1 hm
  obtain ⟨rv, rfl, hr⟩ := hg.mono old_rd
  obtain ⟨a, c, rfl, hc1, hc2, hrs⟩ := id hr
  have hd' := hd.mono old_rd
  obtain ⟨ta, tc, rfl, ht1, ht2, hts⟩ := id hd'
  clear hg hd
  have hkn : (g.names.toNat : Int) = g.names := by omega
  refine calls_CW Try.func13 rfl Try.ntmps13 rfl (Sat.start w0) ?_
  refine CW_seq ?_
  refine CW_region ?_
  refine OW_e (e_box rfl rfl) rfl (fun b2 => ?_)
  refine OW_q (q_assign rfl) rfl ?_
  refine OW_nil ?_
  refine EW_then ?_
  refine CW_seq ?_
  refine CW_region ?_
  refine OW_q (q_move rfl) rfl ?_
  refine OW_q (q_len Try.underlying32 rfl) rfl ?_
  refine OW_q (q_assign rfl) rfl ?_
  refine OW_nil ?_
  refine EW_then ?_
  refine CW_seq ?_
  refine CW_region ?_
  refine OW_q (q_move rfl) rfl ?_
  first | refine OW_q (q_inc rfl rfl (by omega)) rfl ?_ | refine OW_q (q_add rfl rfl (by omega) (by omega)) rfl ?_
  refine OW_e (e_make (m := tk.length + 1) Try.underlying52 Try.typeInfo53 rfl rfl rfl (by decide) rfl rfl (by omega)) rfl (fun b19 => ?_)
  refine OW_q (q_assign rfl) rfl ?_
  refine OW_nil ?_
  refine EW_then ?_
  refine CW_seq ?_
  refine CW_seq ?_
  refine CW_region ?_
  refine OW_q (q_assign rfl) rfl ?_
  refine OW_nil ?_
  refine EW_then ?_
  refine CW_block ?_
  refine CW_weak (S' := Sat (Old w0) w0 [cel b2 24 [.int .i64 g.terms, .int .i64 g.names, .slice a g.rules.length c], cel b19 53 (slL (tk.length + 1) (([] : List (Nat × List Nat)).map (·.1)) (tk.length + 1)), lv2 54 g.names.toNat [], tabA 4 (DDk []) (List.replicate (0 * (tk.length + 1)) (List.replicate g.names.toNat false))]) (fun w hw => by
    have h1 := (hw.addEmp (A := lv2 54 g.names.toNat []) rfl).addEmp (A := tabA 4 (DDk []) (List.replicate (0 * (tk.length + 1)) (List.replicate g.names.toNat false))) (by show tabA _ [] (List.replicate (0 * _) _) emp0; rw [Nat.zero_mul]; rfl)
    exact h1.sub (by repeat (first | exact SubL.nil | exact Pick.head | apply Pick.tail | apply SubL.cons))) ?_
  refine CW_loopP (ι := Nat × List (Nat × List Nat)) (fun i_ => i_.1 ≤ (tk.length + 1) ∧ i_.2.length = i_.1 ∧ ∀ p ∈ i_.2, p.2.length = (tk.length + 1)) (fun i_ => [(1, .slice ta tk.length tc), (2, .pointer (some ⟨b2, 0, none⟩)), (5, .int .i64 (tk.length : Int)), (6, slN (tk.length + 1) b19), (7, .int .i64 (i_.1 : Int))]) (fun i_ => Sat (Old w0) w0 [cel b2 24 [.int .i64 g.terms, .int .i64 g.names, .slice a g.rules.length c], cel b19 53 (slL (tk.length + 1) (i_.2.map (·.1)) ((tk.length + 1) - i_.1)), lv2 54 g.names.toNat i_.2, tabA 4 (DDk i_.2) (List.replicate (i_.1 * (tk.length + 1)) (List.replicate g.names.toNat false))]) (fun i_ => (tk.length + 1) - i_.1) (0, []) ?_ ⟨rfl, rfl, rfl, rfl, rfl, trivial⟩ (fun w hw => hw.sub (by (repeat (first | exact SubL.nil | exact Pick.head | apply Pick.tail | apply SubL.cons)))) ?_
  · exact ⟨Nat.zero_le _, rfl, fun p h => by cases h⟩
  intro i_ hpre
  obtain ⟨i, c1⟩ := i_
  replace hpre : i ≤ (tk.length + 1) ∧ c1.length = i ∧ ∀ p ∈ c1, p.2.length = (tk.length + 1) := hpre
  change CW _ _ _ _ [(1, .slice ta tk.length tc), (2, .pointer (some ⟨b2, 0, none⟩)), (5, .int .i64 (tk.length : Int)), (6, slN (tk.length + 1) b19), (7, .int .i64 (i : Int))] (Sat (Old w0) w0 [cel b2 24 [.int .i64 g.terms, .int .i64 g.names, .slice a g.rules.length c], cel b19 53 (slL (tk.length + 1) (c1.map (·.1)) ((tk.length + 1) - i)), lv2 54 g.names.toNat c1, tabA 4 (DDk c1) (List.replicate (i * (tk.length + 1)) (List.replicate g.names.toNat false))])
  obtain ⟨hi, hcl, hcp⟩ := hpre
  refine CW_seq ?_
  refine CW_seq ?_
  refine CW_region ?_
  refine OW_q (q_move rfl) rfl ?_
  refine OW_q (q_move rfl) rfl ?_
  refine OW_q (q_leq rfl rfl) rfl ?_
  refine OW_nil ?_
  refine EW_then ?_
  refine CW_cond rfl (fun h22 => ?_) (fun h22 => ?_)
  · skip
    have hil : i ≤ tk.length := by have := of_decide_eq_true h22; omega
    refine CW_skip ?_
    refine EW_then ?_
    refine CW_seq ?_
    refine CW_block ?_
    refine CW_seq ?_
    refine CW_region ?_
    refine OW_q (q_move rfl) rfl ?_
    refine OW_q (q_move rfl) rfl ?_
    refine OW_q (q_move rfl) rfl ?_
    first | refine OW_q (q_inc rfl rfl (by omega)) rfl ?_ | refine OW_q (q_add rfl rfl (by omega) (by omega)) rfl ?_
    refine OW_e (e_make (m := tk.length + 1) Try.underlying53 Try.typeInfo54 rfl rfl rfl (by decide) rfl rfl (by omega)) rfl (fun b29 => ?_)
    refine OW_q (q_indexAddr Try.underlying52 Try.sizeOf53 rfl rfl (by first | omega | assumption)) rfl ?_
    refine OW_e0 (e_store (b := b19) (off := i) Try.sizeOf53 rfl (by simp [Addr.add_lit]) rfl rfl (by repeat (first | exact .head | apply Swap.tail)) (setL_sl (N := (tk.length + 1)) (l := c1.map (·.1)) (j := i) (m := tk.length - i) (by rw [List.length_map]; exact hcl) (by omega) b29)) (fun _ => ?_)
    refine OW_nil ?_
    refine EW_then ?_
    refine CW_seq ?_
    refine CW_region ?_
    refine OW_q (q_assign rfl) rfl ?_
    refine OW_nil ?_
    refine EW_then ?_
    refine CW_block ?_
    refine CW_loopP (ι := Nat × List Nat) (fun i_ => i_.1 ≤ (tk.length + 1) ∧ i_.2.length = i_.1) (fun i_ => [(1, .slice ta tk.length tc), (2, .pointer (some ⟨b2, 0, none⟩)), (5, .int .i64 (tk.length : Int)), (6, slN (tk.length + 1) b19), (7, .int .i64 (i : Int)), (8, .int .i64 (i_.1 : Int))]) (fun i_ => Sat (Old w0) w0 [cel b2 24 [.int .i64 g.terms, .int .i64 g.names, .slice a g.rules.length c], cel b19 53 (slL (tk.length + 1) (c1.map (·.1) ++ [b29]) (tk.length - i)), cel b29 54 (slL g.names.toNat i_.2 ((tk.length + 1) - i_.1)), lv2 54 g.names.toNat c1, tabA 4 (DDk c1 ++ i_.2) (List.replicate (i * (tk.length + 1) + i_.1) (List.replicate g.names.toNat false))]) (fun i_ => (tk.length + 1) - i_.1) (0, []) ?_ ⟨rfl, rfl, rfl, rfl, rfl, rfl, trivial⟩ (fun w hw => by
      show Sat _ _ [_, _, cel b29 _ (slL _ [] _), _, tabA _ (DDk c1 ++ []) _] w
      rw [List.append_nil]
      exact hw.sub (by repeat (first | exact SubL.nil | exact Pick.head | apply Pick.tail | apply SubL.cons))) ?_
    · exact ⟨Nat.zero_le _, rfl⟩
    intro i_ hpre
    obtain ⟨j, ds⟩ := i_
    replace hpre : j ≤ (tk.length + 1) ∧ ds.length = j := hpre
    change CW _ _ _ _ [(1, .slice ta tk.length tc), (2, .pointer (some ⟨b2, 0, none⟩)), (5, .int .i64 (tk.length : Int)), (6, slN (tk.length + 1) b19), (7, .int .i64 (i : Int)), (8, .int .i64 (j : Int))] (Sat (Old w0) w0 [cel b2 24 [.int .i64 g.terms, .int .i64 g.names, .slice a g.rules.length c], cel b19 53 (slL (tk.length + 1) (c1.map (·.1) ++ [b29]) (tk.length - i)), cel b29 54 (slL g.names.toNat ds ((tk.length + 1) - j)), lv2 54 g.names.toNat c1, tabA 4 (DDk c1 ++ ds) (List.replicate (i * (tk.length + 1) + j) (List.replicate g.names.toNat false))])
    obtain ⟨hj, hds⟩ := hpre
    refine CW_seq ?_
    refine CW_seq ?_
    refine CW_region ?_
    refine OW_q (q_move rfl) rfl ?_
    refine OW_q (q_move rfl) rfl ?_
    refine OW_q (q_leq rfl rfl) rfl ?_
    refine OW_nil ?_
    refine EW_then ?_
    refine CW_cond rfl (fun h33 => ?_) (fun h33 => ?_)
    · skip
      have hjl : j ≤ tk.length := by have := of_decide_eq_true h33; omega
      refine CW_skip ?_
      refine EW_then ?_
      refine CW_seq ?_
      refine CW_block ?_
      refine CW_drawS 9 [(0, false), (1, false), (2, false), (3, false), (4, false), (5, false), (6, false), (7, true), (8, false), (9, true)] (by kernel_rfl) (Blind.block (Blind.then (Blind.again (Blind.block (Blind.block (Blind.then (Blind.again (Blind.block (Blind.then (Blind.body (by intro c w h; simp at h))))))))))) (by kernel_rfl) (fun w hw => hw.drew) ?_
      refine DW_q rfl (fun w hw => hw.sub (by (repeat (first | exact SubL.nil | exact Pick.head | apply Pick.tail | apply SubL.cons)))) (q_move rfl) rfl ?_
      refine DW_q rfl (fun w hw => hw.sub (by (repeat (first | exact SubL.nil | exact Pick.head | apply Pick.tail | apply SubL.cons)))) (q_move rfl) rfl ?_
      refine DW_q rfl (fun w hw => hw.sub (by (repeat (first | exact SubL.nil | exact Pick.head | apply Pick.tail | apply SubL.cons)))) (q_indexAddr Try.underlying52 Try.sizeOf53 rfl rfl (by first | omega | assumption)) rfl ?_
      refine DW_q rfl (fun w hw => hw.sub (by repeat (first | exact SubL.nil | exact Pick.head | apply Pick.tail | apply SubL.cons))) (q_load1_own (b := b19) (off := i) Try.isAgg53 rfl (by simp [Addr.add_lit]) (by repeat (first | exact .head | apply Swap.tail)) (slL_get (d := b29) (by rw [List.getElem?_append_right (by rw [List.length_map]; omega), List.length_map, hcl, Nat.sub_self]; rfl))) rfl ?_
      refine DW_q rfl (fun w hw => hw.sub (by (repeat (first | exact SubL.nil | exact Pick.head | apply Pick.tail | apply SubL.cons)))) (q_move rfl) rfl ?_
      refine DW_q rfl (fun w hw => hw.sub (by (repeat (first | exact SubL.nil | exact Pick.head | apply Pick.tail | apply SubL.cons)))) (q_fieldAddr Try.underlying24 rfl rfl Try.sizeOf3 rfl rfl) rfl ?_
      first | (refine DW_q rfl (fun w hw => hw.sub (by (repeat (first | exact SubL.nil | exact Pick.head | apply Pick.tail | apply SubL.cons)))) (q_load1_own Try.isAgg3 rfl rfl (by (repeat (first | exact .head | apply Swap.tail))) (by rfl)) rfl ?_) | (refine DW_q rfl (fun w hw => hw.sub (by (repeat (first | exact SubL.nil | exact Pick.head | apply Pick.tail | apply SubL.cons)))) (q_load1_ro Try.isAgg3 rfl (by first | assumption | exact Row.at_ (by assumption) rfl)) rfl ?_)
      refine DW_e rfl (e_makeB Try.underlying54 Try.typeInfo4 rfl rfl (by decide) rfl rfl (by omega) (by omega)) rfl (fun _ w hw => by first | exact hw.sub (by (repeat (first | exact SubL.nil | exact Pick.head | apply Pick.tail | apply SubL.cons))) | exact hw.2.sub (by (repeat (first | exact SubL.nil | exact Pick.head | apply Pick.tail | apply SubL.cons)))) (fun b43 => ?_)
      refine DW_q rfl (fun w hw => hw.sub (by (repeat (first | exact SubL.nil | exact Pick.head | apply Pick.tail | apply SubL.cons)))) (q_indexAddr Try.underlying53 Try.sizeOf54 rfl rfl (by first | omega | assumption)) rfl ?_
      refine DW_z0 rfl (e_store (b := b29) (off := j) Try.sizeOf54 rfl (by simp [Addr.add_lit]) rfl rfl (by repeat (first | exact .head | apply Swap.tail)) (setL_sl (N := g.names.toNat) (l := ds) (j := j) (m := tk.length - j) hds (by omega) b43)) (fun _ => ?_)
      refine EW_block_normal ?_
      refine EW_then ?_
      refine CW_region ?_
      refine OW_q (q_move rfl) rfl ?_
      first | refine OW_q (q_inc rfl rfl (by omega)) rfl ?_ | refine OW_q (q_add rfl rfl (by omega) (by omega)) rfl ?_
      refine OW_q (q_assign rfl) rfl ?_
      refine OW_nil ?_
      refine EW_weak (S' := Sat (Old w0) w0 [cel b2 24 [.int .i64 g.terms, .int .i64 g.names, .slice a g.rules.length c], cel b19 53 (slL (tk.length + 1) (c1.map (·.1) ++ [b29]) (tk.length - i)), cel b29 54 (slL g.names.toNat (ds ++ [b43]) (tk.length + 1 - (j + 1))), lv2 54 g.names.toNat c1, tabA 4 (DDk c1 ++ (ds ++ [b43])) (List.replicate (i * (tk.length + 1) + (j + 1)) (List.replicate g.names.toNat false))]) (fun w hw => by
        have h1 : Sat (Old w0) w0 (stars (tabL 4 (DDk c1 ++ ds) (List.replicate (i * (tk.length + 1) + j) (List.replicate g.names.toNat false)) ++ [bools b43 4 (List.replicate g.names.toNat false)]) :: [cel b2 24 [.int .i64 g.terms, .int .i64 g.names, .slice a g.rules.length c], cel b19 53 (slL (tk.length + 1) (c1.map (·.1) ++ [b29]) (tk.length - i)), cel b29 54 (slL g.names.toNat (ds ++ [b43]) (tk.length - j)), lv2 54 g.names.toNat c1]) w := Sat.pushBig (hw.sub (by repeat (first | exact SubL.nil | exact Pick.head | apply Pick.tail | apply SubL.cons)))
        have hl : (DDk c1 ++ ds).length = ((List.replicate (i * (tk.length + 1) + j) (List.replicate g.names.toNat false))).length := by rw [List.length_append, ddk_len hcp, hcl, hds, List.length_replicate]
        rw [← tabL_add b43 _ hl] at h1
        have e2 : tk.length + 1 - (j + 1) = tk.length - j := by omega
        have e3 : (List.replicate (i * (tk.length + 1) + j) (List.replicate g.names.toNat false)) ++ [List.replicate g.names.toNat false] = (List.replicate (i * (tk.length + 1) + (j + 1)) (List.replicate g.names.toNat false)) := by rw [← Nat.add_assoc, List.replicate_succ']
        rw [e3] at h1
        rw [e2, ← List.append_assoc]
        exact h1.sub (by repeat (first | exact SubL.nil | exact Pick.head | apply Pick.tail | apply SubL.cons))) ?_
      refine EW_again ((j + 1, ds ++ [b43])) ⟨?_, ?_⟩ ⟨rfl, rfl, rfl, rfl, rfl, rfl, trivial⟩ (fun w hw => hw.sub (by (repeat (first | exact SubL.nil | exact Pick.head | apply Pick.tail | apply SubL.cons))))
      · show tk.length + 1 - (j + 1) < tk.length + 1 - j; omega
      · exact ⟨by show j + 1 ≤ _; omega, by show (ds ++ [_]).length = j + 1; rw [List.length_append, hds]; rfl⟩
    · skip
      refine CW_exit ?_
      refine EW_then_exit ?_
      refine EW_out ?_
      refine EW_block_exit ?_
      refine EW_block_normal ?_
      refine EW_then ?_
      refine CW_region ?_
      refine OW_q (q_move rfl) rfl ?_
      first | refine OW_q (q_inc rfl rfl (by omega)) rfl ?_ | refine OW_q (q_add rfl rfl (by omega) (by omega)) rfl ?_
      refine OW_q (q_assign rfl) rfl ?_
      refine OW_nil ?_
      refine EW_weak (S' := Sat (Old w0) w0 [cel b2 24 [.int .i64 g.terms, .int .i64 g.names, .slice a g.rules.length c], cel b19 53 (slL (tk.length + 1) ((c1 ++ [(b29, ds)]).map (·.1)) (tk.length + 1 - (i + 1))), lv2 54 g.names.toNat (c1 ++ [(b29, ds)]), tabA 4 (DDk (c1 ++ [(b29, ds)])) (List.replicate ((i + 1) * (tk.length + 1)) (List.replicate g.names.toNat false))]) (fun w hw => by
        have hje : j = (tk.length + 1) := by have := of_decide_eq_false h33; omega
        subst hje
        rw [Nat.sub_self] at hw
        have h1 : Sat (Old w0) w0 (stars (c1.map (fun p => cel p.1 54 (slL g.names.toNat p.2 0)) ++ [cel b29 54 (slL g.names.toNat ds 0)]) :: [cel b2 24 [.int .i64 g.terms, .int .i64 g.names, .slice a g.rules.length c], cel b19 53 (slL (tk.length + 1) (c1.map (·.1) ++ [b29]) (tk.length - i)), tabA 4 (DDk c1 ++ ds) (List.replicate (i * (tk.length + 1) + (tk.length + 1)) (List.replicate g.names.toNat false))]) w := Sat.pushBig (hw.sub (by repeat (first | exact SubL.nil | exact Pick.head | apply Pick.tail | apply SubL.cons)))
        have e1 : (c1 ++ [(b29, ds)]).map (·.1) = c1.map (·.1) ++ [b29] := by rw [List.map_append]; rfl
        have e2 : tk.length + 1 - (i + 1) = tk.length - i := by omega
        have e3 : DDk (c1 ++ [(b29, ds)]) = DDk c1 ++ ds := by simp [DDk]
        have e4 : (i + 1) * (tk.length + 1) = i * (tk.length + 1) + (tk.length + 1) := Nat.succ_mul _ _
        rw [e1, e2, e3, e4]
        unfold lv2
        rw [List.map_append]
        exact h1.sub (by repeat (first | exact SubL.nil | exact Pick.head | apply Pick.tail | apply SubL.cons))) ?_
      refine EW_again ((i + 1, c1 ++ [(b29, ds)])) ⟨?_, ?_⟩ ⟨rfl, rfl, rfl, rfl, rfl, trivial⟩ (fun w hw => hw.sub (by (repeat (first | exact SubL.nil | exact Pick.head | apply Pick.tail | apply SubL.cons))))
      · show tk.length + 1 - (i + 1) < tk.length + 1 - i; omega
      · refine ⟨by show i + 1 ≤ _; omega, by show (c1 ++ [_]).length = i + 1; rw [List.length_append, hcl]; rfl, fun p hp => ?_⟩
        rcases List.mem_append.1 hp with hp | hp
        · exact hcp p hp
        · rw [List.mem_singleton.1 hp]; show ds.length = _; have := of_decide_eq_false h33; omega
  · skip
    refine CW_exit ?_
    refine EW_then_exit ?_
    refine EW_out ?_
    refine EW_block_exit ?_
    refine EW_then ?_
    refine CW_seq ?_
    refine CW_seq ?_
    refine CW_region ?_
    refine OW_q (q_assign rfl) rfl ?_
    refine OW_nil ?_
    refine EW_then ?_
    refine CW_block ?_
    have hie : i = (tk.length + 1) := by have := of_decide_eq_false h22; omega
    subst hie
    refine CW_weak (S' := Sat (Old w0) w0 [cel b2 24 [.int .i64 g.terms, .int .i64 g.names, .slice a g.rules.length c], cel b19 53 (slL (tk.length + 1) (c1.map (·.1)) 0), lv2 54 g.names.toNat c1, tabA 4 (DDk c1) (List.replicate ((tk.length + 1) * (tk.length + 1)) (List.replicate g.names.toNat false))]) (fun w hw => by rw [Nat.sub_self] at hw; exact hw.sub (by repeat (first | exact SubL.nil | exact Pick.head | apply Pick.tail | apply SubL.cons))) ?_
    refine CW_loopP (ι := Nat × List (List Bool)) (fun i_ => i_.1 ≤ (tk.length + 1) ∧ KI g tk g.names.toNat i_.1 0 i_.2) (fun i_ => [(1, .slice ta tk.length tc), (2, .pointer (some ⟨b2, 0, none⟩)), (5, .int .i64 (tk.length : Int)), (6, slN (tk.length + 1) b19), (9, .int .i64 (i_.1 : Int))]) (fun i_ => Sat (Old w0) w0 [cel b2 24 [.int .i64 g.terms, .int .i64 g.names, .slice a g.rules.length c], cel b19 53 (slL (tk.length + 1) (c1.map (·.1)) 0), lv2 54 g.names.toNat c1, tabA 4 (DDk c1) i_.2]) (fun i_ => (tk.length + 1) - i_.1) (0, (List.replicate ((tk.length + 1) * (tk.length + 1)) (List.replicate g.names.toNat false))) ?_ ⟨rfl, rfl, rfl, rfl, rfl, trivial⟩ (fun w hw => hw.sub (by (repeat (first | exact SubL.nil | exact Pick.head | apply Pick.tail | apply SubL.cons)))) ?_
    · exact ⟨Nat.zero_le _, ki_new g tk _⟩
    intro i_ hpre
    obtain ⟨sz, tab⟩ := i_
    replace hpre : sz ≤ (tk.length + 1) ∧ KI g tk g.names.toNat sz 0 tab := hpre
    change CW _ _ _ _ [(1, .slice ta tk.length tc), (2, .pointer (some ⟨b2, 0, none⟩)), (5, .int .i64 (tk.length : Int)), (6, slN (tk.length + 1) b19), (9, .int .i64 (sz : Int))] (Sat (Old w0) w0 [cel b2 24 [.int .i64 g.terms, .int .i64 g.names, .slice a g.rules.length c], cel b19 53 (slL (tk.length + 1) (c1.map (·.1)) 0), lv2 54 g.names.toNat c1, tabA 4 (DDk c1) tab])
    obtain ⟨hsz, hI⟩ := hpre
    refine CW_seq ?_
    refine CW_seq ?_
    refine CW_region ?_
    refine OW_q (q_move rfl) rfl ?_
    refine OW_q (q_move rfl) rfl ?_
    refine OW_q (q_leq rfl rfl) rfl ?_
    refine OW_nil ?_
    refine EW_then ?_
    refine CW_cond rfl (fun h47 => ?_) (fun h47 => ?_)
    · skip
      have hsl : sz ≤ tk.length := by have := of_decide_eq_true h47; omega
      refine CW_skip ?_
      refine EW_then ?_
      refine CW_seq ?_
      refine CW_block ?_
      refine CW_seq ?_
      refine CW_region ?_
      refine OW_q (q_assign rfl) rfl ?_
      refine OW_nil ?_
      refine EW_then ?_
      refine CW_block ?_
      refine CW_loopP (ι := Nat × List (List Bool)) (fun i_ => i_.1 ≤ (tk.length + 1) ∧ KI g tk g.names.toNat sz i_.1 i_.2) (fun i_ => [(1, .slice ta tk.length tc), (2, .pointer (some ⟨b2, 0, none⟩)), (5, .int .i64 (tk.length : Int)), (6, slN (tk.length + 1) b19), (9, .int .i64 (sz : Int)), (10, .int .i64 (i_.1 : Int))]) (fun i_ => Sat (Old w0) w0 [cel b2 24 [.int .i64 g.terms, .int .i64 g.names, .slice a g.rules.length c], cel b19 53 (slL (tk.length + 1) (c1.map (·.1)) 0), lv2 54 g.names.toNat c1, tabA 4 (DDk c1) i_.2]) (fun i_ => (tk.length + 1) - i_.1) (0, tab) ?_ ⟨rfl, rfl, rfl, rfl, rfl, rfl, trivial⟩ (fun w hw => hw.sub (by (repeat (first | exact SubL.nil | exact Pick.head | apply Pick.tail | apply SubL.cons)))) ?_
      · exact ⟨Nat.zero_le _, hI⟩
      intro i_ hpre
      obtain ⟨fr, tab1⟩ := i_
      replace hpre : fr ≤ (tk.length + 1) ∧ KI g tk g.names.toNat sz fr tab1 := hpre
      change CW _ _ _ _ [(1, .slice ta tk.length tc), (2, .pointer (some ⟨b2, 0, none⟩)), (5, .int .i64 (tk.length : Int)), (6, slN (tk.length + 1) b19), (9, .int .i64 (sz : Int)), (10, .int .i64 (fr : Int))] (Sat (Old w0) w0 [cel b2 24 [.int .i64 g.terms, .int .i64 g.names, .slice a g.rules.length c], cel b19 53 (slL (tk.length + 1) (c1.map (·.1)) 0), lv2 54 g.names.toNat c1, tabA 4 (DDk c1) tab1])
      obtain ⟨hfr, hI1⟩ := hpre
      refine CW_seq ?_
      refine CW_seq ?_
      refine CW_region ?_
      refine OW_q (q_move rfl) rfl ?_
      refine OW_q (q_move rfl) rfl ?_
      first | refine OW_q (q_inc rfl rfl (by omega)) rfl ?_ | refine OW_q (q_add rfl rfl (by omega) (by omega)) rfl ?_
      refine OW_q (q_move rfl) rfl ?_
      refine OW_q (q_leq rfl rfl) rfl ?_
      refine OW_nil ?_
      refine EW_then ?_
      refine CW_cond rfl (fun h54 => ?_) (fun h54 => ?_)
      · skip
        have hfs : fr + sz ≤ tk.length := by have := of_decide_eq_true h54; omega
        obtain ⟨⟨cf, df⟩, hcc⟩ := get_of_lt (l := c1) (k := fr) (by omega)
        have hdl : df.length = (tk.length + 1) := hcp _ (List.mem_of_getElem? hcc)
        obtain ⟨d0, hd0⟩ := get_of_lt (l := df) (k := fr + sz) (by omega)
        have hcf : (slL (tk.length + 1) (c1.map (·.1)) 0)[fr]? = some (slN (tk.length + 1) cf) := slL_get (by rw [List.getElem?_map, hcc]; rfl)
        have hdt : (slL g.names.toNat df 0)[fr + sz]? = some (slN g.names.toNat d0) := slL_get hd0
        have hmf : (c1.map (fun p => cel p.1 54 (slL g.names.toNat p.2 0)))[fr]? = some (cel cf 54 (slL g.names.toNat df 0)) := by rw [List.getElem?_map, hcc]; rfl
        have hfl := flat_lt (N := (tk.length + 1)) (i := fr) (j := fr + sz) (by omega) (by omega)
        have hbl : (DDk c1)[fr * (tk.length + 1) + (fr + sz)]? = some d0 := by rw [ddk_get hcp hcc (by omega)]; exact hd0
        obtain ⟨ix, hix⟩ : ∃ ix : Int, ix = ((fr * (tk.length + 1) + (fr + sz) : Nat) : Int) := ⟨_, rfl⟩
        refine CW_skip ?_
        refine EW_then ?_
        refine CW_seq ?_
        refine CW_block ?_
        refine CW_seq ?_
        refine CW_region ?_
        refine OW_q (q_move rfl) rfl ?_
        refine OW_q (q_move rfl) rfl ?_
        first | refine OW_q (q_inc rfl rfl (by omega)) rfl ?_ | refine OW_q (q_add rfl rfl (by omega) (by omega)) rfl ?_
        refine OW_q (q_assign rfl) rfl ?_
        refine OW_nil ?_
        refine EW_then ?_
        refine CW_seq ?_
        refine CW_region ?_
        refine OW_q (q_assign rfl) rfl ?_
        refine OW_nil ?_
        refine EW_then ?_
        refine CW_block ?_
        refine CW_loopP (ι := Bool × List (List Bool)) (fun i_ => KI g tk g.names.toNat sz fr i_.2 ∧ (i_.1 = false → (∀ r ∈ g.rules, YK (knF (tk.length + 1) i_.2) tk r.right fr (fr + sz) → knF (tk.length + 1) i_.2 fr (fr + sz) r.left = true))) (fun i_ => [(1, .slice ta tk.length tc), (2, .pointer (some ⟨b2, 0, none⟩)), (5, .int .i64 (tk.length : Int)), (6, slN (tk.length + 1) b19), (9, .int .i64 (sz : Int)), (10, .int .i64 (fr : Int)), (11, .int .i64 ((fr + sz : Nat) : Int)), (12, .bool i_.1)]) (fun i_ => Sat (Old w0) w0 [cel b2 24 [.int .i64 g.terms, .int .i64 g.names, .slice a g.rules.length c], cel b19 53 (slL (tk.length + 1) (c1.map (·.1)) 0), lv2 54 g.names.toNat c1, tabA 4 (DDk c1) i_.2]) (fun i_ => 2 * fls2 i_.2 + (if i_.1 = true then 1 else 0)) (true, tab1) ?_ ⟨rfl, rfl, rfl, rfl, rfl, rfl, rfl, rfl, trivial⟩ (fun w hw => hw.sub (by (repeat (first | exact SubL.nil | exact Pick.head | apply Pick.tail | apply SubL.cons)))) ?_
        · exact ⟨hI1, fun h => by cases h⟩
        intro i_ hpre
        obtain ⟨ag, tab2⟩ := i_
        replace hpre : KI g tk g.names.toNat sz fr tab2 ∧ (ag = false → (∀ r ∈ g.rules, YK (knF (tk.length + 1) tab2) tk r.right fr (fr + sz) → knF (tk.length + 1) tab2 fr (fr + sz) r.left = true)) := hpre
        change CW _ _ _ _ [(1, .slice ta tk.length tc), (2, .pointer (some ⟨b2, 0, none⟩)), (5, .int .i64 (tk.length : Int)), (6, slN (tk.length + 1) b19), (9, .int .i64 (sz : Int)), (10, .int .i64 (fr : Int)), (11, .int .i64 ((fr + sz : Nat) : Int)), (12, .bool ag)] (Sat (Old w0) w0 [cel b2 24 [.int .i64 g.terms, .int .i64 g.names, .slice a g.rules.length c], cel b19 53 (slL (tk.length + 1) (c1.map (·.1)) 0), lv2 54 g.names.toNat c1, tabA 4 (DDk c1) tab2])
        obtain ⟨hI2, hcl2⟩ := hpre
        refine CW_seq ?_
        refine CW_seq ?_
        refine CW_region ?_
        refine OW_q (q_move rfl) rfl ?_
        refine OW_nil ?_
        refine EW_then ?_
        refine CW_cond rfl (fun h60 => ?_) (fun h60 => ?_)
        · skip
          refine CW_skip ?_
          refine EW_then ?_
          refine CW_block ?_
          refine CW_seq ?_
          refine CW_region ?_
          refine OW_q (q_assign rfl) rfl ?_
          refine OW_nil ?_
          refine EW_then ?_
          refine CW_seq ?_
          refine CW_region ?_
          refine OW_q (q_assign rfl) rfl ?_
          refine OW_nil ?_
          refine EW_then ?_
          refine CW_block ?_
          refine CW_loopP (ι := Nat × Bool × List (List Bool)) (fun i_ => i_.1 ≤ g.rules.length ∧ KI g tk g.names.toNat sz fr i_.2.2 ∧ (i_.2.1 = false → i_.2.2 = tab2 ∧ (∀ r ∈ g.rules.take i_.1, YK (knF (tk.length + 1) i_.2.2) tk r.right fr (fr + sz) → knF (tk.length + 1) i_.2.2 fr (fr + sz) r.left = true)) ∧ (i_.2.1 = true → fls2 i_.2.2 < fls2 tab2)) (fun i_ => [(1, .slice ta tk.length tc), (2, .pointer (some ⟨b2, 0, none⟩)), (5, .int .i64 (tk.length : Int)), (6, slN (tk.length + 1) b19), (9, .int .i64 (sz : Int)), (10, .int .i64 (fr : Int)), (11, .int .i64 ((fr + sz : Nat) : Int)), (12, .bool i_.2.1), (13, .int .i64 (i_.1 : Int))]) (fun i_ => Sat (Old w0) w0 [cel b2 24 [.int .i64 g.terms, .int .i64 g.names, .slice a g.rules.length c], cel b19 53 (slL (tk.length + 1) (c1.map (·.1)) 0), lv2 54 g.names.toNat c1, tabA 4 (DDk c1) i_.2.2]) (fun i_ => g.rules.length - i_.1) (0, false, tab2) ?_ ⟨rfl, rfl, rfl, rfl, rfl, rfl, rfl, rfl, rfl, trivial⟩ (fun w hw => hw.sub (by (repeat (first | exact SubL.nil | exact Pick.head | apply Pick.tail | apply SubL.cons)))) ?_
          · exact ⟨Nat.zero_le _, hI2, (fun _ => ⟨rfl, fun r hr => by simp at hr⟩), (fun h => by cases h)⟩
          intro i_ hpre
          obtain ⟨k, ag2, tab3⟩ := i_
          replace hpre : k ≤ g.rules.length ∧ KI g tk g.names.toNat sz fr tab3 ∧ (ag2 = false → tab3 = tab2 ∧ (∀ r ∈ g.rules.take k, YK (knF (tk.length + 1) tab3) tk r.right fr (fr + sz) → knF (tk.length + 1) tab3 fr (fr + sz) r.left = true)) ∧ (ag2 = true → fls2 tab3 < fls2 tab2) := hpre
          change CW _ _ _ _ [(1, .slice ta tk.length tc), (2, .pointer (some ⟨b2, 0, none⟩)), (5, .int .i64 (tk.length : Int)), (6, slN (tk.length + 1) b19), (9, .int .i64 (sz : Int)), (10, .int .i64 (fr : Int)), (11, .int .i64 ((fr + sz : Nat) : Int)), (12, .bool ag2), (13, .int .i64 (k : Int))] (Sat (Old w0) w0 [cel b2 24 [.int .i64 g.terms, .int .i64 g.names, .slice a g.rules.length c], cel b19 53 (slL (tk.length + 1) (c1.map (·.1)) 0), lv2 54 g.names.toNat c1, tabA 4 (DDk c1) tab3])
          obtain ⟨hk, hI3, hag1, hag2⟩ := hpre
          refine CW_seq ?_
          refine CW_seq ?_
          refine CW_region ?_
          refine OW_q (q_move rfl) rfl ?_
          refine OW_q (q_fieldAddr Try.underlying24 rfl rfl Try.sizeOf22 rfl rfl) rfl ?_
          first | (refine OW_q (q_load1_own Try.isAgg22 rfl rfl (by (repeat (first | exact .head | apply Swap.tail))) (by rfl)) rfl ?_) | (refine OW_q (q_load1_ro Try.isAgg22 rfl (by first | assumption | exact Row.at_ (by assumption) rfl)) rfl ?_)
          refine OW_q (q_len Try.underlying22 rfl) rfl ?_
          refine OW_q (q_lss rfl rfl) rfl ?_
          refine OW_nil ?_
          refine EW_then ?_
          refine CW_cond rfl (fun h65 => ?_) (fun h65 => ?_)
          · skip
            have hlk : k < g.rules.length := by have := of_decide_eq_true h65; omega
            obtain ⟨q, hq⟩ := get_of_lt hlk
            obtain ⟨p, rfl, rvq, hsy, hrowq⟩ := hrs k q hq
            have hrq := may_rule hm hq
            obtain ⟨ya, yc, rfl, hy1, hy2, hys⟩ := id hsy
            have hqs : ∀ s ∈ q.right, s.term = false → 0 ≤ s.n ∧ s.n < ((g.names.toNat : Nat) : Int) := fun s hs ht => by
              obtain ⟨js, hjs⟩ := List.getElem?_of_mem hs
              have := may_sym hm hq hjs
              have h2 := this.2.2 ht
              omega
            have hlr : 0 ≤ q.left ∧ q.left < g.names := ⟨hrq.1, hrq.2.1⟩
            have hrow0 := row2_get (tab := tab3) (n := ix) (by omega) (by rw [hI3.dim.1]; omega)
            have hrow : tab3[fr * (tk.length + 1) + (fr + sz)]? = some (row2 tab3 ix) := by rw [hix] at hrow0 ⊢; exact hrow0
            have hrl := hI3.dim.row (n := ix) (by omega) (by omega)
            have hrb : (row2 tab3 ix)[q.left.toNat]? = some (at2 tab3 ix q.left) := atB_get hlr.1 (by omega)
            refine CW_skip ?_
            refine EW_then ?_
            refine CW_seq ?_
            refine CW_block ?_
            refine CW_seq ?_
            refine CW_region ?_
            refine OW_q (q_fieldAddr Try.underlying24 rfl rfl Try.sizeOf22 rfl rfl) rfl ?_
            first | (refine OW_q (q_load1_own Try.isAgg22 rfl rfl (by (repeat (first | exact .head | apply Swap.tail))) (by rfl)) rfl ?_) | (refine OW_q (q_load1_ro Try.isAgg22 rfl (by first | assumption | exact Row.at_ (by assumption) rfl)) rfl ?_)
            refine OW_q (q_move rfl) rfl ?_
            refine OW_q (q_indexAddr Try.underlying22 Try.sizeOf49 rfl rfl (by first | omega | assumption)) rfl ?_
            refine OW_q (q_loadN_ro Try.isAgg49 Try.sizeOf49 rfl (by first | exact hrowq) (by rfl)) rfl ?_
            refine OW_e (e_alloc Try.zeroValue49 rfl) rfl (fun b14 => ?_)
            refine OW_e0 (e_storeN Try.sizeOf49 rfl rfl rfl rfl (by simp [Value.oneCell']) (by (repeat (first | exact .head | apply Swap.tail))) (by rfl)) (fun _ => ?_)
            refine OW_nil ?_
            refine EW_then ?_
            refine CW_seq ?_
            refine CW_drawS 21 [(0, false), (1, false), (2, false), (3, false), (4, false), (5, false), (6, false), (7, false), (8, false), (9, false), (10, false), (11, false), (12, false), (13, false), (14, false), (15, false), (16, false), (17, false), (18, false), (19, true), (20, false)] (by kernel_rfl) (Blind.then (Blind.block (Blind.then (Blind.again (Blind.block (Blind.block (Blind.again (Blind.block (Blind.block (Blind.then (Blind.again (Blind.block (Blind.block (Blind.then (Blind.again (Blind.block (Blind.then (Blind.body (by intro c w h; simp at h))))))))))))))))))) (by kernel_rfl) (fun w hw => hw.drew) ?_
            refine DW_q rfl (fun w hw => hw.sub (by (repeat (first | exact SubL.nil | exact Pick.head | apply Pick.tail | apply SubL.cons)))) (q_move rfl) rfl ?_
            refine DW_q rfl (fun w hw => hw.sub (by (repeat (first | exact SubL.nil | exact Pick.head | apply Pick.tail | apply SubL.cons)))) (q_move rfl) rfl ?_
            refine DW_q rfl (fun w hw => hw.sub (by (repeat (first | exact SubL.nil | exact Pick.head | apply Pick.tail | apply SubL.cons)))) (q_indexAddr Try.underlying52 Try.sizeOf53 rfl rfl (by first | omega | assumption)) rfl ?_
            refine DW_q rfl (fun w hw => hw.sub (by repeat (first | exact SubL.nil | exact Pick.head | apply Pick.tail | apply SubL.cons))) (q_load1_own (b := b19) (off := fr) Try.isAgg53 rfl (by simp [Addr.add_lit]) (by repeat (first | exact .head | apply Swap.tail)) hcf) rfl ?_
            refine DW_q rfl (fun w hw => hw.sub (by (repeat (first | exact SubL.nil | exact Pick.head | apply Pick.tail | apply SubL.cons)))) (q_move rfl) rfl ?_
            refine DW_q rfl (fun w hw => hw.sub (by (repeat (first | exact SubL.nil | exact Pick.head | apply Pick.tail | apply SubL.cons)))) (q_indexAddr Try.underlying53 Try.sizeOf54 rfl rfl (by first | omega | assumption)) rfl ?_
            refine DW_q rfl (fun w hw => hw.sub (by repeat (first | exact SubL.nil | exact Pick.head | apply Pick.tail | apply SubL.cons))) (q_load1_own (b := cf) (off := fr + sz) Try.isAgg54 rfl (by simp [Addr.add_lit]) ((Hole.tail (Hole.tail (Hole.tail (Hole.big (Hole.idx hmf))))).swap (cel cf 54 (slL g.names.toNat df 0))) hdt) rfl ?_
            refine DW_q rfl (fun w hw => hw.sub (by (repeat (first | exact SubL.nil | exact Pick.head | apply Pick.tail | apply SubL.cons)))) (q_fieldAddr Try.underlying49 rfl rfl Try.sizeOf3 rfl rfl) rfl ?_
            first | (refine DW_q rfl (fun w hw => hw.sub (by (repeat (first | exact SubL.nil | exact Pick.head | apply Pick.tail | apply SubL.cons)))) (q_load1_own Try.isAgg3 rfl rfl (by (repeat (first | exact .head | apply Swap.tail))) (by rfl)) rfl ?_) | (refine DW_q rfl (fun w hw => hw.sub (by (repeat (first | exact SubL.nil | exact Pick.head | apply Pick.tail | apply SubL.cons)))) (q_load1_ro Try.isAgg3 rfl (by first | assumption | exact Row.at_ (by assumption) rfl)) rfl ?_)
            refine DW_q rfl (fun w hw => hw.sub (by (repeat (first | exact SubL.nil | exact Pick.head | apply Pick.tail | apply SubL.cons)))) (q_indexAddrI Try.underlying54 Try.sizeOf4 rfl rfl (by first | omega | assumption) (by first | omega | assumption)) rfl ?_
            refine DW_q rfl (fun w hw => hw.sub (by repeat (first | exact SubL.nil | exact Pick.head | apply Pick.tail | apply SubL.cons))) (q_load_bools (l := row2 tab3 ix) Try.isAgg4 rfl ((Hole.tail (Hole.tail (Hole.tail (Hole.tail (Hole.tab hbl hrow))))).swap _) hrb) rfl ?_
            refine DW_q rfl (fun w hw => hw.sub (by (repeat (first | exact SubL.nil | exact Pick.head | apply Pick.tail | apply SubL.cons)))) (q_not rfl) rfl ?_
            refine DW_q rfl (fun w hw => hw.sub (by (repeat (first | exact SubL.nil | exact Pick.head | apply Pick.tail | apply SubL.cons)))) (q_move rfl) rfl ?_
            refine DW_part (t := 85) rfl (fun hg85 => ?_) (fun hg85 => ?_)
            · skip
              refine DW_qg rfl (fun w hw => hw.sub (by (repeat (first | exact SubL.nil | exact Pick.head | apply Pick.tail | apply SubL.cons)))) rfl rfl rfl (q_fieldAddr Try.underlying49 rfl rfl Try.sizeOf46 rfl rfl) rfl ?_
              first | (refine DW_qg rfl (fun w hw => hw.sub (by (repeat (first | exact SubL.nil | exact Pick.head | apply Pick.tail | apply SubL.cons)))) rfl rfl rfl (q_load1_own Try.isAgg46 rfl rfl (by (repeat (first | exact .head | apply Swap.tail))) (by rfl)) rfl ?_) | (refine DW_qg rfl (fun w hw => hw.sub (by (repeat (first | exact SubL.nil | exact Pick.head | apply Pick.tail | apply SubL.cons)))) rfl rfl rfl (q_load1_ro Try.isAgg46 rfl (by first | assumption | exact Row.at_ (by assumption) rfl)) rfl ?_)
              refine DW_qg rfl (fun w hw => hw.sub (by (repeat (first | exact SubL.nil | exact Pick.head | apply Pick.tail | apply SubL.cons)))) rfl rfl rfl (q_move rfl) rfl ?_
              refine DW_qg rfl (fun w hw => hw.sub (by (repeat (first | exact SubL.nil | exact Pick.head | apply Pick.tail | apply SubL.cons)))) rfl rfl rfl (q_move rfl) rfl ?_
              refine DW_qg rfl (fun w hw => hw.sub (by (repeat (first | exact SubL.nil | exact Pick.head | apply Pick.tail | apply SubL.cons)))) rfl rfl rfl (q_move rfl) rfl ?_
              refine DW_qg rfl (fun w hw => hw.sub (by (repeat (first | exact SubL.nil | exact Pick.head | apply Pick.tail | apply SubL.cons)))) rfl rfl rfl (q_move rfl) rfl ?_
              refine DW_eg rfl rfl rfl rfl (e_call Try.call24 rfl (fun w hw => lift_oldP (yieldsK_any _ _ _ q.right tk (knF (tk.length + 1) tab3) g.names.toNat fr (fr + sz) w (hsy.mono (fun _ _ h => hw.rd h)) (hd'.mono (fun _ _ h => hw.rd h)) (hw.knAt (T1 := 53) (T2 := 54) (T3 := 4) (c := c1) (tab := tab3) (by repeat (first | exact .head | apply Swap.tail)) (by repeat (first | exact .head | apply Swap.tail)) (by repeat (first | exact .head | apply Swap.tail)) hcl hcp hI3.dim) hqs (by omega) (by omega) htk (by omega)) hw)) rfl (fun _ w hw => by first | exact hw.sub (by (repeat (first | exact SubL.nil | exact Pick.head | apply Pick.tail | apply SubL.cons))) | exact hw.2.sub (by (repeat (first | exact SubL.nil | exact Pick.head | apply Pick.tail | apply SubL.cons)))) (fun x92 => ?_)
              refine DW_pure fun hx92 => ?_
              refine DW_q rfl (fun w hw => hw.sub (by (repeat (first | exact SubL.nil | exact Pick.head | apply Pick.tail | apply SubL.cons)))) (q_pick_t rfl rfl) rfl ?_
              refine DW_nil ?_
              refine EW_then ?_
              refine CW_cond rfl (fun h93 => ?_) (fun h93 => ?_)
              · skip
                refine CW_seq ?_
                refine CW_drawS 10 [(0, false), (1, false), (2, false), (3, false), (4, false), (5, false), (6, false), (7, false), (8, false), (9, false), (10, true)] (by kernel_rfl) (Blind.then (Blind.block (Blind.then (Blind.again (Blind.block (Blind.block (Blind.again (Blind.block (Blind.block (Blind.then (Blind.again (Blind.block (Blind.block (Blind.then (Blind.again (Blind.block (Blind.then (Blind.body (by intro c w h; simp at h))))))))))))))))))) (by kernel_rfl) (fun w hw => hw.drew) ?_
                refine DW_q rfl (fun w hw => hw.sub (by (repeat (first | exact SubL.nil | exact Pick.head | apply Pick.tail | apply SubL.cons)))) (q_move rfl) rfl ?_
                refine DW_q rfl (fun w hw => hw.sub (by (repeat (first | exact SubL.nil | exact Pick.head | apply Pick.tail | apply SubL.cons)))) (q_move rfl) rfl ?_
                refine DW_q rfl (fun w hw => hw.sub (by (repeat (first | exact SubL.nil | exact Pick.head | apply Pick.tail | apply SubL.cons)))) (q_indexAddr Try.underlying52 Try.sizeOf53 rfl rfl (by first | omega | assumption)) rfl ?_
                refine DW_q rfl (fun w hw => hw.sub (by repeat (first | exact SubL.nil | exact Pick.head | apply Pick.tail | apply SubL.cons))) (q_load1_own (b := b19) (off := fr) Try.isAgg53 rfl (by simp [Addr.add_lit]) (by repeat (first | exact .head | apply Swap.tail)) hcf) rfl ?_
                refine DW_q rfl (fun w hw => hw.sub (by (repeat (first | exact SubL.nil | exact Pick.head | apply Pick.tail | apply SubL.cons)))) (q_move rfl) rfl ?_
                refine DW_q rfl (fun w hw => hw.sub (by (repeat (first | exact SubL.nil | exact Pick.head | apply Pick.tail | apply SubL.cons)))) (q_indexAddr Try.underlying53 Try.sizeOf54 rfl rfl (by first | omega | assumption)) rfl ?_
                refine DW_q rfl (fun w hw => hw.sub (by repeat (first | exact SubL.nil | exact Pick.head | apply Pick.tail | apply SubL.cons))) (q_load1_own (b := cf) (off := fr + sz) Try.isAgg54 rfl (by simp [Addr.add_lit]) ((Hole.tail (Hole.tail (Hole.tail (Hole.big (Hole.idx hmf))))).swap (cel cf 54 (slL g.names.toNat df 0))) hdt) rfl ?_
                refine DW_q rfl (fun w hw => hw.sub (by (repeat (first | exact SubL.nil | exact Pick.head | apply Pick.tail | apply SubL.cons)))) (q_fieldAddr Try.underlying49 rfl rfl Try.sizeOf3 rfl rfl) rfl ?_
                first | (refine DW_q rfl (fun w hw => hw.sub (by (repeat (first | exact SubL.nil | exact Pick.head | apply Pick.tail | apply SubL.cons)))) (q_load1_own Try.isAgg3 rfl rfl (by (repeat (first | exact .head | apply Swap.tail))) (by rfl)) rfl ?_) | (refine DW_q rfl (fun w hw => hw.sub (by (repeat (first | exact SubL.nil | exact Pick.head | apply Pick.tail | apply SubL.cons)))) (q_load1_ro Try.isAgg3 rfl (by first | assumption | exact Row.at_ (by assumption) rfl)) rfl ?_)
                refine DW_q rfl (fun w hw => hw.sub (by (repeat (first | exact SubL.nil | exact Pick.head | apply Pick.tail | apply SubL.cons)))) (q_indexAddrI Try.underlying54 Try.sizeOf4 rfl rfl (by first | omega | assumption) (by first | omega | assumption)) rfl ?_
                refine DW_z0 rfl (e_store_bools (l := row2 tab3 ix) Try.sizeOf4 rfl rfl ((Hole.tail (Hole.tail (Hole.tail (Hole.tail (Hole.tab hbl hrow))))).swap _) (by omega)) (fun _ => ?_)
                refine EW_then ?_
                refine CW_region ?_
                refine OW_q (q_assign rfl) rfl ?_
                refine OW_nil ?_
                refine EW_block_normal ?_
                refine EW_then ?_
                refine CW_region ?_
                refine OW_q (q_move rfl) rfl ?_
                first | refine OW_q (q_inc rfl rfl (by omega)) rfl ?_ | refine OW_q (q_add rfl rfl (by omega) (by omega)) rfl ?_
                refine OW_q (q_assign rfl) rfl ?_
                refine OW_nil ?_
                refine EW_weak (S' := Sat (Old w0) w0 [cel b2 24 [.int .i64 g.terms, .int .i64 g.names, .slice (some p) g.rules.length c], cel b19 53 (slL (tk.length + 1) (c1.map (·.1)) 0), lv2 54 g.names.toNat c1, tabA 4 (DDk c1) (put2 tab3 ix q.left)]) (fun w hw => by
                  rw [tabL_set (i := fr * (tk.length + 1) + (fr + sz)) hbl] at hw
                  have e : put2 tab3 ix q.left = tab3.set (fr * (tk.length + 1) + (fr + sz)) ((row2 tab3 ix).set q.left.toNat true) := by rw [hix]; rfl
                  rw [e]
                  exact Sat.sub (hw : Sat _ _ (_ :: _ :: _ :: _ :: tabA 4 (DDk c1) (tab3.set (fr * (tk.length + 1) + (fr + sz)) ((row2 tab3 ix).set q.left.toNat true)) :: _) w) (by repeat (first | exact SubL.nil | exact Pick.head | apply Pick.tail | apply SubL.cons))) ?_
                refine EW_again ((k + 1, true, put2 tab3 ix q.left)) ⟨?_, ?_⟩ ⟨rfl, rfl, rfl, rfl, rfl, rfl, rfl, rfl, rfl, trivial⟩ (fun w hw => hw.sub (by (repeat (first | exact SubL.nil | exact Pick.head | apply Pick.tail | apply SubL.cons))))
                · show g.rules.length - (k + 1) < g.rules.length - k; omega
                · have hlt2 : fls2 (put2 tab3 ix q.left) < fls2 tab3 := put2_less (by omega) (by rw [hI3.dim.1]; omega) hlr.1 (by omega) (by simpa using hg85)
                  refine ⟨by show k + 1 ≤ _; omega, by have h9 := hI3.put (i := fr) (j := fr + sz) (by omega) (by omega) hlr.1 (by omega) (List.mem_of_getElem? hq) (hx92.1 h93); rw [← hix] at h9; exact h9, (fun h => by cases h), fun _ => ?_⟩
                  show fls2 (put2 tab3 ix q.left) < fls2 tab2
                  cases hag : ag2 with
                  | false => rw [(hag1 hag).1] at hlt2 ⊢; exact hlt2
                  | true => have := hag2 hag; omega
              · skip
                refine CW_skip ?_
                refine EW_block_normal ?_
                refine EW_then ?_
                refine CW_region ?_
                refine OW_q (q_move rfl) rfl ?_
                first | refine OW_q (q_inc rfl rfl (by omega)) rfl ?_ | refine OW_q (q_add rfl rfl (by omega) (by omega)) rfl ?_
                refine OW_q (q_assign rfl) rfl ?_
                refine OW_nil ?_
                refine EW_again ((k + 1, ag2, tab3)) ⟨?_, ?_⟩ ⟨rfl, rfl, rfl, rfl, rfl, rfl, rfl, rfl, rfl, trivial⟩ (fun w hw => hw.sub (by (repeat (first | exact SubL.nil | exact Pick.head | apply Pick.tail | apply SubL.cons))))
                · show g.rules.length - (k + 1) < g.rules.length - k; omega
                · refine ⟨by show k + 1 ≤ _; omega, hI3, fun h => ⟨(hag1 h).1, fun r hr hy => ?_⟩, hag2⟩
                  have hr : r ∈ g.rules.take (k + 1) := hr
                  rw [take_next hq, List.mem_append] at hr
                  rcases hr with hr | hr
                  · exact (hag1 h).2 r hr hy
                  · rw [List.mem_singleton.1 hr] at hy
                    exact absurd (hx92.2 hy) (by simp [h93])
            · skip
              refine DW_skip rfl (fun w hw => hw.sub (by (repeat (first | exact SubL.nil | exact Pick.head | apply Pick.tail | apply SubL.cons)))) rfl rfl rfl rfl ?_
              refine DW_skip rfl (fun w hw => hw.sub (by (repeat (first | exact SubL.nil | exact Pick.head | apply Pick.tail | apply SubL.cons)))) rfl rfl rfl rfl ?_
              refine DW_skip rfl (fun w hw => hw.sub (by (repeat (first | exact SubL.nil | exact Pick.head | apply Pick.tail | apply SubL.cons)))) rfl rfl rfl rfl ?_
              refine DW_skip rfl (fun w hw => hw.sub (by (repeat (first | exact SubL.nil | exact Pick.head | apply Pick.tail | apply SubL.cons)))) rfl rfl rfl rfl ?_
              refine DW_skip rfl (fun w hw => hw.sub (by (repeat (first | exact SubL.nil | exact Pick.head | apply Pick.tail | apply SubL.cons)))) rfl rfl rfl rfl ?_
              refine DW_skip rfl (fun w hw => hw.sub (by (repeat (first | exact SubL.nil | exact Pick.head | apply Pick.tail | apply SubL.cons)))) rfl rfl rfl rfl ?_
              refine DW_eskip rfl (fun w hw => hw.sub (by (repeat (first | exact SubL.nil | exact Pick.head | apply Pick.tail | apply SubL.cons)))) rfl rfl rfl rfl ?_
              refine DW_q rfl (fun w hw => hw.sub (by (repeat (first | exact SubL.nil | exact Pick.head | apply Pick.tail | apply SubL.cons)))) (q_pick_f rfl rfl) rfl ?_
              refine DW_nil ?_
              refine EW_then ?_
              refine CW_false rfl rfl ?_
              refine CW_skip ?_
              refine EW_block_normal ?_
              refine EW_then ?_
              refine CW_region ?_
              refine OW_q (q_move rfl) rfl ?_
              first | refine OW_q (q_inc rfl rfl (by omega)) rfl ?_ | refine OW_q (q_add rfl rfl (by omega) (by omega)) rfl ?_
              refine OW_q (q_assign rfl) rfl ?_
              refine OW_nil ?_
              refine EW_again ((k + 1, ag2, tab3)) ⟨?_, ?_⟩ ⟨rfl, rfl, rfl, rfl, rfl, rfl, rfl, rfl, rfl, trivial⟩ (fun w hw => hw.sub (by (repeat (first | exact SubL.nil | exact Pick.head | apply Pick.tail | apply SubL.cons))))
              · show g.rules.length - (k + 1) < g.rules.length - k; omega
              · refine ⟨by show k + 1 ≤ _; omega, hI3, fun h => ⟨(hag1 h).1, fun r hr hy => ?_⟩, hag2⟩
                have hr : r ∈ g.rules.take (k + 1) := hr
                rw [take_next hq, List.mem_append] at hr
                rcases hr with hr | hr
                · exact (hag1 h).2 r hr hy
                · rw [List.mem_singleton.1 hr, knF_in (by omega) (by omega) hlr.1, ← hix]
                  simpa using hg85
          · skip
            refine CW_exit ?_
            refine EW_then_exit ?_
            refine EW_out ?_
            refine EW_block_exit ?_
            refine EW_block_normal ?_
            refine EW_again ((ag2, tab3)) ⟨?_, ?_⟩ ⟨rfl, rfl, rfl, rfl, rfl, rfl, rfl, rfl, trivial⟩ (fun w hw => hw.sub (by (repeat (first | exact SubL.nil | exact Pick.head | apply Pick.tail | apply SubL.cons))))
            · show 2 * fls2 tab3 + (if ag2 = true then 1 else 0) < 2 * fls2 tab2 + (if ag = true then 1 else 0)
              have h60' : ag = true := h60
              rw [h60', if_pos rfl]
              cases hag : ag2 with
              | false => rw [(hag1 hag).1]; simp
              | true => have := hag2 hag; simp; omega
            · refine ⟨hI3, fun e r hr => ?_⟩
              have e : ag2 = false := e
              refine (hag1 e).2 r ?_
              rw [List.take_of_length_le (by have := of_decide_eq_false h65; omega)]
              exact hr
        · skip
          refine CW_exit ?_
          refine EW_then_exit ?_
          refine EW_out ?_
          refine EW_block_exit ?_
          refine EW_block_normal ?_
          refine EW_then ?_
          refine CW_region ?_
          refine OW_q (q_move rfl) rfl ?_
          first | refine OW_q (q_inc rfl rfl (by omega)) rfl ?_ | refine OW_q (q_add rfl rfl (by omega) (by omega)) rfl ?_
          refine OW_q (q_assign rfl) rfl ?_
          refine OW_nil ?_
          refine EW_again ((fr + 1, tab2)) ⟨?_, ?_⟩ ⟨rfl, rfl, rfl, rfl, rfl, rfl, trivial⟩ (fun w hw => hw.sub (by (repeat (first | exact SubL.nil | exact Pick.head | apply Pick.tail | apply SubL.cons))))
          · show tk.length + 1 - (fr + 1) < tk.length + 1 - fr; omega
          · exact ⟨by show fr + 1 ≤ _; omega, hI2.next (hcl2 (by simpa using h60))⟩
      · skip
        refine CW_exit ?_
        refine EW_then_exit ?_
        refine EW_out ?_
        refine EW_block_exit ?_
        refine EW_block_normal ?_
        refine EW_then ?_
        refine CW_region ?_
        refine OW_q (q_move rfl) rfl ?_
        first | refine OW_q (q_inc rfl rfl (by omega)) rfl ?_ | refine OW_q (q_add rfl rfl (by omega) (by omega)) rfl ?_
        refine OW_q (q_assign rfl) rfl ?_
        refine OW_nil ?_
        refine EW_again ((sz + 1, tab1)) ⟨?_, ?_⟩ ⟨rfl, rfl, rfl, rfl, rfl, trivial⟩ (fun w hw => hw.sub (by (repeat (first | exact SubL.nil | exact Pick.head | apply Pick.tail | apply SubL.cons))))
        · show tk.length + 1 - (sz + 1) < tk.length + 1 - sz; omega
        · exact ⟨by show sz + 1 ≤ _; omega, hI1.size (by have := of_decide_eq_false h54; omega)⟩
    · skip
      have hse : sz = (tk.length + 1) := by have := of_decide_eq_false h47; omega
      obtain ⟨⟨cf, df⟩, hcc⟩ := get_of_lt (l := c1) (k := 0) (by omega)
      have hdl : df.length = (tk.length + 1) := hcp _ (List.mem_of_getElem? hcc)
      obtain ⟨d0, hd0⟩ := get_of_lt (l := df) (k := tk.length) (by omega)
      have hcf : (slL (tk.length + 1) (c1.map (·.1)) 0)[0]? = some (slN (tk.length + 1) cf) := slL_get (by rw [List.getElem?_map, hcc]; rfl)
      have hdt : (slL g.names.toNat df 0)[tk.length]? = some (slN g.names.toNat d0) := slL_get hd0
      have hmf : (c1.map (fun p => cel p.1 54 (slL g.names.toNat p.2 0)))[0]? = some (cel cf 54 (slL g.names.toNat df 0)) := by rw [List.getElem?_map, hcc]; rfl
      have hfl := flat_lt (N := (tk.length + 1)) (i := 0) (j := tk.length) (by omega) (by omega)
      have hbl : (DDk c1)[0 * (tk.length + 1) + tk.length]? = some d0 := by rw [ddk_get hcp hcc (by omega)]; exact hd0
      obtain ⟨ix, hix⟩ : ∃ ix : Int, ix = ((0 * (tk.length + 1) + tk.length : Nat) : Int) := ⟨_, rfl⟩
      have hrow0 := row2_get (tab := tab) (n := ix) (by omega) (by rw [hI.dim.1]; omega)
      have hrow : tab[0 * (tk.length + 1) + tk.length]? = some (row2 tab ix) := by rw [hix] at hrow0 ⊢; exact hrow0
      have hrl := hI.dim.row (n := ix) (by omega) (by omega)
      have hrb : (row2 tab ix)[(0 : Int).toNat]? = some (at2 tab ix 0) := atB_get (by omega) (by omega)
      refine CW_exit ?_
      refine EW_then_exit ?_
      refine EW_out ?_
      refine EW_block_exit ?_
      refine EW_then ?_
      refine CW_seq ?_
      refine CW_region ?_
      refine OW_q (q_move rfl) rfl ?_
      refine OW_q (q_indexAddrI Try.underlying52 Try.sizeOf53 rfl rfl (by first | omega | assumption) (by first | omega | assumption)) rfl ?_
      refine OW_q (q_load1_own (b := b19) (off := 0) Try.isAgg53 rfl (by simp [Addr.add_lit]) (by repeat (first | exact .head | apply Swap.tail)) hcf) rfl ?_
      refine OW_q (q_move rfl) rfl ?_
      refine OW_q (q_indexAddr Try.underlying53 Try.sizeOf54 rfl rfl (by first | omega | assumption)) rfl ?_
      refine OW_q (q_load1_own (b := cf) (off := tk.length) Try.isAgg54 rfl (by simp [Addr.add_lit]) ((Hole.tail (Hole.tail (Hole.big (Hole.idx hmf)))).swap (cel cf 54 (slL g.names.toNat df 0))) hdt) rfl ?_
      refine OW_q (q_indexAddrI Try.underlying54 Try.sizeOf4 rfl rfl (by first | omega | assumption) (by first | omega | assumption)) rfl ?_
      refine OW_q (q_load_bools (l := row2 tab ix) Try.isAgg4 rfl ((Hole.tail (Hole.tail (Hole.tail (Hole.tab hbl hrow)))).swap _) hrb) rfl ?_
      refine OW_q (q_assign rfl) rfl ?_
      refine OW_nil ?_
      refine EW_then ?_
      refine CW_ret ?_
      refine ret1 Try.results13 rfl (fun w hw => ?_)
      refine ⟨at2 tab ix 0, rfl, ?_, hw.sub .nil⟩
      have e : knF (tk.length + 1) tab 0 tk.length 0 = at2 tab ix 0 := by rw [knF_in (by omega) (by omega) (Int.le_refl _), hix]
      rw [← e]
      exact ⟨fun h => hI.snd _ _ _ h, fun h => hI.cmp 0 tk.length (by omega) (by omega) (by omega) 0 h⟩

end Go.Sy
