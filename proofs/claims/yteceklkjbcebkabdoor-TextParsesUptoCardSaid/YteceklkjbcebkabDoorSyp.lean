/- Copies, clears and appends over parts of an owned block. No condition. -/
import Derived.Test.YteceklkjbcebkabDoorSyx
import Derived.Lib.Overlaps
import Derived.Lib.SliceRun
import Derived.Laws.CopyRow
namespace Go.Sy
open Go Go.RowKit

section
variable {R : Nat → Prop} {w0 w : World} {L L' : List HP}
/-- Cells that can be read, be they nobody's or a part's own. -/
def VIn (R : Nat → Prop) (w0 : World) (F : HP) (sa : Option Addr) (vs : List Value) : Prop := ∀ h1, F h1 → ∀ w : World, (∀ b, R b → w.heap[b]? = w0.heap[b]?) → (∀ b o, h1 b = some o → w.heap[b]? = some o) →
  ∀ j u, vs[j]? = some u → ∃ a : Addr, sa = some a ∧ (R a.block ∨ (h1 a.block).isSome = true) ∧ w.cell? (a.add j) = some u
theorem VIn.nil {F : HP} {sa : Option Addr} : VIn R w0 F sa [] := fun _ _ _ _ _ j u hj => by cases hj
theorem VIn.ro {F : HP} {a : Addr} {vs : List Value} (h : Row (Rd R w0) a vs) : VIn R w0 F (some a) vs := fun _ _ w hR _ j u hj => by
  have h1 := h j u hj
  have hb : (a.add j).block = a.block := by unfold Addr.add; split <;> rfl
  have h2 : R a.block := by rw [← hb]; exact h1.1
  exact ⟨a, rfl, .inl h2, (World.cell?_of_block (hR _ h1.1)).trans h1.2⟩
theorem VIn.own {F : HP} {b off : Nat} {e : TypeId} {vs cs : List Value} (hF : ∀ h, F h → h b = some (.cells cs.toArray e (0, 0))) (hv : ∀ j u, vs[j]? = some u → cs[off + j]? = some u) : VIn R w0 F (some ⟨b, off, none⟩) vs := fun h1 hh w _ hw j u hj => by
  have hb := hF h1 hh
  refine ⟨_, rfl, .inr (by show (h1 b).isSome = true; rw [hb]; rfl), ?_⟩
  rw [Addr.add_lit]
  have := hw b _ hb
  have h3 := hv j u hj
  simp [World.cell?, this, h3]
theorem Sat.vin {F : HP} {sa : Option Addr} {vs : List Value} (s : Swap L F F L') (h : Sat R w0 L w) (hv : VIn R w0 F sa vs) : ∀ j u, vs[j]? = some u → ∃ a, sa = some a ∧ w.cell? (a.add j) = some u := by
  intro j u hj
  obtain ⟨x, hx, hy⟩ := h.own
  obtain ⟨h1, h2, hd, rfl, hA, _⟩ := s.focus x hx
  obtain ⟨a, e, _, hc⟩ := hv h1 hA w (fun b hb => (h.ro b hb).2) (fun b o hb => (hy b o (by simp [uni, hb])).2) j u hj
  exact ⟨a, e, hc⟩
theorem Sat.vapart {F : HP} {sa : Option Addr} {vs : List Value} {b : Nat} {o : Obj} (h : Sat R w0 (blk b o :: F :: L) w) (hv : VIn R w0 F sa vs) : ∀ (j : Nat) (u : Value), vs[j]? = some u → ∃ a : Addr, sa = some a ∧ b ≠ a.block ∧ ∃ T k, w.shape? a.block = some (T, k) ∧ k ≠ 0 := by
  intro j u hj
  obtain ⟨x, ⟨g1, g2, hd, rfl, hB, ⟨h1, h2, hd', rfl, hA, _⟩⟩, hy⟩ := h.own
  have hB : g1 = one b o := hB
  subst hB
  have hbb := hy b o (by simp [uni, one_same])
  obtain ⟨a, e, hwhere, hc⟩ := hv h1 hA w (fun b hb => (h.ro b hb).2) (fun b' o' hb => (hy b' o' (by
    rcases hd b' with e | e
    · simp [uni, e, hb]
    · simp [uni, hb] at e)).2) j u hj
  refine ⟨a, e, ?_, ?_⟩
  · intro e2
    subst e2
    rcases hwhere with hR | hS
    · exact hbb.1 hR
    · rcases hd a.block with e3 | e3
      · rw [one_same] at e3; cases e3
      · have : h1 a.block = none := by
          cases h9 : h1 a.block with
          | none => rfl
          | some o' => simp [uni, h9] at e3
        rw [this] at hS; cases hS
  · have hab : (a.add j).block = a.block := by unfold Addr.add; split <;> rfl
    unfold World.cell? at hc
    rw [hab] at hc
    unfold World.shape?
    split at hc
    · rename_i c T fr hh
      refine ⟨T, c.size, rfl, ?_⟩
      split at hc
      · cases hc
      · obtain ⟨h9, _⟩ := Array.getElem?_eq_some_iff.1 hc
        omega
    · cases hc
theorem Sat.openRow {e : TypeId} {size n g cap : Nat} {xs : List Value} (h : Sat R w0 (row e size (.slice (some ⟨g, 0, none⟩) n cap) n xs :: L) w) : ∃ rest, ((xs ++ rest).length = cap * size ∧ n ≤ cap ∧ cap ≤ maxLen ∧ xs.length = n * size) ∧ Sat R w0 (cel g e (xs ++ rest) :: L) w := by
  obtain ⟨x, ⟨h1, h2, hd, rfl, ⟨hl, _, ha⟩, hL⟩, hy⟩ := h.own
  rcases ha with ⟨h0, _⟩ | ⟨g', cap', rest, he, h3, h4, h5, rfl⟩
  · cases h0
  · injection he with e1 _ e3
    have hg : g = g' := by injection e1 with e; injection e
    subst hg
    subst e3
    exact ⟨rest, ⟨h5, h3, h4, hl⟩, h.os, h.tape, h.output, h.size, h.ro, _, ⟨_, h2, hd, rfl, rfl, hL⟩, hy⟩
theorem Sat.closeRow {e : TypeId} {size n g cap : Nat} {xs rest : List Value} (h : Sat R w0 (cel g e (xs ++ rest) :: L) w) (h1 : (xs ++ rest).length = cap * size) (h2 : n ≤ cap) (h3 : cap ≤ maxLen) (h4 : xs.length = n * size) : Sat R w0 (row e size (.slice (some ⟨g, 0, none⟩) n cap) n xs :: L) w :=
  h.swap .head fun _ hx => ⟨h4, Nat.le_trans h2 h3, .inr ⟨g, cap, rest, rfl, h2, h3, h1, hx⟩⟩
end

theorem sl_zero {b m h cap : Nat} : Value.slice (if cap = 0 then some ⟨b, 0, none⟩ else (some (⟨b, 0, none⟩ : Addr)).map (·.add (0 * m))) (h - 0) (cap - 0) = .slice (some ⟨b, 0, none⟩) h cap := by
  split <;> simp [Addr.add]
theorem sl_at {b m lo cap : Nat} (h : lo < cap) : (if cap = lo then some ⟨b, 0, none⟩ else (some (⟨b, 0, none⟩ : Addr)).map (·.add (lo * m))) = some ⟨b, lo * m, none⟩ := by
  rw [if_neg (by omega), Option.map_some, Addr.add_lit, Nat.zero_add]
theorem Sat.rowSl {R : Nat → Prop} {w0 : World} {e : TypeId} {size n : Nat} {v : Value} {xs : List Value} {A' : HP} {L L' : List HP} {w : World} (s : Swap L (row e size v n xs) A' L') (h : Sat R w0 L w) : ∃ p c, v = .slice p n c ∧ n ≤ c ∧ c ≤ maxLen := by
  obtain ⟨x, hx, _⟩ := h.own
  obtain ⟨_, _, _, _, hr, _⟩ := s.focus x hx
  exact row_form hr
section
variable {P : Program} {Q : Exit → Act → World → Prop} {n : Nat} {K : Env} {S : World → Prop} {dst : Option Nat} {T : TypeId} {pos : String} {af : Array Edge} {g : Option (Nat × Bool)} {R : Nat → Prop} {w0 : World} {L L' : List HP} [Inhabited (List Deferred)]
theorem CW_ex {α : Type} {S' : α → World → Prop} {c : Code} (hp : ∀ w, S w → ∃ x, S' x w) (h : ∀ x, CW P c Q n K (S' x)) : CW P c Q n K S := fun a w ha hw => let ⟨x, hx⟩ := hp w hw; h x a w ha hx
theorem CW_pure {p : Prop} {c : Code} (h : p → CW P c Q n K S) : CW P c Q n K (fun w => p ∧ S w) := fun a w ha hw => h hw.1 a w ha hw.2
theorem q_cap {C : World → Prop} {t e : TypeId} {x : Operand} {p : Option Addr} {len cap : Nat} (hu : P.underlying t = some (.slice e)) (hx : ev K x = some (.slice p len cap)) :
    Qt P n K C ⟨dst, .call { callee := .builtin .cap, args := #[x], argTypes := #[t] }, T, pos, af, g⟩ (.int .i64 (cap : Int)) := fun a ha w _ => by
  simp [execOp, resolve, invoke, builtin, ha.ev hx, Builtin.cap_, run_underlying hu, goInt]
theorem q_eqNilSlice {C : World → Prop} {t t' e : TypeId} {x y : Operand} {p : Option Addr} {len cap l2 c2 : Nat} (hu : P.underlying t = some (.slice e)) (hx : ev K x = some (.slice p len cap)) (hy : ev K y = some (.slice none l2 c2)) :
    Qt P n K C ⟨dst, .binOp .eql t x y t', T, pos, af, g⟩ (.bool p.isNone) := fun a ha w _ => by
  simp only [execOp, ha.ev hx, ha.ev hy]
  simp [eqGuard, Lib.run_eql_slice_nil w t e p len cap l2 c2 hu]
/-- A new row of no element. -/
theorem e_none {t e : TypeId} {m : Nat} {z : Value} (hu : P.underlying t = some (.slice e)) (hs : ∀ w, (sizeOf e).run P w = .ok m w) (hz : ∀ w, (zeroValue e).run P w = .ok z w) :
    Ef P n K (Sat R w0 L) ⟨dst, .buildSlice t 0 #[], T, pos, af, g⟩ (fun b : Nat => .slice (some ⟨b, 0, none⟩) 0 0) (fun b => Sat R w0 (cel b e ([] ++ []) :: L)) := by
  intro a w ha hw next Q h
  have := h w.heap.size _ (hw.alloc (.cells #[] e (0, 0)))
  simp only [Oper.wp, execOp]
  have hr : (Instr.buildSlice t 0 #[]).run P w = .ok (.slice (some ⟨w.heap.size, 0, none⟩) 0 0) (w.alloc (.cells #[] e)) := by
    simp [Instr.buildSlice, run_underlying hu, hs, hz, Instr.fill, newRow]
    have e0 : Array.range 0 = #[] := Array.eq_empty_of_size_eq_zero (by simp)
    rw [e0, Array.map_empty]
  simp only [Array.map_empty, Sem.run_bind, hr, Result.andThen_ok, Sem.run_pure, Oper.upon]
  exact this
/-- copy into a part of an owned block. -/
theorem e_copy {t t' e : TypeId} {x y : Operand} {i : TypeInfo} {b o dl dc sl sc size : Nat} {da sa : Option Addr} {Pre Q0 vs : List Value} (hu : P.underlying t = some (.slice e)) (hi : ∀ w, (typeInfo e).run P w = .ok i w) (hsize : i.size = size) (hsz : Nat.beq size 0 = false)
    (hx : ev K x = some (.slice da dl dc)) (hy : ev K y = some (.slice sa sl sc)) (hda : vs ≠ [] → da = some ⟨b, o, none⟩) (hn : vs.length = min sl dl * size)
    (hsrc : ∀ w, Sat R w0 L w → ∀ j u, vs[j]? = some u → ∃ a, sa = some a ∧ w.cell? (a.add j) = some u) (hP : Pre.length = o) (hQ : vs.length ≤ Q0.length) (h1 : ∀ u ∈ vs, u.oneCell' = true)
    (s : Swap L (cel b e (Pre ++ Q0)) (cel b e (Pre ++ (vs ++ Q0.drop vs.length))) L') :
    Ef P n K (Sat R w0 L) ⟨dst, .call { callee := .builtin .copy, args := #[x, y], argTypes := #[t, t'] }, T, pos, af, g⟩ (fun _ : Unit => .int .i64 ((min sl dl : Nat) : Int)) (fun _ => Sat R w0 L') := by
  intro a w ha hw next Q h
  subst hsize
  have hinfo := info_of P hi w
  have hsz' : i.size ≠ 0 := Nat.ne_of_beq_eq_false hsz
  have goal : ∀ w', (Builtin.copy_ #[t, t'] T #[.slice da dl dc, .slice sa sl sc]).run P w =   .ok (goInt ((min sl dl : Nat) : Int)) w' → Sat R w0 L' w' →
      Oper.wp P ⟨dst, .call { callee := .builtin .copy, args := #[x, y], argTypes := #[t, t'] }, T, pos, af, g⟩ a w next Q := by
    intro w' hr hS
    have := h () w' hS
    simp only [Oper.wp, execOp, resolve, invoke, builtin, Sem.run_bind, Sem.run_pure, Result.andThen_ok, List.map_toArray, List.map_cons, List.map_nil, ha.ev hx, ha.ev hy, hr, Oper.upon]
    exact this
  by_cases hv : vs = []
  · subst hv
    have hn0 : min sl dl = 0 := by
      have h9 : min sl dl * i.size = 0 := by simpa using hn.symm
      exact (Nat.mul_eq_zero.1 h9).resolve_right hsz'
    refine goal w ?_ (hw.swap s fun _ hh => hh)
    have hn1 : Nat.min sl dl = 0 := hn0
    have hl : ∀ (x : Addr), (loadCells x 0).run P w = .ok #[] w := fun x => by simpa using run_loadCells_list (P := P) w x [] (by simp)
    cases da <;> cases sa <;> simp [Builtin.copy_, run_underlying hu, Builtin.lenOf, Builtin.firstCells, sizeOf, typeInfo, hinfo, hn0, hn1, storeCells, hl]
  · obtain rfl := hda hv
    have hsr := hsrc w hw
    obtain ⟨u0, us, rfl⟩ : ∃ u us, vs = u :: us := by
      cases vs with
      | nil => exact absurd rfl hv
      | cons u us => exact ⟨u, us, rfl⟩
    obtain ⟨a0, rfl, _⟩ := hsr 0 u0 rfl
    have hb : w.heap[b]? = some (.cells (Pre ++ Q0).toArray e (0, 0)) := (hw.block s (fun x hx => by rw [hx]; exact one_same _ _)).1
    have hl := run_firstCells_some (P := P) w i.size (Nat.min sl dl) a0 sl sc (u0 :: us) hn (fun j u hj => by
      obtain ⟨a1, e1, hc⟩ := hsr j u hj
      cases e1
      exact hc)
    have hst := run_storeCells_at P b o e (u0 :: us) 0 _ w hb (by rw [List.size_toArray, List.length_append]; omega) h1
    refine goal (w.setRow b (Pre ++ ((u0 :: us) ++ Q0.drop (u0 :: us).length)).toArray) ?_ ?_
    · have e1 : ((Pre ++ Q0).toArray.toList.take (o + 0) ++ (u0 :: us) ++ (Pre ++ Q0).toArray.toList.drop (o + 0 + (u0 :: us).length)) = Pre ++ ((u0 :: us) ++ Q0.drop (u0 :: us).length) := by
        simp only [Nat.add_zero, ← hP]
        rw [List.take_left, List.drop_append, List.drop_eq_nil_of_le (by omega), Nat.add_sub_cancel_left]
        simp
      rw [e1] at hst
      simp only [Builtin.copy_, List.getElem?_toArray, List.getElem?_cons_zero, List.getElem?_cons_succ]
      simp [run_underlying hu, Builtin.lenOf, sizeOf, typeInfo, hinfo, hl, hst, goInt]
    · exact hw.turn s rfl rfl rfl (by simp [World.setRow]) (setRow_heap w b _ _ e _ hb) (fun k hk => setRow_other w b k _ hk)
/-- clear of a part of an owned block. -/
theorem e_clear {t e : TypeId} {x : Operand} {b o m c size : Nat} {da : Option Addr} {z : Value} {Pre Q0 : List Value} (hu : P.underlying t = some (.slice e)) (hz : ∀ w, (zeroValue e).run P w = .ok z w) (hzs : z.cells.size = size)
    (hx : ev K x = some (.slice da m c)) (hda : m ≠ 0 → da = some ⟨b, o, none⟩) (hP : Pre.length = o) (hQ : m * size ≤ Q0.length) (h1 : ∀ u ∈ z.cells, u.oneCell' = true)
    (s : Swap L (cel b e (Pre ++ Q0)) (cel b e (Pre ++ ((Builtin.zeroCells z.cells m).toList ++ Q0.drop (m * size)))) L') :
    Ef P n K (Sat R w0 L) ⟨dst, .call { callee := .builtin .clear, args := #[x], argTypes := #[t] }, T, pos, af, g⟩ (fun _ : Unit => .tuple #[]) (fun _ => Sat R w0 L') := by
  intro a w ha hw next Q h
  subst hzs
  have goal : ∀ w', (Builtin.clear_ #[t] T #[.slice da m c]).run P w = .ok (.tuple #[]) w' → Sat R w0 L' w' →
      Oper.wp P ⟨dst, .call { callee := .builtin .clear, args := #[x], argTypes := #[t] }, T, pos, af, g⟩ a w next Q := by
    intro w' hr hS
    have := h () w' hS
    simp only [Oper.wp, execOp, resolve, invoke, builtin, Sem.run_bind, Sem.run_pure, Result.andThen_ok, List.map_toArray, List.map_cons, List.map_nil, ha.ev hx, hr, Oper.upon]
    exact this
  cases m with
  | zero =>
    refine goal w ?_ (hw.swap s fun _ hh => by
      have e1 : Pre ++ ((Builtin.zeroCells z.cells 0).toList ++ Q0.drop (0 * z.cells.size)) = Pre ++ Q0 := by simp [Builtin.zeroCells]
      rw [e1]; exact hh)
    cases da <;> simp [Builtin.clear_, run_underlying hu]
  | succ m =>
    obtain rfl := hda (Nat.succ_ne_zero m)
    have hb : w.heap[b]? = some (.cells (Pre ++ Q0).toArray e (0, 0)) := (hw.block s (fun x hx => by rw [hx]; exact one_same _ _)).1
    have hzl : (Builtin.zeroCells z.cells (m + 1)).toList.length = (m + 1) * z.cells.size := by rw [Array.length_toList, size_zeroCells]
    have hst := run_storeCells_at P b o e (Builtin.zeroCells z.cells (m + 1)).toList 0 _ w hb (by rw [List.size_toArray, List.length_append, hzl]; omega) (fun u hu2 => by
      simp only [Builtin.zeroCells, Array.toList_map, List.mem_map] at hu2
      obtain ⟨k, hk, rfl⟩ := hu2
      have hk2 : 0 < z.cells.size := by
        rcases Nat.eq_zero_or_pos z.cells.size with h0 | h0
        · rw [h0] at hk; simp at hk
        · exact h0
      have h3 : k % z.cells.size < z.cells.size := Nat.mod_lt _ hk2
      rw [getElem!_pos z.cells _ h3]
      exact h1 _ (Array.getElem_mem h3))
    refine goal (w.setRow b (Pre ++ ((Builtin.zeroCells z.cells (m + 1)).toList ++ Q0.drop ((m + 1) * z.cells.size))).toArray) ?_ ?_
    · have e1 : ((Pre ++ Q0).toArray.toList.take (o + 0) ++ (Builtin.zeroCells z.cells (m + 1)).toList ++ (Pre ++ Q0).toArray.toList.drop (o + 0 + (Builtin.zeroCells z.cells (m + 1)).toList.length)) = Pre ++ ((Builtin.zeroCells z.cells (m + 1)).toList ++ Q0.drop ((m + 1) * z.cells.size)) := by
        simp only [Nat.add_zero, ← hP, hzl]
        rw [List.take_left, List.drop_append, List.drop_eq_nil_of_le (by omega), Nat.add_sub_cancel_left]
        simp
      rw [e1] at hst
      simp only [Builtin.clear_, List.getElem?_toArray, List.getElem?_cons_zero]
      simp [run_underlying hu, hz, hst]
    · exact hw.turn s rfl rfl rfl (by simp [World.setRow]) (setRow_heap w b _ _ e _ hb) (fun k hk => setRow_other w b k _ hk)
/-- append to a first part of an owned block: in place, where there is room. -/
theorem e_appendV {t e : TypeId} {s x : Operand} {i : TypeInfo} {z : Value} {size bytes m len b cap sc : Nat} {xs rest news : List Value} {sa : Option Addr} {L1 : List HP} (hu : P.underlying t = some (.slice e)) (hi : ∀ w, (typeInfo e).run P w = .ok i w) (hz : i.zero = some z)
    (hsize : i.size = size) (hby : i.bytes = bytes) (hzs : z.cells.size = size) (hsz : Nat.beq size 0 = false)
    (hs : ev K s = some (.slice (some ⟨b, 0, none⟩) len cap)) (hx : ev K x = some (.slice sa m sc)) (hp : Pick L (cel b e (xs ++ rest)) L1)
    (hl : news.length = m * size) (hlen : xs.length = len * size) (hfull : (xs ++ rest).length = cap * size) (hlc : len ≤ cap) (hcm : cap ≤ maxLen)
    (hsrc : ∀ w, Sat R w0 L w → ∀ j u, news[j]? = some u → ∃ a, sa = some a ∧ w.cell? (a.add j) = some u) (h1 : ∀ u ∈ news, u.oneCell' = true)
    (hroom : len + m ≤ 1000000000000) (hbyt : bytes ≤ 64) :
    Ef P n K (Sat R w0 L) ⟨dst, .call { callee := .builtin .append, args := #[s, x], argTypes := #[t, t] }, T, pos, af, g⟩ (fun v' : Value => v') (fun v' w' => (len + m ≤ cap → v' = .slice (some ⟨b, 0, none⟩) (len + m) cap) ∧ Sat R w0 (row e size v' (len + m) (xs ++ news) :: L1) w') := by
  intro a w ha hw next Q h
  subst hsize
  subst hby
  have hsz' : 0 < i.size := Nat.pos_of_ne_zero (Nat.ne_of_beq_eq_false hsz)
  have hinfo := info_of P hi w
  have hbytes : (len + m) * i.bytes ≤ 140737488355328 := by
    have : (len + m) * i.bytes ≤ 1000000000000 * 64 := Nat.mul_le_mul hroom hbyt
    omega
  have hpk := hw.pick hp
  obtain ⟨hx0, ⟨h1', h2', hd, rfl, hrow, hL⟩, hy⟩ := hpk.own
  have hrow : h1' = one b (.cells (xs ++ rest).toArray e (0, 0)) := hrow
  subst hrow
  have hlen2 : (xs ++ news).length = (len + m) * i.size := by rw [List.length_append, hlen, hl, Nat.add_mul]
  have hm63 : len + m ≤ maxLen := by simp only [maxLen]; omega
  have hb := (hy b _ (by simp [uni, one_same]; rfl)).2
  have goal : ∀ v' w', (Builtin.append_ #[t, t] T #[.slice (some ⟨b, 0, none⟩) len cap, .slice sa m sc]).run P w = .ok v' w' → (len + m ≤ cap → v' = .slice (some ⟨b, 0, none⟩) (len + m) cap) → Sat R w0 (row e i.size v' (len + m) (xs ++ news) :: L1) w' →
      (Oper.wp P ⟨dst, .call { callee := .builtin .append, args := #[s, x], argTypes := #[t, t] }, T, pos, af, g⟩ a w next Q) := by
    intro v' w' hr hp' hS
    have := h v' w' ⟨hp', hS⟩
    simp only [Oper.wp, execOp, resolve, invoke, builtin, Sem.run_bind, Sem.run_pure, Result.andThen_ok, List.map_toArray, List.map_cons, List.map_nil, ha.ev hs, ha.ev hx, hr, Oper.upon]
    exact this
  by_cases hm0 : m = 0
  · subst hm0
    have hn : news = [] := List.eq_nil_of_length_eq_zero (by simpa using hl)
    subst hn
    have hl0 : ∀ (x : Addr), (loadCells x 0).run P w = .ok #[] w := fun x => by simpa using run_loadCells_list (P := P) w x [] (by simp)
    refine goal (.slice (some ⟨b, 0, none⟩) len cap) w ?_ (fun _ => rfl) ?_
    · cases sa <;> simp [Builtin.append_, run_underlying hu, sizeOf, typeInfo, hinfo, Builtin.lenOf, Builtin.firstCells, hlc, storeCells, hl0]
    · rw [List.append_nil]
      exact hpk.closeRow (n := len) hfull hlc hcm hlen
  · obtain ⟨u0, us, rfl⟩ : ∃ u us, news = u :: us := by
      cases news with
      | nil =>
        have h9 : m * i.size = 0 := by simpa using hl.symm
        rcases Nat.mul_eq_zero.1 h9 with h0 | h0 <;> omega
      | cons u us => exact ⟨u, us, rfl⟩
    have hsr := hsrc w hw
    obtain ⟨ad, rfl, _⟩ := hsr 0 u0 rfl
    have hcells : ∀ j u, (u0 :: us)[j]? = some u → w.cell? (ad.add j) = some u := fun j u hj => by
      obtain ⟨a1, e1, hc⟩ := hsr j u hj
      cases e1
      exact hc
    by_cases hrm : len + m ≤ cap
    · have hfit : len * i.size + (u0 :: us).length ≤ (xs ++ rest).toArray.size := by
        rw [List.size_toArray, hfull, hl, ← Nat.add_mul]; exact Nat.mul_le_mul_right _ hrm
      have hr := run_append_room (P := P) w t T e i hu hinfo b len cap _ hb ad m sc (u0 :: us) hl hcells h1 hrm hfit
      refine goal _ _ hr (fun _ => rfl) ?_
      have key : Sat R w0 (blk b (.cells (xs ++ rest).toArray e (0, 0)) :: L1) w := ⟨hpk.os, hpk.tape, hpk.output, hpk.size, hpk.ro, _, ⟨_, h2', hd, rfl, rfl, hL⟩, hy⟩
      have hcs : (xs ++ rest).toArray.toList.take (len * i.size) ++ (u0 :: us) ++ (xs ++ rest).toArray.toList.drop (len * i.size + (u0 :: us).length) = xs ++ (u0 :: us) ++ rest.drop (u0 :: us).length := by
        simp only [← hlen]
        rw [List.take_left, List.drop_append, List.drop_eq_nil_of_le (by omega)]
        simp
      have h6 := key.turn (o' := .cells (xs ++ (u0 :: us) ++ rest.drop (u0 :: us).length).toArray e (0, 0)) (w' := w.setRow b ((xs ++ rest).toArray.toList.take (len * i.size) ++ (u0 :: us) ++ (xs ++ rest).toArray.toList.drop (len * i.size + (u0 :: us).length)).toArray) .head rfl rfl rfl (by simp)
        (by rw [hcs]; exact setRow_heap w b _ _ e _ hb) (fun k hk => setRow_other w b k _ hk)
      refine h6.swap .head fun hh hb' => ⟨hlen2, hm63, .inr ⟨b, cap, rest.drop (u0 :: us).length, rfl, hrm, hcm, ?_, hb'⟩⟩
      rw [List.length_append] at hfull
      simp only [List.length_append, List.length_drop]
      rw [List.size_toArray, List.length_append] at hfit
      omega
    · have holds : ∀ j u, xs[j]? = some u → w.cell? ((⟨b, 0, none⟩ : Addr).add j) = some u := fun j u hj => by
        have hlt : j < xs.length := (List.getElem?_eq_some_iff.1 hj).1
        rw [Addr.add_lit]
        simp [World.cell?, hb, List.getElem?_append_left hlt, hj]
      have hr := run_append_grow (P := P) w t T e i z hu hinfo hz ⟨b, 0, none⟩ len cap xs hlen holds ad m sc (u0 :: us) hl hcells (by omega) (by omega) (growslice_fits (by omega) hbytes)
      refine goal _ _ hr (fun h9 => absurd h9 hrm) ?_
      have hge := grownCap_ge w (len + m) cap e
      have hcm' : grownCap w (len + m) cap e ≤ maxLen := grownCap_le_maxLen w (len + m) cap e hm63
      have h3 := ((hpk.drop1).drew).alloc (.cells (xs.toArray ++ (u0 :: us).toArray ++ Builtin.zeroCells z.cells (grownCap w (len + m) cap e - (len + m))) e)
      refine h3.swap .head fun hh hb' => ⟨hlen2, hm63, .inr ⟨w.heap.size, _, (Builtin.zeroCells z.cells (grownCap w (len + m) cap e - (len + m))).toList, rfl, hge, hcm', ?_, ?_⟩⟩
      · rw [List.length_append, hlen2, Array.length_toList, size_zeroCells, hzs, ← Nat.add_mul]
        congr 1
        omega
      · have e1 : ((xs ++ (u0 :: us)) ++ (Builtin.zeroCells z.cells (grownCap w (len + m) cap e - (len + m))).toList).toArray = xs.toArray ++ (u0 :: us).toArray ++ Builtin.zeroCells z.cells (grownCap w (len + m) cap e - (len + m)) := by
          apply Array.ext'
          simp
        rw [e1]
        exact hb'
/-- append of zeros that do not fit: a new block; the elder stays. -/
theorem e_appendZ {t t2 e : TypeId} {s x : Operand} {i : TypeInfo} {z : Value} {size bytes m len b cap : Nat} {xs rest : List Value} (hu : P.underlying t = some (.slice e)) (hu2 : P.underlying t2 = some (.int .i64)) (hi : ∀ w, (typeInfo e).run P w = .ok i w) (hz : i.zero = some z)
    (hsize : i.size = size) (hby : i.bytes = bytes) (hzs : z.cells.size = size) (hsz : Nat.beq size 0 = false)
    (hs : ev K s = some (.slice (some ⟨b, 0, none⟩) len cap)) (hx : ev K x = some (.int .i64 (m : Int))) (hp : Swap L (cel b e (xs ++ rest)) (cel b e (xs ++ rest)) L')
    (hlen : xs.length = len * size) (hgr : cap < len + m) (hroom : len + m ≤ 100000) (hbyt : bytes ≤ 64) :
    Ef P n K (Sat R w0 L) ⟨dst, .call { callee := .builtin .append, args := #[s, x], argTypes := #[t, t2] }, T, pos, af, g⟩ (fun y : Nat × Nat × List Value => .slice (some ⟨y.1, 0, none⟩) (len + m) y.2.1)
      (fun y w' => ((xs ++ y.2.2).length = y.2.1 * size ∧ len + m ≤ y.2.1 ∧ y.2.1 ≤ maxLen) ∧ Sat R w0 (cel y.1 e (xs ++ y.2.2) :: L) w') := by
  intro a w ha hw next Q h
  subst hsize
  subst hby
  have hsz' : 0 < i.size := Nat.pos_of_ne_zero (Nat.ne_of_beq_eq_false hsz)
  have hinfo := info_of P hi w
  have hbytes : (len + m) * i.bytes ≤ 140737488355328 := by
    have : (len + m) * i.bytes ≤ 100000 * 64 := Nat.mul_le_mul hroom hbyt
    omega
  have hmb : m * i.bytes ≤ 281474976710656 := by
    have : m * i.bytes ≤ (len + m) * i.bytes := Nat.mul_le_mul_right _ (by omega)
    omega
  have hm63 : len + m ≤ maxLen := by simp only [maxLen]; omega
  have hb : w.heap[b]? = some (.cells (xs ++ rest).toArray e (0, 0)) := (hw.block hp (fun x hx => by rw [hx]; exact one_same _ _)).1
  have holds : ∀ j u, xs[j]? = some u → w.drew.cell? ((⟨b, 0, none⟩ : Addr).add j) = some u := fun j u hj => by
    have hlt : j < xs.length := (List.getElem?_eq_some_iff.1 hj).1
    rw [Addr.add_lit]
    show w.cell? _ = some u
    simp [World.cell?, hb, List.getElem?_append_left hlt, hj]
  have hm0 : m ≠ 0 ∨ cap < len := by omega
  have hge := grownCap_ge w (len + m) cap e
  have hcm' : grownCap w (len + m) cap e ≤ maxLen := grownCap_le_maxLen w (len + m) cap e hm63
  obtain ⟨Z, hZ, hZl⟩ : ∃ Z : Array Value, (if m * i.size = 0 then (pure #[] : Sem (Array Value)) else do pure (Builtin.zeroCells (← zeroValue e).cells m)).run P w.drew = .ok Z w.drew ∧ Z.size = m * i.size := by
    by_cases h0 : m * i.size = 0
    · exact ⟨#[], by rw [if_pos h0]; rfl, by rw [h0]; rfl⟩
    · refine ⟨Builtin.zeroCells z.cells m, ?_, by rw [size_zeroCells, hzs]⟩
      rw [if_neg h0]
      simp [zeroValue, typeInfo, hinfo, hz]
  have hr : (Builtin.append_ #[t, t2] T #[.slice (some ⟨b, 0, none⟩) len cap, .int .i64 (m : Int)]).run P w = .ok (.slice (some ⟨w.heap.size, 0, none⟩) (len + m) (grownCap w (len + m) cap e)) (w.drew.alloc (.cells (xs.toArray ++ Z ++ Builtin.zeroCells z.cells (grownCap w (len + m) cap e - (len + m))) e)) := by
    have hfo := run_firstCells_some (P := P) w.drew i.size len ⟨b, 0, none⟩ len cap xs hlen holds
    have hwr : IntKind.i64.wrap (m : Int) = (m : Int) := by rw [IntKind.wrap_i64]; omega
    have hn : ¬ (len + m ≤ cap) := by omega
    have h63' : ¬ (9223372036854775807 < ((len : Int) + (m : Int))) := by omega
    have h48' : ¬ (281474976710656 < Builtin.nextslicecap (len + m) cap * i.bytes) := by have := growslice_fits (old := cap) (need := len + m) (by omega) hbytes; omega
    have h0 : ¬ ((m : Int) < 0) := by omega
    have h9 : ¬ ((281474976710656 : Int) < (m : Int) * (i.bytes : Int)) := by
      rw [← Int.natCast_mul]
      exact Int.not_lt.2 (Int.ofNat_le.2 hmb)
    obtain ⟨Z', hZ'⟩ : ∃ Z', Z' = Z := ⟨_, rfl⟩
    by_cases hms : m * i.size = 0
    · have e0 : Z = #[] := by
        have := hZl
        rw [hms] at this
        exact Array.eq_empty_of_size_eq_zero this
      subst e0
      simp only [Builtin.append_, List.getElem?_toArray, List.getElem?_cons_zero, List.getElem?_cons_succ]
      simp [run_underlying hu, run_underlying hu2, sizeOf, typeInfo, zeroValue, hinfo, hz, asInt, asIntOf, hwr, h0, h9, hn, h63', h48', Question.forced, hfo, newRow, grownCap, hms]
    · rw [if_neg hms] at hZ
      have e0 : Z = Builtin.zeroCells z.cells m := by
        simp [zeroValue, typeInfo, hinfo, hz] at hZ
        exact hZ.symm
      subst e0
      simp only [Builtin.append_, List.getElem?_toArray, List.getElem?_cons_zero, List.getElem?_cons_succ]
      simp [run_underlying hu, run_underlying hu2, sizeOf, typeInfo, zeroValue, hinfo, hz, asInt, asIntOf, hwr, h0, h9, hn, h63', h48', Question.forced, hfo, newRow, grownCap, hms]
  have hS : Sat R w0 (cel w.heap.size e (xs ++ (Z.toList ++ (Builtin.zeroCells z.cells (grownCap w (len + m) cap e - (len + m))).toList)) :: L) (w.drew.alloc (.cells (xs.toArray ++ Z ++ Builtin.zeroCells z.cells (grownCap w (len + m) cap e - (len + m))) e)) := by
    have h3 := (hw.drew).alloc (.cells (xs.toArray ++ Z ++ Builtin.zeroCells z.cells (grownCap w (len + m) cap e - (len + m))) e)
    have e1 : (xs ++ (Z.toList ++ (Builtin.zeroCells z.cells (grownCap w (len + m) cap e - (len + m))).toList)).toArray = xs.toArray ++ Z ++ Builtin.zeroCells z.cells (grownCap w (len + m) cap e - (len + m)) := by
      apply Array.ext'
      simp
    refine h3.swap .head fun hh hb' => ?_
    show hh = _
    rw [e1]; exact hb'
  have := h (w.heap.size, grownCap w (len + m) cap e, Z.toList ++ (Builtin.zeroCells z.cells (grownCap w (len + m) cap e - (len + m))).toList) _ ⟨⟨by
    simp only [List.length_append, Array.length_toList, size_zeroCells, hzs, hZl, hlen, ← Nat.add_mul]
    congr 1
    omega, hge, hcm'⟩, hS⟩
  simp only [Oper.wp, execOp, resolve, invoke, builtin, Sem.run_bind, Sem.run_pure, Result.andThen_ok, List.map_toArray, List.map_cons, List.map_nil, ha.ev hs, ha.ev hx, hr, Oper.upon]
  exact this
theorem e_overlaps {f : FuncId} {fn : Func} {tS tR : TypeId} {x y : Operand} {tys : Array TypeId} {u v : Value} (hf : P.funcs[f]? = some fn) (hname : (fn.name == "runtime.NumGoroutine") = false) (hb : fn.body.isNone = true) (hn : Extern.findNext fn = none) (he : Extern.find fn = some (Extern.SlicesOverlaps.overlaps #[tS, tS] #[tR]))
    (hx : ev K x = some u) (hy : ev K y = some v) (hrun : ∀ w, S w → (Extern.SlicesOverlaps.overlaps #[tS, tS] #[tR] #[u, v]).run P w = .ok (.bool false) w) :
    Ef P n K S ⟨dst, .call { callee := .value (.func f), args := #[x, y], argTypes := tys }, T, pos, af, g⟩ (fun _ : Unit => .bool false) (fun _ => S) := by
  intro a w ha hw next Q h
  have := h () w hw
  have hc := run_callFunc_extern (P := P) hf hname hb hn he #[u, v] w
  rw [hrun w hw] at hc
  simp only [Oper.wp, execOp, resolve, Act.eval, Deferred.ofValue, invoke, Sem.run_bind, Sem.run_pure, Result.andThen_ok, Array.append_empty, Array.empty_append]
  have e2 : (#[x, y] : Array Operand).map a.eval = #[u, v] := by simp [ha.ev hx, ha.ev hy]
  rw [e2, hc]
  exact this
end
end Go.Sy
