/- The calculus' rules for operations that turn the world, for calls, and for a function's beginning and end. No condition. -/
import Derived.Test.YteceklkjbcebkabDoorSyq
namespace Go.Sy
open Go Go.RowKit

def evs (K : Env) : List Operand → Option (List Value)
  | [] => some []
  | x :: l => match ev K x, evs K l with
    | some v, some vs => some (v :: vs)
    | _, _ => none

theorem Kn.evs [Inhabited (List Deferred)] {n : Nat} {K : Env} {a : Act} (h : Kn n K a) : ∀ {l : List Operand} {vs : List Value}, evs K l = some vs → l.map a.eval = vs := by
  intro l
  induction l with
  | nil => intro vs hv; simp only [Sy.evs, Option.some.injEq] at hv; subst hv; rfl
  | cons x l ih =>
    intro vs hv
    unfold Sy.evs at hv
    split at hv
    · rename_i v us h1 h2
      simp only [Option.some.injEq] at hv
      subst hv
      simp [h.ev h1, ih h2]
    · cases hv

/-- A list with one cell set, reckoned out. -/
def setL : List Value → Nat → Value → Option (List Value)
  | [], _, _ => none
  | _ :: cs, 0, v => some (v :: cs)
  | c :: cs, i + 1, v => match setL cs i v with
    | some cs' => some (c :: cs')
    | none => none
theorem setL_spec : ∀ {cs : List Value} {i : Nat} {v : Value} {cs' : List Value}, setL cs i v = some cs' → i < cs.length ∧ cs' = cs.set i v
  | [], _, _, _, h => by cases h
  | _ :: cs, 0, v, cs', h => by simp only [setL, Option.some.injEq] at h; subst h; exact ⟨by simp, rfl⟩
  | c :: cs, i + 1, v, cs', h => by
    unfold setL at h
    split at h
    · rename_i x hx
      simp only [Option.some.injEq] at h
      subst h
      obtain ⟨h1, h2⟩ := setL_spec hx
      exact ⟨by simp; omega, by rw [h2]; rfl⟩
    · cases h

/-- A row of the function's own that may be nil, with room behind it. -/
def row (e : TypeId) (size : Nat) (v : Value) (n : Nat) (xs : List Value) : HP := fun h =>
  xs.length = n * size ∧ n ≤ maxLen ∧ ((v = .slice none 0 0 ∧ n = 0 ∧ h = emp0) ∨
    ∃ g cap rest, v = .slice (some ⟨g, 0, none⟩) n cap ∧ n ≤ cap ∧ cap ≤ maxLen ∧ (xs ++ rest).length = cap * size ∧ h = one g (.cells (xs ++ rest).toArray e (0, 0)))

theorem row_of_cel {e : TypeId} {size g n : Nat} {xs : List Value} (hl : xs.length = n * size) (hn : n ≤ maxLen) : ∀ h, cel g e xs h → row e size (.slice (some ⟨g, 0, none⟩) n n) n xs h :=
  fun h hh => ⟨hl, hn, .inr ⟨g, n, [], rfl, Nat.le_refl _, hn, by simpa using hl, by rw [List.append_nil]; exact hh⟩⟩

theorem row_form {e : TypeId} {size n : Nat} {v : Value} {xs : List Value} {h : Heap} (hr : row e size v n xs h) : ∃ p c, v = .slice p n c ∧ n ≤ c ∧ c ≤ maxLen := by
  obtain ⟨_, hm, ⟨rfl, rfl, _⟩ | ⟨g, cap, rest, rfl, h1, h2, _, _⟩⟩ := hr
  · exact ⟨none, 0, rfl, Nat.le_refl _, by simp [maxLen]⟩
  · exact ⟨_, cap, rfl, h1, h2⟩

section
variable {R : Nat → Prop} {w0 w : World} {L L' : List HP}

theorem Sat.emp (s : Pick L (fun h => h = emp0) L') (h : Sat R w0 L w) : Sat R w0 L' w := h.drop s

theorem Sat.addEmp {A : HP} (hA : A emp0) (h : Sat R w0 L w) : Sat R w0 (A :: L) w :=
  h.imp_ fun x hx => ⟨emp0, x, (dis_emp x).symm, (emp_uni x).symm, hA, hx⟩

/-- A nil row costs nothing. -/
theorem Sat.rowNil (e : TypeId) (size : Nat) (h : Sat R w0 L w) : Sat R w0 (row e size (.slice none 0 0) 0 [] :: L) w :=
  h.addEmp ⟨by simp, by simp [maxLen], .inl ⟨rfl, rfl, rfl⟩⟩

theorem Sat.cells_row {e : TypeId} {size n : Nat} {v : Value} {xs : List Value} {A' : HP} (s : Swap L (row e size v n xs) A' L') (h : Sat R w0 L w) {g len cap : Nat} (hv : v = .slice (some ⟨g, 0, none⟩) len cap) :
    ∀ j u, xs[j]? = some u → w.cell? ⟨g, j, none⟩ = some u := by
  obtain ⟨x, hx, hy⟩ := h.own
  obtain ⟨h1, h2, hd, rfl, ⟨_, _, ha⟩, _⟩ := s.focus x hx
  subst hv
  rcases ha with ⟨h0, _⟩ | ⟨g', cap', rest, he, _, _, _, rfl⟩
  · cases h0
  · injection he with he1 _ _
    have hg : g = g' := by injection he1 with e; injection e
    subst hg
    intro j u hj
    have := (hy g _ (by simp [uni, one_same]; rfl)).2
    have hlt : j < xs.length := (List.getElem?_eq_some_iff.1 hj).1
    simp [World.cell?, this, List.getElem?_append_left hlt, hj]

theorem Sat.rowForm {e : TypeId} {size n : Nat} {v : Value} {xs : List Value} {A' : HP} (s : Swap L (row e size v n xs) A' L') (h : Sat R w0 L w) :
    (v = .slice none 0 0 ∧ n = 0 ∧ xs = []) ∨ ∃ g cap, v = .slice (some ⟨g, 0, none⟩) n cap ∧ n ≤ cap ∧ cap ≤ maxLen ∧ xs.length = n * size ∧ ∀ j u, xs[j]? = some u → w.cell? ⟨g, j, none⟩ = some u := by
  have hc := fun (g len cap : Nat) (hv : v = .slice (some ⟨g, 0, none⟩) len cap) => h.cells_row s hv
  obtain ⟨x, hx, hy⟩ := h.own
  obtain ⟨h1, h2, hd, rfl, ⟨hl, _, ha⟩, _⟩ := s.focus x hx
  rcases ha with ⟨rfl, rfl, _⟩ | ⟨g, cap, rest, rfl, h1, h2, _, _⟩
  · exact .inl ⟨rfl, rfl, List.eq_nil_of_length_eq_zero (by simpa using hl)⟩
  · exact .inr ⟨g, cap, rfl, h1, h2, hl, hc g n cap rfl⟩

/-- A store into a row's element. -/
theorem Sat.setRow_ {e : TypeId} {size n : Nat} {v u : Value} {xs : List Value} {g len cap j : Nat} (s : Swap L (row e size v n xs) (row e size v n (xs.set j u)) L') (h : Sat R w0 L w) (hv : v = .slice (some ⟨g, 0, none⟩) len cap) (hj : j < xs.length) :
    Sat R w0 L' (w.setCell ⟨g, j, none⟩ u) := by
  obtain ⟨x, hx, hy⟩ := h.own
  obtain ⟨h1, h2, hd, rfl, ⟨hl, hm, ha⟩, hk⟩ := s.focus x hx
  subst hv
  rcases ha with ⟨h0, _⟩ | ⟨g', cap', rest, he, h3, h4, h5, rfl⟩
  · cases h0
  · have hg : g = g' := by injection he with e1 _ _; injection e1 with e; injection e
    subst hg
    have hb := (hy g _ (by simp [uni, one_same]; rfl))
    have hd' : Dis (one g (.cells (xs.set j u ++ rest).toArray e (0, 0))) h2 := fun k => by
      by_cases e : k = g
      · subst e
        right
        rcases hd k with e | e
        · rw [one_same] at e; cases e
        · exact e
      · exact .inl (one_other _ e)
    have hset : (xs ++ rest).set j u = xs.set j u ++ rest := List.set_append_left _ _ hj
    refine ⟨h.os, h.tape, h.output, by simpa using h.size, fun k hk' => ⟨(h.ro k hk').1, ?_⟩, _, hk _ hd' ⟨by simpa using hl, hm, .inr ⟨g, cap', rest, he, h3, h4, by simpa using h5, rfl⟩⟩, fun k o hk'' => ?_⟩
    · rw [Below.heap_setCell w ⟨g, j, none⟩ u k (fun e => hb.1 (by have e' : k = g := e; rw [← e']; exact hk'))]; exact (h.ro k hk').2
    · by_cases e : k = g
      · subst e
        have : Obj.cells (xs.set j u ++ rest).toArray e (0, 0) = o := by simpa [uni, one_same] using hk''
        subst this
        refine ⟨hb.1, ?_⟩
        simp [World.setCell, Array.getElem?_modify, hb.2, ← hset]
      · have h2k : h2 k = some o := by simpa [uni, one_other _ e] using hk''
        have := hy k o (by simp [uni, one_other _ e, h2k])
        exact ⟨this.1, (Below.heap_setCell w ⟨g, j, none⟩ u k e).trans this.2⟩

theorem Sat.rowUnfrozen {e : TypeId} {size n : Nat} {v : Value} {xs : List Value} {A' : HP} (s : Swap L (row e size v n xs) A' L') (h : Sat R w0 L w) {g len cap : Nat} (hv : v = .slice (some ⟨g, 0, none⟩) len cap) (j : Nat) : w.frozen? ⟨g, j, none⟩ = false := by
  obtain ⟨x, hx, hy⟩ := h.own
  obtain ⟨h1, h2, hd, rfl, ⟨_, _, ha⟩, _⟩ := s.focus x hx
  subst hv
  rcases ha with ⟨h0, _⟩ | ⟨g', cap', rest, he, _, _, _, rfl⟩
  · cases h0
  · have hg : g = g' := by injection he with e1 _ _; injection e1 with e; injection e
    subst hg
    have := (hy g _ (by simp [uni, one_same]; rfl)).2
    simp [World.frozen?, this]
end

section
variable {P : Program} {n : Nat} {K : Env} {dst : Option Nat} {T : TypeId} {pos : String} {af : Array Edge} {g : Option (Nat × Bool)} {R : Nat → Prop} {w0 : World} {L L' : List HP}

theorem e_box [Inhabited (List Deferred)] {e : TypeId} {x : Operand} {v : Value} {cs : List Value} (hx : ev K x = some v) (hc : v.cells.toList = cs) :
    Ef P n K (Sat R w0 L) ⟨dst, .box e x, T, pos, af, g⟩ (fun b : Nat => .pointer (some ⟨b, 0, none⟩)) (fun b => Sat R w0 (cel b e cs :: L)) := by
  intro a w ha hw next Q h
  subst hc
  have := h w.heap.size (w.alloc (.cells v.cells e)) (hw.alloc _)
  simpa [Oper.wp, execOp, ha.ev hx, Instr.box, newVar, newRow, Oper.upon] using this

theorem e_alloc [Inhabited (List Deferred)] {e : TypeId} {z : Value} {cs : List Value} (hz : ∀ w, (zeroValue e).run P w = .ok z w) (hc : z.cells.toList = cs) :
    Ef P n K (Sat R w0 L) ⟨dst, .alloc e, T, pos, af, g⟩ (fun b : Nat => .pointer (some ⟨b, 0, none⟩)) (fun b => Sat R w0 (cel b e cs :: L)) := by
  intro a w _ hw next Q h
  subst hc
  have := h w.heap.size (w.alloc (.cells z.cells e)) (hw.alloc _)
  simpa [Oper.wp, execOp, Instr.alloc, hz, newVar, newRow, Oper.upon] using this

/-- A store of one cell, known to be there and not frozen: whatever it leads to. -/
theorem e_store_any [Inhabited (List Deferred)] {S : World → Prop} {S' : World → Prop} {t : TypeId} {x y : Operand} {p : Addr} {v : Value} (hs : ∀ w, (sizeOf t).run P w = .ok 1 w) (hx : ev K x = some (.pointer (some p))) (hy : ev K y = some v) (hv : v.oneCell' = true)
    (hc : ∀ w, S w → (∃ u, w.cell? p = some u) ∧ w.frozen? p = false ∧ S' (w.setCell p v)) :
    Ef P n K S ⟨dst, .store t x y, T, pos, af, g⟩ (fun _ : Unit => undef) (fun _ => S') := by
  intro a w ha hw next Q h
  obtain ⟨⟨u, hu⟩, hf, hS⟩ := hc w hw
  have hcells : v.cells = #[v] := by cases v <;> first | rfl | cases hv
  have := h () _ hS
  have hst : (store p v).run P w = .ok () (w.setCell p v) := by
    rw [run_store P w p v _ hv]; simp [hu, hf]
  simpa [Oper.wp, execOp, ha.ev hx, ha.ev hy, Instr.storeAt, Instr.sureAddr, storeVar, hcells, hs, storeCells, Addr.add, hst, Oper.upon] using this

theorem e_store [Inhabited (List Deferred)] {t e : TypeId} {x y : Operand} {b off : Nat} {p : Addr} {cs cs' : List Value} {v : Value} (hs : ∀ w, (sizeOf t).run P w = .ok 1 w) (hx : ev K x = some (.pointer (some p))) (hp : p = ⟨b, off, none⟩) (hy : ev K y = some v) (hv : v.oneCell' = true)
    (s : Swap L (cel b e cs) (cel b e cs') L') (hset : setL cs off v = some cs') :
    Ef P n K (Sat R w0 L) ⟨dst, .store t x y, T, pos, af, g⟩ (fun _ : Unit => undef) (fun _ => Sat R w0 L') := by
  subst hp
  obtain ⟨hl', rfl⟩ := setL_spec hset
  exact e_store_any hs hx hy hv fun w hw => ⟨⟨cs[off], by rw [hw.cell s off]; exact List.getElem?_eq_getElem hl'⟩, hw.unfrozen s off, hw.set_ s⟩

theorem e_store_row [Inhabited (List Deferred)] {t e : TypeId} {x y : Operand} {b j len cap m : Nat} {p : Addr} {xs : List Value} {u v : Value} (hs : ∀ w, (sizeOf t).run P w = .ok 1 w) (hx : ev K x = some (.pointer (some p))) (hp : p = ⟨b, j, none⟩) (hy : ev K y = some u) (hv : u.oneCell' = true)
    (hvv : v = .slice (some ⟨b, 0, none⟩) len cap) (hj : j < xs.length) (s : Swap L (row e 1 v m xs) (row e 1 v m (xs.set j u)) L') :
    Ef P n K (Sat R w0 L) ⟨dst, .store t x y, T, pos, af, g⟩ (fun _ : Unit => undef) (fun _ => Sat R w0 L') := by
  subst hp
  exact e_store_any hs hx hy hv fun w hw => ⟨⟨xs[j], hw.cells_row s hvv j _ (List.getElem?_eq_getElem hj)⟩, hw.rowUnfrozen s hvv j, hw.setRow_ s hvv hj⟩

/-- A store of a whole struct over a block. -/
theorem e_storeN [Inhabited (List Deferred)] {t e : TypeId} {x y : Operand} {b m : Nat} {p : Addr} {cs vs : List Value} (hs : ∀ w, (sizeOf t).run P w = .ok m w) (hx : ev K x = some (.pointer (some p))) (hp : p = ⟨b, 0, none⟩) (hy : ev K y = some (.agg vs.toArray)) (hm : vs.length = m)
    (hv : ∀ v ∈ vs, v.oneCell' = true) (s : Swap L (cel b e cs) (cel b e vs) L') (hc : cs.length = m) :
    Ef P n K (Sat R w0 L) ⟨dst, .store t x y, T, pos, af, g⟩ (fun _ : Unit => undef) (fun _ => Sat R w0 L') := by
  subst hp
  intro a w ha hw next Q h
  have hb : w.heap[b]? = some (.cells cs.toArray e (0, 0)) := (hw.block s (fun x hx => by rw [hx]; exact one_same _ _)).1
  have hst := run_storeCells_from (P := P) b e vs 0 cs.toArray w hb (by simp [hm, hc]) hv
  have := h () (w.setRow b vs.toArray) (hw.turn s rfl rfl rfl (by simp [World.setRow]) (setRow_heap w b _ _ e _ hb) (fun k hk => setRow_other w b k _ hk))
  simp only [List.take_zero, List.nil_append] at hst
  simp [Oper.wp, execOp, ha.ev hx, ha.ev hy, Instr.storeAt, Instr.sureAddr, storeVar, Value.cells, hs, hm, Oper.upon]
  rw [hst]
  simpa using this
end
end Go.Sy
