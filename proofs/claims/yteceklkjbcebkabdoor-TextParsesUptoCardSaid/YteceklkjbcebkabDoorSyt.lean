/- Rows whose elements are structs: what is read, written and appended, element by element. No condition. -/
import Derived.Test.YteceklkjbcebkabDoorSyr
namespace Go.Sy
open Go Go.RowKit

/-- A row of a function's own, its elements spelled by 'enc'. -/
def trow {α : Type} (e : TypeId) (size : Nat) (enc : α → List Value) (v : Value) (l : List α) : HP := row e size v l.length (l.flatMap enc)

section
variable {α : Type} {enc : α → List Value} {size : Nat}
theorem flat_length (he : ∀ x, (enc x).length = size) : ∀ l : List α, (l.flatMap enc).length = l.length * size
  | [] => by simp
  | x :: l => by rw [List.flatMap_cons, List.length_append, flat_length he l, he, List.length_cons, Nat.add_mul, Nat.one_mul, Nat.add_comm]
theorem flat_get (he : ∀ x, (enc x).length = size) : ∀ {l : List α} {k j : Nat} {x : α}, l[k]? = some x → j < size → (l.flatMap enc)[k * size + j]? = (enc x)[j]?
  | [], k, j, x, h, _ => by cases h
  | y :: l, 0, j, x, h, hj => by
    simp only [List.getElem?_cons_zero, Option.some.injEq] at h
    subst h
    rw [List.flatMap_cons, Nat.zero_mul, Nat.zero_add, List.getElem?_append_left (by rw [he]; exact hj)]
  | y :: l, k + 1, j, x, h, hj => by
    rw [List.flatMap_cons, List.getElem?_append_right (by rw [he, Nat.add_mul]; omega), he, show (k + 1) * size + j - size = k * size + j by rw [Nat.add_mul]; omega]
    exact flat_get he (by simpa using h) hj
theorem flat_set (he : ∀ x, (enc x).length = size) : ∀ {l : List α} {k j : Nat} {x y : α} {u : Value}, l[k]? = some x → j < size → enc y = (enc x).set j u → (l.set k y).flatMap enc = (l.flatMap enc).set (k * size + j) u
  | [], k, j, x, y, u, h, _, _ => by cases h
  | z :: l, 0, j, x, y, u, h, hj, hy => by
    simp only [List.getElem?_cons_zero, Option.some.injEq] at h
    subst h
    rw [List.set_cons_zero, List.flatMap_cons, List.flatMap_cons, Nat.zero_mul, Nat.zero_add, List.set_append_left _ _ (by rw [he]; exact hj), hy]
  | z :: l, k + 1, j, x, y, u, h, hj, hy => by
    rw [List.set_cons_succ, List.flatMap_cons, List.flatMap_cons, List.set_append_right _ _ (by rw [he, Nat.add_mul]; omega), he, show (k + 1) * size + j - size = k * size + j by rw [Nat.add_mul]; omega,
      flat_set he (by simpa using h) hj hy]
end

section
variable {P : Program} {n : Nat} {K : Env} {dst : Option Nat} {T : TypeId} {pos : String} {af : Array Edge} {g : Option (Nat × Bool)} {R : Nat → Prop} {w0 w : World} {L L' L1 : List HP} {Q : Exit → Act → World → Prop} {S S' : World → Prop}

theorem CW_fact {c : Code} {p : Prop} (hp : ∀ w, S w → p) (h : p → CW P c Q n K S) : CW P c Q n K S := fun a w ha hw => h (hp w hw) a w ha hw
theorem OW_fact {ops : Array Oper} {l : List Oper} {p : Prop} (hp : ∀ w, S w → p) (h : p → OW P ops Q l n K S) : OW P ops Q l n K S := fun a w ha hw => h (hp w hw) a w ha hw
theorem CW_weak {c : Code} (hp : ∀ w, S w → S' w) (h : CW P c Q n K S') : CW P c Q n K S := fun a w ha hw => h a w ha (hp w hw)
theorem OW_weak {ops : Array Oper} {l : List Oper} (hp : ∀ w, S w → S' w) (h : OW P ops Q l n K S') : OW P ops Q l n K S := fun a w ha hw => h a w ha (hp w hw)
theorem EW_weak {e : Exit} (hp : ∀ w, S w → S' w) (h : EW e Q n K S') : EW e Q n K S := fun a w ha hw => h a w ha (hp w hw)

theorem rev_get {α : Type} (l : List α) (x : α) : (l.reverse ++ [x])[l.length]? = some x := by
  rw [← List.length_reverse]; exact List.getElem?_concat_length

variable {α : Type} {enc : α → List Value} {size : Nat} {e : TypeId} {v : Value} {l : List α}
theorem Sat.tnil (e : TypeId) (size : Nat) (enc : α → List Value) (h : Sat R w0 L w) : Sat R w0 (trow e size enc (.slice none 0 0) [] :: L) w := h.rowNil e size

theorem Sat.tform (s : Swap L (trow e size enc v l) (trow e size enc v l) L') (h : Sat R w0 L w) : ∃ a c, v = .slice a l.length c ∧ l.length ≤ c ∧ c ≤ 9223372036854775807 ∧ (0 < l.length → ∃ g, a = some ⟨g, 0, none⟩) := by
  rcases h.rowForm s with ⟨rfl, h0, _⟩ | ⟨g, c, rfl, h1, h2, _⟩
  · exact ⟨none, 0, by rw [h0], by omega, by omega, fun h => by omega⟩
  · exact ⟨some ⟨g, 0, none⟩, c, rfl, h1, by simpa [maxLen] using h2, fun _ => ⟨g, rfl⟩⟩

theorem Sat.tget {A' : HP} (he : ∀ x, (enc x).length = size) {b len cap k : Nat} {y : α} (s : Swap L (trow e size enc v l) A' L') (h : Sat R w0 L w) (hv : v = .slice (some ⟨b, 0, none⟩) len cap) (hk : l[k]? = some y) :
    ∀ j u, (enc y)[j]? = some u → w.cell? (((⟨b, 0, none⟩ : Addr).add (k * size)).add j) = some u := fun j u hj => by
  have hlt : j < size := by rw [← he y]; exact (List.getElem?_eq_some_iff.1 hj).1
  have := h.cells_row s hv (k * size + j) u (by rw [flat_get he hk hlt]; exact hj)
  rw [Addr.add_lit, Addr.add_lit, Nat.zero_add]; exact this

/-- An element, read whole; one cell of an element. -/
theorem q_loadN_t {t : TypeId} {x : Operand} {b len cap k : Nat} {y : α} (hA : ∀ w, (isAgg t).run P w = .ok true w) (hs : ∀ w, (sizeOf t).run P w = .ok size w) (he : ∀ x, (enc x).length = size)
    (hx : ev K x = some (.pointer (some ((⟨b, 0, none⟩ : Addr).add (k * size))))) (s : Swap L (trow e size enc v l) (trow e size enc v l) L') (hv : v = .slice (some ⟨b, 0, none⟩) len cap) (hk : l[k]? = some y) :
    Qt P n K (Sat R w0 L) ⟨dst, .load t x, T, pos, af, g⟩ (.agg (enc y).toArray) :=
  q_loadN hA hs hx (he y) fun w hw => hw.tget he s hv hk
theorem q_load1_t {t : TypeId} {x : Operand} {b len cap k off : Nat} {y : α} {u : Value} (hA : ∀ w, (isAgg t).run P w = .ok false w) (he : ∀ x, (enc x).length = size)
    (hx : ev K x = some (.pointer (some (((⟨b, 0, none⟩ : Addr).add (k * size)).add off)))) (s : Swap L (trow e size enc v l) (trow e size enc v l) L') (hv : v = .slice (some ⟨b, 0, none⟩) len cap) (hk : l[k]? = some y) (hj : (enc y)[off]? = some u) :
    Qt P n K (Sat R w0 L) ⟨dst, .load t x, T, pos, af, g⟩ u :=
  q_load1 hA hx fun w hw => hw.tget he s hv hk off u hj

theorem e_store_t {t : TypeId} {x z : Operand} {b len cap k off : Nat} {y y' : α} {u : Value} (hs : ∀ w, (sizeOf t).run P w = .ok 1 w) (he : ∀ x, (enc x).length = size)
    (hx : ev K x = some (.pointer (some (((⟨b, 0, none⟩ : Addr).add (k * size)).add off)))) (hz : ev K z = some u) (hu : u.oneCell' = true) (hv : v = .slice (some ⟨b, 0, none⟩) len cap) (hk : l[k]? = some y) (hset : setL (enc y) off u = some (enc y'))
    (s : Swap L (trow e size enc v l) (trow e size enc v (l.set k y')) L') :
    Ef P n K (Sat R w0 L) ⟨dst, .store t x z, T, pos, af, g⟩ (fun _ : Unit => undef) (fun _ => Sat R w0 L') := by
  obtain ⟨hlt, hy⟩ := setL_spec hset
  rw [he] at hlt
  rw [Addr.add_lit, Addr.add_lit, Nat.zero_add] at hx
  have hkl : k < l.length := (List.getElem?_eq_some_iff.1 hk).1
  have hj : k * size + off < (l.flatMap enc).length := by
    rw [flat_length he]
    have : (k + 1) * size ≤ l.length * size := Nat.mul_le_mul_right _ hkl
    rw [Nat.add_mul] at this
    omega
  have s' : Swap L (row e size v l.length (l.flatMap enc)) (row e size v l.length ((l.flatMap enc).set (k * size + off) u)) L' := by
    have := s
    unfold trow at this
    rw [List.length_set, flat_set he hk hlt hy] at this
    exact this
  exact e_store_any hs hx hz hu fun w hw => ⟨⟨_, hw.cells_row s' hv _ _ (List.getElem?_eq_getElem hj)⟩, hw.rowUnfrozen s' hv _, hw.setRow_ s' hv hj⟩

theorem fold_put : ∀ (xs ys zs : List Value) (k : Nat), k = zs.length → xs.length = ys.length → (xs.zipIdx k).foldl (fun (cs : Array Value) (x : Value × Nat) => cs.setIfInBounds x.2 x.1) (zs ++ ys).toArray = (zs ++ xs).toArray
  | [], [], zs, k, _, _ => rfl
  | x :: xs, y :: ys, zs, k, hk, hl => by
    have := fold_put xs ys (zs ++ [x]) (k + 1) (by simp [hk]) (by simpa using hl)
    rw [List.zipIdx_cons, List.foldl_cons]
    have e : (zs ++ y :: ys).toArray.setIfInBounds k x = ((zs ++ [x]) ++ ys).toArray := by
      rw [List.setIfInBounds_toArray, hk, List.set_append_right _ _ (Nat.le_refl _), Nat.sub_self, List.set_cons_zero, List.append_assoc]; rfl
    rw [e, this, List.append_assoc]; rfl
/-- A new row of one element. -/
theorem e_single {t : TypeId} {m : Nat} {x : Operand} {v z : Value} {cs : List Value} (hu : P.underlying t = some (.slice e)) (hs : ∀ w, (sizeOf e).run P w = .ok m w) (hz : ∀ w, (zeroValue e).run P w = .ok z w)
    (hx : ev K x = some v) (hc : v.cells = cs.toArray) (hl : cs.length = m) (hzl : z.cells.size = m) (hm : 1 * m ≠ 0) (hm2 : 1 * m ≤ 1000) :
    Ef P n K (Sat R w0 L) ⟨dst, .buildSlice t 1 #[(0, x)], T, pos, af, g⟩ (fun b : Nat => .slice (some ⟨b, 0, none⟩) 1 1) (fun b => Sat R w0 (cel b e cs :: L)) := by
  have key := e_buildSlice (P := P) (n := n) (K := K) (dst := dst) (T := T) (pos := pos) (af := af) (g := g) (R := R) (w0 := w0) (L := L) (parts := #[(0, x)]) (ps := [(0, v)]) (cs := cs.toArray) hu hs hz
    (fun a ha => by simp [ha.ev hx]) hm hm2 (by
      have e1 : (Array.map (fun i => z.cells[i % z.cells.size]!) (Array.range (1 * m))) = ([] ++ (List.range m).map (fun i => z.cells[i % z.cells.size]!)).toArray := Array.ext (by simp) (fun i h1 h2 => by simp)
      have e2 := fold_put cs ((List.range m).map (fun i => z.cells[i % z.cells.size]!)) [] 0 rfl (by simp [hl])
      simp only [Instr.fill, hc, e1]
      rw [if_neg (by simp [hl])]
      have e3 : cs.toArray.zipIdx = (cs.zipIdx 0).toArray := by simp
      rw [e3]
      simpa using e2)
  exact key

/-- append of one element. -/
theorem e_append_t {t : TypeId} {s x : Operand} {i : TypeInfo} {z : Value} {bytes c : Nat} {ad : Addr} (x0 : α) (hu : P.underlying t = some (.slice e)) (hi : ∀ w, (typeInfo e).run P w = .ok i w) (hz : i.zero = some z)
    (hsize : i.size = size) (hby : i.bytes = bytes) (hzs : z.cells.size = size) (hsz : Nat.beq size 0 = false)
    (hs : ev K s = some v) (hx : ev K x = some (.slice (some ad) 1 c)) (hp : Pick L (trow e size enc v l) L1)
    (hl : (enc x0).length = size) (hnews : ∀ w, Sat R w0 L w → ∀ j u, (enc x0)[j]? = some u → w.cell? (ad.add j) = some u) (h1 : ∀ u ∈ enc x0, u.oneCell' = true)
    (hroom : l.length + 1 ≤ 1000000000000) (hbyt : bytes ≤ 64) :
    Ef P n K (Sat R w0 L) ⟨dst, .call { callee := .builtin .append, args := #[s, x], argTypes := #[t, t] }, T, pos, af, g⟩ (fun v' : Value => v') (fun v' => Sat R w0 (trow e size enc v' (l ++ [x0]) :: L1)) := by
  have := e_append (P := P) (n := n) (K := K) (dst := dst) (T := T) (pos := pos) (af := af) (g := g) (R := R) (w0 := w0) hu hi hz hsize hby hzs hsz hs hx (hp : Pick L (row e size v l.length (l.flatMap enc)) L1) (by rw [hl, Nat.one_mul]) hnews h1 hroom hbyt
  unfold trow
  rw [List.flatMap_append, List.length_append, List.flatMap_cons, List.flatMap_nil, List.append_nil, List.length_singleton]
  exact this

/-- The last element is let go. -/
theorem Sat.tpop (he : ∀ x, (enc x).length = size) {b c m : Nat} {y : α} (hm : l.length = m) (s : Swap L (trow e size enc (.slice (some ⟨b, 0, none⟩) (m + 1) c) (l ++ [y])) (trow e size enc (.slice (some ⟨b, 0, none⟩) m c) l) L') (h : Sat R w0 L w) : Sat R w0 L' w :=
  h.swap s fun hp ⟨h1, h2, h3⟩ => by
    subst hm
    rw [List.length_append, List.length_singleton] at h2 h3
    refine ⟨flat_length he l, by omega, ?_⟩
    rcases h3 with ⟨h, _⟩ | ⟨b', cap, rest, hv, h4, h5, h6, h7⟩
    · cases h
    · injection hv with e1 _ e2
      refine .inr ⟨b', cap, enc y ++ rest, by rw [e1, e2], by omega, h5, ?_, ?_⟩
      · rw [← List.append_assoc]
        rw [List.flatMap_append, List.flatMap_cons, List.flatMap_nil, List.append_nil] at h6
        exact h6
      · rw [← List.append_assoc]
        rw [List.flatMap_append, List.flatMap_cons, List.flatMap_nil, List.append_nil] at h7
        exact h7

abbrev encN : Int → List Value := fun x => [vi x]
theorem Sat.tints {l : List Int} (s : Swap L (trow e 1 encN v l) (trow e 1 encN v l) L') (h : Sat R w0 L w) : IntsAt (Cl w) v l := by
  obtain ⟨a, c, rfl, h1, h2, h3⟩ := h.tform s
  refine ⟨a, c, rfl, h1, h2, fun k x hx => ?_⟩
  obtain ⟨b, rfl⟩ := h3 (by have := (List.getElem?_eq_some_iff.1 hx).1; omega)
  refine ⟨_, rfl, ?_⟩
  have := h.tget (enc := encN) (fun _ => rfl) s rfl hx 0 (vi x) rfl
  rwa [Addr.add_zero'] at this
end
end Go.Sy
