/- Rows that grow while an elder view of them is still read; maps of items; what a range over such a map meets. No condition. -/
import Derived.Test.YteceklkjbcebkaaSyx
import Derived.Test.YteceklkjbcebkaaPRecog
import Derived.Maps.RangeRun
import Derived.WideKeyRuns
namespace Go.Sy
open Go Go.RowKit

abbrev emp0A : HP := fun h => h = emp0
/-- What is left of a row's elder array: nothing, where it is the row's still. -/
def keepA (e : TypeId) (v : Value) (xs : List Value) (v' : Value) : HP := fun h =>
  (h = emp0 ∧ (v = .slice none 0 0 ∨ ∃ b n1 c1 n2 c2, v = .slice (some ⟨b, 0, none⟩) n1 c1 ∧ v' = .slice (some ⟨b, 0, none⟩) n2 c2)) ∨ ∃ b n1 c1 rest, v = .slice (some ⟨b, 0, none⟩) n1 c1 ∧ cel b e (xs ++ rest) h

section
variable {P : Program} {n : Nat} {K : Env} {dst : Option Nat} {T : TypeId} {pos : String} {af : Array Edge} {g : Option (Nat × Bool)} {R : Nat → Prop} {w0 : World} {L L' : List HP} {Q : Exit → Act → World → Prop} {S : World → Prop}
/-- append, and what was there stays to be read. -/
theorem e_appendK_at [Inhabited (List Deferred)] {t e : TypeId} {s x : Operand} {i : TypeInfo} {z v : Value} {size bytes m len c : Nat} {xs news : List Value} {ad : Addr} {L1 : List HP} (hu : P.underlying t = some (.slice e)) (hi : ∀ w, (typeInfo e).run P w = .ok i w) (hz : i.zero = some z)
    (hsize : i.size = size) (hby : i.bytes = bytes) (hzs : z.cells.size = size) (hsz : Nat.beq size 0 = false)
    (hs : ev K s = some v) (hx : ev K x = some (.slice (some ad) m c)) (hp : Pick L (row e size v len xs) L1)
    (hl : news.length = m * size) (a : Act) (w : World) (ha : Kn n K a) (hw : Sat R w0 L w) (hcells : ∀ j u, news[j]? = some u → w.cell? (ad.add j) = some u) (h1 : ∀ u ∈ news, u.oneCell' = true)
    (hroom : len + m ≤ 1000000000000) (hbyt : bytes ≤ 64) (next : Act → World → Prop) (Q : Exit → Act → World → Prop)
    (h : ∀ v' w', Sat R w0 (row e size v' (len + m) (xs ++ news) :: keepA e v xs v' :: L1) w' → next (a.put dst v') w') :
    Oper.wp P ⟨dst, .call { callee := .builtin .append, args := #[s, x], argTypes := #[t, t] }, T, pos, af, g⟩ a w next Q := by
  subst hsize
  subst hby
  have hsz' : 0 < i.size := Nat.pos_of_ne_zero (Nat.ne_of_beq_eq_false hsz)
  have hinfo := info_of P hi w
  have hbytes : (len + m) * i.bytes ≤ 140737488355328 := by
    have : (len + m) * i.bytes ≤ 1000000000000 * 64 := Nat.mul_le_mul hroom hbyt
    omega
  have hpk := hw.pick hp
  obtain ⟨hx0, ⟨h1', h2', hd, rfl, ⟨hlen, hmax, hrow⟩, hL⟩, hy⟩ := hpk.own
  have hlen2 : (xs ++ news).length = (len + m) * i.size := by rw [List.length_append, hlen, hl, Nat.add_mul]
  have hm63 : len + m ≤ maxLen := by simp only [maxLen]; omega
  have goal : ∀ v' w', (Builtin.append_ #[t, t] T #[v, .slice (some ad) m c]).run P w = .ok v' w' → Sat R w0 (row e i.size v' (len + m) (xs ++ news) :: keepA e v xs v' :: L1) w' →
      (Oper.wp P ⟨dst, .call { callee := .builtin .append, args := #[s, x], argTypes := #[t, t] }, T, pos, af, g⟩ a w next Q) := by
    intro v' w' hr hS
    have := h v' w' hS
    simp only [Oper.wp, execOp, resolve, invoke, builtin, Sem.run_bind, Sem.run_pure, Result.andThen_ok, List.map_toArray, List.map_cons, List.map_nil, ha.ev hs, ha.ev hx, hr, Oper.upon]
    exact this
  -- a new array
  have grown : ∀ old LL, Sat R w0 LL w → old < len + m →
      Sat R w0 (row e i.size (.slice (some ⟨w.heap.size, 0, none⟩) (len + m) (grownCap w (len + m) old e)) (len + m) (xs ++ news) :: LL)
        (w.drew.alloc (.cells (xs.toArray ++ news.toArray ++ Builtin.zeroCells z.cells (grownCap w (len + m) old e - (len + m))) e)) := by
    intro old LL hLL _
    have hge := grownCap_ge w (len + m) old e
    have hcm : grownCap w (len + m) old e ≤ maxLen := grownCap_le_maxLen w (len + m) old e hm63
    have h3 := (hLL.drew).alloc (.cells (xs.toArray ++ news.toArray ++ Builtin.zeroCells z.cells (grownCap w (len + m) old e - (len + m))) e)
    refine h3.swap .head fun hh hb => ⟨hlen2, hm63, .inr ⟨w.heap.size, _, (Builtin.zeroCells z.cells (grownCap w (len + m) old e - (len + m))).toList, rfl, hge, hcm, ?_, ?_⟩⟩
    · rw [List.length_append, hlen2, Array.length_toList, size_zeroCells, hzs, ← Nat.add_mul]
      congr 1
      omega
    · have e1 : ((xs ++ news) ++ (Builtin.zeroCells z.cells (grownCap w (len + m) old e - (len + m))).toList).toArray = xs.toArray ++ news.toArray ++ Builtin.zeroCells z.cells (grownCap w (len + m) old e - (len + m)) := by
        apply Array.ext'
        simp
      rw [e1]
      exact hb
  rcases hrow with ⟨rfl, rfl, rfl⟩ | ⟨b, cap, rest, rfl, h3, h4, h5, rfl⟩
  · have hxs : xs = [] := List.eq_nil_of_length_eq_zero (by simpa using hlen)
    subst hxs
    by_cases hm0 : m = 0
    · subst hm0
      have hn : news = [] := List.eq_nil_of_length_eq_zero (by simpa using hl)
      subst hn
      refine goal (.slice none 0 0) w ?_ ((hpk.addEmp (A := keepA e (.slice none 0 0) [] (.slice none 0 0)) (.inl ⟨rfl, .inl rfl⟩)).pick (.tail .head))
      simp [Builtin.append_, run_underlying hu, sizeOf, typeInfo, hinfo, Builtin.lenOf, Builtin.firstCells, loadCells, loadCellsFrom]
    · have hr := run_append_nil (P := P) w t T e i z hu hinfo hz ad m c news hl hcells (by omega) (by omega) (by have hb := hbytes; simp only [Nat.zero_add] at hb; omega)
      have hg := ((grown 0 L1 hpk.drop1 (by omega)).addEmp (A := keepA e (.slice none 0 0) [] (.slice (some ⟨w.heap.size, 0, none⟩) (0 + m) (grownCap w (0 + m) 0 e))) (.inl ⟨rfl, .inl rfl⟩)).pick (.tail .head)
      simp only [Nat.zero_add, List.nil_append, Array.empty_append] at hg hr goal
      exact goal _ _ hr hg
  · have hb := (hy b _ (by simp [uni, one_same]; rfl)).2
    by_cases hrm : len + m ≤ cap
    · have hfit : len * i.size + news.length ≤ (xs ++ rest).toArray.size := by
        rw [List.size_toArray, h5, hl, ← Nat.add_mul]; exact Nat.mul_le_mul_right _ hrm
      have hr := run_append_room (P := P) w t T e i hu hinfo b len cap _ hb ad m c news hl hcells h1 hrm hfit
      refine goal _ _ hr ?_
      have key : Sat R w0 (blk b (.cells (xs ++ rest).toArray e (0, 0)) :: L1) w := ⟨hpk.os, hpk.tape, hpk.output, hpk.size, hpk.ro, _, ⟨_, h2', hd, rfl, rfl, hL⟩, hy⟩
      have hcs : (xs ++ rest).toArray.toList.take (len * i.size) ++ news ++ (xs ++ rest).toArray.toList.drop (len * i.size + news.length) = xs ++ news ++ rest.drop news.length := by
        simp only [← hlen]
        rw [List.take_left, List.drop_append, List.drop_eq_nil_of_le (by omega)]
        simp
      have h6 := key.turn (o' := .cells (xs ++ news ++ rest.drop news.length).toArray e (0, 0)) (w' := w.setRow b ((xs ++ rest).toArray.toList.take (len * i.size) ++ news ++ (xs ++ rest).toArray.toList.drop (len * i.size + news.length)).toArray) .head rfl rfl rfl (by simp)
        (by rw [hcs]; exact setRow_heap w b _ _ e _ hb) (fun k hk => setRow_other w b k _ hk)
      refine ((h6.swap .head (A' := row e i.size (.slice (some ⟨b, 0, none⟩) (len + m) cap) (len + m) (xs ++ news)) fun hh hb' => ⟨hlen2, hm63, .inr ⟨b, cap, rest.drop news.length, rfl, hrm, h4, ?_, hb'⟩⟩).addEmp (A := keepA e (.slice (some ⟨b, 0, none⟩) len cap) xs (.slice (some ⟨b, 0, none⟩) (len + m) cap)) (.inl ⟨rfl, .inr ⟨b, _, _, _, _, rfl, rfl⟩⟩)).pick (.tail .head)
      rw [List.length_append] at h5
      simp only [List.length_append, List.length_drop]
      rw [List.size_toArray, List.length_append] at hfit
      omega
    · have holds : ∀ j u, xs[j]? = some u → w.cell? ((⟨b, 0, none⟩ : Addr).add j) = some u := fun j u hj => by
        have hlt : j < xs.length := (List.getElem?_eq_some_iff.1 hj).1
        rw [Addr.add_lit]
        simp [World.cell?, hb, List.getElem?_append_left hlt, hj]
      have hr := run_append_grow (P := P) w t T e i z hu hinfo hz ⟨b, 0, none⟩ len cap xs hlen holds ad m c news hl hcells (by omega) (by omega) (growslice_fits (by omega) hbytes)
      have key : Sat R w0 (keepA e (.slice (some ⟨b, 0, none⟩) len cap) xs (.slice (some ⟨w.heap.size, 0, none⟩) (len + m) (grownCap w (len + m) cap e)) :: L1) w := ⟨hpk.os, hpk.tape, hpk.output, hpk.size, hpk.ro, _, ⟨_, h2', hd, rfl, .inr ⟨b, len, cap, rest, rfl, rfl⟩, hL⟩, hy⟩
      exact goal _ _ hr (grown cap _ key (by omega))
end

abbrev encI : Itt → List Value := fun x => [vi x.rule, vi x.dot, vi x.frm]
abbrev itV (x : Itt) : Value := .agg (encI x).toArray
/-- An elder view of a row: what it reads as. -/
def ViewIn (v : Value) (l : List Itt) (G : List (Nat × List Value)) (u : Value) (ys : List Itt) : Prop :=
  ys = [] ∨ ∃ b n c, u = .slice (some ⟨b, 0, none⟩) n c ∧ ((∃ n' c', v = .slice (some ⟨b, 0, none⟩) n' c' ∧ ys <+: l) ∨ ∃ cs, (b, cs) ∈ G ∧ ys.flatMap encI <+: cs)
def rowV (e : TypeId) (v : Value) (l : List Itt) (u : Value) (ys : List Itt) : HP := fun h =>
  ∃ G : List (Nat × List Value), ViewIn v l G u ys ∧ stars (trow e 3 encI v l :: G.map (fun p => cel p.1 e p.2)) h

section
variable {R : Nat → Prop} {w0 w : World} {L L' L1 : List HP} {e : TypeId} {v u : Value} {l ys : List Itt}
theorem Sat.openV (h : Sat R w0 (rowV e v l u ys :: L) w) : ∃ G : List (Nat × List Value), ViewIn v l G u ys ∧ Sat R w0 (trow e 3 encI v l :: (G.map (fun p => cel p.1 e p.2) ++ L)) w := by
  obtain ⟨x, ⟨h1, h2, hd, rfl, ⟨G, hv, hs⟩, hL⟩, hy⟩ := h.own
  exact ⟨G, hv, h.os, h.tape, h.output, h.size, h.ro, uni h1 h2, (stars_append (trow e 3 encI v l :: G.map (fun (p : Nat × List Value) => cel p.1 e p.2)) L _).2 ⟨h1, h2, hd, rfl, hs, hL⟩, hy⟩
theorem Sat.closeV {G : List (Nat × List Value)} (hv : ViewIn v l G u ys) (h : Sat R w0 (trow e 3 encI v l :: (G.map (fun p => cel p.1 e p.2) ++ L)) w) : Sat R w0 (rowV e v l u ys :: L) w :=
  h.imp_ fun y hy => by
    obtain ⟨h1, h2, hd, e1, ha, hb⟩ := (stars_append (trow e 3 encI v l :: G.map (fun (p : Nat × List Value) => cel p.1 e p.2)) L y).1 hy
    exact ⟨h1, h2, hd, e1, ⟨G, hv, ha⟩, hb⟩
theorem Sat.newV (h : Sat R w0 L w) : Sat R w0 (rowV e (.slice none 0 0) [] (.slice none 0 0) [] :: L) w := (h.tnil e 3 encI).closeV (G := []) (.inl rfl)
/-- One part of many, alone. -/
theorem Sat.only {A : HP} (s : Swap L A A L') (h : Sat R w0 L w) : Sat R w0 [A] w := by
  obtain ⟨x, hx, hy⟩ := h.own
  obtain ⟨h1, h2, hd, rfl, hA, _⟩ := s.focus x hx
  exact ⟨h.os, h.tape, h.output, h.size, h.ro, h1, ⟨h1, emp0, dis_emp h1, (uni_emp h1).symm, hA, rfl⟩, fun b o hb => hy b o (by simp [uni, hb])⟩
theorem Sat.vform (s : Swap L (rowV e v l u ys) (rowV e v l u ys) L') (h : Sat R w0 L w) : ∃ a c, v = .slice a l.length c ∧ l.length ≤ c ∧ c ≤ 9223372036854775807 ∧ (0 < l.length → ∃ g, a = some ⟨g, 0, none⟩) := by
  obtain ⟨G, _, h2⟩ := (h.only s).openV
  exact h2.tform .head
theorem Sat.vget {b n c k : Nat} {y : Itt} (s : Swap L (rowV e v l u ys) (rowV e v l u ys) L') (h : Sat R w0 L w) (hv : v = .slice (some ⟨b, 0, none⟩) n c) (hk : l[k]? = some y) : ∀ j z, (encI y)[j]? = some z → w.cell? (((⟨b, 0, none⟩ : Addr).add (k * 3)).add j) = some z := by
  obtain ⟨G, _, h2⟩ := (h.only s).openV
  exact h2.tget (enc := encI) (A' := emp0A) (fun _ => rfl) .head hv hk
theorem Sat.uget {b n c k : Nat} {y : Itt} (s : Swap L (rowV e v l u ys) (rowV e v l u ys) L') (h : Sat R w0 L w) (hu : u = .slice (some ⟨b, 0, none⟩) n c) (hk : ys[k]? = some y) : ∀ j z, (encI y)[j]? = some z → w.cell? (((⟨b, 0, none⟩ : Addr).add (k * 3)).add j) = some z := by
  obtain ⟨G, hv, h2⟩ := (h.only s).openV
  rcases hv with rfl | ⟨b', n', c', hu', hv⟩
  · cases hk
  · rw [hu] at hu'
    have hb : b = b' := by injection hu' with e1 _ _; injection e1 with e2; injection e2
    subst hb
    rcases hv with ⟨n2, c2, hv2, m, rfl⟩ | ⟨cs, hG, hpre⟩
    · exact h2.tget (enc := encI) (A' := emp0A) (fun _ => rfl) .head hv2 (by rw [List.getElem?_append_left (List.getElem?_eq_some_iff.1 hk).1]; exact hk)
    · intro j z hj
      obtain ⟨i, hi⟩ := List.getElem?_of_mem hG
      have hi' : (G.map (fun p => cel p.1 e p.2) ++ [])[i]? = some (cel b e cs) := by rw [List.append_nil, List.getElem?_map, hi]; rfl
      have hc := h2.cell (b := b) (t := e) (cs := cs) (A' := cel b e cs) (.tail (.idx hi')) (k * 3 + j)
      have hlt : j < 3 := (List.getElem?_eq_some_iff.1 hj).1
      rw [Addr.add_lit, Addr.add_lit, Nat.zero_add, hc]
      obtain ⟨m, rfl⟩ := hpre
      have hf := flat_get (enc := encI) (size := 3) (fun _ => rfl) hk hlt
      rw [hj] at hf
      rw [List.getElem?_append_left (List.getElem?_eq_some_iff.1 hf).1]; exact hf
/-- The row as it is, as the view from here on. -/
theorem Sat.lookV (s : Swap L (rowV e v l u ys) (rowV e v l v l) L') (h : Sat R w0 L w) : Sat R w0 L' w :=
  h.swap s fun hp ⟨G, _, hs⟩ => by
    obtain ⟨h1, h2, hd, e1, ha, hb⟩ := hs
    refine ⟨G, ?_, h1, h2, hd, e1, ha, hb⟩
    obtain ⟨_, _, ⟨rfl, h0, _⟩ | ⟨b, cap, _, rfl, _⟩⟩ := ha
    · exact .inl (List.eq_nil_of_length_eq_zero h0)
    · exact .inr ⟨b, _, _, rfl, .inl ⟨_, _, rfl, List.prefix_refl _⟩⟩
end

section
variable {P : Program} {n : Nat} {K : Env} {dst : Option Nat} {T : TypeId} {pos : String} {af : Array Edge} {g : Option (Nat × Bool)} {R : Nat → Prop} {w0 : World} {L L' L1 : List HP} {e : TypeId} {v u : Value} {l ys : List Itt}
/-- append of one item; the view stays. -/
theorem e_appendV [Inhabited (List Deferred)] {t : TypeId} {s x : Operand} {i : TypeInfo} {z : Value} {bytes c : Nat} {ad : Addr} (x0 : Itt) (hu : P.underlying t = some (.slice e)) (hi : ∀ w, (typeInfo e).run P w = .ok i w) (hz : i.zero = some z)
    (hsize : i.size = 3) (hby : i.bytes = bytes) (hzs : z.cells.size = 3)
    (hs : ev K s = some v) (hx : ev K x = some (.slice (some ad) 1 c)) (hp : Pick L (rowV e v l u ys) L1)
    (hnews : ∀ w, Sat R w0 L w → ∀ j u, (encI x0)[j]? = some u → w.cell? (ad.add j) = some u)
    (hroom : l.length + 1 ≤ 1000000000000) (hbyt : bytes ≤ 64) :
    Ef P n K (Sat R w0 L) ⟨dst, .call { callee := .builtin .append, args := #[s, x], argTypes := #[t, t] }, T, pos, af, g⟩ (fun v' : Value => v') (fun v' => Sat R w0 (rowV e v' (l ++ [x0]) u ys :: L1)) := by
  intro a w ha hw next Q h
  obtain ⟨G, hv, hw2⟩ := (hw.pick hp).openV
  have hnews' := hnews w hw
  refine e_appendK_at (P := P) (news := encI x0) hu hi hz hsize hby hzs rfl hs hx (.head (A := row e 3 v l.length (l.flatMap encI)) (L := G.map (fun p => cel p.1 e p.2) ++ L1)) rfl a w ha hw2 hnews' (by simp [Value.oneCell']) hroom hbyt next Q fun v' w' hw' => h v' w' ?_
  have e1 : row e 3 v' (l.length + 1) (l.flatMap encI ++ encI x0) = trow e 3 encI v' (l ++ [x0]) := by
    unfold trow
    rw [List.flatMap_append, List.length_append, List.flatMap_cons, List.flatMap_nil, List.append_nil, List.length_singleton]
  rw [e1] at hw'
  obtain ⟨y, hy, hz'⟩ := hw'.own
  obtain ⟨h1, h2, hd, rfl, hr, h3, h4, hd', rfl, hk, hL⟩ := hy
  have back : ∀ LL, stars LL (uni h1 (uni h3 h4)) → Sat R w0 LL w' := fun LL hh => ⟨hw'.os, hw'.tape, hw'.output, hw'.size, hw'.ro, _, hh, hz'⟩
  rcases hk with ⟨rfl, hkv⟩ | ⟨b, n1, c1, rest, hkv, hkc⟩
  · rw [emp_uni] at back hd
    refine Sat.closeV (G := G) ?_ (back _ ⟨h1, h4, hd, rfl, hr, hL⟩)
    rcases hv with rfl | ⟨b, n2, c2, hu2, hv⟩
    · exact .inl rfl
    · refine .inr ⟨b, n2, c2, hu2, ?_⟩
      rcases hv with ⟨n3, c3, hv3, hpre⟩ | hG
      · rcases hkv with hkv | ⟨b', n4, c4, n5, c5, hk4, hk5⟩
        · rw [hkv] at hv3; cases hv3
        · rw [hk4] at hv3
          have hb : b' = b := by injection hv3 with e1 _ _; injection e1 with e2; injection e2
          subst hb
          exact .inl ⟨n5, c5, hk5, hpre.trans (List.prefix_append _ _)⟩
      · exact .inr hG
  · refine Sat.closeV (G := (b, l.flatMap encI ++ rest) :: G) ?_ (back _ ⟨h1, uni h3 h4, hd, rfl, hr, h3, h4, hd', rfl, hkc, hL⟩)
    rcases hv with rfl | ⟨b2, n2, c2, hu2, hv⟩
    · exact .inl rfl
    · refine .inr ⟨b2, n2, c2, hu2, .inr ?_⟩
      rcases hv with ⟨n3, c3, hv3, m, hpre⟩ | ⟨cs, hG, hpre⟩
      · rw [hkv] at hv3
        have hb : b = b2 := by injection hv3 with e1 _ _; injection e1 with e2; injection e2
        subst hb
        exact ⟨_, List.mem_cons_self, m.flatMap encI ++ rest, by rw [← hpre, List.flatMap_append, List.append_assoc]⟩
      · exact ⟨cs, List.mem_cons_of_mem _ hG, hpre⟩
end

/-! ### Maps of items -/
abbrev encM : Nat → List Value := fun m => [.map (some m)]
abbrev encW : Value → List Value := fun v => [v]
def mapEs (l : List Itt) : List MapEntry := l.zipIdx.map fun p => { key := itV p.1, val := .bool true, born := p.2 }
def mapObj (l : List Itt) : Obj := .map (mapEs l).toArray l.length
theorem run_gm {P : Program} {w : World} {m : Nat} {l : List Itt} (hb : w.heap[m]? = some (mapObj l)) : (getObj m).run P w = .ok (.map (mapEs l).toArray l.length) w := by
  unfold mapObj at hb; simp [getObj, Sem.run, hb]
theorem run_sm {P : Program} {w : World} {m : Nat} {l : List Itt} (hb : w.heap[m]? = some (mapObj l)) (o : Obj) : (setObj m o).run P w = .ok () { w with heap := w.heap.setIfInBounds m o } := by
  unfold mapObj at hb; simp [setObj, Sem.run, hb]
theorem mapEs_key (l : List Itt) : (mapEs l).map (·.key) = l.map itV := by
  unfold mapEs
  rw [List.map_map]
  have : ((fun e : MapEntry => e.key) ∘ fun p : Itt × Nat => ({ key := itV p.1, val := .bool true, born := p.2 } : MapEntry)) = itV ∘ Prod.fst := rfl
  rw [this, ← List.map_map, List.zipIdx_map_fst]
theorem mapEs_val (l : List Itt) : ∀ x ∈ mapEs l, x.val = .bool true := fun x hx => by
  unfold mapEs at hx
  obtain ⟨p, _, rfl⟩ := List.mem_map.1 hx
  rfl
theorem mapEs_add (l : List Itt) (x : Itt) : mapEs (l ++ [x]) = mapEs l ++ [{ key := itV x, val := .bool true, born := l.length }] := by
  unfold mapEs
  rw [List.zipIdx_append]; simp
theorem mapEs_born (l : List Itt) : (mapEs l).map (·.born) = List.range l.length := by
  unfold mapEs
  rw [List.map_map]
  have : ((fun e : MapEntry => e.born) ∘ fun p : Itt × Nat => ({ key := itV p.1, val := .bool true, born := p.2 } : MapEntry)) = Prod.snd := rfl
  rw [this, List.zipIdx_map_snd, List.range_eq_range']
theorem mapEs_mem {l : List Itt} {e : MapEntry} (h : e ∈ mapEs l) : ∃ x, l[e.born]? = some x ∧ e.key = itV x ∧ e.val = .bool true := by
  unfold mapEs at h
  obtain ⟨⟨x, k⟩, hp, rfl⟩ := List.mem_map.1 h
  exact ⟨x, (List.mem_zipIdx_iff_getElem?.1 hp), rfl, rfl⟩

/-- What the program's own types must be. -/
structure ItTy (P : Program) (Tm T Tb : TypeId) : Prop where
  map : P.underlying Tm = some (.map T Tb)
  wide : (match P.underlying T with | some (.array _ _) | some (.struct _) => true | _ => false) = true
  check : ∀ (em : Bool) (x : Itt) w, (Instr.checkKey em 10000 T (itV x)).run P w = .ok () w
  eq : ∀ (x y : Itt) w, (Op.equal T (itV x) (itV y)).run P w = .ok (decide (x = y)) w
  zero : ∀ w, (zeroValue Tb).run P w = .ok (.bool false) w

section
variable {P : Program} {Tm T Tb : TypeId}
theorem ItTy.find (h : ItTy P Tm T Tb) (x : Itt) (w : World) : ∀ (es : List MapEntry) (l : List Itt) (i : Nat), es.map (·.key) = l.map itV → (∀ e ∈ es, e.val = .bool true) →
    (x ∈ l → ∃ k, (Instr.findAsking T (itV x) es i).run P w = .ok (some (k, .bool true)) w) ∧ (x ∉ l → (Instr.findAsking T (itV x) es i).run P w = .ok none w)
  | [], l, i, hk, _ => by
    have : l = [] := by cases l with | nil => rfl | cons y l => cases hk
    subst this
    exact ⟨(fun hx => by cases hx), fun _ => rfl⟩
  | e :: es, [], i, hk, _ => by cases hk
  | e :: es, y :: l, i, hk, hv => by
    simp only [List.map_cons, List.cons.injEq] at hk
    have ih := ItTy.find h x w es l (i + 1) hk.2 (fun e he => hv e (List.mem_cons_of_mem _ he))
    have hr : (Instr.findAsking T (itV x) (e :: es) i).run P w = if decide (x = y) = true then .ok (some (i, e.val)) w else (Instr.findAsking T (itV x) es (i + 1)).run P w := by
      simp only [Instr.findAsking, Sem.run_bind, hk.1, h.eq, Result.andThen_ok]
      split <;> simp_all
    rw [hr]
    by_cases e1 : x = y
    · subst e1
      refine ⟨fun _ => ⟨i, by simp [hv e (by simp)]⟩, fun hx => absurd (List.mem_cons_self) hx⟩
    · simp only [e1, decide_false, Bool.false_eq_true, if_false]
      exact ⟨fun hx => ih.1 ((List.mem_cons.1 hx).resolve_left e1), fun hx => ih.2 (fun hh => hx (List.mem_cons_of_mem _ hh))⟩

theorem ItTy.lookup (h : ItTy P Tm T Tb) {w : World} {m : Nat} {l : List Itt} (hb : w.heap[m]? = some (mapObj l)) (x : Itt) : (Instr.lookup Tm (.map (some m)) (itV x) false).run P w = .ok (.bool (decide (x ∈ l))) w := by
  have hg : (getObj m).run P w = .ok (.map (mapEs l).toArray l.length) w := run_gm hb
  have hf := h.find x w (mapEs l) l 0 (mapEs_key l) (mapEs_val l)
  simp only [Instr.lookup, Sem.run_bind, run_underlying h.map, Result.andThen_ok, hg, Sem.run_pure, h.check, run_findKey_eq w h.wide]
  by_cases hx : x ∈ l
  · obtain ⟨k, hk⟩ := hf.1 hx
    simp [hk, hx]
  · simp [hf.2 hx, hx, h.zero]
theorem ItTy.update (h : ItTy P Tm T Tb) {w : World} {m : Nat} {l : List Itt} (hb : w.heap[m]? = some (mapObj l)) {x : Itt} (hx : x ∉ l) : (Instr.mapUpdate Tm (.map (some m)) (itV x) (.bool true)).run P w = .ok () { w with heap := w.heap.setIfInBounds m (mapObj (l ++ [x])) } := by
  have hg : (getObj m).run P w = .ok (.map (mapEs l).toArray l.length) w := run_gm hb
  have hf := (h.find x w (mapEs l) l 0 (mapEs_key l) (mapEs_val l)).2 hx
  have e1 : mapObj (l ++ [x]) = .map ((mapEs l).toArray.push { key := itV x, val := .bool true, born := l.length }) (l.length + 1) := by
    unfold mapObj; rw [mapEs_add]; simp
  have hs := run_sm (P := P) hb (mapObj (l ++ [x]))
  rw [e1] at hs
  simp only [Instr.mapUpdate, Sem.run_bind, run_underlying h.map, Result.andThen_ok, hg, h.check, run_findKey_eq w h.wide, hf]
  rw [e1]
  exact hs

variable {n : Nat} {K : Env} {dst : Option Nat} {pos : String} {af : Array Edge} {g : Option (Nat × Bool)} {R : Nat → Prop} {w0 w : World} {L L' : List HP} {TT : TypeId}
theorem q_lookupI [Inhabited (List Deferred)] {xm xk : Operand} {m : Nat} {y : Itt} {l : List Itt} {A' : HP} (h : ItTy P Tm T Tb) (hx : ev K xm = some (.map (some m))) (hk : ev K xk = some (itV y)) (s : Swap L (blk m (mapObj l)) A' L') :
    Qt P n K (Sat R w0 L) ⟨dst, .lookup Tm xm xk false, TT, pos, af, g⟩ (.bool (decide (y ∈ l))) := fun a ha w hw => by
  have hb : w.heap[m]? = some (mapObj l) := (hw.block s (fun x hx => by rw [hx]; exact one_same _ _)).1
  simp [execOp, ha.ev hx, ha.ev hk, h.lookup hb y]
theorem e_mapUpd [Inhabited (List Deferred)] {xm xk xv : Operand} {m : Nat} {y : Itt} {l : List Itt} (h : ItTy P Tm T Tb) (hx : ev K xm = some (.map (some m))) (hk : ev K xk = some (itV y)) (hv : ev K xv = some (.bool true)) (hy : y ∉ l) (s : Swap L (blk m (mapObj l)) (blk m (mapObj (l ++ [y]))) L') :
    Ef P n K (Sat R w0 L) ⟨dst, .mapUpdate Tm xm xk xv, TT, pos, af, g⟩ (fun _ : Unit => undef) (fun _ => Sat R w0 L') := by
  intro a w ha hw next Q hn
  have hb : w.heap[m]? = some (mapObj l) := (hw.block s (fun x hx => by rw [hx]; exact one_same _ _)).1
  have hlt := (Array.getElem?_eq_some_iff.1 hb).1
  have := hn () _ (hw.turn (w' := { w with heap := w.heap.setIfInBounds m (mapObj (l ++ [y])) }) s rfl rfl rfl (by simp) (by simp [hlt]) (fun k hk => by simp [Array.getElem?_setIfInBounds, Ne.symm hk]))
  simpa [Oper.wp, execOp, ha.ev hx, ha.ev hk, ha.ev hv, h.update hb hy, Oper.upon] using this
theorem e_makeMap [Inhabited (List Deferred)] : Ef P n K (Sat R w0 L) ⟨dst, .makeMap Tm none, TT, pos, af, g⟩ (fun m : Nat => .map (some m)) (fun m => Sat R w0 (blk m (mapObj []) :: L)) := by
  intro a w ha hw next Q hn
  have := hn w.heap.size (w.alloc (mapObj [])) (hw.alloc _)
  rw [show mapObj [] = .map #[] 0 from rfl] at this
  simpa [Oper.wp, execOp, Instr.makeMap, Oper.upon] using this

/-- A range over a map of items: what it has met. -/
def iterA (b m : Nat) (len : Nat) (seen : List Nat) : HP := blk b (.mapIter (some m) len seen.toArray len)
theorem e_rangeI [Inhabited (List Deferred)] {xm : Operand} {m : Nat} {l : List Itt} {A' : HP} (h : ItTy P Tm T Tb) (hx : ev K xm = some (.map (some m))) (s : Swap L (blk m (mapObj l)) A' L') :
    Ef P n K (Sat R w0 L) ⟨dst, .range Tm xm, TT, pos, af, g⟩ (fun b : Nat => .pointer (some ⟨b, 0, none⟩)) (fun b => Sat R w0 (iterA b m l.length [] :: L)) := by
  intro a w ha hw next Q hn
  have hb : w.heap[m]? = some (mapObj l) := (hw.block s (fun x hx => by rw [hx]; exact one_same _ _)).1
  have hg : (getObj m).run P w = .ok (.map (mapEs l).toArray l.length) w := run_gm hb
  have := hn w.heap.size (w.alloc (.mapIter (some m) l.length #[] l.length)) (hw.alloc _)
  simpa [Oper.wp, execOp, ha.ev hx, Instr.range, run_underlying h.map, hg, Oper.upon] using this
theorem e_nextI [Inhabited (List Deferred)] {xi : Operand} {b m : Nat} {l : List Itt} {seen : List Nat} {A' : HP} {L2 : List HP} {K' : HP → List HP} (hx : ev K xi = some (.pointer (some ⟨b, 0, none⟩))) (s : Swap L (blk m (mapObj l)) A' L2) (o : Hole L (iterA b m l.length seen) K') :
    Ef P n K (Sat R w0 L) ⟨dst, .next xi false, TT, pos, af, g⟩ (fun y : Option (Nat × Itt) => match y with | none => .tuple #[.bool false] | some p => .tuple #[.bool true, itV p.2, .bool true])
      (fun y w' => match y with | none => (∀ k, k < l.length → k ∈ seen) ∧ Sat R w0 L w' | some p => l[p.1]? = some p.2 ∧ p.1 ∉ seen ∧ Sat R w0 (K' (iterA b m l.length (seen ++ [p.1]))) w') := by
  intro a w ha hw next Q hn
  have hb : w.heap[m]? = some (mapObj l) := (hw.block s (fun x hx => by rw [hx]; exact one_same _ _)).1
  have hi : w.heap[b]? = some (.mapIter (some m) l.length seen.toArray l.length) := (hw.block (o.swap A') (fun x hx => by rw [hx]; exact one_same _ _)).1
  have hilt := (Array.getElem?_eq_some_iff.1 hi).1
  have hborn : ∀ x ∈ (mapEs l).toArray.toList, x.born < l.length := fun x hx => by
    obtain ⟨y, hy, _⟩ := mapEs_mem (by simpa using hx)
    exact (List.getElem?_eq_some_iff.1 hy).1
  rcases run_next_at (P := P) w TT b m l.length l.length seen.toArray (mapEs l).toArray l.length hi hb hborn (Nat.le_refl _) with ⟨h0, hr⟩ | ⟨e, he, w1, hw1, hr⟩
  · have := hn none w ⟨fun k hk => ?_, hw⟩
    · simpa [Oper.wp, execOp, ha.ev hx, hr, Oper.upon] using this
    · apply Classical.byContradiction
      intro hks
      have hmem : k ∈ (mapEs l).map (·.born) := by rw [mapEs_born]; exact List.mem_range.2 hk
      obtain ⟨e, he, rfl⟩ := List.mem_map.1 hmem
      have : e ∈ (leftOf (mapEs l).toArray seen.toArray) := by
        unfold leftOf
        rw [Array.mem_filter]
        exact ⟨by simpa using he, by simpa using hks⟩
      have := Array.size_pos_of_mem this
      omega
  · have he2 : e ∈ mapEs l ∧ e.born ∉ seen := by
      unfold leftOf at he
      have := Array.mem_toList_iff.1 he
      rw [Array.mem_filter] at this
      exact ⟨by simpa using this.1, by simpa using this.2⟩
    have he' := he2.1
    obtain ⟨y, hy, hk, hv⟩ := mapEs_mem he'
    have hw1' : Sat R w0 L w1 := by
      rcases hw1 with rfl | rfl
      · exact hw
      · exact hw.drew
    have hi1 : w1.heap[b]? = some (.mapIter (some m) l.length seen.toArray l.length) := by rcases hw1 with rfl | rfl <;> exact hi
    have := hn (some (e.born, y)) (ChangeMaps.setBlock w1 b (.mapIter (some m) l.length (seen.toArray.push e.born) l.length)) ⟨hy, he2.2, by
      have e1 : seen.toArray.push e.born = (seen ++ [e.born]).toArray := by simp
      rw [e1]
      have hlt1 := (Array.getElem?_eq_some_iff.1 hi1).1
      exact hw1'.turn (o.swap _) rfl rfl rfl (by simp [ChangeMaps.setBlock]) (by simp [ChangeMaps.setBlock, hlt1]) (fun k hk => by simp [ChangeMaps.setBlock, Array.getElem?_setIfInBounds, Ne.symm hk])⟩
    rw [hk, hv] at hr
    simpa [Oper.wp, execOp, ha.ev hx, hr, Oper.upon] using this
theorem e_nextJ [Inhabited (List Deferred)] {xi : Operand} {b m : Nat} {l : List Itt} {seen : List Nat} {A' : HP} {L2 : List HP} {K' : HP → List HP} (hx : ev K xi = some (.pointer (some ⟨b, 0, none⟩))) (s : Swap L (blk m (mapObj l)) A' L2) (o : Hole L (iterA b m l.length seen) K') :
    Ef P n K (Sat R w0 L) ⟨dst, .next xi false, TT, pos, af, g⟩ (fun y : Bool × Nat × Itt => .tuple (if y.1 = true then #[.bool true, itV y.2.2, .bool true] else #[.bool false]))
      (fun y w' => (y.1 = false → ∀ k, k < l.length → k ∈ seen) ∧ (y.1 = true → l[y.2.1]? = some y.2.2 ∧ y.2.1 ∉ seen) ∧ Sat R w0 (if y.1 = true then K' (iterA b m l.length (seen ++ [y.2.1])) else L) w') := fun a w ha hw next Q hn =>
  e_nextI (P := P) (dst := dst) (pos := pos) (af := af) (g := g) (TT := TT) hx s o a w ha hw next Q fun y w' hy => by
    cases y with
    | none => exact hn (false, 0, ⟨0, 0, 0⟩) w' ⟨fun _ => hy.1, (fun h => by cases h), hy.2⟩
    | some p => exact hn (true, p.1, p.2) w' ⟨(fun h => by cases h), fun _ => ⟨hy.1, hy.2.1⟩, hy.2.2⟩
theorem q_entryI [Inhabited (List Deferred)] {xi : Operand} {b m k : Nat} {l : List Itt} {y : Itt} {seen : List Nat} {A' B' : HP} {L2 : List HP} (hx : ev K xi = some (.pointer (some ⟨b, 0, none⟩))) (s : Swap L (blk m (mapObj l)) A' L2) (s2 : Swap L (iterA b m l.length (seen ++ [k])) B' L') (hy : l[k]? = some y) :
    Qt P n K (Sat R w0 L) ⟨dst, .entry xi, TT, pos, af, g⟩ (.tuple #[itV y, .bool true]) := fun a ha w hw => by
  have hb : w.heap[m]? = some (mapObj l) := (hw.block s (fun x hx => by rw [hx]; exact one_same _ _)).1
  have hi : w.heap[b]? = some (.mapIter (some m) l.length (seen ++ [k]).toArray l.length) := (hw.block s2 (fun x hx => by rw [hx]; exact one_same _ _)).1
  have he : ({ key := itV y, val := .bool true, born := k } : MapEntry) ∈ mapEs l := by
    unfold mapEs
    exact List.mem_map.2 ⟨(y, k), List.mem_zipIdx_iff_getElem?.2 hy, rfl⟩
  have e1 : (seen ++ [k]).toArray = seen.toArray.push k := by simp
  rw [e1] at hi
  have hr := run_entry_at (P := P) w b m l.length seen.toArray (mapEs l).toArray l.length { key := itV y, val := .bool true, born := k } hi hb (by simpa using he) (by
    show ((mapEs l).map (·.born)).Nodup
    rw [mapEs_born]; exact List.nodup_range)
  simp [execOp, ha.ev hx, hr]
end
end Go.Sy
