/- The calculus' rules for slices that are made, for calls, and for a function's beginning and end. No condition. -/
import Derived.Test.YteceklkjbcebkabDoorSye
namespace Go.Sy
open Go Go.RowKit

theorem madeCells_one (z : Value) (m : Nat) : madeCells #[z] m = (List.replicate m z).toArray := by
  apply Array.ext
  · simp [madeCells]
  · intro i h1 h2
    simp [madeCells, Nat.mod_one]

section
variable {P : Program} {n : Nat} {K : Env} {dst : Option Nat} {T : TypeId} {pos : String} {af : Array Edge} {g : Option (Nat × Bool)} {R : Nat → Prop} {w0 : World} {L L' : List HP} {Q : Exit → Act → World → Prop} {S : World → Prop}

theorem info_of (P : Program) {e : TypeId} {i : TypeInfo} (h : ∀ w, (typeInfo e).run P w = .ok i w) (w : World) : P.info? e = some i := by
  have := h w
  unfold typeInfo at this
  simp only [Sem.run_bind, run_program, Result.andThen_ok] at this
  cases hi : P.info? e with
  | none => rw [hi] at this; simp only [run_stuck] at this; cases this
  | some j => rw [hi] at this; simp only [Sem.run_pure, Result.ok.injEq, and_true] at this; rw [this]

/-- make([]T, m), elements of one cell. -/
theorem e_make [Inhabited (List Deferred)] {t e : TypeId} {x y : Operand} {m : Nat} {i : TypeInfo} {z : Value} (hu : P.underlying t = some (.slice e)) (hi : ∀ w, (typeInfo e).run P w = .ok i w) (hz : i.zero = some z) (hz1 : z.cells = #[z]) (hsz : i.size = 1) (hby : i.bytes ≤ 32)
    (hx : ev K x = some (.int .i64 (m : Int))) (hy : ev K y = some (.int .i64 (m : Int))) (hm : m ≤ 1000000) :
    Ef P n K (Sat R w0 L) ⟨dst, .makeSlice t x y, T, pos, af, g⟩ (fun b : Nat => .slice (some ⟨b, 0, none⟩) m m) (fun b => Sat R w0 (cel b e (List.replicate m z) :: L)) := by
  intro a w ha hw next Q h
  have hr := run_make (P := P) w t e i z hu (info_of P hi w) hz .i64 .i64 (m : Int) (m : Int) (by omega) (by omega)
    (by have h1 : i.bytes * m ≤ 32 * 1000000 := Nat.mul_le_mul hby hm
        have h2 : ((i.bytes * m : Nat) : Int) ≤ 32000000 := Int.ofNat_le.2 h1
        rw [Int.natCast_mul] at h2
        omega) (by omega)
  simp only [Int.toNat_natCast, hz1, hsz, Nat.mul_one, madeCells_one] at hr
  have := h w.heap.size _ (hw.alloc (.cells (List.replicate m z).toArray e (0, 0)))
  simp only [Oper.wp, execOp, ha.ev hx, ha.ev hy, Sem.run_bind, hr, Result.andThen_ok, Sem.run_pure, Oper.upon]
  exact this

/-- []T{x, ..}: what the cells are is reckoned by the model's own 'fill'. -/
theorem e_buildSlice [Inhabited (List Deferred)] {t : TypeId} {e : TypeId} {m sz : Nat} {parts : Array (Nat × Operand)} {ps : List (Nat × Value)} {z : Value} {cs : Array Value} (hu : P.underlying t = some (.slice e)) (hs : ∀ w, (sizeOf e).run P w = .ok sz w) (hz : ∀ w, (zeroValue e).run P w = .ok z w)
    (hps : ∀ a, Kn n K a → (parts.map fun (i, x) => (i, a.eval x)).toList = ps) (hm : m * sz ≠ 0) (hm2 : m * sz ≤ 1000)
    (hf : Instr.fill (fun i => some (i * sz, sz)) ((Array.range (m * sz)).map (z.cells[· % z.cells.size]!)) ps = some cs) :
    Ef P n K (Sat R w0 L) ⟨dst, .buildSlice t m parts, T, pos, af, g⟩ (fun b : Nat => .slice (some ⟨b, 0, none⟩) m m) (fun b => Sat R w0 (cel b e cs.toList :: L)) := by
  intro a w ha hw next Q h
  have := h w.heap.size _ (hw.alloc (.cells cs.toList.toArray e (0, 0)))
  have hm3 : ¬ 16777216 < m * sz := by omega
  have hp := hps a ha
  simp only [Array.toArray_toList] at this
  simp only [Oper.wp, execOp]
  generalize (parts.map fun (i, x) => (i, a.eval x)) = pv at hp ⊢
  have hr : (Instr.buildSlice t m pv).run P w = .ok (.slice (some ⟨w.heap.size, 0, none⟩) m m) (w.alloc (.cells cs e)) := by
    simp [Instr.buildSlice, run_underlying hu, hs, hm3, hm, hz, hp, hf, newRow]
  simp only [Sem.run_bind, hr, Result.andThen_ok, Sem.run_pure, Oper.upon]
  exact this

/-- append(s, x...): s a row of the function's own, x a row that can be read; it grows, in place or not. -/
theorem e_append [Inhabited (List Deferred)] {t e : TypeId} {s x : Operand} {i : TypeInfo} {z v : Value} {size bytes m len c : Nat} {xs news : List Value} {ad : Addr} {L1 : List HP} (hu : P.underlying t = some (.slice e)) (hi : ∀ w, (typeInfo e).run P w = .ok i w) (hz : i.zero = some z)
    (hsize : i.size = size) (hby : i.bytes = bytes) (hzs : z.cells.size = size) (hsz : Nat.beq size 0 = false)
    (hs : ev K s = some v) (hx : ev K x = some (.slice (some ad) m c)) (hp : Pick L (row e size v len xs) L1)
    (hl : news.length = m * size) (hnews : ∀ w, Sat R w0 L w → ∀ j u, news[j]? = some u → w.cell? (ad.add j) = some u) (h1 : ∀ u ∈ news, u.oneCell' = true)
    (hroom : len + m ≤ 1000000000000) (hbyt : bytes ≤ 64) :
    Ef P n K (Sat R w0 L) ⟨dst, .call { callee := .builtin .append, args := #[s, x], argTypes := #[t, t] }, T, pos, af, g⟩ (fun v' : Value => v') (fun v' => Sat R w0 (row e size v' (len + m) (xs ++ news) :: L1)) := by
  intro a w ha hw next Q h
  subst hsize
  subst hby
  have hsz' : 0 < i.size := Nat.pos_of_ne_zero (Nat.ne_of_beq_eq_false hsz)
  have hinfo := info_of P hi w
  have hbytes : (len + m) * i.bytes ≤ 140737488355328 := by
    have : (len + m) * i.bytes ≤ 1000000000000 * 64 := Nat.mul_le_mul hroom hbyt
    omega
  have hcells := hnews w hw
  have hpk := hw.pick hp
  obtain ⟨hx0, ⟨h1', h2', hd, rfl, ⟨hlen, hmax, hrow⟩, hL⟩, hy⟩ := hpk.own
  have hlen2 : (xs ++ news).length = (len + m) * i.size := by rw [List.length_append, hlen, hl, Nat.add_mul]
  have hm63 : len + m ≤ maxLen := by simp only [maxLen]; omega
  have goal : ∀ v' w', (Builtin.append_ #[t, t] T #[v, .slice (some ad) m c]).run P w = .ok v' w' → Sat R w0 (row e i.size v' (len + m) (xs ++ news) :: L1) w' →
      (Oper.wp P ⟨dst, .call { callee := .builtin .append, args := #[s, x], argTypes := #[t, t] }, T, pos, af, g⟩ a w next Q) := by
    intro v' w' hr hS
    have := h v' w' hS
    simp only [Oper.wp, execOp, resolve, invoke, builtin, Sem.run_bind, Sem.run_pure, Result.andThen_ok, List.map_toArray, List.map_cons, List.map_nil, ha.ev hs, ha.ev hx, hr, Oper.upon]
    exact this
  -- a new array
  have grown : ∀ old, old < len + m →
      Sat R w0 (row e i.size (.slice (some ⟨w.heap.size, 0, none⟩) (len + m) (grownCap w (len + m) old e)) (len + m) (xs ++ news) :: L1)
        (w.drew.alloc (.cells (xs.toArray ++ news.toArray ++ Builtin.zeroCells z.cells (grownCap w (len + m) old e - (len + m))) e)) := by
    intro old _
    have hge := grownCap_ge w (len + m) old e
    have hcm : grownCap w (len + m) old e ≤ maxLen := grownCap_le_maxLen w (len + m) old e hm63
    have h3 := ((hpk.drop1).drew).alloc (.cells (xs.toArray ++ news.toArray ++ Builtin.zeroCells z.cells (grownCap w (len + m) old e - (len + m))) e)
    refine h3.swap .head fun hh hb => ⟨hlen2, hm63, .inr ⟨w.heap.size, _, (Builtin.zeroCells z.cells (grownCap w (len + m) old e - (len + m))).toList, rfl, hge, hcm, ?_, ?_⟩⟩
    · rw [List.length_append, hlen2, Array.length_toList, size_zeroCells, hzs, ← Nat.add_mul]
      congr 1
      omega
    · have e1 : ((xs ++ news) ++ (Builtin.zeroCells z.cells (grownCap w (len + m) old e - (len + m))).toList).toArray = xs.toArray ++ news.toArray ++ Builtin.zeroCells z.cells (grownCap w (len + m) old e - (len + m)) := by
        apply Array.ext'
        simp
      rw [e1]
      exact hb
  rcases hrow with ⟨rfl, rfl, rfl⟩ | ⟨b, cap, rest, rfl, h3, h4, h5, rfl⟩
  · have hxs : xs = [] := List.eq_nil_of_length_eq_zero (by simpa using hlen)
    subst hxs
    by_cases hm0 : m = 0
    · subst hm0
      have hn : news = [] := List.eq_nil_of_length_eq_zero (by simpa using hl)
      subst hn
      refine goal (.slice none 0 0) w ?_ hpk
      simp [Builtin.append_, run_underlying hu, sizeOf, typeInfo, hinfo, Builtin.lenOf, Builtin.firstCells, loadCells, loadCellsFrom]
    · have hr := run_append_nil (P := P) w t T e i z hu hinfo hz ad m c news hl hcells (by omega) (by omega) (by have hb := hbytes; simp only [Nat.zero_add] at hb; omega)
      have hg := grown 0 (by omega)
      simp only [Nat.zero_add, List.nil_append, Array.empty_append] at hg hr goal
      exact goal _ _ hr hg
  · have hb := (hy b _ (by simp [uni, one_same]; rfl)).2
    by_cases hrm : len + m ≤ cap
    · have hfit : len * i.size + news.length ≤ (xs ++ rest).toArray.size := by
        rw [List.size_toArray, h5, hl, ← Nat.add_mul]; exact Nat.mul_le_mul_right _ hrm
      have hr := run_append_room (P := P) w t T e i hu hinfo b len cap _ hb ad m c news hl hcells h1 hrm hfit
      refine goal _ _ hr ?_
      have key : Sat R w0 (blk b (.cells (xs ++ rest).toArray e (0, 0)) :: L1) w := ⟨hpk.os, hpk.tape, hpk.output, hpk.size, hpk.ro, _, ⟨_, h2', hd, rfl, rfl, hL⟩, hy⟩
      have hcs : (xs ++ rest).toArray.toList.take (len * i.size) ++ news ++ (xs ++ rest).toArray.toList.drop (len * i.size + news.length) = xs ++ news ++ rest.drop news.length := by
        simp only [← hlen]
        rw [List.take_left, List.drop_append, List.drop_eq_nil_of_le (by omega)]
        simp
      have h6 := key.turn (o' := .cells (xs ++ news ++ rest.drop news.length).toArray e (0, 0)) (w' := w.setRow b ((xs ++ rest).toArray.toList.take (len * i.size) ++ news ++ (xs ++ rest).toArray.toList.drop (len * i.size + news.length)).toArray) .head rfl rfl rfl (by simp)
        (by rw [hcs]; exact setRow_heap w b _ _ e _ hb) (fun k hk => setRow_other w b k _ hk)
      refine h6.swap .head fun hh hb' => ⟨hlen2, hm63, .inr ⟨b, cap, rest.drop news.length, rfl, hrm, h4, ?_, hb'⟩⟩
      rw [List.length_append] at h5
      simp only [List.length_append, List.length_drop]
      rw [List.size_toArray, List.length_append] at hfit
      omega
    · have holds : ∀ j u, xs[j]? = some u → w.cell? ((⟨b, 0, none⟩ : Addr).add j) = some u := fun j u hj => by
        have hlt : j < xs.length := (List.getElem?_eq_some_iff.1 hj).1
        rw [Addr.add_lit]
        simp [World.cell?, hb, List.getElem?_append_left hlt, hj]
      have hr := run_append_grow (P := P) w t T e i z hu hinfo hz ⟨b, 0, none⟩ len cap xs hlen holds ad m c news hl hcells (by omega) (by omega) (growslice_fits (by omega) hbytes)
      exact goal _ _ hr (grown cap (by omega))

/-! ### Calls -/
theorem e_call [Inhabited (List Deferred)] {ι : Type} {V : ι → Value} {S' : ι → World → Prop} {f : FuncId} {args : List Operand} {tys : Array TypeId} {vs : List Value} (hc : ∀ args w, (callFunc f args).run P w = .ok (.enter f args) w) (hargs : evs K args = some vs)
    (h : ∀ w, S w → Calls P f vs.toArray w (fun e w' => ∃ x, e = .returned (V x) ∧ S' x w')) :
    Ef P n K S ⟨dst, .call { callee := .value (.func f), args := args.toArray, argTypes := tys }, T, pos, af, g⟩ V S' := by
  intro a w ha hw next Q hn
  have e1 := ha.evs hargs
  simp only [Oper.wp, execOp, resolve, Act.eval, Deferred.ofValue, invoke, Sem.run_bind, Sem.run_pure, Result.andThen_ok, Array.append_empty, Array.empty_append]
  have e2 : args.toArray.map a.eval = vs.toArray := by rw [List.map_toArray, e1]
  rw [e2, hc]
  simp only [Oper.upon]
  refine (h w hw).mono fun e w' ⟨x, he, hs⟩ => ?_
  subst he
  exact hn x w' hs

/-- A call of a function value. -/
theorem e_callv [Inhabited (List Deferred)] {ι : Type} {V : ι → Value} {S' : ι → World → Prop} {f : FuncId} {c : Operand} {args : List Operand} {tys : Array TypeId} {vs first cap : List Value} (hc : ∀ args w, (callFunc f args).run P w = .ok (.enter f args) w) (hf : ev K c = some (.func (.func f) first.toArray cap.toArray)) (hargs : evs K args = some vs)
    (h : ∀ w, S w → Calls P f (first ++ vs ++ cap).toArray w (fun e w' => ∃ x, e = .returned (V x) ∧ S' x w')) :
    Ef P n K S ⟨dst, .call { callee := .value c, args := args.toArray, argTypes := tys }, T, pos, af, g⟩ V S' := by
  intro a w ha hw next Q hn
  have e1 := ha.evs hargs
  have e2 : args.toArray.map a.eval = vs.toArray := by rw [List.map_toArray, e1]
  simp only [Oper.wp, execOp, resolve, ha.ev hf, Deferred.ofValue, invoke, Sem.run_bind, Sem.run_pure, Result.andThen_ok, e2]
  rw [show first.toArray ++ vs.toArray ++ cap.toArray = (first ++ vs ++ cap).toArray by simp, hc]
  simp only [Oper.upon]
  refine (h w hw).mono fun e w' ⟨x, he, hs⟩ => ?_
  subst he
  exact hn x w' hs

/-! ### A function's beginning and end -/
def argEnv : Nat → List Value → Env
  | _, [] => []
  | i, v :: vs => (i, v) :: argEnv (i + 1) vs

theorem look_argEnv : ∀ (vs : List Value) (i j : Nat) (v : Value), look (argEnv i vs) j = some v → i ≤ j ∧ vs[j - i]? = some v
  | [], _, _, _, h => by cases h
  | u :: vs, i, j, v, h => by
    rcases look_cons h with ⟨rfl, rfl⟩ | ⟨hne, h⟩
    · simp
    · obtain ⟨h1, h2⟩ := look_argEnv vs (i + 1) j v h
      refine ⟨by omega, ?_⟩
      rw [show j - i = (j - (i + 1)) + 1 by omega]
      simpa using h2

theorem calls_CW {f : FuncId} {fn : Func} {c : Code} {vs : List Value} {w : World} {X : Ending → World → Prop} (hf : P.funcs[f]? = some fn) (hb : fn.body = some c) (hn : fn.ntmps = n) (hl : Nat.ble vs.length n = true) (hS : S w)
    (h : CW P c (bodyPost P fn X) n (argEnv 0 vs) S) : Calls P f vs.toArray w X := by
  refine calls_of_wp hf hb (h _ w ⟨?_, rfl, fun i v hi => ?_⟩ hS)
  · have := Nat.le_of_ble_eq_true hl
    simp [hn]
    omega
  · obtain ⟨_, h2⟩ := look_argEnv vs 0 i v hi
    have hlt : i < vs.length := (List.getElem?_eq_some_iff.1 h2).1
    simp only [Nat.sub_zero] at h2
    simp [Array.getElem?_append_left, hlt]
    exact (List.getElem?_eq_some_iff.1 h2).2

theorem ret1 {fn : Func} {X : Ending → World → Prop} {t : Nat} {v : Value} (hr : fn.results = #[.tmp t]) (hv : look K t = some v) (h : ∀ w, S w → X (.returned v) w) : EW .ret (bodyPost P fn X) n K S := fun a w ha hw =>
  ⟨ha.2.1, v, by rw [results_tmp hr, ha.2.2 t v hv], h w hw⟩
theorem ret2 {fn : Func} {X : Ending → World → Prop} {t u : Nat} {v x : Value} (hr : fn.results = #[.tmp t, .tmp u]) (hv : look K t = some v) (hx : look K u = some x) (h : ∀ w, S w → X (.returned (.tuple #[v, x])) w) : EW .ret (bodyPost P fn X) n K S := fun a w ha hw =>
  ⟨ha.2.1, _, by rw [results_tmp2 hr, ha.2.2 t v hv, ha.2.2 u x hx], h w hw⟩
theorem ret3 {fn : Func} {X : Ending → World → Prop} {t u s : Nat} {v x y : Value} (hr : fn.results = #[.tmp t, .tmp u, .tmp s]) (hv : look K t = some v) (hx : look K u = some x) (hy : look K s = some y) (h : ∀ w, S w → X (.returned (.tuple #[v, x, y])) w) : EW .ret (bodyPost P fn X) n K S := fun a w ha hw =>
  ⟨ha.2.1, .tuple #[v, x, y], by have h1 := ha.2.2 t v hv; have h2 := ha.2.2 u x hx; have h3 := ha.2.2 s y hy; simp only [Array.getD_eq_getD_getElem?] at h1 h2 h3; simp [results, hr, h1, h2, h3], h w hw⟩
theorem ret0 {fn : Func} {X : Ending → World → Prop} (hr : fn.results = #[]) (h : ∀ w, S w → X (.returned (.tuple #[])) w) : EW .ret (bodyPost P fn X) n K S := fun _ w ha hw =>
  ⟨ha.2.1, _, results_none hr _ _ _, h w hw⟩
theorem end0 {fn : Func} {X : Ending → World → Prop} (hr : fn.results = #[]) (h : ∀ w, S w → X (.returned (.tuple #[])) w) : EW .normal (bodyPost P fn X) n K S := fun _ w ha hw =>
  ⟨ha.2.1, _, results_none hr _ _ _, h w hw⟩

/-- A truth in a slot is parted on. -/
theorem OW_part [Inhabited (List Deferred)] {ops : Array Oper} {l : List Oper} {t : Nat} {b : Bool} (hb : look K t = some (.bool b)) (ht : b = true → OW P ops Q l n ((t, .bool true) :: K) S) (hf : b = false → OW P ops Q l n ((t, .bool false) :: K) S) : OW P ops Q l n K S := by
  intro a w ha hw
  have hk : ∀ (c : Bool), b = c → Kn n ((t, .bool c) :: K) a := fun c hc => ⟨ha.1, ha.2.1, fun i v hv => by
    rcases look_cons hv with ⟨rfl, rfl⟩ | ⟨_, hv⟩
    · rw [ha.2.2 _ _ hb, hc]
    · exact ha.2.2 i v hv⟩
  cases b with
  | true => exact ht rfl a w (hk true rfl) hw
  | false => exact hf rfl a w (hk false rfl) hw

/-- A slot's value is spelled anew. -/
theorem OW_spell [Inhabited (List Deferred)] {ops : Array Oper} {l : List Oper} (t : Nat) {v : Value} (u : Value) (hb : look K t = some v) (he : v = u) (h : OW P ops Q l n ((t, u) :: K) S) : OW P ops Q l n K S := by
  subst he
  intro a w ha hw
  exact h a w ⟨ha.1, ha.2.1, fun i x hv => by
    rcases look_cons hv with ⟨rfl, rfl⟩ | ⟨_, hv⟩
    · exact ha.2.2 _ _ hb
    · exact ha.2.2 i x hv⟩ hw
theorem CW_spell [Inhabited (List Deferred)] {c : Code} (t : Nat) {v : Value} (u : Value) (hb : look K t = some v) (he : v = u) (h : CW P c Q n ((t, u) :: K) S) : CW P c Q n K S := by
  subst he
  intro a w ha hw
  exact h a w ⟨ha.1, ha.2.1, fun i x hv => by
    rcases look_cons hv with ⟨rfl, rfl⟩ | ⟨_, hv⟩
    · exact ha.2.2 _ _ hb
    · exact ha.2.2 i x hv⟩ hw
end
end Go.Sy
