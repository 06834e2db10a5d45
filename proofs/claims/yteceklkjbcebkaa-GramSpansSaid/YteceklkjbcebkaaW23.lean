/- Package gram: a derivation's tree. No condition. -/
import Derived.Test.YteceklkjbcebkaaW22
namespace Go.Sy
open Go Go.RowKit Go.Proofs

section
variable {P : Program} {n : Nat} {K : Env} {C : World → Prop} {dst : Option Nat} {T : TypeId} {pos : String} {af : Array Edge} {g : Option (Nat × Bool)}
theorem q_neNil [Inhabited (List Deferred)] {t t' : TypeId} {x : Operand} {v : Value} {b : Bool} (hu : P.underlying t = some (.interface (P.methodsAt t))) (hx : ev K x = some v) (hv : (v = .nilIface ∧ b = false) ∨ ∃ u y, v = .iface u y ∧ b = true) : Qt P n K C ⟨dst, .binOp .neq t x (.const .nilIface) t', T, pos, af, g⟩ (.bool b) := fun a ha w _ => by
  have e2 : a.eval (.const .nilIface) = .nilIface := rfl
  rcases hv with ⟨rfl, rfl⟩ | ⟨u, y, rfl, rfl⟩
  · simp only [execOp, ha.ev hx, e2]
    simp [eqGuard, run_neq_nil_nil w t hu]
  · simp only [execOp, ha.ev hx, e2]
    simp [eqGuard, run_neq_held_nil w t u y hu]
theorem q_assertOk [Inhabited (List Deferred)] {t t' : TypeId} {x : Operand} {v : Value} {fs : Array Field} (hu : P.underlying t = some (.struct fs)) (hx : ev K x = some (.iface t v)) : Qt P n K C ⟨dst, .typeAssert x t' t true, T, pos, af, g⟩ (.tuple #[v, .bool true]) := fun a ha w _ => by
  simp [execOp, ha.ev hx, Instr.typeAssert, run_underlying hu]
theorem results_cell1 {fn : Func} {tmps : Array Value} {c : Nat} {t : TypeId} {p : Addr} {v : Value} {w : World} (hr : fn.results = #[.cell c t]) (hA : ∀ w, (isAgg t).run P w = .ok false w) (hp : tmps.getD c undef = .pointer (some p)) (hc : w.cell? p = some v) : (results fn tmps).run P w = .ok v w := by
  simp only [Array.getD_eq_getD_getElem?] at hp
  simp [results, hr, hp, loadVar, hA, hc, asAddr]
end

def treeH : Option (Nat × For) → HP
  | some p => kidsA p.2 [p.1]
  | none => fun h => h = emp0
def TreeOk (g : Gram) (d : List Int) : Option (Nat × For) → Prop
  | some p => mayB g = true ∧ d.length ≤ 400 ∧ PS g top0 d (some (p.2, []))
  | none => mayB g = true → d.length ≤ 400 → ∃ r, PS g top0 d r ∧ ∀ f, r ≠ some (f, [])

set_option maxRecDepth 20000 in
theorem catch_idle (b4 : Nat) (v : Value) (R : Nat → Prop) (w0 w : World) (F : HP) (hw : Sat R w0 [cel b4 99 [v], F] w) : CallsD Try.prog 60 #[.pointer (some ⟨b4, 0, none⟩)] .returning w (fun e u' w' => (∃ y, e = .returned y) ∧ u' = .returning ∧ Sat R w0 [cel b4 99 [v], F] w') := by
  refine callsD_of_wpS Try.func60 rfl fun c₀ cs hu => ?_
  apply wpS_seq
  apply wpS_region
  simp only [wpOpsS, go_sem, recoverD, hu, Try.ntmps60, Exit.thenS, List.range, List.range.loop, List.size_toArray, List.length_cons, List.length_nil]
  simp [go_sem]
  refine wpS_of_wp ?_
  refine (?_ : CW _ _ _ 15 [(1, .nilIface), (0, .pointer (some ⟨b4, 0, none⟩))] (Sat R w0 [cel b4 99 [v], F])) _ _ ⟨by simp, rfl, fun i y hi => by
    rcases look_cons hi with ⟨rfl, rfl⟩ | ⟨_, hi⟩
    · simp
    · rcases look_cons hi with ⟨rfl, rfl⟩ | ⟨_, hi⟩
      · simp
      · cases hi⟩ hw
  refine CW_seq ?_
  refine CW_region ?_
  refine OW_q (q_move rfl) rfl ?_
  refine OW_q (q_neNil (b := false) (by kernel_rfl) rfl (.inl ⟨rfl, rfl⟩)) rfl ?_
  refine OW_nil ?_
  refine EW_then ?_
  refine CW_false rfl (rfl) ?_
  refine CW_skip ?_
  refine fun a w ha hw => ⟨ha.2.1, .returning, by rw [← hu], .tuple #[], results_none Try.results60 _ _ _, ⟨⟨_, rfl⟩, rfl, hw⟩⟩
  --

set_option maxRecDepth 20000 in
theorem catch_bad (b4 : Nat) (v : Value) (R : Nat → Prop) (w0 w : World) (F : HP) (hw : Sat R w0 [cel b4 99 [v], F] w) : CallsD Try.prog 60 #[.pointer (some ⟨b4, 0, none⟩)] (.panicking badP) w (fun e u' w' => (∃ y, e = .returned y) ∧ u' = .panicking [{ v := .iface 105 (.agg #[]), recovered := true }] ∧ Sat R w0 [cel b4 99 [.pointer none], F] w') := by
  refine callsD_of_wpS Try.func60 rfl fun c₀ cs hu => ?_
  apply wpS_seq
  apply wpS_region
  simp only [wpOpsS, go_sem, recoverD, hu, Try.ntmps60, Exit.thenS, List.range, List.range.loop, List.size_toArray, List.length_cons, List.length_nil]
  simp [go_sem]
  refine wpS_of_wp ?_
  refine (?_ : CW _ _ _ 15 [(1, .iface 105 (.agg #[])), (0, .pointer (some ⟨b4, 0, none⟩))] (Sat R w0 [cel b4 99 [v], F])) _ _ ⟨by simp, rfl, fun i y hi => by
    rcases look_cons hi with ⟨rfl, rfl⟩ | ⟨_, hi⟩
    · simp
    · rcases look_cons hi with ⟨rfl, rfl⟩ | ⟨_, hi⟩
      · simp
      · cases hi⟩ hw
  refine CW_seq ?_
  refine CW_region ?_
  refine OW_q (q_move rfl) rfl ?_
  refine OW_q (q_neNil (b := true) (by kernel_rfl) rfl (.inr ⟨_, _, rfl, rfl⟩)) rfl ?_
  refine OW_nil ?_
  refine EW_then ?_
  refine CW_true rfl (rfl) ?_
  refine CW_seq ?_
  refine CW_seq ?_
  refine CW_region ?_
  refine OW_q (q_move rfl) rfl ?_
  refine OW_q (q_assertOk Try.underlying105 rfl) rfl ?_
  refine OW_q (q_move rfl) rfl ?_
  refine OW_q (q_extract rfl rfl) rfl ?_
  refine OW_q (q_extract rfl rfl) rfl ?_
  refine OW_e (e_alloc Try.zeroValue105 rfl) rfl (fun b2 => ?_)
  refine OW_e0 (e_storeN Try.sizeOf105 rfl rfl rfl rfl (by simp [Value.oneCell']) (by (repeat (first | exact .head | apply Swap.tail))) (by rfl)) (fun _ => ?_)
  refine OW_q (q_assign rfl) rfl ?_
  refine OW_nil ?_
  refine EW_then ?_
  refine CW_seq ?_
  refine CW_region ?_
  refine OW_q (q_move rfl) rfl ?_
  refine OW_q (q_not rfl) rfl ?_
  refine OW_nil ?_
  refine EW_then ?_
  refine CW_false rfl (rfl) ?_
  refine CW_skip ?_
  refine EW_then ?_
  refine CW_region ?_
  refine OW_e0 (e_store Try.sizeOf99 rfl rfl rfl rfl (by (repeat (first | exact .head | apply Swap.tail))) (by rfl)) (fun _ => ?_)
  refine OW_nil ?_
  refine fun a w ha hw => ⟨ha.2.1, _, rfl, .tuple #[], results_none Try.results60 _ _ _, ⟨⟨_, rfl⟩, rfl, hw.sub (by repeat (first | exact SubL.nil | exact Pick.head | apply Pick.tail | apply SubL.cons))⟩⟩
  --

set_option maxRecDepth 20000 in
theorem tree_any (gv dv : Value) (g : Gram) (d : List Int) (w : World) (hg : GramAt (Cl w) gv g) (hd : IntsAt (Cl w) dv d) : Calls Try.prog 57 #[gv, dv] w (fun e w' => ∃ x : Option (Nat × For), e = .returned (.pointer (x.map fun p => ⟨p.1, 0, none⟩)) ∧ TreeOk g d x ∧ Sat (Old w) w [treeH x] w') := by
  have hg0 := hg
  obtain ⟨rv, rfl, hr⟩ := hg.mono old_rd
  have hrr := hr
  obtain ⟨a, c, rfl, hc1, hc2, hrs⟩ := hr
  have hdd := hd.mono old_rd
  obtain ⟨a2, c2, rfl, hd1, hd2, hds⟩ := id hdd
  refine calls_CWD Try.func57 rfl Try.ntmps57 rfl (Sat.start w) ?_
  refine CW_seq ?_
  refine CW_region ?_
  refine OW_e (e_box rfl rfl) rfl (fun b2 => ?_)
  refine OW_e (e_alloc Try.zeroValue99 rfl) rfl (fun b4 => ?_)
  refine OW_nil ?_
  refine EW_then ?_
  refine CW_seq ?_
  refine CW_region ?_
  refine OW_q (q_makeFuncL (us := [.pointer (some ⟨b4, 0, none⟩)]) rfl) rfl ?_
  refine OW_defer (d := ⟨.fn (.func 60) #[.pointer (some ⟨b4, 0, none⟩)], #[]⟩) (fun a ha w => ?_) ?_
  · simp [execOp, resolve, ha.ev (x := .tmp 6) rfl, Deferred.ofValue]
  let inst_ : Inhabited (List Deferred) := ⟨[⟨.fn (.func 60) #[.pointer (some ⟨b4, 0, none⟩)], #[]⟩]⟩
  refine OW_nil ?_
  refine EW_then ?_
  refine CW_seq ?_
  refine CW_seq ?_
  refine CW_region ?_
  first | (refine OW_q (q_loadN_own Try.isAgg24 Try.sizeOf24 rfl rfl (by (repeat (first | exact .head | apply Swap.tail))) (by rfl)) rfl ?_) | (refine OW_q (q_loadN_ro Try.isAgg24 Try.sizeOf24 rfl (by first | assumption | exact Row.at_ (by assumption) rfl) (by rfl)) rfl ?_)
  refine OW_e (e_call Try.call20 rfl (fun w hw => lift_ro (may_any _ g w (hg0.mono (fun _ _ h => hw.rd (Rd.old h)))) hw)) rfl (fun x8 => ?_)
  refine OW_q (q_not rfl) rfl ?_
  refine OW_q (q_move rfl) rfl ?_
  refine OW_part (t := 10) rfl (fun hg10 => ?_) (fun hg10 => ?_)
  · skip
    have hmf : mayB g = false := by simpa using hg10
    refine OW_skip rfl rfl rfl rfl ?_
    refine OW_skip rfl rfl rfl rfl ?_
    refine OW_skip rfl rfl rfl rfl ?_
    refine OW_q (q_pick_t rfl rfl) rfl ?_
    refine OW_nil ?_
    refine EW_then ?_
    refine CW_true rfl rfl ?_
    refine CW_seq ?_
    refine CW_region ?_
    refine OW_e0 (e_store Try.sizeOf99 rfl rfl rfl rfl (by (repeat (first | exact .head | apply Swap.tail))) (by rfl)) (fun _ => ?_)
    refine OW_nil ?_
    refine EW_then ?_
    refine CW_ret ?_
    refine EW_then_ret ?_
    refine retD (fun a w ha hw => ?_)
    show Leaves _ _ _ _ [⟨.fn (.func 60) #[.pointer (some ⟨b4, 0, none⟩)], #[]⟩] _ _
    refine leaves_cons (f := 60) (args := #[.pointer (some ⟨b4, 0, none⟩)]) (by simp) (by simp [invoke, Try.call60]) ?_
    refine (catch_idle b4 (.pointer none) _ _ _ _ (hw.pick (by repeat (first | exact .head | apply Pick.tail))).pack).mono fun e u' w' h => ?_
    obtain ⟨⟨y, rfl⟩, rfl, hw'⟩ := h
    have hw2 := hw'.unpack
    refine ⟨(.pointer none), results_cell1 Try.results57 Try.isAgg99 (ha.2.2 4 _ rfl) (by rw [hw2.cell (A' := ints 0 0 []) .head 0]; rfl), none, rfl, (fun hm _ => by rw [hmf] at hm; cases hm), hw2.sub .nil |>.addEmp rfl⟩
  · skip
    have hm : mayB g = true := by simpa using hg10
    refine OW_wanted rfl rfl rfl ?_
    refine OW_q (q_move rfl) rfl ?_
    refine OW_wanted rfl rfl rfl ?_
    refine OW_q (q_len Try.underlying25 rfl) rfl ?_
    refine OW_wanted rfl rfl rfl ?_
    refine OW_q (q_gtr rfl rfl) rfl ?_
    refine OW_q (q_pick_f rfl rfl) rfl ?_
    refine OW_nil ?_
    refine EW_then ?_
    refine CW_cond rfl (fun h14 => ?_) (fun h14 => ?_)
    · skip
      have hbig : 400 < d.length := by have := of_decide_eq_true h14; omega
      refine CW_seq ?_
      refine CW_region ?_
      refine OW_e0 (e_store Try.sizeOf99 rfl rfl rfl rfl (by (repeat (first | exact .head | apply Swap.tail))) (by rfl)) (fun _ => ?_)
      refine OW_nil ?_
      refine EW_then ?_
      refine CW_ret ?_
      refine EW_then_ret ?_
      refine retD (fun a w ha hw => ?_)
      show Leaves _ _ _ _ [⟨.fn (.func 60) #[.pointer (some ⟨b4, 0, none⟩)], #[]⟩] _ _
      refine leaves_cons (f := 60) (args := #[.pointer (some ⟨b4, 0, none⟩)]) (by simp) (by simp [invoke, Try.call60]) ?_
      refine (catch_idle b4 (.pointer none) _ _ _ _ (hw.pick (by repeat (first | exact .head | apply Pick.tail))).pack).mono fun e u' w' h => ?_
      obtain ⟨⟨y, rfl⟩, rfl, hw'⟩ := h
      have hw2 := hw'.unpack
      refine ⟨(.pointer none), results_cell1 Try.results57 Try.isAgg99 (ha.2.2 4 _ rfl) (by rw [hw2.cell (A' := ints 0 0 []) .head 0]; rfl), none, rfl, (fun _ hl => by omega), hw2.sub .nil |>.addEmp rfl⟩
    · skip
      have h400 : d.length ≤ 400 := by have := of_decide_eq_false h14; omega
      refine CW_skip ?_
      refine EW_then ?_
      refine CW_seq ?_
      refine CW_region ?_
      first | (refine OW_q (q_loadN_own Try.isAgg24 Try.sizeOf24 rfl rfl (by (repeat (first | exact .head | apply Swap.tail))) (by rfl)) rfl ?_) | (refine OW_q (q_loadN_ro Try.isAgg24 Try.sizeOf24 rfl (by first | assumption | exact Row.at_ (by assumption) rfl) (by rfl)) rfl ?_)
      refine OW_q (q_move rfl) rfl ?_
      refine OW_q (q_build (ps := #[(0, .agg #[.int .i64 g.terms, .int .i64 g.names, .slice a g.rules.length c]), (1, .slice a2 d.length c2)]) (v := .agg #[.int .i64 g.terms, .int .i64 g.names, .slice a g.rules.length c, .slice a2 d.length c2]) rfl (fun w => by kernel_rfl)) rfl ?_
      refine OW_e (e_box rfl rfl) rfl (fun b18 => ?_)
      refine OW_q (q_assign rfl) rfl ?_
      refine OW_nil ?_
      refine EW_then ?_
      refine CW_seq ?_
      refine CW_region ?_
      refine OW_q (q_move rfl) rfl ?_
      refine OW_e2 (e_call2 Try.call61 rfl (fun w hw => lift_mut2 (A := cel b18 109 [.int .i64 g.terms, .int .i64 g.names, .slice a g.rules.length c, .slice a2 d.length c2]) (by repeat (first | exact .head | apply Pick.tail)) hw (fun F hF => name_any g hm a c b18 _ _ hrr d.length d _ 0 w F rfl (by omega) hdd hF))) rfl (fun ch => ?_) (fun x20 => ?_)
      · refine EW_then_panic ?_; refine panicD (fun a w ha hw => ?_)
        obtain ⟨⟨rfl, hps⟩, hw⟩ := hw
        show Leaves _ _ _ _ [⟨.fn (.func 60) #[.pointer (some ⟨b4, 0, none⟩)], #[]⟩] _ _
        refine leaves_cons (f := 60) (args := #[.pointer (some ⟨b4, 0, none⟩)]) (by simp) (by simp [invoke, Try.call60]) ?_
        refine (catch_bad b4 (.pointer none) _ _ _ _ (hw.pick (by repeat (first | exact .head | apply Pick.tail))).pack).mono fun e u' w' h => ?_
        obtain ⟨⟨y, rfl⟩, rfl, hw'⟩ := h
        have hw2 := hw'.unpack
        refine ⟨.pointer none, results_cell1 Try.results57 Try.isAgg99 (ha.2.2 4 _ rfl) (by rw [hw2.cell (A' := ints 0 0 []) .head 0]; rfl), none, rfl, fun _ _ => ⟨none, hps, fun f h => by cases h⟩, hw2.sub .nil |>.addEmp rfl⟩
      refine OW_pure fun hx20 => ?_
      refine OW_e0 (e_store Try.sizeOf99 rfl rfl rfl rfl (by (repeat (first | exact .head | apply Swap.tail))) (by rfl)) (fun _ => ?_)
      refine OW_nil ?_
      refine EW_then ?_
      refine CW_seq ?_
      refine CW_seq ?_
      refine CW_region ?_
      refine OW_q (q_move rfl) rfl ?_
      refine OW_q (q_nilCheck rfl) rfl ?_
      refine OW_q (q_fieldAddr Try.underlying109 rfl rfl Try.sizeOf25 rfl rfl) rfl ?_
      first | (refine OW_q (q_load1_own Try.isAgg25 rfl rfl (by (repeat (first | exact .head | apply Swap.tail))) (by rfl)) rfl ?_) | (refine OW_q (q_load1_ro Try.isAgg25 rfl (by first | assumption | exact Row.at_ (by assumption) rfl)) rfl ?_)
      obtain ⟨da3, dc3, hdv3, _, _, _⟩ := id hx20.2.1
      refine OW_spell 24 (.slice da3 x20.dc.length dc3) rfl hdv3 ?_
      refine OW_q (q_len Try.underlying25 rfl) rfl ?_
      refine OW_q (q_gtr rfl rfl) rfl ?_
      refine OW_nil ?_
      refine EW_then ?_
      refine CW_cond rfl (fun h26 => ?_) (fun h26 => ?_)
      · skip
        have hne : x20.dc ≠ [] := fun e => by rw [e] at h26; simp at h26
        refine CW_seq ?_
        refine CW_region ?_
        refine OW_e0 (e_store Try.sizeOf99 rfl rfl rfl rfl (by (repeat (first | exact .head | apply Swap.tail))) (by rfl)) (fun _ => ?_)
        refine OW_nil ?_
        refine EW_then ?_
        refine CW_ret ?_
        refine EW_then_ret ?_
        refine retD (fun a w ha hw => ?_)
        show Leaves _ _ _ _ [⟨.fn (.func 60) #[.pointer (some ⟨b4, 0, none⟩)], #[]⟩] _ _
        refine leaves_cons (f := 60) (args := #[.pointer (some ⟨b4, 0, none⟩)]) (by simp) (by simp [invoke, Try.call60]) ?_
        refine (catch_idle b4 (.pointer none) _ _ _ _ (hw.pick (by repeat (first | exact .head | apply Pick.tail))).pack).mono fun e u' w' h => ?_
        obtain ⟨⟨y, rfl⟩, rfl, hw'⟩ := h
        have hw2 := hw'.unpack
        refine ⟨(.pointer none), results_cell1 Try.results57 Try.isAgg99 (ha.2.2 4 _ rfl) (by rw [hw2.cell (A' := ints 0 0 []) .head 0]; rfl), none, rfl, (fun _ _ => ⟨_, hx20.1, fun f h => hne (Prod.mk.inj (Option.some.inj h)).2⟩), hw2.sub .nil |>.addEmp rfl⟩
      · skip
        have hnil : x20.dc = [] := by
          cases hdc : x20.dc with
          | nil => rfl
          | cons x t => rw [hdc] at h26; simp at h26
        refine CW_skip ?_
        refine EW_then ?_
        refine CW_seq ?_
        refine CW_region ?_
        first | (refine OW_q (q_load1_own Try.isAgg99 rfl rfl (by (repeat (first | exact .head | apply Swap.tail))) (by rfl)) rfl ?_) | (refine OW_q (q_load1_ro Try.isAgg99 rfl (by first | assumption | exact Row.at_ (by assumption) rfl)) rfl ?_)
        refine OW_e0 (e_store Try.sizeOf99 rfl rfl rfl rfl (by (repeat (first | exact .head | apply Swap.tail))) (by rfl)) (fun _ => ?_)
        refine OW_nil ?_
        refine EW_then ?_
        refine CW_ret ?_
        refine retD (fun a w ha hw => ?_)
        show Leaves _ _ _ _ [⟨.fn (.func 60) #[.pointer (some ⟨b4, 0, none⟩)], #[]⟩] _ _
        refine leaves_cons (f := 60) (args := #[.pointer (some ⟨b4, 0, none⟩)]) (by simp) (by simp [invoke, Try.call60]) ?_
        refine (catch_idle b4 (.pointer (some ⟨x20.b, 0, none⟩)) _ _ _ _ (hw.pick (by repeat (first | exact .head | apply Pick.tail))).pack).mono fun e u' w' h => ?_
        obtain ⟨⟨y, rfl⟩, rfl, hw'⟩ := h
        have hw2 := hw'.unpack
        refine ⟨(.pointer (some ⟨x20.b, 0, none⟩)), results_cell1 Try.results57 Try.isAgg99 (ha.2.2 4 _ rfl) (by rw [hw2.cell (A' := ints 0 0 []) .head 0]; rfl), some (x20.b, x20.f), rfl, ⟨hm, h400, by rw [← hnil]; exact hx20.1⟩, hw2.sub (by repeat (first | exact SubL.nil | exact Pick.head | apply Pick.tail | apply SubL.cons))⟩

end Go.Sy
