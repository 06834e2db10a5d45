/- The calculus' memory: owned blocks as assertions that are joined apart from one another, beside blocks that nobody writes. No condition. -/
import Derived.Test.YteceklkjbcebkabDoorSy
import Derived.Below
namespace Go.Sy
open Go Go.RowKit

abbrev Heap := Nat → Option Obj
abbrev HP := Heap → Prop

def Dis (h1 h2 : Heap) : Prop := ∀ b, h1 b = none ∨ h2 b = none
def uni (h1 h2 : Heap) : Heap := fun b => (h1 b).or (h2 b)
def emp0 : Heap := fun _ => none
def one (b : Nat) (o : Obj) : Heap := fun i => bif Nat.beq i b then some o else none

theorem one_same (b : Nat) (o : Obj) : one b o b = some o := by simp [one]
theorem one_other {b i : Nat} (o : Obj) (h : i ≠ b) : one b o i = none := by
  unfold one
  cases hb : Nat.beq i b with
  | true => exact absurd (Nat.eq_of_beq_eq_true hb) h
  | false => rfl

theorem Dis.symm {h1 h2 : Heap} (h : Dis h1 h2) : Dis h2 h1 := fun b => (h b).symm
theorem uni_comm {h1 h2 : Heap} (h : Dis h1 h2) : uni h1 h2 = uni h2 h1 := by
  funext b
  rcases h b with e | e <;> simp [uni, e]
theorem uni_assoc (h1 h2 h3 : Heap) : uni (uni h1 h2) h3 = uni h1 (uni h2 h3) := by
  funext b; simp [uni, Option.or_assoc]
theorem uni_emp (h : Heap) : uni h emp0 = h := by funext b; simp [uni, emp0]
theorem emp_uni (h : Heap) : uni emp0 h = h := by funext b; simp [uni, emp0]
theorem dis_emp (h : Heap) : Dis h emp0 := fun _ => .inr rfl
theorem Dis.left {h1 h2 h3 : Heap} (h : Dis (uni h1 h2) h3) : Dis h1 h3 := fun b => by
  rcases h b with e | e
  · left
    cases h' : h1 b with
    | none => rfl
    | some o => simp [uni, h'] at e
  · exact .inr e
theorem Dis.right {h1 h2 h3 : Heap} (h : Dis (uni h1 h2) h3) : Dis h2 h3 := fun b => by
  rcases h b with e | e
  · left
    cases h' : h2 b with
    | none => rfl
    | some o => cases h1' : h1 b <;> simp [uni, h', h1'] at e
  · exact .inr e
theorem Dis.join {h1 h2 h3 : Heap} (h : Dis h1 h3) (h' : Dis h2 h3) : Dis (uni h1 h2) h3 := fun b => by
  rcases h b with e | e
  · rcases h' b with e' | e'
    · left; simp [uni, e, e']
    · exact .inr e'
  · exact .inr e

/-- All of a list, apart from one another. -/
def stars : List HP → HP
  | [] => fun h => h = emp0
  | A :: L => fun h => ∃ h1 h2, Dis h1 h2 ∧ h = uni h1 h2 ∧ A h1 ∧ stars L h2

def blk (b : Nat) (o : Obj) : HP := fun h => h = one b o
/-- A row of cells. -/
abbrev cel (b : Nat) (t : TypeId) (cs : List Value) : HP := blk b (.cells cs.toArray t (0, 0))
def pure_ (p : Prop) : HP := fun h => p ∧ h = emp0

theorem stars_append (L M : List HP) (h : Heap) : stars (L ++ M) h ↔ ∃ h1 h2, Dis h1 h2 ∧ h = uni h1 h2 ∧ stars L h1 ∧ stars M h2 := by
  induction L generalizing h with
  | nil =>
    constructor
    · intro hh; exact ⟨emp0, h, (dis_emp h).symm, (emp_uni h).symm, rfl, hh⟩
    · rintro ⟨h1, h2, _, rfl, rfl, hm⟩; rw [emp_uni]; exact hm
  | cons A L ih =>
    constructor
    · rintro ⟨h1, h2, hd, rfl, hA, hL⟩
      obtain ⟨h3, h4, hd', rfl, hL, hM⟩ := (ih h2).1 hL
      refine ⟨uni h1 h3, h4, Dis.join (hd.symm.right.symm) hd', (uni_assoc _ _ _).symm, ⟨h1, h3, hd.symm.left.symm, rfl, hA, hL⟩, hM⟩
    · rintro ⟨h12, h4, hd, rfl, ⟨h1, h3, hd', rfl, hA, hL⟩, hM⟩
      refine ⟨h1, uni h3 h4, (Dis.join hd'.symm hd.left.symm).symm, uni_assoc _ _ _, hA, (ih _).2 ⟨h3, h4, hd.right, rfl, hL, hM⟩⟩

/-- One assertion of a list, and what is left; and put back as another. -/
inductive Swap : List HP → HP → HP → List HP → Prop
  | head {A A' : HP} {L : List HP} : Swap (A :: L) A A' (A' :: L)
  | tail {A A' B : HP} {L L' : List HP} : Swap L A A' L' → Swap (B :: L) A A' (B :: L')
  | big {A A' : HP} {M M' L : List HP} : Swap M A A' M' → Swap (stars M :: L) A A' (stars M' :: L)

theorem Swap.focus {L L' : List HP} {A A' : HP} (s : Swap L A A' L') : ∀ h, stars L h → ∃ h1 h2, Dis h1 h2 ∧ h = uni h1 h2 ∧ A h1 ∧ ∀ h3, Dis h3 h2 → A' h3 → stars L' (uni h3 h2) := by
  induction s with
  | head =>
    rintro h ⟨h1, h2, hd, rfl, hA, hL⟩
    exact ⟨h1, h2, hd, rfl, hA, fun h3 hd3 hA' => ⟨h3, h2, hd3, rfl, hA', hL⟩⟩
  | tail s ih =>
    rintro h ⟨h1, h2, hd, rfl, hB, hL⟩
    obtain ⟨h3, h4, hd', rfl, hA, hk⟩ := ih h2 hL
    refine ⟨h3, uni h1 h4, (Dis.join hd.symm.left.symm hd'.symm).symm, ?_, hA, fun h5 hd5 hA' => ?_⟩
    · rw [← uni_assoc, uni_comm hd.symm.left.symm, uni_assoc]
    · refine ⟨h1, uni h5 h4, (Dis.join hd5.symm.left.symm (hd.symm.right)).symm, ?_, hB, hk h5 hd5.symm.right.symm hA'⟩
      rw [← uni_assoc, uni_comm hd5.symm.left.symm, uni_assoc]
  | big s ih =>
    rintro h ⟨h1, h2, hd, rfl, hM, hL⟩
    obtain ⟨h3, h4, hd', rfl, hA, hk⟩ := ih h1 hM
    refine ⟨h3, uni h4 h2, (Dis.join hd'.symm hd.left.symm).symm, uni_assoc _ _ _, hA, fun h5 hd5 hA' => ?_⟩
    rw [← uni_assoc]
    exact ⟨uni h5 h4, h2, Dis.join hd5.symm.right.symm hd.right, rfl, hk h5 hd5.symm.left.symm hA', hL⟩

theorem Swap.idx {M : List HP} {A A' : HP} : ∀ {i : Nat}, M[i]? = some A → Swap M A A' (M.set i A') := by
  induction M with
  | nil => intro i h; simp at h
  | cons B M ih =>
    intro i h
    cases i with
    | zero => simp at h; subst h; exact .head
    | succ i => exact .tail (ih (by simpa using h))

/-- One assertion taken out. -/
inductive Pick : List HP → HP → List HP → Prop
  | head {A : HP} {L : List HP} : Pick (A :: L) A L
  | tail {A B : HP} {L L' : List HP} : Pick L A L' → Pick (B :: L) A (B :: L')

theorem Pick.stars {L L' : List HP} {A : HP} (s : Pick L A L') : ∀ h, stars L h → stars (A :: L') h := by
  induction s with
  | head => exact fun h hh => hh
  | tail s ih =>
    rintro h ⟨h1, h2, hd, rfl, hB, hL⟩
    obtain ⟨h3, h4, hd', rfl, hA, hL'⟩ := ih h2 hL
    refine ⟨h3, uni h1 h4, (Dis.join hd.symm.left.symm hd'.symm).symm, ?_, hA, h1, h4, hd.symm.right.symm, rfl, hB, hL'⟩
    rw [← uni_assoc, uni_comm hd.symm.left.symm, uni_assoc]

/-- What is known of a world: the blocks of 'R' are as in 'w0', and are there; beside them there are the assertions' blocks. -/
structure Sat (R : Nat → Prop) (w0 : World) (L : List HP) (w : World) : Prop where
  os : w.os = w0.os
  tape : w.tape = w0.tape
  output : w.output = w0.output
  size : w0.heap.size ≤ w.heap.size
  ro : ∀ b, R b → b < w0.heap.size ∧ w.heap[b]? = w0.heap[b]?
  own : ∃ h, stars L h ∧ ∀ b o, h b = some o → ¬ R b ∧ w.heap[b]? = some o

/-- All blocks that there are. -/
abbrev Old (w : World) : Nat → Prop := fun b => b < w.heap.size

theorem Sat.start (w : World) : Sat (Old w) w [] w := ⟨rfl, rfl, rfl, Nat.le_refl _, fun _ h => ⟨h, rfl⟩, emp0, rfl, fun _ _ h => by cases h⟩

theorem Sat.below {w w' : World} {L : List HP} (h : Sat (Old w) w L w') : Below w.heap.size w w' :=
  ⟨h.os, h.tape, h.output, h.size, fun k hk => (h.ro k hk).2⟩

section
variable {R : Nat → Prop} {w0 w : World} {L L' : List HP}

theorem Sat.imp_ (h : Sat R w0 L w) (f : ∀ h, stars L h → stars L' h) : Sat R w0 L' w :=
  ⟨h.os, h.tape, h.output, h.size, h.ro, let ⟨x, hx, hy⟩ := h.own; ⟨x, f x hx, hy⟩⟩

theorem Sat.pick {A : HP} (s : Pick L A L') (h : Sat R w0 L w) : Sat R w0 (A :: L') w := h.imp_ s.stars

theorem Sat.drop1 {A : HP} (h : Sat R w0 (A :: L) w) : Sat R w0 L w := by
  refine ⟨h.os, h.tape, h.output, h.size, h.ro, ?_⟩
  obtain ⟨x, ⟨h1, h2, hd, rfl, _, hL⟩, hy⟩ := h.own
  refine ⟨h2, hL, fun b o hb => hy b o ?_⟩
  rcases hd b with e | e
  · simp [uni, e, hb]
  · rw [e] at hb; cases hb

theorem Sat.drop {A : HP} (s : Pick L A L') (h : Sat R w0 L w) : Sat R w0 L' w := (h.pick s).drop1

theorem Sat.drops : ∀ {M : List HP}, Sat R w0 (M ++ L) w → Sat R w0 L w
  | [], h => h
  | _ :: M, h => Sat.drops (M := M) h.drop1

theorem Sat.swap {A A' : HP} (s : Swap L A A' L') (hA : ∀ h, A h → A' h) (h : Sat R w0 L w) : Sat R w0 L' w :=
  h.imp_ fun x hx => by
    obtain ⟨h1, h2, hd, rfl, ha, hk⟩ := s.focus x hx
    exact hk h1 hd (hA h1 ha)

theorem Sat.drew (h : Sat R w0 L w) : Sat R w0 L w.drew := ⟨h.os, h.tape, h.output, h.size, h.ro, h.own⟩

/-- A new block. -/
theorem Sat.alloc (h : Sat R w0 L w) (o : Obj) : Sat R w0 (blk w.heap.size o :: L) (w.alloc o) := by
  obtain ⟨x, hx, hy⟩ := h.own
  have hold : ∀ b o', w.heap[b]? = some o' → (w.alloc o).heap[b]? = some o' := fun b o' hb => by
    have : b < w.heap.size := (Array.getElem?_eq_some_iff.1 hb).1
    exact (Below.heap_alloc w o b this).trans hb
  refine ⟨h.os, h.tape, h.output, Nat.le_trans h.size (by simp), fun b hb => ⟨(h.ro b hb).1, ?_⟩, uni (one w.heap.size o) x, ⟨_, x, fun b => ?_, rfl, rfl, hx⟩, fun b o' hb => ?_⟩
  · have : b < w.heap.size := Nat.lt_of_lt_of_le (h.ro b hb).1 h.size
    exact (Below.heap_alloc w o b this).trans (h.ro b hb).2
  · by_cases e : b = w.heap.size
    · right
      cases hxb : x b with
      | none => rfl
      | some o' =>
        have := (hy b o' hxb).2
        subst e
        simp at this
    · exact .inl (one_other o e)
  · by_cases e : b = w.heap.size
    · subst e
      refine ⟨fun hR => ?_, ?_⟩
      · have := (h.ro _ hR).1
        have := h.size
        omega
      · have : o = o' := by simpa [uni, one_same] using hb
        subst this
        show (w.heap.push o)[w.heap.size]? = some o
        simp
    · have hb' : x b = some o' := by simpa [uni, one_other o e] using hb
      exact ⟨(hy b o' hb').1, hold b o' (hy b o' hb').2⟩

/-- A block's content, and that it may be turned. -/
theorem Sat.block {A A' : HP} {b : Nat} {o : Obj} (s : Swap L A A' L') (hA : ∀ h, A h → h b = some o) (h : Sat R w0 L w) : w.heap[b]? = some o ∧ ¬ R b := by
  obtain ⟨x, hx, hy⟩ := h.own
  obtain ⟨h1, h2, hd, rfl, ha, _⟩ := s.focus x hx
  have := hy b o (by simp [uni, hA h1 ha])
  exact ⟨this.2, this.1⟩

theorem Sat.get {b : Nat} {o : Obj} (s : Swap L (blk b o) (blk b o) L') (h : Sat R w0 L w) : w.heap[b]? = some o :=
  (h.block s (fun x hx => by rw [hx]; exact one_same b o)).1

/-- One block is turned. -/
theorem Sat.turn {b : Nat} {o o' : Obj} {w' : World} (s : Swap L (blk b o) (blk b o') L') (h : Sat R w0 L w) (hos : w'.os = w.os) (htape : w'.tape = w.tape) (hout : w'.output = w.output)
    (hsize : w'.heap.size = w.heap.size) (hb : w'.heap[b]? = some o') (hother : ∀ k, k ≠ b → w'.heap[k]? = w.heap[k]?) : Sat R w0 L' w' := by
  obtain ⟨x, hx, hy⟩ := h.own
  obtain ⟨h1, h2, hd, rfl, ha, hk⟩ := s.focus x hx
  have ha' : h1 = one b o := ha
  subst ha'
  have hR : ¬ R b := (hy b o (by simp [uni, one_same])).1
  have hd' : Dis (one b o') h2 := fun k => by
    by_cases e : k = b
    · subst e
      right
      rcases hd k with e | e
      · rw [one_same] at e; cases e
      · exact e
    · exact .inl (one_other _ e)
  refine ⟨hos.trans h.os, htape.trans h.tape, hout.trans h.output, by rw [hsize]; exact h.size, fun k hk' => ⟨(h.ro k hk').1, ?_⟩, uni (one b o') h2, hk _ hd' rfl, fun k o'' hk'' => ?_⟩
  · rw [hother k (fun e => hR (e ▸ hk'))]; exact (h.ro k hk').2
  · by_cases e : k = b
    · subst e
      have : o' = o'' := by simpa [uni, one_same] using hk''
      subst this
      exact ⟨hR, hb⟩
    · have h2k : h2 k = some o'' := by simpa [uni, one_other o' e] using hk''
      have := hy k o'' (by simp [uni, one_other o e, h2k])
      exact ⟨this.1, (hother k e).trans this.2⟩

/-- A store into a row. -/
theorem Sat.set_ {b : Nat} {t : TypeId} {cs : List Value} {off : Nat} {v : Value} (s : Swap L (cel b t cs) (cel b t (cs.set off v)) L') (h : Sat R w0 L w) : Sat R w0 L' (w.setCell ⟨b, off, none⟩ v) := by
  have hb : w.heap[b]? = some (.cells cs.toArray t (0, 0)) := (h.block s (fun x hx => by rw [hx]; exact one_same _ _)).1
  refine h.turn s rfl rfl rfl (by simp) ?_ (fun k hk => Below.heap_setCell w ⟨b, off, none⟩ v k hk)
  simp [World.setCell, Array.getElem?_modify, hb]

theorem Sat.cell {A' : HP} {b : Nat} {t : TypeId} {cs : List Value} (s : Swap L (cel b t cs) A' L') (h : Sat R w0 L w) (off : Nat) : w.cell? ⟨b, off, none⟩ = cs[off]? := by
  have hb : w.heap[b]? = some (.cells cs.toArray t (0, 0)) := (h.block s (fun x hx => by rw [hx]; exact one_same _ _)).1
  simp [World.cell?, hb]

theorem Sat.unfrozen {A' : HP} {b : Nat} {t : TypeId} {cs : List Value} (s : Swap L (cel b t cs) A' L') (h : Sat R w0 L w) (off : Nat) : w.frozen? ⟨b, off, none⟩ = false := by
  have hb : w.heap[b]? = some (.cells cs.toArray t (0, 0)) := (h.block s (fun x hx => by rw [hx]; exact one_same _ _)).1
  simp [World.frozen?, hb]

/-! ### What may be read: cells of blocks that nobody writes -/
/-- A cell of a world. -/
abbrev Cl (w : World) : Addr → Value → Prop := fun a v => w.cell? a = some v
/-- A cell of a block that nobody writes. -/
def Rd (R : Nat → Prop) (w0 : World) : Addr → Value → Prop := fun a v => R a.block ∧ w0.cell? a = some v

theorem Rd.old {w : World} {a : Addr} {v : Value} (h : Cl w a v) : Rd (Old w) w a v := ⟨World.block_lt_of_cell? w a h, h⟩
theorem Sat.rd (h : Sat R w0 L w) {a : Addr} {v : Value} (hr : Rd R w0 a v) : w.cell? a = some v :=
  (World.cell?_of_block (h.ro _ hr.1).2).trans hr.2

/-- From a look at the whole world back to what was known before: what was owned stays so, beside what is new. -/
theorem Sat.back {w' : World} {M : List HP} (h : Sat R w0 L w) (h' : Sat (Old w) w M w') : Sat R w0 (M ++ L) w' := by
  obtain ⟨x, hx, hy⟩ := h.own
  obtain ⟨y, hm, hz⟩ := h'.own
  refine ⟨h'.os.trans h.os, h'.tape.trans h.tape, h'.output.trans h.output, Nat.le_trans h.size h'.size, fun b hb => ⟨(h.ro b hb).1, ?_⟩, uni y x, (stars_append M L _).2 ⟨y, x, fun b => ?_, rfl, hm, hx⟩, fun b o hb => ?_⟩
  · exact (h'.ro b (Nat.lt_of_lt_of_le (h.ro b hb).1 h.size)).2.trans (h.ro b hb).2
  · cases hyb : y b with
    | none => exact .inl rfl
    | some o =>
      right
      cases hxb : x b with
      | none => rfl
      | some o' => exact absurd (Array.getElem?_eq_some_iff.1 (hy b o' hxb).2).1 (hz b o hyb).1
  · cases hyb : y b with
    | some o' =>
      have : o' = o := by simpa [uni, hyb] using hb
      subst this
      exact ⟨fun hR => (hz b o' hyb).1 (Nat.lt_of_lt_of_le (h.ro b hR).1 h.size), (hz b o' hyb).2⟩
    | none =>
      have hxb : x b = some o := by simpa [uni, hyb] using hb
      have hlt := (Array.getElem?_eq_some_iff.1 (hy b o hxb).2).1
      exact ⟨(hy b o hxb).1, (h'.ro b hlt).2.trans (hy b o hxb).2⟩

/-- What was owned is owned no more: from here on nobody writes it. -/
theorem Sat.freeze {A : HP} (h : Sat R w0 (A :: L) w) : ∃ R' : Nat → Prop, (∀ b, R b → R' b) ∧ Sat R' w L w ∧ (∃ h1, A h1 ∧ ∀ b o, h1 b = some o → R' b ∧ w.heap[b]? = some o) ∧ (∀ a v, Rd R w0 a v → Rd R' w a v) := by
  obtain ⟨x, ⟨h1, h2, hd, rfl, hA, hL⟩, hy⟩ := h.own
  have hlt : ∀ b, R b → b < w.heap.size := fun b hb => Nat.lt_of_lt_of_le (h.ro b hb).1 h.size
  refine ⟨fun b => R b ∨ (h1 b).isSome = true, fun b hb => .inl hb, ⟨rfl, rfl, rfl, Nat.le_refl _, fun b hb => ⟨?_, rfl⟩, h2, hL, fun b o hb => ?_⟩, ⟨h1, hA, fun b o hb => ⟨.inr (by simp [hb]), ?_⟩⟩, fun a v hr => ⟨.inl hr.1, h.rd hr⟩⟩
  · rcases hb with hb | hb
    · exact hlt b hb
    · obtain ⟨o, ho⟩ := Option.isSome_iff_exists.1 hb
      exact (Array.getElem?_eq_some_iff.1 (hy b o (by simp [uni, ho])).2).1
  · have h1b : h1 b = none := by
      rcases hd b with e | e
      · exact e
      · rw [e] at hb; cases hb
    have := hy b o (by simp [uni, h1b, hb])
    exact ⟨fun hR => hR.elim this.1 (by simp [h1b]), this.2⟩
  · exact (hy b o (by simp [uni, hb])).2
end
end Go.Sy
