/- Shortest yields in plain terms: two tables that are closed and sound are one. No condition. -/
import Derived.Test.YteceklkjbcebkabDoorPlain
namespace Go.Sy
open Go

def at0 (of : List Int) (n : Int) : Int := of.getD n.toNat 0
/-- What a rule's symbols yield at least, from 'n' tokens on; -1: nothing yet. -/
def srule (of : List Int) : List Sym → Int → Int
  | [], n => n
  | s :: l, n => if s.term = true then srule of l (min (n + 1) 1000000000)
    else if at0 of s.n < 0 then -1 else srule of l (min (n + at0 of s.n) 1000000000)
/-- The same, capped at the end alone. -/
def rrule (of : List Int) : List Sym → Int → Int
  | [], n => min n 1000000000
  | s :: l, n => if s.term = true then rrule of l (n + 1)
    else if at0 of s.n < 0 then -1 else rrule of l (n + at0 of s.n)

theorem rrule_eq (of : List Int) : ∀ (l : List Sym) (n : Int), rrule of l n = srule of l (min n 1000000000)
  | [], n => rfl
  | s :: l, n => by
    unfold rrule srule
    split
    · rw [rrule_eq of l]; congr 1; omega
    · split
      · rfl
      · rw [rrule_eq of l]; congr 1; omega

/-- Symbols yield some tokens. -/
inductive Ylds (g : Gram) : List Sym → Nat → Prop
  | nil : Ylds g [] 0
  | term {t : Int} {l : List Sym} {k : Nat} : Ylds g l k → Ylds g (⟨true, t⟩ :: l) (k + 1)
  | name {r : Rule} {l : List Sym} {i k : Nat} : r ∈ g.rules → Ylds g r.right i → Ylds g l k → Ylds g (⟨false, r.left⟩ :: l) (i + k)

def Sound (g : Gram) (of : List Int) : Prop := ∀ (m : Nat) (v : Int), of[m]? = some v → 0 ≤ v → ∃ k : Nat, Ylds g [⟨false, (m : Int)⟩] k ∧ v = min (k : Int) 1000000000
def Closed (g : Gram) (of : List Int) : Prop := ∀ r ∈ g.rules, 0 ≤ srule of r.right 0 → 0 ≤ at0 of r.left ∧ at0 of r.left ≤ srule of r.right 0
def Rng (of : List Int) : Prop := ∀ x ∈ of, -1 ≤ x ∧ x ≤ 1000000000

theorem at0_get {of : List Int} {n : Int} (h0 : 0 ≤ n) (h1 : n < of.length) : of[n.toNat]? = some (at0 of n) := by
  unfold at0
  have : n.toNat < of.length := by omega
  rw [List.getD_eq_getElem?_getD, List.getElem?_eq_getElem this]; rfl
theorem at0_nat {of : List Int} {m : Nat} {v : Int} (h : of[m]? = some v) : at0 of (m : Int) = v := by
  unfold at0; rw [List.getD_eq_getElem?_getD, Int.toNat_natCast, h]; rfl
theorem Rng.at0 {of : List Int} (h : Rng of) (n : Int) : -1 ≤ at0 of n ∧ at0 of n ≤ 1000000000 := by
  unfold Sy.at0
  rw [List.getD_eq_getElem?_getD]
  cases hx : of[n.toNat]? with
  | none => simp
  | some x => exact h x (List.mem_of_getElem? hx)

theorem srule_rng {of : List Int} (hr : Rng of) : ∀ (l : List Sym) (n : Int), 0 ≤ n → n ≤ 1000000000 → -1 ≤ srule of l n ∧ srule of l n ≤ 1000000000
  | [], n, h0, h1 => by unfold srule; omega
  | s :: l, n, h0, h1 => by
    unfold srule
    have := hr.at0 s.n
    split
    · exact srule_rng hr l _ (by omega) (by omega)
    · split
      · omega
      · exact srule_rng hr l _ (by omega) (by omega)

theorem ylds_one {g : Gram} {n : Int} {k : Nat} (h : Ylds g [⟨false, n⟩] k) : ∃ r ∈ g.rules, r.left = n ∧ Ylds g r.right k := by
  cases h with
  | name hr h1 h2 =>
    cases h2
    exact ⟨_, hr, rfl, by simpa using h1⟩

theorem srule_sound {g : Gram} {of : List Int} (hs : Sound g of) : ∀ (l : List Sym) (n N : Int), (∀ s ∈ l, s.term = false → 0 ≤ s.n ∧ s.n < of.length) → n = min N 1000000000 → 0 ≤ N → 0 ≤ srule of l n →
    ∃ k : Nat, Ylds g l k ∧ srule of l n = min (N + k) 1000000000
  | [], n, N, _, hn, _, _ => ⟨0, .nil, by unfold srule; omega⟩
  | s :: l, n, N, hl, hn, h0, h => by
    unfold srule at h ⊢
    obtain ⟨t, m⟩ := s
    cases t with
    | true =>
      simp only [if_true] at h ⊢
      obtain ⟨k, hk, he⟩ := srule_sound hs l (min (n + 1) 1000000000) (N + 1) (fun s hm => hl s (List.mem_cons_of_mem _ hm)) (by omega) (by omega) h
      exact ⟨k + 1, .term hk, by rw [he]; omega⟩
    | false =>
      simp only [Bool.false_eq_true, if_false] at h ⊢
      split at h
      · omega
      · rename_i hneg
        rw [if_neg hneg]
        have hr := hl ⟨false, m⟩ (by simp) rfl
        simp only at hr hneg h ⊢
        have hg := at0_get hr.1 hr.2
        obtain ⟨k1, hy, hv⟩ := hs _ _ hg (by omega)
        obtain ⟨r, hm, hleft, hyr⟩ := ylds_one hy
        obtain ⟨k, hk, he⟩ := srule_sound hs l (min (n + at0 of m) 1000000000) (N + k1) (fun s hm => hl s (List.mem_cons_of_mem _ hm)) (by omega) (by omega) h
        have hm' : r.left = m := by rw [hleft]; omega
        subst hm'
        exact ⟨k1 + k, .name hm hyr hk, by rw [he]; omega⟩

theorem closed_min {g : Gram} {of : List Int} (hc : Closed g of) {l : List Sym} {k : Nat} (h : Ylds g l k) : ∀ n : Int, 0 ≤ n → n ≤ 1000000000 → 0 ≤ srule of l n ∧ srule of l n ≤ min (n + k) 1000000000 := by
  induction h with
  | nil => intro n h0 h1; unfold srule; omega
  | @term t l k _ ih =>
    intro n h0 h1
    unfold srule
    simp only [if_true]
    have := ih (min (n + 1) 1000000000) (by omega) (by omega)
    omega
  | @name r l i k hr _ _ ih1 ih2 =>
    intro n h0 h1
    unfold srule
    simp only [Bool.false_eq_true, if_false]
    have h1' := ih1 0 (by omega) (by omega)
    have hcl := hc r hr h1'.1
    rw [if_neg (by omega)]
    have := ih2 (min (n + at0 of r.left) 1000000000) (by omega) (by omega)
    omega

theorem le_of_sound_closed {g : Gram} {a b : List Int} (ha : Sound g a) (hb : Closed g b) (hrb : Rng b) {m : Nat} {x y : Int} (hx : a[m]? = some x) (hy : b[m]? = some y) (h0 : 0 ≤ x) : 0 ≤ y ∧ y ≤ x := by
  obtain ⟨k, hk, hv⟩ := ha m x hx h0
  have h1 := closed_min hb hk 0 (by omega) (by omega)
  unfold srule at h1
  simp only [Bool.false_eq_true, if_false] at h1
  have hm := at0_nat hy
  have := hrb.at0 (m : Int)
  rw [hm] at h1 this
  split at h1
  · omega
  · unfold srule at h1; omega

/-- Two tables that are closed and sound are one. -/
theorem short_unique {g : Gram} {a b : List Int} (ha : Sound g a) (ha' : Closed g a) (hra : Rng a) (hb : Sound g b) (hb' : Closed g b) (hrb : Rng b) (hl : a.length = b.length) : a = b := by
  apply List.ext_getElem hl
  intro m h1 h2
  have hx : a[m]? = some a[m] := List.getElem?_eq_getElem h1
  have hy : b[m]? = some b[m] := List.getElem?_eq_getElem h2
  have ra := hra _ (List.getElem_mem h1)
  have rb := hrb _ (List.getElem_mem h2)
  by_cases h0 : 0 ≤ a[m]
  · have h3 := le_of_sound_closed ha hb' hrb hx hy h0
    have h4 := le_of_sound_closed hb ha' hra hy hx h3.1
    omega
  · by_cases h3 : 0 ≤ b[m]
    · have h4 := le_of_sound_closed hb ha' hra hy hx h3
      omega
    · omega

/-- How much may still sink. -/
def weigh : List Int → Nat
  | [] => 0
  | x :: l => (if x < 0 then 1000000001 else x.toNat) + weigh l
theorem weigh_set : ∀ {of : List Int} {m : Nat} {v x : Int}, of[m]? = some x → 0 ≤ v → v ≤ 1000000000 → (x < 0 ∨ v < x) → weigh (of.set m v) < weigh of
  | [], m, v, x, h, _, _, _ => by cases h
  | y :: l, 0, v, x, h, h0, h1, h2 => by
    simp only [List.getElem?_cons_zero, Option.some.injEq] at h
    subst h
    simp only [List.set_cons_zero, weigh]
    split <;> split <;> omega
  | y :: l, m + 1, v, x, h, h0, h1, h2 => by
    have := weigh_set (of := l) (m := m) (by simpa using h) h0 h1 h2
    simp only [List.set_cons_succ, weigh]
    omega

theorem rng_set {of : List Int} (h : Rng of) {m : Nat} {v : Int} (h0 : -1 ≤ v) (h1 : v ≤ 1000000000) : Rng (of.set m v) := by
  intro x hx
  rcases List.mem_or_eq_of_mem_set hx with hx | rfl
  · exact h x hx
  · exact ⟨h0, h1⟩
theorem rng_neg (m : Nat) : Rng (List.replicate m (-1)) := by
  intro x hx; rw [List.mem_replicate] at hx; omega
theorem sound_neg (g : Gram) (m : Nat) : Sound g (List.replicate m (-1)) := by
  intro i v hv h0
  have := List.mem_replicate.1 (List.mem_of_getElem? hv)
  omega
theorem sound_set {g : Gram} {of : List Int} (h : Sound g of) {r : Rule} (hr : r ∈ g.rules) (h0 : 0 ≤ r.left) (hl : ∀ s ∈ r.right, s.term = false → 0 ≤ s.n ∧ s.n < of.length) (hv : 0 ≤ srule of r.right 0) : Sound g (of.set r.left.toNat (srule of r.right 0)) := by
  intro m v hm h1
  by_cases e : r.left.toNat = m
  · rw [List.getElem?_set] at hm
    rw [if_pos e] at hm
    split at hm
    · simp only [Option.some.injEq] at hm
      obtain ⟨k, hk, he⟩ := srule_sound h r.right 0 0 hl (by omega) (by omega) hv
      refine ⟨k, ?_, by rw [← hm, he]; omega⟩
      have : (m : Int) = r.left := by omega
      rw [this]
      exact Ylds.name hr hk .nil
    · cases hm
  · rw [List.getElem?_set_ne e] at hm
    exact h m v hm h1

/-! ### The other way: the shortest first -/
theorem srule_set_same {of : List Int} {m : Nat} {v : Int} (hm : at0 of (m : Int) < 0) : ∀ (l : List Sym) (n : Int), (∀ s ∈ l, s.term = false → 0 ≤ s.n) → 0 ≤ srule of l n → srule (of.set m v) l n = srule of l n
  | [], n, _, h => rfl
  | s :: l, n, hl, h => by
    unfold srule at h ⊢
    have ih := srule_set_same (v := v) hm l
    split
    · rename_i ht
      rw [if_pos ht] at h
      exact ih _ (fun s hs => hl s (List.mem_cons_of_mem _ hs)) h
    · rename_i ht
      rw [if_neg ht] at h
      split at h
      · omega
      · rename_i hn
        have h0 := hl s (by simp) (by simpa using ht)
        have hne : m ≠ s.n.toNat := fun e => by
          apply hn
          have : (m : Int) = s.n := by omega
          rw [← this]; exact hm
        have e1 : at0 (of.set m v) s.n = at0 of s.n := by
          unfold at0
          rw [List.getD_eq_getElem?_getD, List.getD_eq_getElem?_getD, List.getElem?_set_ne hne]
        rw [e1, if_neg hn, if_neg hn]
        exact ih _ (fun s hs => hl s (List.mem_cons_of_mem _ hs)) h

theorem srule_ge {of : List Int} : ∀ (l : List Sym) (n : Int), n ≤ 1000000000 → 0 ≤ srule of l n → n ≤ srule of l n
  | [], n, _, _ => by unfold srule; omega
  | s :: l, n, h1, h => by
    unfold srule at h ⊢
    split
    · rename_i ht
      rw [if_pos ht] at h
      have := srule_ge l _ (by omega) h
      omega
    · rename_i ht
      rw [if_neg ht] at h
      split at h
      · omega
      · rename_i hn
        rw [if_neg hn]
        have := srule_ge l _ (by omega) h
        omega

theorem srule_set_new {of : List Int} {m : Nat} {v : Int} (hm : at0 of (m : Int) < 0) (hlt : m < of.length) (h1 : v ≤ 1000000000) : ∀ (l : List Sym) (n : Int), 0 ≤ n → (∀ s ∈ l, s.term = false → 0 ≤ s.n) → ¬ 0 ≤ srule of l n → 0 ≤ srule (of.set m v) l n → v ≤ srule (of.set m v) l n
  | [], n, h0, _, h, _ => by unfold srule at h; omega
  | s :: l, n, h0, hl, h, h' => by
    unfold srule at h h' ⊢
    have ih := srule_set_new hm hlt h1 l
    split
    · rename_i ht
      rw [if_pos ht] at h h'
      exact ih _ (by omega) (fun s hs => hl s (List.mem_cons_of_mem _ hs)) h h'
    · rename_i ht
      rw [if_neg ht] at h h'
      have hs0 := hl s (by simp) (by simpa using ht)
      by_cases e : m = s.n.toNat
      · have e1 : at0 (of.set m v) s.n = v := by
          unfold at0
          rw [← e, List.getD_eq_getElem?_getD, List.getElem?_set_self hlt]; rfl
        rw [e1] at h' ⊢
        split at h'
        · omega
        · rename_i hn
          rw [if_neg hn]
          have := srule_ge l _ (by omega) h'
          omega
      · have e1 : at0 (of.set m v) s.n = at0 of s.n := by
          unfold at0
          rw [List.getD_eq_getElem?_getD, List.getD_eq_getElem?_getD, List.getElem?_set_ne e]
        rw [e1] at h' ⊢
        split at h'
        · omega
        · rename_i hn
          rw [if_neg hn] at h ⊢
          exact ih _ (by omega) (fun s hs => hl s (List.mem_cons_of_mem _ hs)) h h'

/-- What stands while names are settled one by one. -/
structure Settled (g : Gram) (of : List Int) (B : Int) : Prop where
  sound : Sound g of
  rng : Rng of
  top : ∀ x ∈ of, x ≤ B
  low : ∀ r ∈ g.rules, at0 of r.left < 0 → 0 ≤ srule of r.right 0 → B ≤ srule of r.right 0
  clo : ∀ r ∈ g.rules, 0 ≤ at0 of r.left → 0 ≤ srule of r.right 0 → at0 of r.left ≤ srule of r.right 0

theorem settled_neg (g : Gram) (m : Nat) : Settled g (List.replicate m (-1)) (-1) := by
  refine ⟨sound_neg g m, rng_neg m, fun x hx => by have := (List.mem_replicate.1 hx).2; omega, fun r _ _ h => by omega, fun r _ h h2 => ?_⟩
  have : ∀ l : List Sym, ∀ n, n ≤ 1000000000 → 0 ≤ srule (List.replicate m (-1)) l n → n ≤ srule (List.replicate m (-1)) l n := fun l n => srule_ge l n
  have h3 : at0 (List.replicate m (-1)) r.left ≤ 0 := by
    unfold at0
    rw [List.getD_eq_getElem?_getD, List.getElem?_replicate]
    split <;> simp
  have := this r.right 0 (by omega) h2
  omega

theorem settled_step {g : Gram} {of : List Int} {B : Int} (h : Settled g of B) (hmay : ∀ r ∈ g.rules, 0 ≤ r.left ∧ r.left < of.length ∧ ∀ s ∈ r.right, s.term = false → 0 ≤ s.n ∧ s.n < of.length)
    {r : Rule} (hr : r ∈ g.rules) (hneg : at0 of r.left < 0) (hv : 0 ≤ srule of r.right 0) (hmin : ∀ q ∈ g.rules, at0 of q.left < 0 → 0 ≤ srule of q.right 0 → srule of r.right 0 ≤ srule of q.right 0) :
    Settled g (of.set r.left.toNat (srule of r.right 0)) (srule of r.right 0) := by
  obtain ⟨h0, h1, hs⟩ := hmay r hr
  have hv1 := srule_rng h.rng r.right 0 (by omega) (by omega)
  have hBv := h.low r hr hneg hv
  have hm : at0 of ((r.left.toNat : Nat) : Int) < 0 := by rw [Int.toNat_of_nonneg h0]; exact hneg
  have hlt : r.left.toNat < of.length := by omega
  -- what a rule tells behind the step
  have tell : ∀ q ∈ g.rules, 0 ≤ srule (of.set r.left.toNat (srule of r.right 0)) q.right 0 →
      (0 ≤ srule of q.right 0 ∧ srule (of.set r.left.toNat (srule of r.right 0)) q.right 0 = srule of q.right 0) ∨ srule of r.right 0 ≤ srule (of.set r.left.toNat (srule of r.right 0)) q.right 0 := by
    intro q hq hq0
    have hq1 : ∀ s ∈ q.right, s.term = false → 0 ≤ s.n := fun s hs ht => ((hmay q hq).2.2 s hs ht).1
    by_cases hb : 0 ≤ srule of q.right 0
    · exact .inl ⟨hb, srule_set_same hm q.right 0 hq1 hb⟩
    · exact .inr (srule_set_new hm hlt hv1.2 q.right 0 (by omega) hq1 hb hq0)
  have look_ : ∀ q ∈ g.rules, at0 (of.set r.left.toNat (srule of r.right 0)) q.left = if q.left = r.left then srule of r.right 0 else at0 of q.left := by
    intro q hq
    have hq0 := (hmay q hq).1
    unfold at0
    split
    · rename_i e
      rw [e, List.getD_eq_getElem?_getD, List.getElem?_set_self hlt]; rfl
    · rename_i e
      rw [List.getD_eq_getElem?_getD, List.getD_eq_getElem?_getD, List.getElem?_set_ne (by omega)]
  refine ⟨sound_set h.sound hr h0 hs hv, rng_set h.rng (by omega) hv1.2, fun x hx => ?_, fun q hq hn hq0 => ?_, fun q hq hn hq0 => ?_⟩
  · rcases List.mem_or_eq_of_mem_set hx with hx | rfl
    · have := h.top x hx; omega
    · omega
  · rw [look_ q hq] at hn
    split at hn
    · omega
    · rcases tell q hq hq0 with ⟨hb, he⟩ | he
      · rw [he]; exact hmin q hq hn hb
      · exact he
  · rw [look_ q hq] at hn ⊢
    rcases tell q hq hq0 with ⟨hb, he⟩ | he
    · rw [he]
      split
      · rename_i e
        exact hmin q hq (by rw [e]; exact hneg) hb
      · rename_i e
        rw [if_neg e] at hn
        exact h.clo q hq hn hb
    · split
      · exact he
      · rename_i e
        have hq1 := hmay q hq
        have := h.top _ (List.mem_of_getElem? (at0_get hq1.1 hq1.2.1))
        omega

theorem settled_end {g : Gram} {of : List Int} {B : Int} (h : Settled g of B) (hno : ∀ r ∈ g.rules, ¬ (at0 of r.left < 0 ∧ 0 ≤ srule of r.right 0)) : Closed g of := by
  intro r hr hv
  by_cases hn : at0 of r.left < 0
  · exact absurd ⟨hn, hv⟩ (hno r hr)
  · exact ⟨by omega, h.clo r hr (by omega) hv⟩

/-- How many are not settled. -/
def negs : List Int → Nat
  | [] => 0
  | x :: l => (if x < 0 then 1 else 0) + negs l
theorem negs_set : ∀ {of : List Int} {m : Nat} {v x : Int}, of[m]? = some x → 0 ≤ v → x < 0 → negs (of.set m v) < negs of
  | [], m, v, x, h, _, _ => by cases h
  | y :: l, 0, v, x, h, h0, h2 => by
    simp only [List.getElem?_cons_zero, Option.some.injEq] at h
    subst h
    simp only [List.set_cons_zero, negs]
    rw [if_neg (by omega), if_pos h2]
    omega
  | y :: l, m + 1, v, x, h, h0, h2 => by
    have := negs_set (of := l) (m := m) (by simpa using h) h0 h2
    simp only [List.set_cons_succ, negs]
    omega

theorem fill_set (x y : Int) {m k : Nat} (h : k < m) : (List.replicate k x ++ List.replicate (m - k) y).set k x = List.replicate (k + 1) x ++ List.replicate (m - (k + 1)) y := by
  rw [List.set_append_right _ _ (by simp)]
  rw [show m - k = (m - (k + 1)) + 1 by omega, List.replicate_succ, List.length_replicate, Nat.sub_self, List.set_cons_zero, List.replicate_succ', List.append_assoc]
  rfl
theorem drop_cons {α : Type} {l : List α} {k : Nat} {x : α} (h : l[k]? = some x) : l.drop k = x :: l.drop (k + 1) := by
  obtain ⟨hlt, rfl⟩ := List.getElem?_eq_some_iff.1 h
  exact List.drop_eq_getElem_cons hlt
theorem may_all {g : Gram} (h : mayB g = true) : ∀ r ∈ g.rules, 0 ≤ r.left ∧ r.left < g.names ∧ ∀ s ∈ r.right, s.term = false → 0 ≤ s.n ∧ s.n < g.names := by
  intro r hr
  obtain ⟨k, hk⟩ := List.getElem?_of_mem hr
  refine ⟨(may_rule h hk).1, (may_rule h hk).2.1, fun s hs ht => ?_⟩
  obtain ⟨j, hj⟩ := List.getElem?_of_mem hs
  have := may_sym h hk hj
  exact ⟨this.1, this.2.2 ht⟩
end Go.Sy
