/- Names that begin with themselves, in plain terms: ways, and tables that close them. No condition. -/
import Derived.Test.YteceklkjbcebkaaPCol
namespace Go.Sy
open Go

/-- May a name stand first among symbols? -/
def fstL (nl : List Bool) (b : Int) : List Sym → Bool
  | [] => false
  | s :: l => !s.term && (decide (s.n = b) || (atB nl s.n && fstL nl b l))
def fstB (rs : List Rule) (nl : List Bool) (a b : Int) : Bool := rs.any fun r => decide (r.left = a) && fstL nl b r.right
theorem fstL_drop {nl : List Bool} {b : Int} {l : List Sym} {k : Nat} {s : Sym} (h : l[k]? = some s) : fstL nl b (l.drop k) = (!s.term && (decide (s.n = b) || (atB nl s.n && fstL nl b (l.drop (k + 1))))) := by
  obtain ⟨hlt, rfl⟩ := List.getElem?_eq_some_iff.1 h
  rw [List.drop_eq_getElem_cons hlt]; rfl
theorem fstB_take {rs : List Rule} {nl : List Bool} {a b : Int} {i : Nat} {r : Rule} (h : rs[i]? = some r) : fstB (rs.take (i + 1)) nl a b = (fstB (rs.take i) nl a b || (decide (r.left = a) && fstL nl b r.right)) := by
  unfold fstB; rw [List.take_add_one, h, List.any_append]; simp
theorem fstB_mem {rs : List Rule} {nl : List Bool} {a b : Int} {r : Rule} (h : r ∈ rs) (hl : r.left = a) (hf : fstL nl b r.right = true) : fstB rs nl a b = true :=
  List.any_eq_true.2 ⟨r, h, by simp [hl, hf]⟩
theorem fstL_rng {nl : List Bool} {b : Int} {N : Nat} : ∀ {l : List Sym}, (∀ s ∈ l, s.term = false → 0 ≤ s.n ∧ s.n < (N : Int)) → fstL nl b l = true → 0 ≤ b ∧ b < (N : Int)
  | [], _, h => by cases h
  | s :: l, hr, h => by
    simp only [fstL, Bool.and_eq_true, Bool.or_eq_true, decide_eq_true_eq] at h
    rcases h.2 with h2 | h2
    · rw [← h2]; exact hr s (by simp) (by simpa using h.1)
    · exact fstL_rng (fun q hq => hr q (List.mem_cons_of_mem _ hq)) h2.2
theorem fstB_rng {rs : List Rule} {nl : List Bool} {a b : Int} {N : Nat} (hr : ∀ r ∈ rs, (0 ≤ r.left ∧ r.left < (N : Int)) ∧ ∀ s ∈ r.right, s.term = false → 0 ≤ s.n ∧ s.n < (N : Int)) (h : fstB rs nl a b = true) : (0 ≤ a ∧ a < (N : Int)) ∧ 0 ≤ b ∧ b < (N : Int) := by
  obtain ⟨r, hm, h2⟩ := List.any_eq_true.1 h
  simp only [Bool.and_eq_true, decide_eq_true_eq] at h2
  have := hr r hm
  rw [← h2.1]
  exact ⟨this.1, fstL_rng this.2 h2.2⟩

inductive Way (E : Int → Int → Prop) (a : Int) : Int → Prop
  | one {b : Int} : E a b → Way E a b
  | more {b c : Int} : Way E a b → E b c → Way E a c
theorem Way.trans {E : Int → Int → Prop} {a b c : Int} (h : Way E a b) (h2 : Way E b c) : Way E a c := by
  induction h2 with
  | one h3 => exact .more h h3
  | more _ h3 ih => exact .more ih h3

/-- A cell of a table is set. -/
def putv (tab : List (List Bool)) (n t : Int) (v : Bool) : List (List Bool) := tab.set n.toNat ((row2 tab n).set t.toNat v)
theorem at2_putv {tab : List (List Bool)} {n t m u : Int} {v : Bool} (h0 : 0 ≤ n) (h1 : n < tab.length) (ht : 0 ≤ t) (ht1 : t < (row2 tab n).length) (hm : 0 ≤ m) (hu : 0 ≤ u) : at2 (putv tab n t v) m u = if m = n ∧ u = t then v else at2 tab m u := by
  unfold at2 putv
  rw [row2_set h0 h1 hm]
  by_cases e : m = n
  · subst e
    rw [if_pos rfl, atB_set' ht ht1 hu]
    by_cases e2 : u = t
    · simp [e2]
    · simp [e2]
  · simp [e]
theorem Dim.putv {tab : List (List Bool)} {a b : Nat} (h : Dim tab a b) {n t : Int} {v : Bool} (h0 : 0 ≤ n) (h1 : n < (a : Int)) : Dim (putv tab n t v) a b := by
  refine ⟨by unfold Sy.putv; rw [List.length_set]; exact h.1, fun l hl => ?_⟩
  rcases List.mem_or_eq_of_mem_set hl with hl | rfl
  · exact h.2 l hl
  · rw [List.length_set]; exact h.row h0 h1

/-- All pairs below a number. -/
abbrev In2 (N : Nat) (p : Int → Int → Prop) : Prop := ∀ a b : Int, 0 ≤ a → a < (N : Int) → 0 ≤ b → b < (N : Int) → p a b
/-- So much of a table's round at 'k' is done. -/
def WR (N : Nat) (t t2 : List (List Bool)) (k i j : Int) : Prop := In2 N fun a b => at2 t2 a b = (at2 t a b || ((decide (a < i) || (decide (a = i) && decide (b < j))) && (at2 t a k && at2 t k b)))
theorem WR.start {N : Nat} {t : List (List Bool)} {k : Int} : WR N t t k 0 0 := fun a b h0 _ h2 _ => by
  have e1 : ¬ a < 0 := by omega
  have e2 : ¬ b < 0 := by omega
  simp [e1, e2]
theorem WR.next {N : Nat} {t t2 : List (List Bool)} {k i : Int} {j : Nat} (h : WR N t t2 k i j) (hj : N ≤ j) : WR N t t2 k (i + 1) 0 := fun a b h0 h1 h2 h3 => by
  show at2 t2 a b = _
  rw [h a b h0 h1 h2 h3]
  have e1 : ¬ b < 0 := by omega
  have e2 : b < (j : Int) := by omega
  have e3 : (a < i + 1) ↔ (a < i ∨ a = i) := by omega
  simp only [e1, e2, e3, decide_true, decide_false, Bool.and_true, Bool.and_false, Bool.or_false]
  by_cases h4 : a < i <;> by_cases h5 : a = i <;> simp [h4, h5]
theorem WR.step {N : Nat} {t t2 : List (List Bool)} {k i j : Int} {v : Bool} (h : WR N t t2 k i j) (hd : Dim t2 N N) (hk0 : 0 ≤ k) (hk : k < (N : Int)) (hi0 : 0 ≤ i) (hi : i < (N : Int)) (hj0 : 0 ≤ j) (hj : j < (N : Int))
    (hv : v = (at2 t2 i j || (at2 t2 i k && at2 t2 k j))) : WR N t (putv t2 i j v) k i (j + 1) := fun a b h0 h1 h2 h3 => by
  have hl := hd.1
  have hr := hd.row hi0 hi
  show at2 (putv t2 i j v) a b = _
  rw [at2_putv hi0 (by omega) hj0 (by omega) h0 h2]
  split
  · rename_i e
    obtain ⟨rfl, rfl⟩ := e
    rw [hv, h a b hi0 hi hj0 hj, h a k hi0 hi hk0 hk, h k b hk0 hk hj0 hj]
    have e1 : ¬ b < b := by omega
    have e2 : ¬ a < a := by omega
    have e3 : b < b + 1 := by omega
    simp only [e1, e2, e3, decide_true, decide_false, Bool.false_or, Bool.and_false, Bool.true_and, Bool.false_and, Bool.or_false]
    cases at2 t a b <;> cases at2 t a k <;> cases at2 t k b <;> simp
  · rename_i e
    rw [h a b h0 h1 h2 h3]
    have e3 : (a = i ∧ b < j + 1) ↔ (a = i ∧ b < j) := by omega
    have e4 : (decide (a = i) && decide (b < j + 1)) = (decide (a = i) && decide (b < j)) := by
      rw [← Bool.decide_and, ← Bool.decide_and]; exact decide_eq_decide.2 e3
    rw [e4]
/-- A table between what leads and all ways, closed below 'k'. -/
structure WT (E : Int → Int → Prop) (N : Nat) (t : List (List Bool)) (k : Int) : Prop where
  dim : Dim t N N
  snd : In2 N fun a b => at2 t a b = true → Way E a b
  bas : In2 N fun a b => E a b → at2 t a b = true
  cls : ∀ c : Int, 0 ≤ c → c < k → In2 N fun a b => at2 t a c = true → at2 t c b = true → at2 t a b = true
theorem WT.round {E : Int → Int → Prop} {N : Nat} {t t2 : List (List Bool)} {k : Int} {i : Nat} (h : WT E N t k) (hk0 : 0 ≤ k) (hk : k < (N : Int)) (h2 : WR N t t2 k i 0) (hi : N ≤ i) (hd : Dim t2 N N) : WT E N t2 (k + 1) := by
  have key : In2 N fun a b => at2 t2 a b = (at2 t a b || (at2 t a k && at2 t k b)) := fun a b h0 h1 h3 h4 => by
    show at2 t2 a b = _
    rw [h2 a b h0 h1 h3 h4]
    have e1 : a < (i : Int) := by omega
    simp [e1]
  have kc : ∀ a : Int, 0 ≤ a → a < (N : Int) → at2 t2 a k = at2 t a k := fun a h0 h1 => by
    rw [key a k h0 h1 hk0 hk]; cases at2 t a k <;> simp
  have kr : ∀ b : Int, 0 ≤ b → b < (N : Int) → at2 t2 k b = at2 t k b := fun b h0 h1 => by
    rw [key k b hk0 hk h0 h1]; cases at2 t k b <;> simp
  refine ⟨hd, fun a b h0 h1 h3 h4 he => ?_, fun a b h0 h1 h3 h4 he => ?_, fun c hc0 hck a b h0 h1 h3 h4 hac hcb => ?_⟩
  · rw [key a b h0 h1 h3 h4] at he
    simp only [Bool.or_eq_true, Bool.and_eq_true] at he
    rcases he with he | he
    · exact h.snd a b h0 h1 h3 h4 he
    · exact (h.snd a k h0 h1 hk0 hk he.1).trans (h.snd k b hk0 hk h3 h4 he.2)
  · rw [key a b h0 h1 h3 h4, h.bas a b h0 h1 h3 h4 he]; rfl
  · have hcN : c < (N : Int) := by omega
    by_cases e : c = k
    · subst e
      rw [kc a h0 h1] at hac
      rw [kr b h3 h4] at hcb
      rw [key a b h0 h1 h3 h4, hac, hcb]; simp
    · have hck' : c < k := by omega
      have cl := h.cls c hc0 hck'
      rw [key a c h0 h1 hc0 hcN] at hac
      rw [key c b hc0 hcN h3 h4] at hcb
      rw [key a b h0 h1 h3 h4]
      simp only [Bool.or_eq_true, Bool.and_eq_true] at hac hcb ⊢
      rcases hac with x | ⟨x, y⟩
      · rcases hcb with z | ⟨z, u⟩
        · exact .inl (cl a b h0 h1 h3 h4 x z)
        · exact .inr ⟨cl a k h0 h1 hk0 hk x z, u⟩
      · rcases hcb with z | ⟨z, u⟩
        · exact .inr ⟨x, cl k b hk0 hk h3 h4 y z⟩
        · exact .inr ⟨x, u⟩
theorem WT.all {E : Int → Int → Prop} {N : Nat} {t : List (List Bool)} {k : Int} (h : WT E N t k) (hk : (N : Int) ≤ k) (hE : ∀ a b, E a b → (0 ≤ a ∧ a < (N : Int)) ∧ 0 ≤ b ∧ b < (N : Int)) {a b : Int} (hw : Way E a b) : ((0 ≤ a ∧ a < (N : Int)) ∧ 0 ≤ b ∧ b < (N : Int)) ∧ at2 t a b = true := by
  induction hw with
  | one he => exact ⟨hE _ _ he, h.bas _ _ (hE _ _ he).1.1 (hE _ _ he).1.2 (hE _ _ he).2.1 (hE _ _ he).2.2 he⟩
  | more _ he ih =>
    have h2 := hE _ _ he
    refine ⟨⟨ih.1.1, h2.2⟩, h.cls _ h2.1.1 (by omega) _ _ ih.1.1.1 ih.1.1.2 h2.2.1 h2.2.2 ih.2 (h.bas _ _ h2.1.1 h2.1.2 h2.2.1 h2.2.2 he)⟩

/-! ### By rounds -/
def wayK (rs : List Rule) (nl : List Bool) (n a : Int) (b : Nat) : Con := ⟨fun c => (decide (a = n) || atB c a) && fstB rs nl a (b : Int), (b : Int)⟩
def wayR (rs : List Rule) (nl : List Bool) (N : Nat) (n : Int) (a : Nat) : List Con := (List.range N).map (wayK rs nl n (a : Int))
def KW (rs : List Rule) (nl : List Bool) (N : Nat) (n : Int) : List Con := (List.range N).flatMap (wayR rs nl N n)
/-- The rows behind us, and what is behind us of this one. -/
def DWy (rs : List Rule) (nl : List Bool) (N : Nat) (n : Int) (a b : Nat) : List Con := ((List.range N).take a).flatMap (wayR rs nl N n) ++ (wayR rs nl N n a).take b
theorem DWy_zero {rs : List Rule} {nl : List Bool} {N : Nat} {n : Int} {a : Nat} : DWy rs nl N n a 0 = ((List.range N).take a).flatMap (wayR rs nl N n) := by unfold DWy; rw [List.take_zero, List.append_nil]
theorem DWy_step {rs : List Rule} {nl : List Bool} {N : Nat} {n : Int} {a b : Nat} (hb : b < N) : DWy rs nl N n a (b + 1) = DWy rs nl N n a b ++ [wayK rs nl n (a : Int) b] := by
  unfold DWy
  rw [List.take_add_one, List.append_assoc]
  unfold wayR
  rw [List.getElem?_map, List.getElem?_range hb]; rfl
theorem DWy_next {rs : List Rule} {nl : List Bool} {N : Nat} {n : Int} {a b : Nat} (ha : a < N) (hb : N ≤ b) : ((List.range N).take (a + 1)).flatMap (wayR rs nl N n) = DWy rs nl N n a b := by
  have e : (wayR rs nl N n a).take b = wayR rs nl N n a := List.take_of_length_le (by unfold wayR; rw [List.length_map, List.length_range]; exact hb)
  unfold DWy
  rw [e, List.take_add_one, List.getElem?_range ha, List.flatMap_append]
  simp
theorem KW_mem {rs : List Rule} {nl : List Bool} {N : Nat} {n : Int} {a b : Nat} (ha : a < N) (hb : b < N) : wayK rs nl n (a : Int) b ∈ KW rs nl N n :=
  List.mem_flatMap.2 ⟨a, List.mem_range.2 ha, List.mem_map.2 ⟨b, List.mem_range.2 hb, rfl⟩⟩
theorem ways_of {rs : List Rule} {nl : List Bool} {N : Nat} {n : Int} {c : List Bool} (h : ClosedK (KW rs nl N n) c) (hE : ∀ a b, fstB rs nl a b = true → (0 ≤ a ∧ a < (N : Int)) ∧ 0 ≤ b ∧ b < (N : Int)) {b : Int} (hw : Way (fun a b => fstB rs nl a b = true) n b) : atB c b = true := by
  have key : ∀ a b : Int, fstB rs nl a b = true → (a = n ∨ atB c a = true) → atB c b = true := fun a b he ho => by
    have h1 := hE a b he
    have h2 := h _ (KW_mem (rs := rs) (nl := nl) (n := n) (a := a.toNat) (b := b.toNat) (by omega) (by omega)) (by
      show ((decide (((a.toNat : Nat) : Int) = n) || atB c ((a.toNat : Nat) : Int)) && fstB rs nl ((a.toNat : Nat) : Int) ((b.toNat : Nat) : Int)) = true
      rw [Int.toNat_of_nonneg h1.1.1, Int.toNat_of_nonneg h1.2.1, he]
      rcases ho with ho | ho <;> simp [ho])
    have h3 : atB c ((b.toNat : Nat) : Int) = true := h2
    rwa [Int.toNat_of_nonneg h1.2.1] at h3
  induction hw with
  | one he => exact key _ _ he (.inl rfl)
  | more _ he ih => exact key _ _ he (.inr ih)
end Go.Sy
