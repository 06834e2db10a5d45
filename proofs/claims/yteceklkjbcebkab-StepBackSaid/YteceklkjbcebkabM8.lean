/- Walks and plain laws, part 8. No condition. -/
import Derived.Test.YteceklkjbcebkabM3
import Derived.Test.YteceklkjbcebkabM7
/- Derivations as trees, and what carrying one over makes of it: in plain terms. No condition. -/
namespace Go.Sy
open Go

/-- Trees in a row derive symbols, with a yield. -/
inductive Der (g : Gram) : List Sym → For → List Int → Prop
  | nil : Der g [] .nil []
  | term {s : Sym} {l : List Sym} {f : For} {y : List Int} : s.term = true → Der g l f y → Der g (s :: l) f (s.n :: y)
  | name {s : Sym} {l : List Sym} {x : Int} {q : Rule} {ks fs : For} {y1 y2 : List Int} : s.term = false → 0 ≤ x → g.rules[x.toNat]? = some q → q.left = s.n → Der g q.right ks y1 → Der g l fs y2 → Der g (s :: l) (.cons x ks fs) (y1 ++ y2)

def For.len : For → Nat
  | .nil => 0
  | .cons _ _ r => r.len + 1
def For.size : For → Nat
  | .nil => 0
  | .cons _ k r => k.size + r.size + 1
def For.take : Nat → For → For
  | 0, _ => .nil
  | _ + 1, .nil => .nil
  | n + 1, .cons x k r => .cons x k (r.take n)
def For.drop : Nat → For → For
  | 0, f => f
  | _ + 1, .nil => .nil
  | n + 1, .cons _ _ r => r.drop n
def For.kids1 : For → For
  | .nil => .nil
  | .cons _ k _ => k
def For.rule1 : For → Int
  | .nil => 0
  | .cons x _ _ => x
/-- So many of the symbols are names. -/
def nms (l : List Sym) : Nat := (l.filter (fun s => !s.term)).length

theorem nms_term {s : Sym} {l : List Sym} (h : s.term = true) : nms (s :: l) = nms l := by simp [nms, h]
theorem nms_name {s : Sym} {l : List Sym} (h : s.term = false) : nms (s :: l) = nms l + 1 := by simp [nms, h]
theorem nms_append (l m : List Sym) : nms (l ++ m) = nms l + nms m := by simp [nms]
theorem flat_size : ∀ f : For, f.flat.length = f.size
  | .nil => rfl
  | .cons x k r => by
    show (x :: (k.flat ++ r.flat)).length = k.size + r.size + 1
    rw [List.length_cons, List.length_append, flat_size k, flat_size r]
theorem app_len : ∀ a b : For, (a.app b).len = a.len + b.len
  | .nil, b => by show b.len = 0 + b.len; omega
  | .cons x k r, b => by show (r.app b).len + 1 = r.len + 1 + b.len; rw [app_len r b]; omega
theorem app_size : ∀ a b : For, (a.app b).size = a.size + b.size
  | .nil, b => by show b.size = 0 + b.size; omega
  | .cons x k r, b => by show k.size + (r.app b).size + 1 = k.size + r.size + 1 + b.size; rw [app_size r b]; omega
theorem take_app : ∀ (a b : For) (n : Nat), a.len = n → (a.app b).take n = a
  | .nil, b, n, h => by subst h; cases b <;> rfl
  | .cons x k r, b, n, h => by
    subst h
    show For.cons x k ((r.app b).take r.len) = _
    rw [take_app r b _ rfl]
theorem drop_app : ∀ (a b : For) (n : Nat), a.len = n → (a.app b).drop n = b
  | .nil, b, n, h => by subst h; cases b <;> rfl
  | .cons x k r, b, n, h => by
    subst h
    show (r.app b).drop r.len = _
    rw [drop_app r b _ rfl]
theorem take_size (n : Nat) : ∀ f : For, (f.take n).size + (f.drop n).size = f.size := by
  induction n with
  | zero => intro f; cases f <;> simp [For.take, For.drop, For.size]
  | succ n ih =>
    intro f
    cases f with
    | nil => rfl
    | cons x k r =>
      show k.size + (r.take n).size + 1 + (r.drop n).size = k.size + r.size + 1
      have := ih r
      omega
theorem drop_drop (n m : Nat) : ∀ f : For, (f.drop n).drop m = f.drop (n + m) := by
  induction n with
  | zero => intro f; rw [Nat.zero_add]; cases f <;> rfl
  | succ n ih =>
    intro f
    cases f with
    | nil => rw [show n + 1 + m = (n + m) + 1 by omega]; cases m <;> rfl
    | cons x k r =>
      rw [show n + 1 + m = (n + m) + 1 by omega]
      exact ih r

section
variable {g : Gram}
theorem der_len {l : List Sym} {f : For} {y : List Int} (h : Der g l f y) : f.len = nms l := by
  induction h with
  | nil => rfl
  | term ht _ ih => rw [nms_term ht, ih]
  | name ht _ _ _ _ _ _ ih2 => rw [nms_name ht]; exact congrArg (· + 1) ih2
theorem der_app {l m : List Sym} {f f' : For} {y y' : List Int} (h : Der g l f y) (h2 : Der g m f' y') : Der g (l ++ m) (f.app f') (y ++ y') := by
  induction h with
  | nil => exact h2
  | term ht _ ih => exact .term ht ih
  | name ht h0 hq hl hk _ _ ih2 => rw [List.append_assoc]; exact .name ht h0 hq hl hk ih2
theorem der_cut : ∀ {l m : List Sym} {f : For} {y : List Int}, Der g (l ++ m) f y → ∃ f1 f2 y1 y2, f = f1.app f2 ∧ y = y1 ++ y2 ∧ Der g l f1 y1 ∧ Der g m f2 y2
  | [], m, f, y, h => ⟨.nil, f, [], y, rfl, rfl, .nil, h⟩
  | s :: l, m, f, y, h => by
    rw [List.cons_append] at h
    cases h with
    | term ht h =>
      obtain ⟨f1, f2, y1, y2, rfl, rfl, h1, h2⟩ := der_cut h
      exact ⟨f1, f2, _, y2, rfl, rfl, .term ht h1, h2⟩
    | name ht h0 hq hl hk h =>
      obtain ⟨f1, f2, y1, y2, rfl, rfl, h1, h2⟩ := der_cut h
      exact ⟨.cons _ _ f1, f2, _, y2, rfl, (List.append_assoc ..).symm, .name ht h0 hq hl hk h1, h2⟩
theorem der_one {s : Sym} {f : For} {y : List Int} (h : Der g [s] f y) (hs : s.term = false) : ∃ x q ks, f = .cons x ks .nil ∧ 0 ≤ x ∧ g.rules[x.toNat]? = some q ∧ q.left = s.n ∧ Der g q.right ks y := by
  cases h with
  | term ht _ => rw [hs] at ht; cases ht
  | name ht h0 hq hl hk h =>
    cases h
    rw [List.append_nil]
    exact ⟨_, _, _, rfl, h0, hq, hl, hk⟩
theorem der_mk {s : Sym} {x : Int} {q : Rule} {ks : For} {y : List Int} (ht : s.term = false) (h0 : 0 ≤ x) (hq : g.rules[x.toNat]? = some q) (hl : q.left = s.n) (hk : Der g q.right ks y) : Der g [s] (.cons x ks .nil) y := by
  have := Der.name ht h0 hq hl hk .nil
  rwa [List.append_nil] at this
/-- More rules behind. -/
theorem der_more {t n n' : Int} {rs ms : List Rule} {l : List Sym} {f : For} {y : List Int} (h : Der ⟨t, n, rs⟩ l f y) : Der ⟨t, n', rs ++ ms⟩ l f y := by
  induction h with
  | nil => exact .nil
  | term ht _ ih => exact .term ht ih
  | name ht h0 hq hl _ _ ih1 ih2 => exact .name ht h0 (by have := (List.getElem?_eq_some_iff.1 hq).1; exact (List.getElem?_append_left this).trans hq) hl ih1 ih2
def rngR (n : Int) (rs : List Rule) : Prop := ∀ r ∈ rs, r.left < n ∧ noF n r.right
theorem last_get {rs : List Rule} {r q : Rule} {i : Nat} (h : (rs ++ [r])[i]? = some q) : (i < rs.length ∧ rs[i]? = some q) ∨ (i = rs.length ∧ q = r) := by
  rcases Nat.lt_or_ge i rs.length with h1 | h1
  · rw [List.getElem?_append_left h1] at h; exact .inl ⟨h1, h⟩
  · rw [List.getElem?_append_right h1] at h
    have : i - rs.length = 0 := by
      have := (List.getElem?_eq_some_iff.1 h).1
      simpa using this
    rw [this] at h
    injection h with h
    exact .inr ⟨by omega, h.symm⟩
theorem der_less {t n n' : Int} {rs : List Rule} {r : Rule} (hr : r.left = n) (hn : rngR n rs) {l : List Sym} {f : For} {y : List Int} (h : Der ⟨t, n', rs ++ [r]⟩ l f y) : noF n l → Der ⟨t, n, rs⟩ l f y := by
  induction h with
  | nil => exact fun _ => .nil
  | term ht _ ih => exact fun hl => .term ht (ih fun s hs => hl s (.tail _ hs))
  | @name s l x q ks fs y1 y2 ht h0 hq hl _ _ ih1 ih2 =>
    intro hf
    have hs := hf s (.head _) ht
    rcases last_get hq with ⟨h1, h2⟩ | ⟨_, h2⟩
    · exact .name ht h0 h2 hl (ih1 (hn q (List.mem_of_getElem? h2)).2) (ih2 fun s hs => hf s (.tail _ hs))
    · rw [h2, hr] at hl; omega
end

/-! ### Extract -/
def ext2 (a R : Int) (p k : Nat) : For → For
  | .nil => .nil
  | .cons x ks r => .cons x (if x = a then ((ext2 a R p k ks).take p).app (.cons R (((ext2 a R p k ks).drop p).take k) ((ext2 a R p k ks).drop (p + k))) else ext2 a R p k ks) (ext2 a R p k r)
def bk2 (a : Int) (p : Nat) : For → For
  | .nil => .nil
  | .cons x ks r => .cons x (if x = a then ((bk2 a p ks).take p).app (((bk2 a p ks).drop p).kids1.app ((bk2 a p ks).drop (p + 1))) else bk2 a p ks) (bk2 a p r)
theorem ext2_app {a R : Int} {p k : Nat} : ∀ f f' : For, ext2 a R p k (f.app f') = (ext2 a R p k f).app (ext2 a R p k f')
  | .nil, _ => rfl
  | .cons x ks r, f' => by
    show For.cons x _ (ext2 a R p k (r.app f')) = For.cons x _ ((ext2 a R p k r).app _)
    rw [ext2_app r f']
theorem ext2_len {a R : Int} {p k : Nat} : ∀ f : For, (ext2 a R p k f).len = f.len
  | .nil => rfl
  | .cons x ks r => congrArg (· + 1) (ext2_len r)
theorem ext2_size {a R : Int} {p k : Nat} : ∀ f : For, (ext2 a R p k f).size ≤ 2 * f.size
  | .nil => Nat.le_refl _
  | .cons x ks r => by
    have h1 := ext2_size (a := a) (R := R) (p := p) (k := k) ks
    have h2 := ext2_size (a := a) (R := R) (p := p) (k := k) r
    show (if x = a then _ else _ : For).size + (ext2 a R p k r).size + 1 ≤ 2 * (ks.size + r.size + 1)
    split
    · rw [app_size]
      show _ + ((((ext2 a R p k ks).drop p).take k).size + ((ext2 a R p k ks).drop (p + k)).size + 1) + _ + 1 ≤ _
      have h3 := take_size p (ext2 a R p k ks)
      have h4 := take_size k ((ext2 a R p k ks).drop p)
      rw [drop_drop] at h4
      omega
    · omega
theorem bk2_app {a : Int} {p : Nat} : ∀ f f' : For, bk2 a p (f.app f') = (bk2 a p f).app (bk2 a p f')
  | .nil, _ => rfl
  | .cons x ks r, f' => by
    show For.cons x _ (bk2 a p (r.app f')) = For.cons x _ ((bk2 a p r).app _)
    rw [bk2_app r f']
theorem bk2_len {a : Int} {p : Nat} : ∀ f : For, (bk2 a p f).len = f.len
  | .nil => rfl
  | .cons x ks r => congrArg (· + 1) (bk2_len r)
theorem kids_drop (f : For) (p : Nat) : (f.drop p).kids1.size + (f.drop (p + 1)).size ≤ (f.drop p).size := by
  rw [← drop_drop]
  cases f.drop p with
  | nil => exact Nat.le_refl _
  | cons x k r =>
    show k.size + (r.drop 0).size ≤ k.size + r.size + 1
    rw [show r.drop 0 = r by cases r <;> rfl]
    omega
theorem bk2_size {a : Int} {p : Nat} : ∀ f : For, (bk2 a p f).size ≤ f.size
  | .nil => Nat.le_refl _
  | .cons x ks r => by
    have h1 := bk2_size (a := a) (p := p) ks
    have h2 := bk2_size (a := a) (p := p) r
    show (if x = a then _ else _ : For).size + (bk2 a p r).size + 1 ≤ ks.size + r.size + 1
    split
    · rw [app_size, app_size]
      have h3 := take_size p (bk2 a p ks)
      have h4 := kids_drop (bk2 a p ks) p
      omega
    · omega
section
variable {t n : Int} {rs : List Rule} {a b c : Nat} {q : Rule}
theorem ext_right (hbc : b ≤ c) : q.right = q.right.take b ++ (partR q b c ++ q.right.drop c) := part_join hbc
theorem der_ext (hq : rs[a]? = some q) (hbc : b ≤ c) {l : List Sym} {f : For} {y : List Int} (h : Der ⟨t, n + 1, rs ++ [⟨n, partR q b c⟩]⟩ l f y) :
    Der ⟨t, n + 1, rs.set a (extR q b c (nameS n)) ++ [⟨n, partR q b c⟩]⟩ l (ext2 a rs.length (nms (q.right.take b)) (nms (partR q b c)) f) y ∧ bk2 a (nms (q.right.take b)) (ext2 a rs.length (nms (q.right.take b)) (nms (partR q b c)) f) = f := by
  have ha := (List.getElem?_eq_some_iff.1 hq).1
  induction h with
  | nil => exact ⟨.nil, rfl⟩
  | term ht _ ih => exact ⟨.term ht ih.1, ih.2⟩
  | @name s l x q' ks fs y1 y2 ht h0 hq' hl _ _ ih1 ih2 =>
    obtain ⟨i1, i2⟩ := ih1
    obtain ⟨i3, i4⟩ := ih2
    by_cases hx : x = a
    · subst hx
      have e1 : (rs ++ [⟨n, partR q b c⟩])[((a : Nat) : Int).toNat]? = some q := by rw [Int.toNat_natCast, List.getElem?_append_left ha, hq]
      rw [show (⟨t, n + 1, rs ++ [⟨n, partR q b c⟩]⟩ : Gram).rules = rs ++ [⟨n, partR q b c⟩] from rfl, e1] at hq'
      injection hq' with hq'
      subst hq'
      have i1' : Der ⟨t, n + 1, rs.set a (extR q b c (nameS n)) ++ [⟨n, partR q b c⟩]⟩ (q.right.take b ++ (partR q b c ++ q.right.drop c)) (ext2 a rs.length (nms (q.right.take b)) (nms (partR q b c)) ks) y1 := by rw [← ext_right (q := q) hbc]; exact i1
      obtain ⟨f1, f2, z1, z2, e2, e3, d1, d2⟩ := der_cut i1'
      obtain ⟨f3, f4, z3, z4, e4, e5, d3, d4⟩ := der_cut d2
      subst e4
      subst e5
      subst e3
      have l1 := der_len d1
      have l3 := der_len d3
      have t1 : (ext2 a rs.length (nms (q.right.take b)) (nms (partR q b c)) ks).take (nms (q.right.take b)) = f1 := by rw [e2]; exact take_app _ _ _ l1
      have t2 : ((ext2 a rs.length (nms (q.right.take b)) (nms (partR q b c)) ks).drop (nms (q.right.take b))).take (nms (partR q b c)) = f3 := by rw [e2, drop_app _ _ _ l1]; exact take_app _ _ _ l3
      have t3 : (ext2 a rs.length (nms (q.right.take b)) (nms (partR q b c)) ks).drop (nms (q.right.take b) + nms (partR q b c)) = f4 := by rw [← drop_drop, e2, drop_app _ _ _ l1]; exact drop_app _ _ _ l3
      have hne : ((rs.length : Nat) : Int) ≠ ((a : Nat) : Int) := by omega
      have main : ext2 a rs.length (nms (q.right.take b)) (nms (partR q b c)) (.cons a ks fs) = .cons a (f1.app (.cons rs.length f3 f4)) (ext2 a rs.length (nms (q.right.take b)) (nms (partR q b c)) fs) := by
        show For.cons _ (if _ then _ else _) _ = _
        rw [if_pos rfl, t1, t2, t3]
      rw [main]
      refine ⟨?_, ?_⟩
      · refine .name ht h0 (q := extR q b c (nameS n)) ?_ hl ?_ i3
        · rw [Int.toNat_natCast]
          show (rs.set a _ ++ _)[a]? = _
          rw [List.getElem?_append_left (by rw [List.length_set]; exact ha), List.getElem?_set_self ha]
        · refine der_app d1 (.name rfl (by omega) (q := ⟨n, partR q b c⟩) ?_ rfl d3 d4)
          rw [Int.toNat_natCast]
          show (rs.set a _ ++ _)[rs.length]? = _
          rw [List.getElem?_append_right (by rw [List.length_set]; omega), List.length_set, Nat.sub_self]; rfl
      · have i5 : bk2 a (nms (q.right.take b)) (f1.app (f3.app f4)) = ks := by rw [← e2]; exact i2
        have i6 : bk2 a (nms (q.right.take b)) (f1.app (.cons rs.length f3 f4)) = (bk2 a (nms (q.right.take b)) f1).app (.cons rs.length (bk2 a (nms (q.right.take b)) f3) (bk2 a (nms (q.right.take b)) f4)) := by
          rw [bk2_app]
          show _ = For.app _ _
          congr 1
          show For.cons _ (if _ then _ else _) _ = _
          rw [if_neg hne]
        show For.cons _ (if _ then _ else _) _ = _
        rw [if_pos rfl, i6, take_app _ _ _ (by rw [bk2_len]; exact l1), drop_app _ _ _ (by rw [bk2_len]; exact l1), ← drop_drop, drop_app _ _ _ (by rw [bk2_len]; exact l1), i4]
        show For.cons _ ((bk2 _ _ f1).app ((bk2 _ _ f3).app ((bk2 _ _ f4).drop 0))) _ = _
        rw [show ∀ z : For, z.drop 0 = z from fun z => by cases z <;> rfl, ← bk2_app, ← bk2_app, i5]
    · have hx' : x.toNat ≠ a := fun e => hx (by omega)
      have e1 : ext2 a rs.length (nms (q.right.take b)) (nms (partR q b c)) (.cons x ks fs) = .cons x (ext2 a rs.length (nms (q.right.take b)) (nms (partR q b c)) ks) (ext2 a rs.length (nms (q.right.take b)) (nms (partR q b c)) fs) := by
        show For.cons _ (if _ then _ else _) _ = _
        rw [if_neg hx]
      rw [e1]
      refine ⟨.name ht h0 (q := q') ?_ hl i1 i3, ?_⟩
      · show (rs.set a _ ++ _)[x.toNat]? = _
        rcases last_get hq' with ⟨h1, h2⟩ | ⟨h1, h2⟩
        · rw [List.getElem?_append_left (by rw [List.length_set]; exact h1), List.getElem?_set_ne (fun e => hx' e.symm), h2]
        · rw [h1, List.getElem?_append_right (by rw [List.length_set]; omega), List.length_set, Nat.sub_self, h2]; rfl
      · show For.cons _ (if _ then _ else _) _ = _
        rw [if_neg hx, i2, i4]
theorem der_unext (hq : rs[a]? = some q) (hbc : b ≤ c) (hrng : rngR n rs) {l : List Sym} {f : For} {y : List Int} (h : Der ⟨t, n + 1, rs.set a (extR q b c (nameS n)) ++ [⟨n, partR q b c⟩]⟩ l f y) :
    Der ⟨t, n + 1, rs ++ [⟨n, partR q b c⟩]⟩ l (bk2 a (nms (q.right.take b)) f) y ∧ ext2 a rs.length (nms (q.right.take b)) (nms (partR q b c)) (bk2 a (nms (q.right.take b)) f) = f := by
  have ha := (List.getElem?_eq_some_iff.1 hq).1
  induction h with
  | nil => exact ⟨.nil, rfl⟩
  | term ht _ ih => exact ⟨.term ht ih.1, ih.2⟩
  | @name s l x q' ks fs y1 y2 ht h0 hq' hl _ _ ih1 ih2 =>
    obtain ⟨i1, i2⟩ := ih1
    obtain ⟨i3, i4⟩ := ih2
    by_cases hx : x = a
    · subst hx
      have e1 : (rs.set a (extR q b c (nameS n)) ++ [⟨n, partR q b c⟩])[((a : Nat) : Int).toNat]? = some (extR q b c (nameS n)) := by rw [Int.toNat_natCast, List.getElem?_append_left (by rw [List.length_set]; exact ha), List.getElem?_set_self ha]
      rw [show (⟨t, n + 1, rs.set a (extR q b c (nameS n)) ++ [⟨n, partR q b c⟩]⟩ : Gram).rules = rs.set a (extR q b c (nameS n)) ++ [⟨n, partR q b c⟩] from rfl, e1] at hq'
      injection hq' with hq'
      subst hq'
      obtain ⟨f1, f2, z1, z2, e2, e3, d1, d2⟩ := der_cut (show Der _ (q.right.take b ++ nameS n :: q.right.drop c) _ _ from i1)
      subst e3
      cases d2 with
      | term h1 _ => cases h1
      | @name _ _ x2 q2 k2 k3 z3 z4 _ g0 gq gl d3 d4 =>
        rcases last_get gq with ⟨g1, g2⟩ | ⟨g1, g2⟩
        · have := (hrng q2 (List.mem_of_getElem? g2)).1
          have gl' : q2.left = n := gl
          omega
        subst g2
        have ex2 : x2 = rs.length := by omega
        subst ex2
        have hne : ((rs.length : Nat) : Int) ≠ ((a : Nat) : Int) := by omega
        have l1 := der_len d1
        have l3 := der_len d3
        have t1 : (bk2 a (nms (q.right.take b)) ks).take (nms (q.right.take b)) = f1 := by rw [e2]; exact take_app _ _ _ l1
        have t2 : (bk2 a (nms (q.right.take b)) ks).drop (nms (q.right.take b)) = .cons rs.length k2 k3 := by rw [e2]; exact drop_app _ _ _ l1
        have main : bk2 a (nms (q.right.take b)) (.cons a ks fs) = .cons a (f1.app (k2.app k3)) (bk2 a (nms (q.right.take b)) fs) := by
          show For.cons _ (if _ then _ else _) _ = _
          rw [if_pos rfl, t1, ← drop_drop, t2]
          show For.cons _ (f1.app (k2.app (k3.drop 0))) _ = _
          rw [show ∀ z : For, z.drop 0 = z from fun z => by cases z <;> rfl]
        rw [main]
        refine ⟨?_, ?_⟩
        · refine .name ht h0 (q := q) ?_ hl ?_ i3
          · rw [Int.toNat_natCast]
            show (rs ++ _)[a]? = _
            rw [List.getElem?_append_left ha, hq]
          · rw [ext_right (q := q) hbc]
            exact der_app d1 (der_app d3 d4)
        · have i5 : ext2 a rs.length (nms (q.right.take b)) (nms (partR q b c)) (f1.app (.cons rs.length k2 k3)) = ks := by rw [← e2]; exact i2
          have i6 : ext2 a rs.length (nms (q.right.take b)) (nms (partR q b c)) (f1.app (.cons rs.length k2 k3)) = (ext2 a rs.length (nms (q.right.take b)) (nms (partR q b c)) f1).app (.cons rs.length (ext2 a rs.length (nms (q.right.take b)) (nms (partR q b c)) k2) (ext2 a rs.length (nms (q.right.take b)) (nms (partR q b c)) k3)) := by
            rw [ext2_app]
            congr 1
            show For.cons _ (if _ then _ else _) _ = _
            rw [if_neg hne]
          show For.cons _ (if _ then _ else _) _ = _
          rw [if_pos rfl, ext2_app, ext2_app, take_app _ _ _ (by rw [ext2_len]; exact l1), drop_app _ _ _ (by rw [ext2_len]; exact l1), take_app _ _ _ (by rw [ext2_len]; exact l3), ← drop_drop, drop_app _ _ _ (by rw [ext2_len]; exact l1), drop_app _ _ _ (by rw [ext2_len]; exact l3), ← i6, i5, i4]
    · have hx' : x.toNat ≠ a := fun e => hx (by omega)
      have e1 : bk2 a (nms (q.right.take b)) (.cons x ks fs) = .cons x (bk2 a (nms (q.right.take b)) ks) (bk2 a (nms (q.right.take b)) fs) := by
        show For.cons _ (if _ then _ else _) _ = _
        rw [if_neg hx]
      rw [e1]
      refine ⟨.name ht h0 (q := q') ?_ hl i1 i3, ?_⟩
      · show (rs ++ _)[x.toNat]? = _
        rcases last_get hq' with ⟨h1, h2⟩ | ⟨h1, h2⟩
        · rw [List.length_set] at h1
          rw [List.getElem?_set_ne (fun e => hx' e.symm)] at h2
          rw [List.getElem?_append_left h1, h2]
        · rw [List.length_set] at h1
          rw [h1, List.getElem?_append_right (Nat.le_refl _), Nat.sub_self, h2]; rfl
      · show For.cons _ (if _ then _ else _) _ = _
        rw [if_neg hx, i2, i4]
end
end Go.Sy
/- Derivations carried over where a name is put in, where rules are left out, where names are swapped: in plain terms. No condition. -/
namespace Go.Sy
open Go

def idx (k : Nat) : List Nat → Nat
  | [] => 0
  | x :: l => if x = k then 0 else idx k l + 1
theorem idx_get {k : Nat} : ∀ {l : List Nat}, k ∈ l → l[idx k l]? = some k
  | x :: l, h => by
    unfold idx
    by_cases e : x = k
    · rw [if_pos e, e]; rfl
    · rw [if_neg e]
      exact idx_get ((List.mem_cons.1 h).resolve_left fun e2 => e e2.symm)
theorem idx_of {k : Nat} : ∀ {l : List Nat} {j : Nat}, l.Nodup → l[j]? = some k → idx k l = j
  | x :: l, 0, _, h => by
    injection h with h
    unfold idx
    rw [if_pos h]
  | x :: l, j + 1, hn, h => by
    have hn := List.nodup_cons.1 hn
    have h : l[j]? = some k := h
    unfold idx
    rw [if_neg (fun e => hn.1 (by rw [e]; exact List.mem_of_getElem? h)), idx_of hn.2 h]
theorem fm_get {rs : List Rule} : ∀ {ls : List Nat}, (∀ k ∈ ls, k < rs.length) → (ls.filterMap (fun k => rs[k]?)).length = ls.length ∧ ∀ (j k : Nat), ls[j]? = some k → (ls.filterMap (fun k => rs[k]?))[j]? = rs[k]?
  | [], _ => ⟨rfl, fun j k h => by cases h⟩
  | x :: ls, h => by
    obtain ⟨h1, h2⟩ := fm_get (ls := ls) fun k hk => h k (.tail _ hk)
    have hx := List.getElem?_eq_getElem (h x (.head _))
    rw [List.filterMap_cons, hx]
    refine ⟨congrArg (· + 1) h1, fun j k hj => ?_⟩
    cases j with
    | zero => injection hj with hj; subst hj; rw [hx]; rfl
    | succ j => exact h2 j k hj
theorem rng_pick {rs : List Rule} {p : Nat → Bool} {P : Rule → Bool} (hp : ∀ k r, rs[k]? = some r → p k = P r) : ((List.range rs.length).filter p).filterMap (fun k => rs[k]?) = rs.filter P := by
  have key : ∀ k, k ≤ rs.length → ((List.range k).filter p).filterMap (fun k => rs[k]?) = (rs.take k).filter P := fun k => by
    induction k with
    | zero => intro _; rfl
    | succ k ih =>
      intro hk
      have hx := List.getElem?_eq_getElem (show k < rs.length by omega)
      rw [List.range_succ, List.filter_append, List.filterMap_append, ih (by omega), List.take_add_one, hx, List.filter_append]
      congr 1
      have h1 := hp k _ hx
      cases hP : P rs[k] with
      | true => rw [hP] at h1; simp [h1, hP, hx]
      | false => rw [hP] at h1; simp [h1, hP]
  have := key rs.length (Nat.le_refl _)
  rwa [List.take_length] at this
theorem of_pick (rs : List Rule) (n : Int) : (ofL rs n).filterMap (fun k => rs[k]?) = rs.filter (fun r => decide (r.left = n)) := rng_pick fun k r h => by rw [h]; simp
theorem of_nodup (rs : List Rule) (n : Int) : (ofL rs n).Nodup := List.filter_sublist.nodup List.nodup_range
theorem of_lt {rs : List Rule} {n : Int} : ∀ k ∈ ofL rs n, k < rs.length := fun k hk => by
  obtain ⟨r, hr, _⟩ := ofL_mem hk
  exact (List.getElem?_eq_some_iff.1 hr).1
theorem app_inj : ∀ {a b c d : For}, a.app b = c.app d → a.len = c.len → a = c ∧ b = d := fun {a b c d} h hl => by
  have h1 := take_app a b _ rfl
  have h2 := drop_app a b _ rfl
  rw [h, hl] at h1 h2
  rw [take_app c d _ rfl] at h1
  rw [drop_app c d _ rfl] at h2
  exact ⟨h1.symm, h2.symm⟩
theorem der_nil {g : Gram} {f : For} {y : List Int} (h : Der g [] f y) : f = .nil ∧ y = [] := by cases h; exact ⟨rfl, rfl⟩
theorem drop0 (z : For) : z.drop 0 = z := by cases z <;> rfl
/-- A map of trees, tree by tree. -/
structure Tw (T : For → For) : Prop where
  app : ∀ f f', T (f.app f') = (T f).app (T f')
  len : ∀ f, (T f).len = f.len
theorem Tw.nil {T : For → For} (h : Tw T) : T .nil = .nil := by
  have := h.len .nil
  cases e : T .nil with
  | nil => rfl
  | cons x k r => rw [e] at this; cases this
/-- A derivation and what is made of it, cut alike. -/
theorem der_cutT {g h : Gram} {T : For → For} (hT : Tw T) {l m : List Sym} {f : For} {y y' : List Int} (d : Der g (l ++ m) f y) (d' : Der h (l ++ m) (T f) y') : ∃ f1 f2 y1 y2 z1 z2, f = f1.app f2 ∧ y = y1 ++ y2 ∧ y' = z1 ++ z2 ∧ Der g l f1 y1 ∧ Der g m f2 y2 ∧ Der h l (T f1) z1 ∧ Der h m (T f2) z2 := by
  obtain ⟨f1, f2, y1, y2, rfl, rfl, d1, d2⟩ := der_cut d
  obtain ⟨g1, g2, z1, z2, e, rfl, d3, d4⟩ := der_cut d'
  rw [hT.app] at e
  obtain ⟨rfl, rfl⟩ := app_inj e (by rw [hT.len, der_len d1, der_len d3])
  exact ⟨f1, f2, y1, y2, z1, z2, rfl, rfl, rfl, d1, d2, d3, d4⟩
theorem Tw.ext2 (a R : Int) (p k : Nat) : Tw (ext2 a R p k) := ⟨ext2_app, ext2_len⟩
theorem Tw.bk2 (a : Int) (p : Nat) : Tw (bk2 a p) := ⟨bk2_app, bk2_len⟩

/-! ### Inline -/
def fwd3 (a : Int) (p : Nat) (ls : List Nat) : For → For
  | .nil => .nil
  | .cons x ks r => if x = a then .cons (a + (idx (ks.drop p).rule1.toNat ls : Nat)) (((fwd3 a p ls ks).take p).app (((fwd3 a p ls ks).drop p).kids1.app ((fwd3 a p ls ks).drop (p + 1)))) (fwd3 a p ls r) else .cons (if a < x then x + ((ls.length : Int) - 1) else x) (fwd3 a p ls ks) (fwd3 a p ls r)
def bk3 (a : Int) (p : Nat) (ls : List Nat) (kn : Nat → Nat) : For → For
  | .nil => .nil
  | .cons x ks r => if a ≤ x ∧ x < a + (ls.length : Int) then .cons a (((bk3 a p ls kn ks).take p).app (.cons ((ls.getD (x - a).toNat 0 : Nat) : Int) (((bk3 a p ls kn ks).drop p).take (kn (ls.getD (x - a).toNat 0))) ((bk3 a p ls kn ks).drop (p + kn (ls.getD (x - a).toNat 0))))) (bk3 a p ls kn r)
    else .cons (if a ≤ x then x - (ls.length : Int) + 1 else x) (bk3 a p ls kn ks) (bk3 a p ls kn r)
theorem fwd3_app {a : Int} {p : Nat} {ls : List Nat} : ∀ f f' : For, fwd3 a p ls (f.app f') = (fwd3 a p ls f).app (fwd3 a p ls f')
  | .nil, _ => rfl
  | .cons x ks r, f' => by
    show (if x = a then For.cons _ _ (fwd3 a p ls (r.app f')) else For.cons _ _ (fwd3 a p ls (r.app f'))) = For.app (if x = a then _ else _) _
    rw [fwd3_app r f']
    split <;> rfl
theorem fwd3_len {a : Int} {p : Nat} {ls : List Nat} : ∀ f : For, (fwd3 a p ls f).len = f.len
  | .nil => rfl
  | .cons x ks r => by
    show (if x = a then For.cons _ _ (fwd3 a p ls r) else For.cons _ _ (fwd3 a p ls r)).len = r.len + 1
    split <;> exact congrArg (· + 1) (fwd3_len r)
theorem bk3_app {a : Int} {p : Nat} {ls : List Nat} {kn : Nat → Nat} : ∀ f f' : For, bk3 a p ls kn (f.app f') = (bk3 a p ls kn f).app (bk3 a p ls kn f')
  | .nil, _ => rfl
  | .cons x ks r, f' => by
    show (if a ≤ x ∧ x < a + (ls.length : Int) then For.cons _ _ (bk3 a p ls kn (r.app f')) else For.cons _ _ (bk3 a p ls kn (r.app f'))) = For.app (if a ≤ x ∧ x < a + (ls.length : Int) then _ else _) _
    rw [bk3_app r f']
    split <;> rfl
theorem bk3_len {a : Int} {p : Nat} {ls : List Nat} {kn : Nat → Nat} : ∀ f : For, (bk3 a p ls kn f).len = f.len
  | .nil => rfl
  | .cons x ks r => by
    show (if a ≤ x ∧ x < a + (ls.length : Int) then For.cons _ _ (bk3 a p ls kn r) else For.cons _ _ (bk3 a p ls kn r)).len = r.len + 1
    split <;> exact congrArg (· + 1) (bk3_len r)
theorem Tw.fwd3 (a : Int) (p : Nat) (ls : List Nat) : Tw (fwd3 a p ls) := ⟨fwd3_app, fwd3_len⟩
theorem Tw.bk3 (a : Int) (p : Nat) (ls : List Nat) (kn : Nat → Nat) : Tw (bk3 a p ls kn) := ⟨bk3_app, bk3_len⟩
theorem fwd3_size {a : Int} {p : Nat} {ls : List Nat} : ∀ f : For, (fwd3 a p ls f).size ≤ f.size
  | .nil => Nat.le_refl _
  | .cons x ks r => by
    have h1 := fwd3_size (a := a) (p := p) (ls := ls) ks
    have h2 := fwd3_size (a := a) (p := p) (ls := ls) r
    show (if x = a then For.cons _ _ _ else For.cons _ _ _).size ≤ ks.size + r.size + 1
    split
    · show (For.app _ (For.app _ _)).size + (fwd3 a p ls r).size + 1 ≤ _
      rw [app_size, app_size]
      have h3 := take_size p (fwd3 a p ls ks)
      have h4 := kids_drop (fwd3 a p ls ks) p
      omega
    · show (fwd3 a p ls ks).size + (fwd3 a p ls r).size + 1 ≤ _
      omega
theorem bk3_size {a : Int} {p : Nat} {ls : List Nat} {kn : Nat → Nat} : ∀ f : For, (bk3 a p ls kn f).size ≤ 2 * f.size
  | .nil => Nat.le_refl _
  | .cons x ks r => by
    have h1 := bk3_size (a := a) (p := p) (ls := ls) (kn := kn) ks
    have h2 := bk3_size (a := a) (p := p) (ls := ls) (kn := kn) r
    show (if a ≤ x ∧ x < a + (ls.length : Int) then For.cons _ _ _ else For.cons _ _ _).size ≤ 2 * (ks.size + r.size + 1)
    split
    · show (For.app _ (For.cons _ _ _)).size + (bk3 a p ls kn r).size + 1 ≤ _
      rw [app_size]
      show _ + (For.size _ + For.size _ + 1) + _ + 1 ≤ _
      have h3 := take_size p (bk3 a p ls kn ks)
      have h4 := take_size (kn (ls.getD (x - a).toNat 0)) ((bk3 a p ls kn ks).drop p)
      rw [drop_drop] at h4
      omega
    · show (bk3 a p ls kn ks).size + (bk3 a p ls kn r).size + 1 ≤ _
      omega
section
variable {t n : Int} {rs : List Rule} {a b : Nat} {q : Rule} {y : Sym}
abbrev inlG (t n : Int) (rs : List Rule) (a b : Nat) (q : Rule) (y : Sym) : Gram := ⟨t, n, rs.take a ++ inlS rs q b y ++ rs.drop (a + 1)⟩
theorem inlS_len : (inlS rs q b y).length = (ofL rs y.n).length := by
  unfold inlS
  rw [List.length_map, ← of_pick, (fm_get of_lt).1]
theorem inl_low (ha : a < rs.length) {i : Nat} (h : i < a) : (rs.take a ++ inlS rs q b y ++ rs.drop (a + 1))[i]? = rs[i]? := by
  rw [List.append_assoc, List.getElem?_append_left (by rw [List.length_take]; omega), List.getElem?_take, if_pos h]
theorem inl_mid (ha : a < rs.length) {j k : Nat} {r : Rule} (h : (ofL rs y.n)[j]? = some k) (hr : rs[k]? = some r) : (rs.take a ++ inlS rs q b y ++ rs.drop (a + 1))[a + j]? = some (inlR q b r) := by
  have hj := (List.getElem?_eq_some_iff.1 h).1
  have hl : (rs.take a).length = a := by rw [List.length_take]; omega
  rw [List.append_assoc, List.getElem?_append_right (by omega), hl, Nat.add_sub_cancel_left, List.getElem?_append_left (by rw [inlS_len]; exact hj)]
  unfold inlS
  rw [List.getElem?_map, ← of_pick, (fm_get of_lt).2 j k h, hr]; rfl
theorem inl_high (ha : a < rs.length) {i : Nat} (h : a + (ofL rs y.n).length ≤ i) : (rs.take a ++ inlS rs q b y ++ rs.drop (a + 1))[i]? = rs[i + 1 - (ofL rs y.n).length]? := by
  have hl : (rs.take a).length = a := by rw [List.length_take]; omega
  rw [List.getElem?_append_right (by rw [List.length_append, inlS_len, hl]; omega), List.getElem?_drop, List.length_append, inlS_len, hl, show a + 1 + (i - (a + (ofL rs y.n).length)) = i + 1 - (ofL rs y.n).length by omega]
/-- A rule that is not the one: where it has gone. -/
theorem inl_else (ha : a < rs.length) {x : Int} (h0 : 0 ≤ x) (hx : x ≠ a) : 0 ≤ (if (a : Int) < x then x + (((ofL rs y.n).length : Int) - 1) else x) ∧ (rs.take a ++ inlS rs q b y ++ rs.drop (a + 1))[(if (a : Int) < x then x + (((ofL rs y.n).length : Int) - 1) else x).toNat]? = rs[x.toNat]? := by
  split
  · refine ⟨by omega, ?_⟩
    rw [inl_high ha (by omega)]
    congr 1
    omega
  · exact ⟨h0, inl_low ha (by omega)⟩
theorem der_inl (hq : rs[a]? = some q) (hy : q.right[b]? = some y) (hyt : y.term = false) (hyn : y.n ≠ q.left) {kn : Nat → Nat} (hkn : ∀ k r, rs[k]? = some r → kn k = nms r.right) {l : List Sym} {f : For} {z : List Int} (h : Der ⟨t, n, rs⟩ l f z) :
    Der (inlG t n rs a b q y) l (fwd3 a (nms (q.right.take b)) (ofL rs y.n) f) z ∧ bk3 a (nms (q.right.take b)) (ofL rs y.n) kn (fwd3 a (nms (q.right.take b)) (ofL rs y.n) f) = f := by
  have ha := (List.getElem?_eq_some_iff.1 hq).1
  have ej := inl_join hy
  generalize hp : nms (q.right.take b) = p
  have tf := Tw.fwd3 a p (ofL rs y.n)
  have tb := Tw.bk3 a p (ofL rs y.n) kn
  induction h with
  | nil => exact ⟨.nil, rfl⟩
  | term ht _ ih => exact ⟨.term ht ih.1, ih.2⟩
  | @name s l x q' ks fs y1 y2 ht h0 hq' hl hk _ ih1 ih2 =>
    obtain ⟨i1, i2⟩ := ih1
    obtain ⟨i3, i4⟩ := ih2
    have hq' : rs[x.toNat]? = some q' := hq'
    by_cases hx : x = a
    · subst hx
      rw [Int.toNat_natCast, hq] at hq'
      injection hq' with hq'
      subst hq'
      have hk' : Der ⟨t, n, rs⟩ (q.right.take b ++ y :: q.right.drop (b + 1)) ks y1 := by rw [← ej]; exact hk
      have i1' : Der (inlG t n rs a b q y) (q.right.take b ++ y :: q.right.drop (b + 1)) (fwd3 a p (ofL rs y.n) ks) y1 := by rw [← ej]; exact i1
      obtain ⟨f1, f2, u1, u2, z1, z2, e1, e2, e3, d1, d2, d3, d4⟩ := der_cutT tf hk' i1'
      subst e1
      cases d2 with
      | term h1 _ => rw [hyt] at h1; cases h1
      | @name _ _ x2 q2 k2 f4 u3 u4 _ g0 gq gl d5 d6 =>
        have gq : rs[x2.toNat]? = some q2 := gq
        have hx2 : x2 ≠ a := fun e => by
          subst e
          rw [Int.toNat_natCast, hq] at gq
          injection gq with gq
          subst gq
          exact hyn gl.symm
        have l1 := der_len d1
        rw [hp] at l1
        have n2 : fwd3 a p (ofL rs y.n) (.cons x2 k2 f4) = .cons (if (a : Int) < x2 then x2 + (((ofL rs y.n).length : Int) - 1) else x2) (fwd3 a p (ofL rs y.n) k2) (fwd3 a p (ofL rs y.n) f4) := by
          show (if x2 = a then For.cons _ _ _ else For.cons _ _ _) = _
          rw [if_neg hx2]
        rw [n2] at d4
        obtain ⟨n3, n4⟩ := inl_else (q := q) (b := b) (y := y) ha g0 hx2
        cases d4 with
        | term h1 _ => rw [hyt] at h1; cases h1
        | @name _ _ _ q3 _ _ v3 v4 _ _ gq3 _ d7 d8 =>
          have gq3 : (rs.take a ++ inlS rs q b y ++ rs.drop (a + 1))[_]? = some q3 := gq3
          rw [n4, gq] at gq3
          injection gq3 with gq3
          subst gq3
          have hmem : x2.toNat ∈ ofL rs y.n := ofL_get gq gl
          have hj := idx_get hmem
          have main : fwd3 a p (ofL rs y.n) (.cons a (f1.app (.cons x2 k2 f4)) fs) = .cons (a + (idx x2.toNat (ofL rs y.n) : Nat)) ((fwd3 a p (ofL rs y.n) f1).app ((fwd3 a p (ofL rs y.n) k2).app (fwd3 a p (ofL rs y.n) f4))) (fwd3 a p (ofL rs y.n) fs) := by
            show (if (a : Int) = a then For.cons _ _ _ else For.cons _ _ _) = _
            rw [if_pos rfl, drop_app _ _ _ l1, tf.app, take_app _ _ _ (by rw [tf.len]; exact l1), drop_app _ _ _ (by rw [tf.len]; exact l1), ← drop_drop, drop_app _ _ _ (by rw [tf.len]; exact l1), n2]
            show For.cons _ (For.app _ (For.app _ (For.drop 0 _))) _ = _
            rw [drop0]; rfl
          rw [main]
          refine ⟨?_, ?_⟩
          · refine .name ht (by omega) (q := inlR q b q2) ?_ hl ?_ i3
            · rw [show ((a : Int) + (idx x2.toNat (ofL rs y.n) : Nat)).toNat = a + idx x2.toNat (ofL rs y.n) by omega]
              exact inl_mid ha hj gq
            · show Der _ (q.right.take b ++ q2.right ++ q.right.drop (b + 1)) _ _
              rw [List.append_assoc, e3]
              exact der_app d3 (der_app d7 d8)
          · have i5 := i2
            rw [tf.app, n2, tb.app] at i5
            obtain ⟨j1, j2⟩ := app_inj i5 (by rw [tb.len, tf.len])
            have hin : ¬ ((a : Int) ≤ (if (a : Int) < x2 then x2 + (((ofL rs y.n).length : Int) - 1) else x2) ∧ (if (a : Int) < x2 then x2 + (((ofL rs y.n).length : Int) - 1) else x2) < a + ((ofL rs y.n).length : Int)) := by split <;> omega
            have n5 : bk3 a p (ofL rs y.n) kn (.cons (if (a : Int) < x2 then x2 + (((ofL rs y.n).length : Int) - 1) else x2) (fwd3 a p (ofL rs y.n) k2) (fwd3 a p (ofL rs y.n) f4)) = .cons (if (a : Int) ≤ (if (a : Int) < x2 then x2 + (((ofL rs y.n).length : Int) - 1) else x2) then (if (a : Int) < x2 then x2 + (((ofL rs y.n).length : Int) - 1) else x2) - ((ofL rs y.n).length : Int) + 1 else (if (a : Int) < x2 then x2 + (((ofL rs y.n).length : Int) - 1) else x2)) (bk3 a p (ofL rs y.n) kn (fwd3 a p (ofL rs y.n) k2)) (bk3 a p (ofL rs y.n) kn (fwd3 a p (ofL rs y.n) f4)) := by
              show (if _ ∧ _ then For.cons _ _ _ else For.cons _ _ _) = _
              rw [if_neg hin]
            rw [n5] at j2
            injection j2 with j3 j4 j5
            have hlen := (List.getElem?_eq_some_iff.1 hj).1
            have hgd : (ofL rs y.n).getD (idx x2.toNat (ofL rs y.n)) 0 = x2.toNat := by rw [List.getD_eq_getElem?_getD, hj]; rfl
            show (if _ ∧ _ then For.cons _ _ _ else For.cons _ _ _) = _
            rw [if_pos ⟨by omega, by omega⟩, show ((a : Int) + (idx x2.toNat (ofL rs y.n) : Nat) - a).toNat = idx x2.toNat (ofL rs y.n) by omega, hgd, hkn _ _ gq, i4, ← drop_drop, tb.app, tb.app]
            have l5 := der_len d5
            rw [take_app _ _ _ (by rw [tb.len, tf.len]; exact l1), drop_app _ _ _ (by rw [tb.len, tf.len]; exact l1), take_app _ _ _ (by rw [tb.len, tf.len]; exact l5), drop_app _ _ _ (by rw [tb.len, tf.len]; exact l5), j1, j4, j5, show ((x2.toNat : Nat) : Int) = x2 by omega]
    · obtain ⟨n3, n4⟩ := inl_else (q := q) (b := b) (y := y) ha h0 hx
      have e1 : fwd3 a p (ofL rs y.n) (.cons x ks fs) = .cons (if (a : Int) < x then x + (((ofL rs y.n).length : Int) - 1) else x) (fwd3 a p (ofL rs y.n) ks) (fwd3 a p (ofL rs y.n) fs) := by
        show (if x = a then For.cons _ _ _ else For.cons _ _ _) = _
        rw [if_neg hx]
      rw [e1]
      refine ⟨.name ht n3 (q := q') (n4.trans hq') hl i1 i3, ?_⟩
      have hin : ¬ ((a : Int) ≤ (if (a : Int) < x then x + (((ofL rs y.n).length : Int) - 1) else x) ∧ (if (a : Int) < x then x + (((ofL rs y.n).length : Int) - 1) else x) < a + ((ofL rs y.n).length : Int)) := by split <;> omega
      show (if _ ∧ _ then For.cons _ _ _ else For.cons _ _ _) = _
      rw [if_neg hin, i2, i4]
      congr 1
      split <;> split <;> omega
theorem der_uninl (hq : rs[a]? = some q) (hy : q.right[b]? = some y) (hyt : y.term = false) (hyn : y.n ≠ q.left) {kn : Nat → Nat} (hkn : ∀ k r, rs[k]? = some r → kn k = nms r.right) {l : List Sym} {f : For} {z : List Int} (h : Der (inlG t n rs a b q y) l f z) :
    Der ⟨t, n, rs⟩ l (bk3 a (nms (q.right.take b)) (ofL rs y.n) kn f) z ∧ fwd3 a (nms (q.right.take b)) (ofL rs y.n) (bk3 a (nms (q.right.take b)) (ofL rs y.n) kn f) = f := by
  have ha := (List.getElem?_eq_some_iff.1 hq).1
  have ej := inl_join hy
  generalize hp : nms (q.right.take b) = p
  have tf := Tw.fwd3 a p (ofL rs y.n)
  have tb := Tw.bk3 a p (ofL rs y.n) kn
  induction h with
  | nil => exact ⟨.nil, rfl⟩
  | term ht _ ih => exact ⟨.term ht ih.1, ih.2⟩
  | @name s l x q' ks fs y1 y2 ht h0 hq' hl hk _ ih1 ih2 =>
    obtain ⟨i1, i2⟩ := ih1
    obtain ⟨i3, i4⟩ := ih2
    have hq' : (rs.take a ++ inlS rs q b y ++ rs.drop (a + 1))[x.toNat]? = some q' := hq'
    by_cases hx : (a : Int) ≤ x ∧ x < a + ((ofL rs y.n).length : Int)
    · obtain ⟨j, hj⟩ : ∃ j : Nat, x = ((a + j : Nat) : Int) := ⟨(x - a).toNat, by omega⟩
      subst hj
      have hjl : j < (ofL rs y.n).length := by omega
      obtain ⟨k, hk1⟩ := get_of_lt hjl
      obtain ⟨r, hr, hrl⟩ := ofL_mem (List.mem_of_getElem? hk1)
      rw [Int.toNat_natCast, inl_mid ha hk1 hr] at hq'
      injection hq' with hq'
      subst hq'
      have hk' : Der (inlG t n rs a b q y) (q.right.take b ++ (r.right ++ q.right.drop (b + 1))) ks y1 := by rw [← List.append_assoc]; exact hk
      have i1' : Der ⟨t, n, rs⟩ (q.right.take b ++ (r.right ++ q.right.drop (b + 1))) (bk3 a p (ofL rs y.n) kn ks) y1 := by rw [← List.append_assoc]; exact i1
      obtain ⟨f1, f2, u1, u2, z1, z2, e1, e2, e3, d1, d2, d3, d4⟩ := der_cutT tb hk' i1'
      obtain ⟨f3, f4, u3, u4, z3, z4, e4, e5, e6, d5, d6, d7, d8⟩ := der_cutT tb d2 d4
      subst e1
      subst e4
      have l1 := der_len d1
      rw [hp] at l1
      have l5 := der_len d5
      have hgd : (ofL rs y.n).getD j 0 = k := by rw [List.getD_eq_getElem?_getD, hk1]; rfl
      have hka : (k : Int) ≠ a := fun e => by
        have : k = a := by omega
        subst this
        rw [hq] at hr
        injection hr with hr
        subst hr
        exact hyn hrl.symm
      have main : bk3 a p (ofL rs y.n) kn (.cons ((a + j : Nat) : Int) (f1.app (f3.app f4)) fs) = .cons a ((bk3 a p (ofL rs y.n) kn f1).app (.cons k (bk3 a p (ofL rs y.n) kn f3) (bk3 a p (ofL rs y.n) kn f4))) (bk3 a p (ofL rs y.n) kn fs) := by
        show (if _ ∧ _ then For.cons _ _ _ else For.cons _ _ _) = _
        rw [if_pos hx, show (((a + j : Nat) : Int) - a).toNat = j by omega, hgd, hkn _ _ hr, ← drop_drop, tb.app, tb.app, take_app _ _ _ (by rw [tb.len]; exact l1), drop_app _ _ _ (by rw [tb.len]; exact l1), take_app _ _ _ (by rw [tb.len]; exact l5), drop_app _ _ _ (by rw [tb.len]; exact l5)]
      rw [main]
      refine ⟨?_, ?_⟩
      · refine .name ht (by omega) (q := q) (by rw [Int.toNat_natCast]; exact hq) hl ?_ i3
        rw [ej, e3, e6]
        exact der_app d3 (.name hyt (by omega) (q := r) (by rw [Int.toNat_natCast]; exact hr) hrl d7 d8)
      · have n2 : fwd3 a p (ofL rs y.n) (.cons k (bk3 a p (ofL rs y.n) kn f3) (bk3 a p (ofL rs y.n) kn f4)) = .cons (if (a : Int) < k then k + (((ofL rs y.n).length : Int) - 1) else k) (fwd3 a p (ofL rs y.n) (bk3 a p (ofL rs y.n) kn f3)) (fwd3 a p (ofL rs y.n) (bk3 a p (ofL rs y.n) kn f4)) := by
          show (if _ = _ then For.cons _ _ _ else For.cons _ _ _) = _
          rw [if_neg hka]
        have i5 := i2
        rw [tb.app, tb.app, tf.app, tf.app] at i5
        show (if _ = _ then For.cons _ _ _ else For.cons _ _ _) = _
        rw [if_pos rfl, drop_app _ _ _ (by rw [tb.len]; exact l1), tf.app, take_app _ _ _ (by rw [tf.len, tb.len]; exact l1), drop_app _ _ _ (by rw [tf.len, tb.len]; exact l1), ← drop_drop, drop_app _ _ _ (by rw [tf.len, tb.len]; exact l1), n2]
        show For.cons (_ + ((idx ((k : Nat) : Int).toNat _ : Nat) : Int)) (For.app _ (For.app _ (For.drop 0 _))) _ = _
        rw [drop0, Int.toNat_natCast, idx_of (of_nodup rs y.n) hk1, i4]
        show For.cons _ (For.app _ (For.app (fwd3 a p (ofL rs y.n) (bk3 a p (ofL rs y.n) kn f3)) _)) _ = _
        rw [drop0, i5]
        congr 1
    · have e1 : bk3 a p (ofL rs y.n) kn (.cons x ks fs) = .cons (if (a : Int) ≤ x then x - ((ofL rs y.n).length : Int) + 1 else x) (bk3 a p (ofL rs y.n) kn ks) (bk3 a p (ofL rs y.n) kn fs) := by
        show (if _ ∧ _ then For.cons _ _ _ else For.cons _ _ _) = _
        rw [if_neg hx]
      have hne : (if (a : Int) ≤ x then x - ((ofL rs y.n).length : Int) + 1 else x) ≠ a := by split <;> omega
      rw [e1]
      refine ⟨.name ht (by split <;> omega) (q := q') ?_ hl i1 i3, ?_⟩
      · show rs[_]? = _
        rw [← hq']
        split
        · rw [inl_high ha (by omega)]; congr 1; omega
        · rw [inl_low ha (by omega)]
      · show (if _ = _ then For.cons _ _ _ else For.cons _ _ _) = _
        rw [if_neg hne, i2, i4]
        congr 1
        split <;> split <;> omega
end
end Go.Sy
/- Derivations carried over where a name begins with itself, where rules are left out, where names are swapped: in plain terms. No condition. -/
namespace Go.Sy
open Go

/-! ### A name that begins with itself -/
section
variable (isA lp : Int → Bool) (R : Int)
mutual
def fwd4 : For → For
  | .nil => .nil
  | .cons x ks r => (if isA x = true then unw ks x (.cons R .nil .nil) else .cons x (fwd4 ks) .nil).app (fwd4 r)
def unw : For → Int → For → For
  | .nil, x, T => .cons x T .nil
  | .cons y kk r, x, T => if lp x = true then unw kk y (.cons x ((fwd4 r).app T) .nil) else .cons x (((if isA y = true then unw kk y (.cons R .nil .nil) else .cons y (fwd4 kk) .nil).app (fwd4 r)).app T) .nil
end
mutual
def bk4 : For → For
  | .nil => .nil
  | .cons x ks r => (if isA x = true then wk ks x .nil else .cons x (bk4 ks) .nil).app (bk4 r)
def wk : For → Int → For → For
  | .nil, x, acc => .cons x acc .nil
  | .cons z tk .nil, x, acc => if z < R then wk tk z (.cons x acc .nil) else .cons x acc .nil
  | .cons z tk (.cons z2 t2 r), x, acc => wk (.cons z2 t2 r) x (acc.app (if isA z = true then wk tk z .nil else .cons z (bk4 tk) .nil))
end
def wn (out : For) : For → For
  | .cons z tk _ => if z < R then wk isA R tk z out else out
  | .nil => out
end
section
variable {isA lp : Int → Bool} {R : Int}
theorem fwd4_cons (x : Int) (ks r : For) : fwd4 isA lp R (.cons x ks r) = (if isA x = true then unw isA lp R ks x (.cons R .nil .nil) else .cons x (fwd4 isA lp R ks) .nil).app (fwd4 isA lp R r) := by rw [fwd4]
theorem bk4_cons (x : Int) (ks r : For) : bk4 isA R (.cons x ks r) = (if isA x = true then wk isA R ks x .nil else .cons x (bk4 isA R ks) .nil).app (bk4 isA R r) := by rw [bk4]
theorem fwd4_nil : fwd4 isA lp R .nil = .nil := by rw [fwd4]
theorem bk4_nil : bk4 isA R .nil = .nil := by rw [bk4]
theorem unw_end {ks : For} {x : Int} {T : For} (h : lp x = false) : unw isA lp R ks x T = .cons x ((fwd4 isA lp R ks).app T) .nil := by
  cases ks with
  | nil => rw [unw, fwd4]; rfl
  | cons y kk r => rw [unw, if_neg (by rw [h]; decide), fwd4]
theorem unw_loop {y : Int} {kk r : For} {x : Int} {T : For} (h : lp x = true) : unw isA lp R (.cons y kk r) x T = unw isA lp R kk y (.cons x ((fwd4 isA lp R r).app T) .nil) := by rw [unw, if_pos h]
theorem fwd4_app : ∀ f f' : For, fwd4 isA lp R (f.app f') = (fwd4 isA lp R f).app (fwd4 isA lp R f')
  | .nil, _ => by rw [fwd4_nil]; rfl
  | .cons x ks r, f' => by
    show fwd4 isA lp R (.cons x ks (r.app f')) = _
    rw [fwd4_cons, fwd4_cons, fwd4_app r f', For.app_assoc]
theorem bk4_app : ∀ f f' : For, bk4 isA R (f.app f') = (bk4 isA R f).app (bk4 isA R f')
  | .nil, _ => by rw [bk4_nil]; rfl
  | .cons x ks r, f' => by
    show bk4 isA R (.cons x ks (r.app f')) = _
    rw [bk4_cons, bk4_cons, bk4_app r f', For.app_assoc]
theorem wk_len : ∀ (N : Nat) (ks : For), ks.size ≤ N → ∀ x acc, (wk isA R ks x acc).len = 1
  | N, .nil, _, x, acc => by rw [wk]; rfl
  | 0, .cons y kk r, h, x, acc => by simp [For.size] at h
  | N + 1, .cons y kk .nil, h, x, acc => by
    rw [wk]
    split
    · exact wk_len N kk (by simp only [For.size] at h; omega) _ _
    · rfl
  | N + 1, .cons y kk (.cons z2 t2 r), h, x, acc => by
    rw [wk]
    exact wk_len N _ (by simp only [For.size] at *; omega) _ _
theorem bk4_len : ∀ f : For, (bk4 isA R f).len = f.len
  | .nil => by rw [bk4_nil]
  | .cons x ks r => by
    rw [bk4_cons, app_len, bk4_len r]
    show _ = r.len + 1
    split
    · rw [wk_len _ ks (Nat.le_refl _)]; omega
    · show 1 + r.len = _; omega
theorem wk_snoc : ∀ (k0 : For) (z : Int) (tk : For) (x : Int) (acc : For), wk isA R (k0.app (.cons z tk .nil)) x acc = wn isA R (.cons x (acc.app (bk4 isA R k0)) .nil) (.cons z tk .nil)
  | .nil, z, tk, x, acc => by
    show wk isA R (.cons z tk .nil) x acc = _
    rw [wk, bk4_nil, For.app_nil]; rfl
  | .cons u uk .nil, z, tk, x, acc => by
    show wk isA R (.cons u uk (.cons z tk .nil)) x acc = _
    rw [wk, wk, bk4_cons, bk4_nil, For.app_nil]; rfl
  | .cons u uk (.cons u2 k2 r), z, tk, x, acc => by
    show wk isA R (.cons u uk (.cons u2 k2 (r.app (.cons z tk .nil)))) x acc = _
    rw [wk]
    have := wk_snoc (.cons u2 k2 r) z tk x (acc.app (if isA u = true then wk isA R uk u .nil else .cons u (bk4 isA R uk) .nil))
    rw [show For.cons u2 k2 (r.app (.cons z tk .nil)) = (For.cons u2 k2 r).app (.cons z tk .nil) from rfl, this, bk4_cons u, For.app_assoc]
theorem fwd4_size : ∀ (N : Nat), (∀ f : For, f.size ≤ N → (fwd4 isA lp R f).size ≤ 2 * f.size) ∧ ∀ ks : For, ks.size ≤ N → ∀ x T, (unw isA lp R ks x T).size ≤ 2 * ks.size + T.size + 1
  | 0 => by
    refine ⟨fun f h => ?_, fun ks h x T => ?_⟩
    · cases f with
      | nil => rw [fwd4_nil]; exact Nat.le_refl _
      | cons x ks r => simp [For.size] at h
    · cases ks with
      | nil => rw [unw]; show T.size + 0 + 1 ≤ 2 * 0 + T.size + 1; omega
      | cons x ks r => simp [For.size] at h
  | N + 1 => by
    obtain ⟨i1, i2⟩ := fwd4_size N
    have hP : ∀ f : For, f.size ≤ N + 1 → (fwd4 isA lp R f).size ≤ 2 * f.size := fun f h => by
      cases f with
      | nil => rw [fwd4_nil]; exact Nat.le_refl _
      | cons x ks r =>
        simp only [For.size] at h
        rw [fwd4_cons, app_size]
        have h1 := i1 r (by omega)
        show _ ≤ 2 * (ks.size + r.size + 1)
        split
        · have h2 := i2 ks (by omega) x (.cons R .nil .nil)
          rw [show (For.cons R .nil .nil).size = 1 from rfl] at h2
          omega
        · have h2 := i1 ks (by omega)
          show (fwd4 isA lp R ks).size + 0 + 1 + _ ≤ _
          omega
    refine ⟨hP, fun ks h x T => ?_⟩
    cases hl : lp x with
    | false =>
      rw [unw_end hl]
      show (For.app _ T).size + 0 + 1 ≤ _
      rw [app_size]
      have := hP ks h
      omega
    | true =>
      cases ks with
      | nil => rw [unw]; show T.size + 0 + 1 ≤ 2 * 0 + T.size + 1; omega
      | cons y kk r =>
        simp only [For.size] at h
        rw [unw_loop hl]
        have h1 := i2 kk (by omega) y (.cons x ((fwd4 isA lp R r).app T) .nil)
        rw [show (For.cons x ((fwd4 isA lp R r).app T) .nil).size = ((fwd4 isA lp R r).app T).size + 0 + 1 from rfl, app_size] at h1
        have h2 := i1 r (by omega)
        show _ ≤ 2 * (kk.size + r.size + 1) + T.size + 1
        omega
theorem bk4_size : ∀ (N : Nat), (∀ f : For, f.size ≤ N → (bk4 isA R f).size ≤ f.size) ∧ ∀ ks : For, ks.size ≤ N → ∀ x acc, (wk isA R ks x acc).size ≤ ks.size + acc.size + 1
  | 0 => by
    refine ⟨fun f h => ?_, fun ks h x T => ?_⟩
    · cases f with
      | nil => rw [bk4_nil]; exact Nat.le_refl _
      | cons x ks r => simp [For.size] at h
    · cases ks with
      | nil => rw [wk]; show T.size + 0 + 1 ≤ 0 + T.size + 1; omega
      | cons x ks r => simp [For.size] at h
  | N + 1 => by
    obtain ⟨i1, i2⟩ := bk4_size N
    refine ⟨fun f h => ?_, fun ks h x acc => ?_⟩
    · cases f with
      | nil => rw [bk4_nil]; exact Nat.le_refl _
      | cons x ks r =>
        simp only [For.size] at h
        rw [bk4_cons, app_size]
        have h1 := i1 r (by omega)
        show _ ≤ ks.size + r.size + 1
        split
        · have h2 := i2 ks (by omega) x .nil
          rw [show For.nil.size = 0 from rfl] at h2
          omega
        · have h2 := i1 ks (by omega)
          show (bk4 isA R ks).size + 0 + 1 + _ ≤ _
          omega
    · match ks, h with
      | .nil, h => rw [wk]; show acc.size + 0 + 1 ≤ 0 + acc.size + 1; omega
      | .cons z tk .nil, h =>
        rw [wk]
        simp only [For.size] at h
        show _ ≤ tk.size + 0 + 1 + acc.size + 1
        split
        · have := i2 tk (by omega) z (.cons x acc .nil)
          rw [show (For.cons x acc .nil).size = acc.size + 0 + 1 from rfl] at this
          omega
        · show acc.size + 0 + 1 ≤ _; omega
      | .cons z tk (.cons z2 t2 r), h =>
        rw [wk]
        simp only [For.size] at h
        have h1 := i2 (.cons z2 t2 r) (by simp only [For.size]; omega) x (acc.app (if isA z = true then wk isA R tk z .nil else .cons z (bk4 isA R tk) .nil))
        rw [app_size] at h1
        have h2 : (if isA z = true then wk isA R tk z .nil else .cons z (bk4 isA R tk) .nil).size ≤ tk.size + 1 := by
          split
          · have := i2 tk (by omega) z .nil
            rw [show For.nil.size = 0 from rfl] at this
            omega
          · have := i1 tk (by omega)
            show (bk4 isA R tk).size + 0 + 1 ≤ _; omega
        simp only [For.size] at h1 ⊢
        omega
end
section
variable {t n : Int} {rs : List Rule} {a : Int}
def isAr (rs : List Rule) (a : Int) (x : Int) : Bool := decide (rs[x.toNat]?.map (·.left) = some a)
def lpr (rs : List Rule) (x : Int) : Bool := decide (rs[x.toNat]?.map loopsB = some true)
abbrev lG (t n : Int) (rs : List Rule) (a : Int) : Gram := ⟨t, n + 1, leftS rs n a⟩
theorem isAr_get {x : Int} {q : Rule} (h : rs[x.toNat]? = some q) : isAr rs a x = decide (q.left = a) := by unfold isAr; rw [h]; simp
theorem lpr_get {x : Int} {q : Rule} (h : rs[x.toNat]? = some q) : lpr rs x = loopsB q := by unfold lpr; rw [h]; simp
theorem left_get {i : Nat} {q : Rule} (h : rs[i]? = some q) : (leftS rs n a)[i]? = some (leftR ⟨0, n, []⟩ a q) := by
  have hi := (List.getElem?_eq_some_iff.1 h).1
  unfold leftS
  rw [List.getElem?_append_left (by rw [List.length_map]; exact hi), List.getElem?_map, h]; rfl
theorem left_last : (leftS rs n a)[rs.length]? = some ⟨n, []⟩ := by
  unfold leftS
  rw [List.getElem?_append_right (by rw [List.length_map]; omega), List.length_map, Nat.sub_self]; rfl
theorem left_of {i : Nat} {q : Rule} (h : (leftS rs n a)[i]? = some q) : (∃ r, rs[i]? = some r ∧ q = leftR ⟨0, n, []⟩ a r) ∨ (i = rs.length ∧ q = ⟨n, []⟩) := by
  unfold leftS at h
  rcases last_get h with ⟨_, h2⟩ | ⟨h1, h2⟩
  · rw [List.getElem?_map] at h2
    cases hr : rs[i]? with
    | none => rw [hr] at h2; cases h2
    | some r => rw [hr] at h2; injection h2 with h2; exact .inl ⟨r, rfl, h2.symm⟩
  · rw [List.length_map] at h1
    exact .inr ⟨h1, h2⟩
abbrev F4 (rs : List Rule) (a : Int) : For → For := fwd4 (isAr rs a) (lpr rs) rs.length
abbrev U4 (rs : List Rule) (a : Int) : For → Int → For → For := unw (isAr rs a) (lpr rs) rs.length
abbrev B4 (rs : List Rule) (a : Int) : For → For := bk4 (isAr rs a) rs.length
abbrev W4 (rs : List Rule) (a : Int) (out : For) : For → For := wn (isAr rs a) rs.length out
theorem der_left : ∀ (N : Nat),
    (∀ (l : List Sym) (f : For) (y : List Int), f.size ≤ N → Der ⟨t, n, rs⟩ l f y → Der (lG t n rs a) l (F4 rs a f) y ∧ B4 rs a (F4 rs a f) = f) ∧
    (∀ (x : Int) (q : Rule) (ks : For) (y : List Int), ks.size ≤ N → 0 ≤ x → rs[x.toNat]? = some q → q.left = a → Der ⟨t, n, rs⟩ q.right ks y → ∀ (z : Int) (tk : For) (y' : List Int), Der (lG t n rs a) [nameS n] (.cons z tk .nil) y' →
      Der (lG t n rs a) [nameS a] (U4 rs a ks x (.cons z tk .nil)) (y ++ y') ∧ B4 rs a (U4 rs a ks x (.cons z tk .nil)) = W4 rs a (.cons x ks .nil) (.cons z tk .nil)) := by
  intro N
  induction N with
  | zero =>
    have hP : ∀ (l : List Sym) (f : For) (y : List Int), f.size ≤ 0 → Der ⟨t, n, rs⟩ l f y → Der (lG t n rs a) l (F4 rs a f) y ∧ B4 rs a (F4 rs a f) = f := by
      intro l f y hs h
      induction h with
      | nil => exact ⟨by rw [F4, fwd4_nil]; exact .nil, by rw [B4, F4, fwd4_nil, bk4_nil]⟩
      | term ht _ ih => exact ⟨.term ht (ih hs).1, (ih hs).2⟩
      | name _ _ _ _ _ _ _ _ => simp [For.size] at hs
    refine ⟨hP, fun x q ks y hs h0 hq hl hd z tk y' hT => ?_⟩
    have hlp : lpr rs x = false := by
      rw [lpr_get hq]
      cases ho : loopsB q with
      | false => rfl
      | true =>
        rw [loops_cons ho] at hd
        cases hd with
        | term h1 _ => cases h1
        | name _ _ _ _ _ _ => simp [For.size] at hs
    have ho : loopsB q = false := by rw [← lpr_get hq]; exact hlp
    obtain ⟨d1, d2⟩ := hP _ _ _ hs hd
    rw [U4, unw_end hlp]
    refine ⟨der_mk rfl h0 (q := ⟨q.left, q.right ++ [nameS n]⟩) ?_ hl (der_app d1 hT), ?_⟩
    · rw [← leftR_end hl ho]; exact left_get hq
    · rw [B4, bk4_cons, bk4_nil, For.app_nil, if_pos (by rw [isAr_get hq, hl]; simp), wk_snoc]
      show wn _ _ (.cons x (B4 rs a (F4 rs a ks)) .nil) _ = _
      rw [d2]
  | succ N ih =>
    obtain ⟨iP, iQ⟩ := ih
    have hP : ∀ (l : List Sym) (f : For) (y : List Int), f.size ≤ N + 1 → Der ⟨t, n, rs⟩ l f y → Der (lG t n rs a) l (F4 rs a f) y ∧ B4 rs a (F4 rs a f) = f := by
      intro l f y hs h
      induction h with
      | nil => exact ⟨by rw [F4, fwd4_nil]; exact .nil, by rw [B4, F4, fwd4_nil, bk4_nil]⟩
      | term ht _ ih => exact ⟨.term ht (ih hs).1, (ih hs).2⟩
      | @name s l x q ks fs y1 y2 ht h0 hq hl hk _ _ ih2 =>
        simp only [For.size] at hs
        obtain ⟨d3, d4⟩ := ih2 (by omega)
        have hq : rs[x.toNat]? = some q := hq
        have hs' : s = nameS s.n := by obtain ⟨st, sn⟩ := s; cases st with | true => cases ht | false => rfl
        rw [F4, fwd4_cons]
        by_cases ha : q.left = a
        · have hA : isAr rs a x = true := by rw [isAr_get hq, ha]; simp
          rw [if_pos hA]
          obtain ⟨d1, d2⟩ := iQ x q ks y1 (by omega) h0 hq ha hk rs.length .nil [] (der_mk rfl (by omega) (q := ⟨n, []⟩) (by rw [Int.toNat_natCast]; exact left_last) rfl .nil)
          rw [List.append_nil] at d1
          refine ⟨?_, ?_⟩
          · have : s = nameS a := by rw [hs', ← hl, ha]
            rw [this]
            exact der_app (l := [nameS a]) d1 d3
          · rw [B4, bk4_app]
            have d2' : B4 rs a (U4 rs a ks x (.cons rs.length .nil .nil)) = .cons x ks .nil := by
              rw [d2]
              show (if _ < _ then _ else _) = _
              rw [if_neg (Int.lt_irrefl _)]
            rw [show bk4 (isAr rs a) rs.length (unw (isAr rs a) (lpr rs) rs.length ks x (.cons rs.length .nil .nil)) = .cons x ks .nil from d2']
            show For.cons x ks (B4 rs a (F4 rs a fs)) = _
            rw [d4]
        · have hA : ¬ isAr rs a x = true := by rw [isAr_get hq]; simpa using ha
          rw [if_neg hA]
          obtain ⟨d1, d2⟩ := iP _ _ _ (by omega) hk
          refine ⟨?_, ?_⟩
          · show Der _ _ (.cons x (F4 rs a ks) (F4 rs a fs)) _
            refine .name ht h0 (q := q) ?_ hl d1 d3
            have := left_get (n := n) (a := a) hq
            rw [leftR_else ha] at this
            exact this
          · show B4 rs a (.cons x (F4 rs a ks) (F4 rs a fs)) = _
            rw [B4, bk4_cons, if_neg hA]
            show For.cons x (B4 rs a (F4 rs a ks)) (B4 rs a (F4 rs a fs)) = _
            rw [d2, d4]
    refine ⟨hP, fun x q ks y hs h0 hq hl hd z tk y' hT => ?_⟩
    cases ho : loopsB q with
    | false =>
      have hlp : lpr rs x = false := by rw [lpr_get hq]; exact ho
      obtain ⟨d1, d2⟩ := hP _ _ _ hs hd
      rw [U4, unw_end hlp]
      refine ⟨der_mk rfl h0 (q := ⟨q.left, q.right ++ [nameS n]⟩) ?_ hl (der_app d1 hT), ?_⟩
      · rw [← leftR_end hl ho]; exact left_get hq
      · rw [B4, bk4_cons, bk4_nil, For.app_nil, if_pos (by rw [isAr_get hq, hl]; simp), wk_snoc]
        show wn _ _ (.cons x (B4 rs a (F4 rs a ks)) .nil) _ = _
        rw [d2]
    | true =>
      have hlp : lpr rs x = true := by rw [lpr_get hq]; exact ho
      rw [loops_cons ho, hl] at hd
      cases hd with
      | term h1 _ => cases h1
      | @name _ _ x2 q2 kk r y1 y2 _ g0 gq gl dk dr =>
        simp only [For.size] at hs
        obtain ⟨d1, d2⟩ := iP _ _ _ (by omega) dr
        have gq : rs[x2.toNat]? = some q2 := gq
        have hT' : Der (lG t n rs a) [nameS n] (.cons x ((F4 rs a r).app (.cons z tk .nil)) .nil) (y2 ++ y') := by
          refine der_mk rfl h0 (q := ⟨n, q.right.tail ++ [nameS n]⟩) ?_ rfl (der_app d1 hT)
          rw [← leftR_loop hl ho]; exact left_get hq
        obtain ⟨d3, d4⟩ := iQ x2 q2 kk y1 (by omega) g0 gq gl dk x _ _ hT'
        rw [U4, unw_loop hlp]
        refine ⟨by rw [List.append_assoc]; exact d3, ?_⟩
        refine d4.trans ?_
        show (if x < (rs.length : Int) then wk (isAr rs a) rs.length _ x _ else _) = _
        have hx := (List.getElem?_eq_some_iff.1 hq).1
        rw [if_pos (by omega), wk_snoc]
        show wn _ _ (.cons x ((For.cons x2 kk .nil).app (B4 rs a (F4 rs a r))) .nil) _ = _
        rw [d2]; rfl
theorem der_unleft (hrng : rngR n rs) : ∀ (N : Nat),
    (∀ (l : List Sym) (f : For) (y : List Int), f.size ≤ N → noF n l → Der (lG t n rs a) l f y → Der ⟨t, n, rs⟩ l (B4 rs a f) y ∧ F4 rs a (B4 rs a f) = f) ∧
    (∀ (z : Int) (tk : For) (y' : List Int), tk.size < N → Der (lG t n rs a) [nameS n] (.cons z tk .nil) y' → ∀ (x0 : Int) (ko : For) (y : List Int), Der ⟨t, n, rs⟩ [nameS a] (.cons x0 ko .nil) y →
      Der ⟨t, n, rs⟩ [nameS a] (W4 rs a (.cons x0 ko .nil) (.cons z tk .nil)) (y ++ y') ∧ ∃ x' k', W4 rs a (.cons x0 ko .nil) (.cons z tk .nil) = .cons x' k' .nil ∧ isAr rs a x' = true ∧ U4 rs a k' x' (.cons rs.length .nil .nil) = U4 rs a ko x0 (.cons z tk .nil)) := by
  intro N
  induction N with
  | zero =>
    refine ⟨?_, fun z tk y' h => by omega⟩
    intro l f y hs hf h
    induction h with
    | nil => exact ⟨by rw [B4, bk4_nil]; exact .nil, by rw [F4, B4, bk4_nil, fwd4_nil]⟩
    | term ht _ ih => exact ⟨.term ht (ih hs fun s hs' => hf s (.tail _ hs')).1, (ih hs fun s hs' => hf s (.tail _ hs')).2⟩
    | name _ _ _ _ _ _ _ _ => simp [For.size] at hs
  | succ N ih =>
    obtain ⟨iP, iQ⟩ := ih
    refine ⟨?_, ?_⟩
    · intro l f y hs hf h
      induction h with
      | nil => exact ⟨by rw [B4, bk4_nil]; exact .nil, by rw [F4, B4, bk4_nil, fwd4_nil]⟩
      | term ht _ ih => exact ⟨.term ht (ih hs fun s hs' => hf s (.tail _ hs')).1, (ih hs fun s hs' => hf s (.tail _ hs')).2⟩
      | @name s l x q ks fs y1 y2 ht h0 hq hl hk _ _ ih2 =>
        simp only [For.size] at hs
        obtain ⟨d3, d4⟩ := ih2 (by omega) fun s hs' => hf s (.tail _ hs')
        have hsn := hf s (.head _) ht
        have hs' : s = nameS s.n := by obtain ⟨st, sn⟩ := s; cases st with | true => cases ht | false => rfl
        rcases left_of hq with ⟨r0, hr0, rfl⟩ | ⟨_, rfl⟩
        · by_cases ha : r0.left = a
          · have hA : isAr rs a x = true := by rw [isAr_get hr0, ha]; simp
            cases ho : loopsB r0 with
            | true =>
              rw [leftR_loop ha ho] at hl
              have : n = s.n := hl
              omega
            | false =>
              have hlp : lpr rs x = false := by rw [lpr_get hr0]; exact ho
              rw [leftR_end ha ho] at hk hl
              have hl : r0.left = s.n := hl
              obtain ⟨k0, kt, u1, u2, rfl, rfl, e1, e2⟩ := der_cut (show Der _ (r0.right ++ [nameS n]) _ _ from hk)
              obtain ⟨z, qz, tk, rfl, z0, zq, zl, zd⟩ := der_one e2 rfl
              rw [app_size] at hs
              simp only [For.size] at hs
              obtain ⟨p1, p2⟩ := iP _ _ _ (by omega) (hrng r0 (List.mem_of_getElem? hr0)).2 e1
              have dout : Der ⟨t, n, rs⟩ [nameS a] (.cons x (B4 rs a k0) .nil) u1 := der_mk rfl h0 hr0 ha p1
              obtain ⟨w1, x', k', w2, w3, w4⟩ := iQ z tk u2 (by omega) e2 x _ _ dout
              have main : B4 rs a (.cons x (k0.app (.cons z tk .nil)) fs) = (For.cons x' k' .nil).app (B4 rs a fs) := by
                rw [B4, bk4_cons, if_pos hA, wk_snoc]
                show (W4 rs a (.cons x (B4 rs a k0) .nil) (.cons z tk .nil)).app _ = _
                rw [w2]
              rw [main]
              refine ⟨?_, ?_⟩
              · rw [w2] at w1
                have : s = nameS a := by rw [hs', ← hl, ha]
                rw [this]
                exact der_app (l := [nameS a]) w1 d3
              · rw [F4, fwd4_app, fwd4_cons, if_pos w3, fwd4_nil, For.app_nil]
                show (U4 rs a k' x' (.cons rs.length .nil .nil)).app (F4 rs a (B4 rs a fs)) = _
                rw [w4, d4, U4, unw_end hlp]
                show For.cons x ((F4 rs a (B4 rs a k0)).app _) fs = _
                rw [p2]
          · have hA : ¬ isAr rs a x = true := by rw [isAr_get hr0]; simpa using ha
            rw [leftR_else ha] at hk hl
            obtain ⟨p1, p2⟩ := iP _ _ _ (by omega) (hrng r0 (List.mem_of_getElem? hr0)).2 hk
            have main : B4 rs a (.cons x ks fs) = .cons x (B4 rs a ks) (B4 rs a fs) := by
              rw [B4, bk4_cons, if_neg hA]; rfl
            rw [main]
            refine ⟨.name ht h0 hr0 hl p1 d3, ?_⟩
            rw [F4, fwd4_cons, if_neg hA]
            show For.cons x (F4 rs a (B4 rs a ks)) (F4 rs a (B4 rs a fs)) = _
            rw [p2, d4]
        · have : n = s.n := hl
          omega
    · intro z tk y' hs hT x0 ko y hd
      obtain ⟨z1, qz, tk1, e0, z0, zq, zl, zd⟩ := der_one hT rfl
      injection e0 with e1 e2 _
      subst e1
      subst e2
      have hx0 : isAr rs a x0 = true := by
        obtain ⟨_, q0, _, e3, _, g1, g2, _⟩ := der_one hd rfl
        injection e3 with e3 _ _
        subst e3
        rw [isAr_get g1, g2]; simp [nameS]
      rcases left_of zq with ⟨r0, hr0, rfl⟩ | ⟨hz, rfl⟩
      · have hzl := (List.getElem?_eq_some_iff.1 hr0).1
        have hla : r0.left = a := by
          by_cases ha : r0.left = a
          · exact ha
          · rw [leftR_else ha] at zl
            have := (hrng r0 (List.mem_of_getElem? hr0)).1
            have zl : r0.left = n := zl
            omega
        have hlo : loopsB r0 = true := by
          cases ho : loopsB r0 with
          | true => rfl
          | false =>
            rw [leftR_end hla ho] at zl
            have := (hrng r0 (List.mem_of_getElem? hr0)).1
            have zl : r0.left = n := zl
            omega
        rw [leftR_loop hla hlo] at zd
        obtain ⟨k0, kt, u1, u2, rfl, rfl, d1, d2⟩ := der_cut (show Der _ (r0.right.tail ++ [nameS n]) _ _ from zd)
        obtain ⟨z2, qz2, tk2, rfl, _, _, _, _⟩ := der_one d2 rfl
        rw [app_size] at hs
        simp only [For.size] at hs
        have hnf : noF n r0.right.tail := fun s hs' => (hrng r0 (List.mem_of_getElem? hr0)).2 s (List.mem_of_mem_tail hs')
        obtain ⟨p1, p2⟩ := iP _ _ _ (by omega) hnf d1
        have dout : Der ⟨t, n, rs⟩ [nameS a] (.cons z (.cons x0 ko (B4 rs a k0)) .nil) (y ++ u1) := by
          refine der_mk rfl z0 hr0 hla ?_
          rw [loops_cons hlo, hla]
          exact der_app (l := [nameS a]) hd p1
        obtain ⟨w1, x', k', w2, w3, w4⟩ := iQ z2 tk2 u2 (by omega) d2 z _ _ dout
        have main : W4 rs a (.cons x0 ko .nil) (.cons z (k0.app (.cons z2 tk2 .nil)) .nil) = W4 rs a (.cons z (.cons x0 ko (B4 rs a k0)) .nil) (.cons z2 tk2 .nil) := by
          show (if z < (rs.length : Int) then wk (isAr rs a) rs.length _ z _ else _) = _
          rw [if_pos (by omega), wk_snoc]; rfl
        rw [main]
        refine ⟨by rw [← List.append_assoc]; exact w1, x', k', w2, w3, ?_⟩
        rw [w4, U4, unw_loop (by rw [lpr_get hr0]; exact hlo)]
        show unw _ _ _ ko x0 (.cons z ((F4 rs a (B4 rs a k0)).app _) .nil) = _
        rw [p2]
      · obtain ⟨rfl, rfl⟩ := der_nil zd
        have ez : z = rs.length := by omega
        subst ez
        have main : W4 rs a (.cons x0 ko .nil) (.cons rs.length .nil .nil) = .cons x0 ko .nil := by
          show (if (rs.length : Int) < rs.length then _ else _) = _
          rw [if_neg (Int.lt_irrefl _)]
        rw [main, List.append_nil]
        exact ⟨hd, x0, ko, rfl, hx0, rfl⟩
end
end Go.Sy
/- Derivations carried over where rules are left out and where names are swapped; sizes: in plain terms. No condition. -/
namespace Go.Sy
open Go

/-! ### Rules left out -/
def krng (P : Rule → Bool) (rs : List Rule) : List Nat := (List.range rs.length).filter (fun k => decide (rs[k]?.map P = some true))
theorem krng_pick (P : Rule → Bool) (rs : List Rule) : (krng P rs).filterMap (fun k => rs[k]?) = rs.filter P := rng_pick fun k r h => by rw [h]; simp
theorem krng_nodup (P : Rule → Bool) (rs : List Rule) : (krng P rs).Nodup := List.filter_sublist.nodup List.nodup_range
theorem krng_mem {P : Rule → Bool} {rs : List Rule} {k : Nat} {r : Rule} (h : rs[k]? = some r) (hr : P r = true) : k ∈ krng P rs :=
  List.mem_filter.2 ⟨List.mem_range.2 (List.getElem?_eq_some_iff.1 h).1, by rw [h]; simp [hr]⟩
theorem krng_lt {P : Rule → Bool} {rs : List Rule} : ∀ k ∈ krng P rs, k < rs.length := fun k hk => List.mem_range.1 (List.mem_filter.1 hk).1
theorem krng_get {P : Rule → Bool} {rs : List Rule} {j k : Nat} (h : (krng P rs)[j]? = some k) : (rs.filter P)[j]? = rs[k]? := by
  rw [← krng_pick]; exact (fm_get krng_lt).2 j k h
def fwd5 (ls : List Nat) : For → For
  | .nil => .nil
  | .cons x ks r => .cons (idx x.toNat ls : Nat) (fwd5 ls ks) (fwd5 ls r)
def bk5 (ls : List Nat) : For → For
  | .nil => .nil
  | .cons x ks r => .cons (ls.getD x.toNat 0 : Nat) (bk5 ls ks) (bk5 ls r)
theorem fwd5_size {ls : List Nat} : ∀ f : For, (fwd5 ls f).size = f.size
  | .nil => rfl
  | .cons x ks r => by show (fwd5 ls ks).size + (fwd5 ls r).size + 1 = _; rw [fwd5_size ks, fwd5_size r]; rfl
theorem bk5_size {ls : List Nat} : ∀ f : For, (bk5 ls f).size = f.size
  | .nil => rfl
  | .cons x ks r => by show (bk5 ls ks).size + (bk5 ls r).size + 1 = _; rw [bk5_size ks, bk5_size r]; rfl
section
variable {g : Gram} {ms cs : List Bool}
theorem der_makes (hc : ClosedM g ms) {l : List Sym} {f : For} {y : List Int} (h : Der g l f y) : allB ms l = true := by
  induction h with
  | nil => rfl
  | term ht _ ih =>
    refine allB_iff.2 fun s hs h0 => ?_
    rcases List.mem_cons.1 hs with rfl | hs
    · rw [ht] at h0; cases h0
    · exact allB_iff.1 ih s hs h0
  | @name s l x q ks fs y1 y2 ht h0 hq hl _ _ ih1 ih2 =>
    refine allB_iff.2 fun s' hs _ => ?_
    rcases List.mem_cons.1 hs with rfl | hs
    · rw [← hl]; exact hc q (List.mem_of_getElem? hq) ih1
    · exact allB_iff.1 ih2 s' hs (by assumption)
theorem der_prune (hm : ClosedM g ms) (hc : ClosedC g ms cs) {l : List Sym} {f : For} {y : List Int} (h : Der g l f y) : (∀ s ∈ l, s.term = false → atB cs s.n = true) →
    Der ⟨g.terms, g.names, g.rules.filter (keptB ms cs)⟩ l (fwd5 (krng (keptB ms cs) g.rules) f) y ∧ bk5 (krng (keptB ms cs) g.rules) (fwd5 (krng (keptB ms cs) g.rules) f) = f := by
  induction h with
  | nil => exact fun _ => ⟨.nil, rfl⟩
  | term ht _ ih => exact fun hl => ⟨.term ht (ih fun s hs => hl s (.tail _ hs)).1, (ih fun s hs => hl s (.tail _ hs)).2⟩
  | @name s l x q ks fs y1 y2 ht h0 hq hl hk _ ih1 ih2 =>
    intro hall
    have hmem := List.mem_of_getElem? hq
    have ha := der_makes hm hk
    have hs := hall s (.head _) ht
    rw [← hl] at hs
    have hP : keptB ms cs q = true := by unfold keptB; rw [hm q hmem ha, hs, ha]; rfl
    obtain ⟨i1, i2⟩ := ih1 (hc q hmem hs ha)
    obtain ⟨i3, i4⟩ := ih2 fun s' hs' => hall s' (.tail _ hs')
    have hj := idx_get (krng_mem hq hP)
    refine ⟨.name ht (by omega) (q := q) ?_ hl i1 i3, ?_⟩
    · rw [Int.toNat_natCast]
      exact (krng_get hj).trans hq
    · show For.cons (((krng (keptB ms cs) g.rules).getD ((idx x.toNat (krng (keptB ms cs) g.rules) : Nat) : Int).toNat 0 : Nat) : Int) _ _ = _
      rw [Int.toNat_natCast, List.getD_eq_getElem?_getD, hj, i2, i4]
      show For.cons ((x.toNat : Nat) : Int) _ _ = _
      rw [show ((x.toNat : Nat) : Int) = x by omega]
theorem der_unprune {P : Rule → Bool} {l : List Sym} {f : For} {y : List Int} (h : Der ⟨g.terms, g.names, g.rules.filter P⟩ l f y) : Der g l (bk5 (krng P g.rules) f) y ∧ fwd5 (krng P g.rules) (bk5 (krng P g.rules) f) = f := by
  induction h with
  | nil => exact ⟨.nil, rfl⟩
  | term ht _ ih => exact ⟨.term ht ih.1, ih.2⟩
  | @name s l x q ks fs y1 y2 ht h0 hq hl _ _ ih1 ih2 =>
    have hq : (g.rules.filter P)[x.toNat]? = some q := hq
    have hlt := (List.getElem?_eq_some_iff.1 hq).1
    rw [← krng_pick, (fm_get krng_lt).1] at hlt
    obtain ⟨k, hk⟩ := get_of_lt hlt
    have hgd : (krng P g.rules).getD x.toNat 0 = k := by rw [List.getD_eq_getElem?_getD, hk]; rfl
    refine ⟨?_, ?_⟩
    · show Der g _ (.cons (((krng P g.rules).getD x.toNat 0 : Nat) : Int) _ _) _
      rw [hgd]
      refine .name ht (by omega) (q := q) ?_ hl ih1.1 ih2.1
      rw [Int.toNat_natCast, ← krng_get hk, hq]
    · show For.cons ((idx (((krng P g.rules).getD x.toNat 0 : Nat) : Int).toNat _ : Nat) : Int) _ _ = _
      rw [hgd, Int.toNat_natCast, idx_of (krng_nodup P g.rules) hk, ih1.2, ih2.2]
      rw [show ((x.toNat : Nat) : Int) = x by omega]
end

/-! ### Swaps -/
theorem swapN2 (a b n : Int) : swapN a b (swapN a b n) = n := by
  unfold swapN
  split
  · split <;> (try split) <;> omega
  · split
    · split <;> omega
    · rfl
theorem swapY2 (a b : Int) (s : Sym) : swapY a b (swapY a b s) = s := by
  obtain ⟨t, n⟩ := s
  cases t with
  | true => rfl
  | false => show Sym.mk false (swapN a b (swapN a b n)) = _; rw [swapN2]
theorem swapR2 (a b : Int) (r : Rule) : swapR a b (swapR a b r) = r := by
  obtain ⟨l, rt⟩ := r
  show Rule.mk (swapN a b (swapN a b l)) ((rt.map (swapY a b)).map (swapY a b)) = _
  rw [swapN2, List.map_map, show swapY a b ∘ swapY a b = id from funext (swapY2 a b), List.map_id]
theorem der_swap {t k : Int} {rs : List Rule} {a b : Int} {l : List Sym} {f : For} {y : List Int} (h : Der ⟨t, k, rs⟩ l f y) : Der ⟨t, k, rs.map (swapR a b)⟩ (l.map (swapY a b)) f y := by
  induction h with
  | nil => exact .nil
  | @term s l f y ht _ ih =>
    have e : swapY a b s = s := by unfold swapY; rw [if_pos ht]
    rw [List.map_cons, e]
    exact .term ht ih
  | @name s l x q ks fs y1 y2 ht h0 hq hl _ _ ih1 ih2 =>
    have e : swapY a b s = ⟨false, swapN a b s.n⟩ := by unfold swapY; rw [if_neg (by rw [ht]; decide)]
    rw [List.map_cons, e]
    refine .name rfl h0 (q := swapR a b q) ?_ (by show swapN a b q.left = _; rw [hl]) ih1 ih2
    show (rs.map _)[x.toNat]? = _
    have hq : rs[x.toNat]? = some q := hq
    rw [List.getElem?_map, hq]; rfl
theorem der_unswap {t k : Int} {rs : List Rule} {a b : Int} {l : List Sym} {f : For} {y : List Int} (h : Der ⟨t, k, rs.map (swapR a b)⟩ (l.map (swapY a b)) f y) : Der ⟨t, k, rs⟩ l f y := by
  have := der_swap (a := a) (b := b) h
  rwa [List.map_map, List.map_map, show swapY a b ∘ swapY a b = id from funext (swapY2 a b), show swapR a b ∘ swapR a b = id from funext (swapR2 a b), List.map_id, List.map_id] at this

/-! ### Each step -/
/-- Each derivation of g is carried over to one of h, with its yield, and back to just itself. -/
def Carries (g h : Gram) (F B : For → For) : Prop := ∀ f y, Der g [⟨false, 0⟩] f y → Der h [⟨false, 0⟩] (F f) y ∧ B (F f) = f ∧ (F f).size ≤ 2 * f.size
def kn8 (g : Gram) (k : Nat) : Nat := nms (g.rules.getD k ⟨0, []⟩).right
/-- What a step makes of trees. -/
def fwdT (g : Gram) (s : SStep) (ms cs : List Bool) : For → For :=
  if s.op = 2 then ext2 s.a g.rules.length (nms ((ruleAt g s.a).right.take s.b.toNat)) (nms (partR (ruleAt g s.a) s.b.toNat s.c.toNat))
  else if s.op = 3 then fwd3 s.a (nms ((ruleAt g s.a).right.take s.b.toNat)) (ofL g.rules ((ruleAt g s.a).right.getD s.b.toNat ⟨false, 0⟩).n)
  else if s.op = 4 then fwd4 (isAr g.rules s.a) (lpr g.rules) g.rules.length
  else if s.op = 5 then fwd5 (krng (keptB ms cs) g.rules)
  else id
def bkT (g : Gram) (s : SStep) (ms cs : List Bool) : For → For :=
  if s.op = 2 then bk2 s.a (nms ((ruleAt g s.a).right.take s.b.toNat))
  else if s.op = 3 then bk3 s.a (nms ((ruleAt g s.a).right.take s.b.toNat)) (ofL g.rules ((ruleAt g s.a).right.getD s.b.toNat ⟨false, 0⟩).n) (kn8 g)
  else if s.op = 4 then bk4 (isAr g.rules s.a) g.rules.length
  else if s.op = 5 then bk5 (krng (keptB ms cs) g.rules)
  else id
theorem may_rng {g : Gram} (hm : mayB g = true) : rngR g.names g.rules := fun r hr => by
  obtain ⟨k, hk⟩ := List.getElem?_of_mem hr
  refine ⟨(may_rule hm hk).2.1, fun s hs ht => ?_⟩
  obtain ⟨j, hj⟩ := List.getElem?_of_mem hs
  exact ((may_sym hm hk hj).2.2 ht)
theorem carries {g : Gram} {s : SStep} {ms cs : List Bool} (hm : mayB g = true) (hs : mayS g s = true) (h5 : s.op = 5 → ClosedM g ms ∧ ClosedC g ms cs ∧ (atB ms 0 = true → atB cs 0 = true)) :
    Carries g (stepG g s ms cs) (fwdT g s ms cs) (bkT g s ms cs) ∧ Carries (stepG g s ms cs) g (bkT g s ms cs) (fwdT g s ms cs) := by
  obtain ⟨t, n, rs⟩ := g
  have hM := mayB_true.1 hm
  have h0n : (0 : Int) < n := by have h9 : (1 : Int) ≤ n := hM.2.2.1; omega
  have hn0 : noF n [⟨false, 0⟩] := fun z hz _ => by rw [List.mem_singleton.1 hz]; exact h0n
  have hrng : rngR n rs := may_rng hm
  unfold mayS at hs
  by_cases h1 : s.op = 1
  · rw [if_pos h1] at hs
    simp only [Bool.and_eq_true, inR_true, decide_eq_true_eq] at hs
    obtain ⟨⟨ha, hb⟩, _⟩ := hs
    have e : stepG ⟨t, n, rs⟩ s ms cs = ⟨t, n, rs.map (swapR s.a s.b)⟩ := by unfold stepG; rw [if_pos h1]
    have ef : fwdT ⟨t, n, rs⟩ s ms cs = id := by unfold fwdT; rw [if_neg (by omega), if_neg (by omega), if_neg (by omega), if_neg (by omega)]
    have eb : bkT ⟨t, n, rs⟩ s ms cs = id := by unfold bkT; rw [if_neg (by omega), if_neg (by omega), if_neg (by omega), if_neg (by omega)]
    have e0 : [(⟨false, 0⟩ : Sym)].map (swapY s.a s.b) = [⟨false, 0⟩] := by
      have h1 : swapN s.a s.b 0 = 0 := by unfold swapN; rw [if_neg (by omega), if_neg (by omega)]
      simp [swapY, h1]
    rw [e, ef, eb]
    refine ⟨fun f y h => ⟨?_, rfl, by show f.size ≤ _; omega⟩, fun f y h => ⟨?_, rfl, by show f.size ≤ _; omega⟩⟩
    · have := der_swap (a := s.a) (b := s.b) h
      rw [e0] at this
      exact this
    · rw [← e0] at h
      exact der_unswap h
  by_cases h2 : s.op = 2
  · rw [if_neg h1, if_pos h2] at hs
    simp only [Bool.and_eq_true, inR_true, decide_eq_true_eq] at hs
    obtain ⟨⟨⟨ha0, ha1⟩, hb0, hbc⟩, hcr⟩ := hs
    obtain ⟨q, hq⟩ := get_of_lt (l := rs) (k := s.a.toNat) (by have : s.a < (rs.length : Int) := ha1; omega)
    have hra : ruleAt ⟨t, n, rs⟩ s.a = q := ruleAt_get hq
    have hbc' : s.b.toNat ≤ s.c.toNat := by omega
    have ea : ((s.a.toNat : Nat) : Int) = s.a := by omega
    have e : stepG ⟨t, n, rs⟩ s ms cs = ⟨t, n + 1, rs.set s.a.toNat (extR q s.b.toNat s.c.toNat (nameS n)) ++ [⟨n, partR q s.b.toNat s.c.toNat⟩]⟩ := by
      unfold stepG
      rw [if_neg h1, if_pos h2, hra]
      unfold partR
      rw [List.drop_take]
    have ef : fwdT ⟨t, n, rs⟩ s ms cs = ext2 (s.a.toNat : Nat) rs.length (nms (q.right.take s.b.toNat)) (nms (partR q s.b.toNat s.c.toNat)) := by unfold fwdT; rw [if_pos h2, hra, ea]
    have eb : bkT ⟨t, n, rs⟩ s ms cs = bk2 (s.a.toNat : Nat) (nms (q.right.take s.b.toNat)) := by unfold bkT; rw [if_pos h2, hra, ea]
    rw [e, ef, eb]
    refine ⟨fun f y h => ?_, fun f y h => ?_⟩
    · obtain ⟨k1, k2⟩ := der_ext (n := n) hq hbc' (der_more h)
      exact ⟨k1, k2, ext2_size f⟩
    · obtain ⟨k1, k2⟩ := der_unext hq hbc' hrng h
      exact ⟨der_less rfl hrng k1 hn0, k2, Nat.le_trans (bk2_size f) (by omega)⟩
  by_cases h3 : s.op = 3
  · rw [if_neg h1, if_neg h2, if_pos h3] at hs
    simp only [Bool.and_eq_true, inR_true, decide_eq_true_eq] at hs
    obtain ⟨⟨⟨⟨ha0, ha1⟩, hc0⟩, hb0, hb1⟩, hil⟩ := hs
    obtain ⟨q, hq⟩ := get_of_lt (l := rs) (k := s.a.toNat) (by have : s.a < (rs.length : Int) := ha1; omega)
    have hra : ruleAt ⟨t, n, rs⟩ s.a = q := ruleAt_get hq
    unfold inlB at hil
    rw [hra] at hb1 hil
    obtain ⟨y, hy⟩ := get_of_lt (l := q.right) (k := s.b.toNat) (by omega)
    rw [hy] at hil
    simp only [Bool.and_eq_true, decide_eq_true_eq] at hil
    have hyt : y.term = false := by simpa using hil.1
    have ea : ((s.a.toNat : Nat) : Int) = s.a := by omega
    have e : stepG ⟨t, n, rs⟩ s ms cs = inlG t n rs s.a.toNat s.b.toNat q y := by
      unfold stepG
      rw [if_neg h1, if_neg h2, if_pos h3]
      unfold inlL inlG inlS
      rw [hra, hy]
      simp
    have ey : q.right.getD s.b.toNat ⟨false, 0⟩ = y := by rw [List.getD_eq_getElem?_getD, hy]; rfl
    have ef : fwdT ⟨t, n, rs⟩ s ms cs = fwd3 (s.a.toNat : Nat) (nms (q.right.take s.b.toNat)) (ofL rs y.n) := by unfold fwdT; rw [if_neg h2, if_pos h3, hra, ea, ey]
    have eb : bkT ⟨t, n, rs⟩ s ms cs = bk3 (s.a.toNat : Nat) (nms (q.right.take s.b.toNat)) (ofL rs y.n) (kn8 ⟨t, n, rs⟩) := by unfold bkT; rw [if_neg h2, if_pos h3, hra, ea, ey]
    have hkn : ∀ k r, rs[k]? = some r → kn8 ⟨t, n, rs⟩ k = nms r.right := fun k r h => by
      unfold kn8
      rw [List.getD_eq_getElem?_getD, show (⟨t, n, rs⟩ : Gram).rules[k]? = some r from h]; rfl
    rw [e, ef, eb]
    refine ⟨fun f z h => ?_, fun f z h => ?_⟩
    · obtain ⟨k1, k2⟩ := der_inl hq hy hyt hil.2 hkn h
      exact ⟨k1, k2, Nat.le_trans (fwd3_size f) (by omega)⟩
    · obtain ⟨k1, k2⟩ := der_uninl hq hy hyt hil.2 hkn h
      exact ⟨k1, k2, bk3_size f⟩
  by_cases h4 : s.op = 4
  · have e : stepG ⟨t, n, rs⟩ s ms cs = lG t n rs s.a := by
      unfold stepG
      rw [if_neg h1, if_neg h2, if_neg h3, if_pos h4]
      rfl
    have ef : fwdT ⟨t, n, rs⟩ s ms cs = F4 rs s.a := by unfold fwdT; rw [if_neg h2, if_neg h3, if_pos h4]
    have eb : bkT ⟨t, n, rs⟩ s ms cs = B4 rs s.a := by unfold bkT; rw [if_neg h2, if_neg h3, if_pos h4]
    rw [e, ef, eb]
    refine ⟨fun f z h => ?_, fun f z h => ?_⟩
    · obtain ⟨k1, k2⟩ := (der_left (t := t) (n := n) (a := s.a) f.size).1 _ f z (Nat.le_refl _) h
      exact ⟨k1, k2, (fwd4_size f.size).1 f (Nat.le_refl _)⟩
    · obtain ⟨k1, k2⟩ := (der_unleft (t := t) (a := s.a) hrng f.size).1 _ f z (Nat.le_refl _) hn0 h
      exact ⟨k1, k2, Nat.le_trans ((bk4_size f.size).1 f (Nat.le_refl _)) (by omega)⟩
  by_cases h6 : s.op = 5
  · obtain ⟨cm, cc, c0⟩ := h5 h6
    have e : stepG ⟨t, n, rs⟩ s ms cs = ⟨t, n, rs.filter (keptB ms cs)⟩ := by unfold stepG; rw [if_neg h1, if_neg h2, if_neg h3, if_neg h4]
    have ef : fwdT ⟨t, n, rs⟩ s ms cs = fwd5 (krng (keptB ms cs) rs) := by unfold fwdT; rw [if_neg h2, if_neg h3, if_neg h4, if_pos h6]
    have eb : bkT ⟨t, n, rs⟩ s ms cs = bk5 (krng (keptB ms cs) rs) := by unfold bkT; rw [if_neg h2, if_neg h3, if_neg h4, if_pos h6]
    rw [e, ef, eb]
    refine ⟨fun f z h => ?_, fun f z h => ?_⟩
    · have ha := der_makes cm h
      have h0 : atB ms 0 = true := allB_iff.1 ha ⟨false, 0⟩ (List.mem_singleton.2 rfl) rfl
      obtain ⟨k1, k2⟩ := der_prune cm cc h fun y hy' _ => by rw [List.mem_singleton.1 hy']; exact c0 h0
      exact ⟨k1, k2, by rw [fwd5_size]; omega⟩
    · obtain ⟨k1, k2⟩ := der_unprune (g := ⟨t, n, rs⟩) h
      exact ⟨k1, k2, by rw [bk5_size]; omega⟩
  · rw [if_neg h1, if_neg h2, if_neg h3, if_neg h4, if_neg h6] at hs
    cases hs
end Go.Sy
/- Trees: how many names, and the list of rules. No condition. -/
namespace Go.Sy
open Go Go.RowKit Go.Proofs

theorem KidsAt.mono {ρ ρ' : Addr → Value → Prop} (f : ∀ a v, ρ a v → ρ' a v) : ∀ {k : For} {bs : List Nat}, KidsAt ρ k bs → KidsAt ρ' k bs
 | .nil, _, h => h
 | .cons x ks r, bs, ⟨b, bs', v, kb, h1, h2, h3, h4, h5⟩ => by
   obtain ⟨a, c, e1, e2, e3, e4⟩ := h3
   exact ⟨b, bs', v, kb, h1, h2.mono f, ⟨a, c, e1, e2, e3, fun k y hy => by obtain ⟨p, g1, g2⟩ := e4 k y hy; exact ⟨p, g1, f _ _ g2⟩⟩, KidsAt.mono f h4, KidsAt.mono f h5⟩
theorem KidsAt.len {ρ : Addr → Value → Prop} : ∀ {k : For} {bs : List Nat}, KidsAt ρ k bs → bs.length = k.len
 | .nil, _, h => by rw [show _ = ([] : List Nat) from h]; rfl
 | .cons x ks r, bs, ⟨b, bs', v, kb, h1, _, _, _, h5⟩ => by rw [h1]; exact congrArg (· + 1) (KidsAt.len h5)
theorem kids_cons {ρ : Addr → Value → Prop} {f : For} {b : Nat} {bs : List Nat} (h : KidsAt ρ f (b :: bs)) : ∃ x ks r, f = .cons x ks r ∧ KidsAt ρ (.cons x ks .nil) [b] ∧ KidsAt ρ r bs := by
 cases f with
 | nil => cases h
 | cons x ks r =>
   obtain ⟨b1, bs1, v, kb, h1, h2, h3, h4, h5⟩ := h
   injection h1 with e1 e2
   subst e1
   subst e2
   exact ⟨x, ks, r, rfl, ⟨b, [], v, kb, rfl, h2, h3, h4, rfl⟩, h5⟩
theorem kids_none {ρ : Addr → Value → Prop} {f : For} (h : KidsAt ρ f []) : f = .nil := by
 cases f with
 | nil => rfl
 | cons x ks r => obtain ⟨b1, bs1, v, kb, h1, _⟩ := h; cases h1
theorem kids_top {ρ : Addr → Value → Prop} {x : Int} {ks : For} {b : Nat} (h : KidsAt ρ (.cons x ks .nil) [b]) : ∃ a kb c, Row ρ ⟨b, 0, none⟩ [vi x, .slice a kb.length c] ∧ kb.length ≤ c ∧ c ≤ 9223372036854775807 ∧ (∀ k y, kb[k]? = some y → ∃ p, a = some p ∧ ρ (p.add (k * 1)) (.pointer (some ⟨y, 0, none⟩))) ∧ KidsAt ρ ks kb := by
 obtain ⟨b1, bs1, v, kb, h1, h2, ⟨a, c, rfl, h6, h7, h8⟩, h4, _⟩ := h
 injection h1 with e1 _
 subst e1
 exact ⟨a, kb, c, h2, h6, h7, h8, h4⟩
theorem flatApp : ∀ a b : For, (a.app b).flat = a.flat ++ b.flat
 | .nil, b => rfl
 | .cons x k r, b => by
   show x :: (k.flat ++ (r.app b).flat) = x :: (k.flat ++ r.flat) ++ b.flat
   rw [flatApp r b]; simp
theorem kid_size {x xk : Int} {ks fd kk fr : For} (h : ks = fd.app (.cons xk kk fr)) : (For.cons xk kk .nil).size < (For.cons x ks .nil).size ∧ fd.size + kk.size + 1 + fr.size = ks.size ∧ (For.cons xk kk .nil).size = kk.size + 1 ∧ (For.cons x ks .nil).size = ks.size + 1 := by
 have e : ks.size = fd.size + (kk.size + fr.size + 1) := by rw [h, app_size]; rfl
 have e1 : (For.cons xk kk .nil).size = kk.size + 0 + 1 := rfl
 have e2 : (For.cons x ks .nil).size = ks.size + 0 + 1 := rfl
 omega
theorem For.app_one (fd : For) (x : Int) (k r : For) : fd.app (.cons x k r) = (fd.app (.cons x k .nil)).app r := by rw [For.app_assoc]; rfl
theorem Sat.ofCel {R : Nat → Prop} {w0 w : World} {L : List HP} {e : TypeId} {b : Nat} {α : Type} {enc : α → List Value} {size : Nat} (l : List α) (hs : ∀ x, (enc x).length = size) (hl : l.length ≤ 1000) (h : Sat R w0 (cel b e (l.flatMap enc) :: L) w) : Sat R w0 (trow e size enc (.slice (some ⟨b, 0, none⟩) l.length l.length) l :: L) w :=
 h.swap .head fun hh hb => row_of_cel (n := l.length) (size := size) (flat_length hs l) (by unfold maxLen; omega) hh hb
theorem encN_one : ∀ (l : List Int), ∀ u ∈ l.flatMap encN, u.oneCell' = true := fun l u hu => by
 obtain ⟨x, _, h⟩ := List.mem_flatMap.1 hu
 rw [List.mem_singleton.1 h]; rfl
set_option maxRecDepth 20000 in
theorem names_any (v : Value) (l : List Sym) (w : World) (hl : l.length ≤ 1000) (h : SymsAt (Cl w) v l) : Calls Try.prog 60 #[v] w (fun e w' => e = .returned (.int .i64 (nms l : Nat)) ∧ Sat (Old w) w [] w') := by
 obtain ⟨a, c, rfl, hc1, hc2, hys⟩ := h.mono old_rd
 refine calls_CW Try.func60 rfl Try.ntmps60 rfl (Sat.start w) ?_
 refine nx3 ?_
 refine aO ?_
 refine nx4 ?_
 refine aO ?_
 refine nx2 ?_
 refine CW_seq ?_
 refine nx3 ?_
 refine mO ?_
 refine OW_q (q_len Try.underlying46 rfl) rfl ?_
 refine mO ?_
 refine nx2 ?_
 refine CW_block ?_
 refine CW_loopP (ι := Nat × Nat) (fun i_ => i_.1 ≤ l.length ∧ i_.2 ≤ i_.1 ∧ i_.2 = nms (l.take i_.1)) (fun i_ => [(3, .int .i64 (i_.2 : Int)), (6, .slice a l.length c), (7, .int .i64 (l.length : Int)), (8, .int .i64 (i_.1 : Int))]) (fun i_ => Sat (Old w) w []) (fun i_ => l.length - i_.1) (0, 0) ?_ ⟨rfl, rfl, rfl, rfl, trivial⟩ sft ?_
 · exact ⟨Nat.zero_le _, Nat.le_refl _, rfl⟩
 intro i_ hpre
 obtain ⟨k, m⟩ := i_
 replace hpre : k ≤ l.length ∧ m ≤ k ∧ m = nms (l.take k) := hpre
 change CW _ _ _ _ [(3, .int .i64 (m : Int)), (6, .slice a l.length c), (7, .int .i64 (l.length : Int)), (8, .int .i64 (k : Int))] (Sat (Old w) w [])
 obtain ⟨hk, hmk, hm⟩ := hpre
 refine nx3 ?_
 refine OW_q (q_lss rfl rfl) rfl ?_
 refine nx2 ?_
 refine CW_seq ?_
 refine CW_cond rfl (fun h9 => ?_) (fun h9 => ?_)
 · skip
   have hlt : k < l.length := by have := of_decide_eq_true h9; omega
   obtain ⟨s, hs⟩ := get_of_lt hlt
   obtain ⟨p, rfl, hsym⟩ := hys k s hs
   refine CW_skip ?_
   refine EW_then ?_
   refine CW_seq ?_
   refine CW_block ?_
   refine nx3 ?_
   refine OW_q (q_indexAddr Try.underlying46 Try.sizeOf51 rfl rfl (by omega)) rfl ?_
   refine OW_q (q_loadN_ro Try.isAgg51 Try.sizeOf51 rfl (by exact hsym) (by rfl)) rfl ?_
   refine OW_e (e_alloc Try.zeroValue51 rfl) rfl (fun b5 => ?_)
   refine OW_e0 (e_storeN Try.sizeOf51 rfl rfl rfl rfl (by simp [Value.oneCell']) swt (by rfl)) (fun _ => ?_)
   refine nx4 ?_
   refine OW_q (q_fieldAddr Try.underlying51 rfl rfl Try.sizeOf4 rfl rfl) rfl ?_
   refine OW_q (q_load1_own Try.isAgg4 rfl rfl swt (by rfl)) rfl ?_
   refine OW_q (q_not rfl) rfl ?_
   refine nx2 ?_
   refine CW_cond rfl (fun h14 => ?_) (fun h14 => ?_)
   · skip
     refine CW_region ?_
     refine mO ?_
     refine OW_q (q_add rfl rfl (by omega) (by omega)) rfl ?_
     refine aO ?_
     refine OW_nil ?_
     refine EW_block_normal ?_
     refine EW_then ?_
     refine CW_region ?_
     refine OW_q (q_add rfl rfl (by omega) (by omega)) rfl ?_
     refine mO ?_
     refine OW_nil ?_
     refine EW_again ((k + 1, m + 1)) ⟨?_, ?_⟩ ⟨rfl, rfl, rfl, rfl, trivial⟩ sft
     · show l.length - (k + 1) < l.length - k; omega
     · exact ⟨by show k + 1 ≤ _; omega, by show m + 1 ≤ k + 1; omega, by show m + 1 = nms (l.take (k + 1)); rw [take_next hs, nms_append, nms_name (by simpa using h14), hm]; rfl⟩
   refine CW_skip ?_
   refine EW_block_normal ?_
   refine EW_then ?_
   refine CW_region ?_
   refine OW_q (q_add rfl rfl (by omega) (by omega)) rfl ?_
   refine mO ?_
   refine OW_nil ?_
   refine EW_again ((k + 1, m)) ⟨?_, ?_⟩ ⟨rfl, rfl, rfl, rfl, trivial⟩ sft
   · show l.length - (k + 1) < l.length - k; omega
   · exact ⟨by show k + 1 ≤ _; omega, by show m ≤ k + 1; omega, by show m = nms (l.take (k + 1)); rw [take_next hs, nms_append, nms_term (by simpa using h14), hm]; rfl⟩
 have hke : k = l.length := by have := of_decide_eq_false h9; omega
 subst hke
 rw [List.take_length] at hm
 subst hm
 refine CW_exit ?_
 refine EW_then_exit ?_
 refine EW_out ?_
 refine EW_block_exit ?_
 refine EW_then ?_
 refine nx3 ?_
 refine mO ?_
 refine aO ?_
 refine nx2 ?_
 refine CW_ret ?_
 refine ret1 Try.results60 rfl (fun w hw => ?_)
 exact ⟨rfl, hw.sub .nil⟩

set_option maxRecDepth 20000 in
theorem flat_any : ∀ (N : Nat) (x : Int) (ks : For) (b : Nat) (w : World), (For.cons x ks .nil).size ≤ N → N ≤ 5000 → KidsAt (Cl w) (.cons x ks .nil) [b] → Calls Try.prog 46 #[.pointer (some ⟨b, 0, none⟩)] w (fun e w' => ∃ v : Value, e = .returned v ∧ Sat (Old w) w [trow 3 1 encN v (x :: ks.flat)] w') := by
 intro N
 refine Nat.strongRecOn N ?_
 clear N
 intro N ih x ks b w hsz hN hk0
 obtain ⟨a, kb, c, hrow, hc1, hc2, hkb, hks⟩ := kids_top (hk0.mono old_rd)
 refine calls_CW Try.func46 rfl Try.ntmps46 rfl (Sat.start w) ?_
 refine nx3 ?_
 refine aO ?_
 refine nx4 ?_
 refine mO ?_
 refine OW_q (q_nilCheck rfl) rfl ?_
 refine OW_q (q_fieldAddr Try.underlying99 rfl rfl Try.sizeOf3 rfl rfl) rfl ?_
 refine OW_q (q_load1_ro Try.isAgg3 rfl (by exact hrow.at_ (j := 0) rfl)) rfl ?_
 refine OW_e (e_single Try.underlying32 Try.sizeOf3 Try.zeroValue3 (e := 3) (v := .int .i64 x) (cs := [.int .i64 x]) rfl rfl rfl rfl (by decide) (by decide)) rfl (fun b10 => ?_)
 refine OW_weak (S' := Sat (Old w) w [trow 3 1 encN (.slice (some ⟨b10, 0, none⟩) 1 1) [x]]) (fun w hw => Sat.ofCel [x] (fun _ => rfl) (by simp) hw) ?_
 refine aO ?_
 refine nx2 ?_
 refine CW_seq ?_
 refine nx3 ?_
 refine mO ?_
 refine OW_q (q_nilCheck rfl) rfl ?_
 refine OW_q (q_fieldAddr Try.underlying99 rfl rfl Try.sizeOf97 rfl rfl) rfl ?_
 refine OW_q (q_load1_ro Try.isAgg97 rfl (by exact hrow.at_ (j := 1) rfl)) rfl ?_
 refine OW_q (q_len Try.underlying97 rfl) rfl ?_
 refine mO ?_
 refine nx2 ?_
 refine CW_block ?_
 refine CW_loopP (ι := Nat × For × For × List Nat × List Nat × Value) (fun i_ => i_.1 ≤ kb.length ∧ ks = i_.2.1.app i_.2.2.1 ∧ kb = i_.2.2.2.1 ++ i_.2.2.2.2.1 ∧ i_.2.2.2.1.length = i_.1 ∧ KidsAt (Rd (Old w) w) i_.2.2.1 i_.2.2.2.2.1) (fun i_ => [(3, i_.2.2.2.2.2), (14, .slice a kb.length c), (15, .int .i64 (kb.length : Int)), (16, .int .i64 (i_.1 : Int))]) (fun i_ => Sat (Old w) w [trow 3 1 encN i_.2.2.2.2.2 (x :: i_.2.1.flat)]) (fun i_ => kb.length - i_.1) (0, .nil, ks, [], kb, .slice (some ⟨b10, 0, none⟩) 1 1) ?_ ⟨rfl, rfl, rfl, rfl, trivial⟩ sft ?_
 · exact ⟨Nat.zero_le _, rfl, rfl, rfl, hks⟩
 intro i_ hpre
 obtain ⟨k, fd, fr, bd, br, v3⟩ := i_
 replace hpre : k ≤ kb.length ∧ ks = fd.app fr ∧ kb = bd ++ br ∧ bd.length = k ∧ KidsAt (Rd (Old w) w) fr br := hpre
 change CW _ _ _ _ [(3, v3), (14, .slice a kb.length c), (15, .int .i64 (kb.length : Int)), (16, .int .i64 (k : Int))] (Sat (Old w) w [trow 3 1 encN v3 (x :: fd.flat)])
 obtain ⟨hk, hfd, hbd, hbl, hkr⟩ := hpre
 refine nx3 ?_
 refine OW_q (q_lss rfl rfl) rfl ?_
 refine nx2 ?_
 refine CW_seq ?_
 refine CW_cond rfl (fun h17 => ?_) (fun h17 => ?_)
 · skip
   have hlt : k < kb.length := by have := of_decide_eq_true h17; omega
   obtain ⟨b1, br2, rfl⟩ : ∃ b1 br2, br = b1 :: br2 := by
     cases br with
     | nil => rw [List.append_nil] at hbd; rw [hbd] at hlt; omega
     | cons b1 br2 => exact ⟨b1, br2, rfl⟩
   have hbk : kb[k]? = some b1 := by rw [hbd, List.getElem?_append_right (by omega), hbl, Nat.sub_self]; rfl
   obtain ⟨p, rfl, hb1⟩ := hkb k b1 hbk
   obtain ⟨xk, kk, fr2, rfl, hk1, hk2⟩ := kids_cons hkr
   refine CW_skip ?_
   refine EW_then ?_
   refine CW_seq ?_
   refine CW_block ?_
   refine nx3 ?_
   refine OW_q (q_indexAddr Try.underlying97 Try.sizeOf80 rfl rfl (by omega)) rfl ?_
   refine OW_q (q_load1_ro Try.isAgg80 rfl (by exact hb1)) rfl ?_
   refine aO ?_
   refine nx2 ?_
   refine CW_region ?_
   refine mO ?_
   refine mO ?_
   refine OW_e (e_call Try.call46 rfl (fun w hw => lift_old (ih (For.cons xk kk .nil).size (by have := kid_size (x := x) hfd; omega) xk kk b1 w (Nat.le_refl _) (by have := kid_size (x := x) hfd; omega) (hk1.mono hw.rd_cl)) hw)) rfl (fun x22 => ?_)
   refine OW_fact (fun w hw => hw.tform (v := x22) (l := (xk :: kk.flat)) (enc := encN) swt) (fun hf => ?_)
   obtain ⟨a22, c22, rfl, _, _, hb22⟩ := hf
   refine OW_e (e_appendG (enc := encN) (size := 1) (v := v3) (l := x :: fd.flat) (ys := xk :: kk.flat) (sa := a22) (fun _ => rfl) Try.underlying32 Try.typeInfo3 rfl rfl rfl rfl rfl rfl rfl pkt rfl (fun w hw => hw.vin (F := trow 3 1 encN (.slice a22 (xk :: kk.flat).length c22) (xk :: kk.flat)) swt VIn.trow) (encN_one _) (by simp only [List.length_cons, flat_size]; have := kid_size (x := x) hfd; omega) (by decide)) rfl (fun v23 => ?_)
   refine aO ?_
   refine OW_nil ?_
   refine EW_block_normal ?_
   refine EW_then ?_
   refine CW_region ?_
   refine OW_q (q_add rfl rfl (by omega) (by omega)) rfl ?_
   refine mO ?_
   refine OW_nil ?_
   refine EW_weak (S' := Sat (Old _) _ [trow 3 1 encN v23 (x :: (fd.app (.cons xk kk .nil)).flat)]) (fun w hw => by
     have e : x :: (fd.app (.cons xk kk .nil)).flat = (x :: fd.flat) ++ (xk :: kk.flat) := by rw [flatApp]; simp [For.flat]
     rw [e]
     exact hw.sub sbt) ?_
   refine EW_again ((k + 1, fd.app (.cons xk kk .nil), fr2, bd ++ [b1], br2, v23)) ⟨?_, ?_⟩ ⟨rfl, rfl, rfl, rfl, trivial⟩ sft
   · show kb.length - (k + 1) < kb.length - k; omega
   · refine ⟨by show k + 1 ≤ _; omega, ?_, ?_, ?_, hk2⟩
     · show ks = _
       rw [hfd, For.app_one]
     · show kb = _
       rw [hbd]; simp
     · show (bd ++ [b1]).length = _
       rw [List.length_append, hbl]; rfl
 have hke : k = kb.length := by have := of_decide_eq_false h17; omega
 have hbr : br = [] := by
   have := congrArg List.length hbd
   rw [List.length_append] at this
   exact List.eq_nil_of_length_eq_zero (by omega)
 subst hbr
 have hfr := kids_none hkr
 subst hfr
 rw [For.app_nil] at hfd
 subst hfd
 refine CW_exit ?_
 refine EW_then_exit ?_
 refine EW_out ?_
 refine EW_block_exit ?_
 refine EW_then ?_
 refine nx3 ?_
 refine mO ?_
 refine aO ?_
 refine nx2 ?_
 refine CW_ret ?_
 refine ret1 Try.results46 rfl (fun w hw => ?_)
 exact ⟨v3, rfl, hw.sub sbt⟩

end Go.Sy
