/- Reading: what the library's parts give. No condition. -/
import Derived.Test.YteceklkjbcebkabDoorW70
import Derived.Test.YteceklkjbcebkabDoorPText
import Derived.Lib.AppendIntMem
import Derived.Lib.AtoiErrMem
namespace Go.Sy
open Go Go.RowKit Go.Proofs

/-- What the library's variables hold. -/
structure Globs (w : World) : Prop where
  len : ∃ m, w.cell? ⟨0, 0, none⟩ = some (.int .i64 m)
  tab : Lib.TabIs Tryd.prog w "internal/strconv.uint64pow10" .u64 Lib.pow10Tab
  syn : ∃ tp p, w.var? Tryd.prog "strconv.ErrSyntax" = some #[.iface tp p]
  rng : ∃ tp p, w.var? Tryd.prog "strconv.ErrRange" = some #[.iface tp p]
theorem var_at {w w' : World} (h : ∀ b, b < w.heap.size → w'.heap[b]? = w.heap[b]?) {n : String} {cs : Array Value} (hv : w.var? Tryd.prog n = some cs) : w'.var? Tryd.prog n = some cs := by
  unfold World.var? at *
  cases hg : Tryd.prog.globalNamed n with
  | none => rw [hg] at hv; cases hv
  | some g =>
    rw [hg] at hv
    simp only [Option.bind_some] at hv ⊢
    have hb : g < w.heap.size := by
      rcases Nat.lt_or_ge g w.heap.size with h1 | h1
      · exact h1
      · rw [Array.getElem?_eq_none h1] at hv; cases hv
    rw [h g hb]
    exact hv
theorem Globs.of {w w' : World} {L : List HP} (hG : Globs w) (hS : Sat (Old w) w L w') : Globs w' := by
  have hb : ∀ b, b < w.heap.size → w'.heap[b]? = w.heap[b]? := fun b hb => (hS.ro b hb).2
  obtain ⟨⟨m, hm⟩, h2, ⟨t3, p3, h3⟩, t4, p4, h4⟩ := hG
  refine ⟨⟨m, ?_⟩, var_at hb h2, ⟨t3, p3, var_at hb h3⟩, t4, p4, var_at hb h4⟩
  have h0 : 0 < w.heap.size := World.block_lt_of_cell? _ _ hm
  unfold World.cell? at *
  rw [hb 0 h0]
  exact hm
theorem itoa9_any (n : Int) (h0 : 0 ≤ n) (hn : n ≤ 9999) (w : World) (hG : Globs w) : Calls Tryd.prog 15 #[.int .i64 n] w (fun e w' => e = .returned (.string ⟨(Lib.decDigits n.toNat).toArray⟩) ∧ Sat (Old w) w [] w') := by
  refine (Tryd.strconv_Itoa n (by omega) (by omega) w hG.tab).mono fun e w' ⟨he, k, os, hw⟩ => ⟨?_, ?_⟩
  · rw [he]; unfold Lib.itoa; rw [if_neg (by omega)]
  · rw [hw]; exact Sat.ofBelow (Lib.below_grow _ w (Nat.le_refl _) k os)
theorem size_mk (l : List UInt8) : (⟨l.toArray⟩ : ByteArray).size = l.length := by rw [Lib.size_eq]
/-- How the library reads a number. -/
theorem atoi_any (l : List UInt8) (hl : l.length ≤ 4000000000) (w : World) (hG : Globs w) : Calls Tryd.prog 42 #[.string ⟨l.toArray⟩] w (fun e w' => ∃ x : Int × Bool × TypeId × Value, e = .returned (.tuple #[.int .i64 x.1, if x.2.1 = true then .nilIface else .iface x.2.2.1 x.2.2.2]) ∧ ((x.2.1 = true → Lib.atoiAll l = .ok x.1) ∧ (x.2.1 = false → ∀ v, Lib.atoiAll l ≠ .ok v)) ∧ Sat (Old w) w [] w') := by
  have e1 := size_mk l
  cases h : Lib.atoiAll l with
  | ok v =>
    refine (Tryd.strconv_Atoi_ok ⟨l.toArray⟩ (by omega) v h w).mono fun e w' ⟨he, hw⟩ => ⟨(v, true, 0, .nilIface), he, ⟨fun _ => rfl, (fun h => by cases h)⟩, ?_⟩
    rcases hw with rfl | ⟨t, rfl⟩
    · exact Sat.start _
    · exact Sat.ofBelow (Lib.bytesWorld_below _ _ _)
  | range =>
    obtain ⟨tp, p, hv⟩ := hG.rng
    exact (Tryd.strconv_Atoi_range_var ⟨l.toArray⟩ (by omega) h tp p w hv).mono fun e w' ⟨N, he, _, _, hb⟩ => ⟨(_, false, _, _), he, ⟨(fun h => by cases h), (fun _ v h => by cases h)⟩, Sat.ofBelow hb⟩
  | _ =>
    obtain ⟨tp, p, hv⟩ := hG.syn
    exact (Tryd.strconv_Atoi_syntax_var ⟨l.toArray⟩ (by omega) (fun v e => by have e2 := h.symm.trans e; cases e2) (fun e => by have e2 := h.symm.trans e; cases e2) tp p w hv).mono fun e w' ⟨N, he, _, _, hb⟩ => ⟨(0, false, _, _), he, ⟨(fun h => by cases h), (fun _ v h => by cases h)⟩, Sat.ofBelow hb⟩
theorem parts_len (c : UInt8) : ∀ l, (parts c l).length ≤ l.length + 1
  | [] => by simp [parts]
  | b :: l => by
    have := parts_len c l
    unfold parts
    split
    · simp only [List.length_cons]; omega
    · split
      · rename_i x r hx
        rw [hx] at this
        simp only [List.length_cons] at *; omega
      · simp
theorem split_any (l : List UInt8) (c : UInt8) (w : World) (hl : l.length ≤ 4000000000) (hG : Globs w) : Calls Tryd.prog 20 #[.string ⟨l.toArray⟩, .string ⟨[c].toArray⟩] w (fun e w' => ∃ b : Nat, e = .returned (.slice (some ⟨b, 0, none⟩) (parts c l).length (parts c l).length) ∧ Sat (Old w) w [trow 9 1 encS (.slice (some ⟨b, 0, none⟩) (parts c l).length (parts c l).length) (parts c l)] w') := by
  obtain ⟨m, hm⟩ := hG.len
  have e1 := size_mk l
  have e2 := size_mk [c]
  simp only [List.length_cons, List.length_nil] at e2
  have hk : (Lib.splitB ⟨[c].toArray⟩ 0 (Lib.countB ⟨l.toArray⟩ ⟨[c].toArray⟩) ⟨l.toArray⟩).map (·.data.toList) = parts c l := by
    rw [Lib.splitB_data]
    exact splitK_parts c l
  have hn := Lib.splitB_all ⟨[c].toArray⟩ (by omega) 0 _ ⟨l.toArray⟩ rfl
  have hlen : (parts c l).length = Lib.countB ⟨l.toArray⟩ ⟨[c].toArray⟩ + 1 := by rw [← hk, List.length_map, hn]
  refine (Tryd.strings_Split ⟨l.toArray⟩ ⟨[c].toArray⟩ m w (by omega) hm (by omega)).mono fun e w' ⟨he, hw⟩ => ⟨w.heap.size, by rw [he, hlen], ?_⟩
  have hc : (Lib.splitB ⟨[c].toArray⟩ 0 (Lib.countB ⟨l.toArray⟩ ⟨[c].toArray⟩) ⟨l.toArray⟩).map Value.string = (parts c l).flatMap encS := by
    rw [flat_strs, ← hk, List.map_map]
    exact List.map_congr_left fun x _ => by
      show Value.string x = Value.string ⟨x.data.toList.toArray⟩
      rw [Lib.mk_data]
  rw [hw, hc]
  have h1 := (Sat.start w).alloc (.cells ((parts c l).flatMap encS).toArray 9 (0, 0))
  have hpl := parts_len c l
  exact Sat.swap (L := [cel w.heap.size 9 ((parts c l).flatMap encS)]) .head (fun hh hb => row_of_cel (n := (parts c l).length) (size := 1) (by rw [flat_length (enc := encS) (size := 1) (fun _ => rfl)]) (by unfold maxLen; omega) hh hb) h1
/-- What a number's reader tells. -/
def NumR (l : List UInt8) (x : Int × Bool) : Prop := (x.2 = true → ∃ n : Nat, numF l = some n ∧ x.1 = n) ∧ (x.2 = false → numF l = none)
def SymR (l : List UInt8) (x : Sym × Bool) : Prop := (x.2 = true → symF l = some x.1) ∧ (x.2 = false → symF l = none)
theorem num_not {l : List UInt8} {v : Int} (h : Lib.atoiAll l = .ok v) (hn : v < 0 ∨ 9999 < v ∨ Lib.decDigits v.toNat ≠ l) : numF l = none := by
  cases hf : numF l with
  | none => rfl
  | some n =>
    obtain ⟨h1, h2⟩ := numF_dec.1 hf
    rw [h2, atoi_dec h1] at h
    injection h with h
    subst h
    rcases hn with hn | hn | hn
    · omega
    · omega
    · exact absurd h2.symm (by simpa using hn)
theorem num_err {l : List UInt8} (h : ∀ v, Lib.atoiAll l ≠ .ok v) : numF l = none := by
  cases hf : numF l with
  | none => rfl
  | some n =>
    obtain ⟨h1, h2⟩ := numF_dec.1 hf
    exact absurd (by rw [h2]; exact atoi_dec h1) (h n)
end Go.Sy
