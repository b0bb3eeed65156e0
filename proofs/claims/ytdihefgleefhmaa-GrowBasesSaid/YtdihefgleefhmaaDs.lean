/- Numbers in order, and what the sort makes of a slice of them. -/
import Derived.Test.YtdihefgleefhmaaDq
import Derived.Sort.OwnSortedInts
namespace Go.Proofs.Ytdihefgleefhmaa
open Go.RowKit
namespace Dq
theorem isert_perm (x : Nat) : ∀ l : List Nat, (isert x l).Perm (x :: l)
  | [] => .refl _
  | y :: l => by
    unfold isert
    split
    · exact .refl _
    · exact ((isert_perm x l).cons y).trans (.swap x y l)
theorem isort_perm : ∀ l : List Nat, (isort l).Perm l
  | [] => .refl _
  | x :: l => (isert_perm x (isort l)).trans ((isort_perm l).cons x)
theorem isert_pair (x : Nat) : ∀ l : List Nat, l.Pairwise (· ≤ ·) → (isert x l).Pairwise (· ≤ ·)
  | [], _ => by simp [isert]
  | y :: l, h => by
    obtain ⟨h1, h2⟩ := List.pairwise_cons.1 h
    unfold isert
    split
    · rename_i hx
      exact List.pairwise_cons.2 ⟨fun z hz => by
        rcases List.mem_cons.1 hz with rfl | hz
        · exact hx
        · have := h1 z hz
          omega, h⟩
    · rename_i hx
      exact List.pairwise_cons.2 ⟨fun z hz => by
        rcases List.mem_cons.1 ((isert_perm x l).mem_iff.1 hz) with rfl | hz
        · omega
        · exact h1 z hz, isert_pair x l h2⟩
theorem isort_pair : ∀ l : List Nat, (isort l).Pairwise (· ≤ ·)
  | [] => .nil
  | x :: l => isert_pair x _ (isort_pair l)
theorem merge_isort (l : List Nat) : ((l.map fun (n : Nat) => (n : Int)).mergeSort fun x y => decide (x ≤ y)) = (isort l).map fun (n : Nat) => (n : Int) := by
  refine List.Perm.eq_of_pairwise (le := fun x y : Int => x ≤ y) (fun a b _ _ h1 h2 => by omega) ?_ ?_ ?_
  · have := List.pairwise_mergeSort (le := fun x y : Int => decide (x ≤ y)) (fun a b c h1 h2 => by simp only [decide_eq_true_eq] at *; omega) (fun a b => by simp only [Bool.or_eq_true, decide_eq_true_eq]; omega) (l.map fun (n : Nat) => (n : Int))
    exact this.imp fun h => by simpa using h
  · rw [List.pairwise_map]
    exact (isort_pair l).imp fun h => by omega
  · exact (List.mergeSort_perm _ _).trans ((isort_perm l).symm.map _)
theorem isort_mem (l : List Nat) (x : Nat) : x ∈ isort l ↔ x ∈ l := (isort_perm l).mem_iff
theorem isort_len (l : List Nat) : (isort l).length = l.length := (isort_perm l).length_eq
theorem Taken.sort {M : Mesh} {cs : List Nat} (h : Taken M cs) : Taken M (isort cs) := ⟨(isort_perm cs).nodup_iff.2 h.nodup, fun u hu => h.live u ((isort_mem cs u).1 hu)⟩
theorem tri_le (M : Mesh) (p : Pt) (T : Tri) (cs : List Nat) : ∀ k, cs <+: digTri M p T k cs
  | 0 => List.prefix_rfl
  | k + 1 => (tri_le M p T cs k).trans (one_le _ _ _ _ _)
/-- the slice of numbers, behind the library's sort. -/
theorem own_sorted {W : World} {B g n cap k : Nat} {cs : List Nat} {os : Array Obj} (h : W.ownsRow B 3 1 (.slice (some ⟨g, 0, none⟩) n cap) n (cs.map fun (n : Nat) => Value.int .i64 n)) :
    Go.Sort.Holds (Value.int .i64) W g 0 (cs.map fun (n : Nat) => (n : Int)).toArray ∧ g < W.heap.size ∧
    (Go.Sort.grow (Go.Sort.putRow (Value.int .i64) (Go.Sort.ahead W k) g 0 ((cs.map fun (n : Nat) => (n : Int)).mergeSort fun x y => decide (x ≤ y)).toArray) os).ownsRow B 3 1 (.slice (some ⟨g, 0, none⟩) n cap) n ((isort cs).map fun (n : Nat) => Value.int .i64 n) ∧
    W.grownBy (Go.Sort.grow (Go.Sort.putRow (Value.int .i64) (Go.Sort.ahead W k) g 0 ((cs.map fun (n : Nat) => (n : Int)).mergeSort fun x y => decide (x ≤ y)).toArray) os) (some g) := by
  obtain ⟨hl, ⟨h0, _⟩ | ⟨g', cap', cur, hv, hB, hc, h1, h2, h3, h4⟩⟩ := h
  · cases h0
  · simp only [Value.slice.injEq, Option.some.injEq, Addr.mk.injEq, and_true, true_and] at hv
    obtain ⟨rfl, rfl⟩ := hv
    have hn : cs.length = n := by simpa using hl
    subst hn
    refine ⟨holds_of_blockI hc (by simpa [List.map_map, Function.comp_def] using h4), (Array.getElem?_eq_some_iff.1 hc).1, ?_, grownBy_sortedI _⟩
    have := ownsRow_sortedI (w := W) (base := B) (n := k) (os := os) (ss := cs.map fun (n : Nat) => (n : Int)) (ts := (isort cs).map fun (n : Nat) => (n : Int)) (by simp [isort_len]) hB hc (by simpa using h1) h2 h3
    rw [merge_isort]
    simpa [List.map_map, Function.comp_def] using this
end Dq
end Go.Proofs.Ytdihefgleefhmaa
