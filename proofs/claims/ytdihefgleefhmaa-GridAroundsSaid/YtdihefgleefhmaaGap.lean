/- What grid.Around answers, in plain Lean: the least grid around points. -/
import Derived.Test.YtdihefgleefhmaaGcw
namespace Go.Proofs.Ytdihefgleefhmaa
open Go.RowKit Go.Proofs.Ytdihefgleefhmaa.PGridArounds Go.Proofs.YtdihefgleefhmaaW.PrintWords Go.Proofs.YtdihefgleefhmaaW.PrintLast Go.Proofs.YtdihefgleefhmaaW.PrintMore
namespace Ga
open Gc
/-- the least and the greatest coordinates. -/
structure Box where
  a : Int
  b : Int
  c : Int
  d : Int
def Box.add (x : Box) (q : S32) : Box := ⟨mn x.a q.f0, mn x.b q.f1, mx x.c q.f0, mx x.d q.f1⟩
def Box.all (x : Box) (T : List S32) : Box := T.foldl Box.add x
def Box.ok (x : Box) : Prop := -2147483648 ≤ x.a ∧ x.a ≤ x.c ∧ x.c ≤ 2147483648 ∧ -2147483648 ≤ x.b ∧ x.b ≤ x.d ∧ x.d ≤ 2147483648
def Near (q : S32) : Prop := -2147483648 ≤ q.f0 ∧ q.f0 ≤ 2147483648 ∧ -2147483648 ≤ q.f1 ∧ q.f1 ≤ 2147483648
theorem Box.ok_add {x : Box} {q : S32} (h : x.ok) (hq : Near q) : (x.add q).ok := by
  unfold Box.ok Box.add Near mn mx at *
  refine ⟨?_, ?_, ?_, ?_, ?_, ?_⟩ <;> dsimp only <;> (repeat' split) <;> omega
theorem Box.ok_all {T : List S32} : ∀ {x : Box}, x.ok → (∀ q ∈ T, Near q) → (x.all T).ok := by
  induction T with
  | nil => intro x h _; exact h
  | cons q T ih => intro x h hq; exact ih (Box.ok_add h (hq q (by simp))) (fun r hr => hq r (by simp [hr]))
def nd (far cell : Int) : Int := far / cell + (if 0 < far % cell then 1 else 0) + 1
theorem quo_bounds {far cell : Int} (h0 : 0 ≤ far) (h1 : far ≤ 4294967296) (hc : 1 ≤ cell) : 0 ≤ far / cell ∧ far / cell ≤ 4294967296 ∧ 0 ≤ far % cell := by
  have e1 := Int.ediv_nonneg h0 (show (0:Int) ≤ cell by omega)
  have e2 : far / cell ≤ far := Int.ediv_le_self _ h0
  have e3 := Int.emod_nonneg far (show cell ≠ 0 by omega)
  omega
theorem nodes_is {far cell : Int} (h0 : 0 ≤ far) (h1 : far ≤ 4294967296) (hc : 1 ≤ cell) : grid_nodes.f far cell = some (nd far cell) := by
  obtain ⟨e1, e2, e3⟩ := quo_bounds h0 h1 hc
  unfold grid_nodes.f nd
  rw [if_neg (by omega), Int.tdiv_eq_ediv_of_nonneg h0, Int.tmod_eq_emod_of_nonneg h0]
  have a1 : wrap64 (far / cell) = far / cell := w64 (by omega) (by omega)
  have a2 : wrap64 (far / cell + 1) = far / cell + 1 := w64 (by omega) (by omega)
  have a3 : wrap64 (far / cell + 1 + 1) = far / cell + 1 + 1 := w64 (by omega) (by omega)
  by_cases h : 0 < far % cell
  · rw [if_pos h, if_pos h, a1, a2, a3]
  · rw [if_neg h, if_neg h, a1, a2]
    congr 1; omega
/-- what is left, behind the loop. -/
def fin (x : Box) (cell : Int) : Int × Int × Int × Int × Int × Int :=
  let e := want x.a x.b cell (nd (x.c - x.a) cell) (nd (x.d - x.b) cell)
  if e = 0 then (x.a, x.b, cell, nd (x.c - x.a) cell, nd (x.d - x.b) cell, 0) else (0, 0, 0, 0, 0, e)
theorem rd_at {T : List S32} {i : Nat} (h : i < T.length) : rd_T32 T (i : Int) = T[i] := by
  unfold rd_T32; rw [Int.toNat_natCast, List.getD_eq_getElem?_getD, List.getElem?_eq_getElem h]; rfl
theorem loop_is (cell : Int) (hc : 1 ≤ cell) (T : List S32) (hT : ∀ q ∈ T, Near q) (hlen : T.length ≤ 1000) (d : Nat) :
    ∀ (k i : Nat) (x : Box), x.ok → i + d = T.length → d + 2 ≤ k → grid_Around.l0 (k + 1) cell T (T.length : Int) (i : Int) x.a x.b x.c x.d = some (fin (x.all (T.drop i)) cell) := by
  induction d with
  | zero =>
    intro k i x hx hi hk
    obtain ⟨k, rfl⟩ : ∃ m, k = m + 2 := ⟨k - 2, by omega⟩
    have hi' : i = T.length := by omega
    subst hi'
    simp only [grid_Around.l0]
    rw [if_neg (by omega)]
    obtain ⟨q1, q2, q3, q4, q5, q6⟩ := hx
    rw [w64 (x := x.c - x.a) (by omega) (by omega), w64 (x := x.d - x.b) (by omega) (by omega), nodes_is (by omega) (by omega) hc, nodes_is (by omega) (by omega) hc]
    simp only [Option.bind_some]
    rw [check_is k _ _ _ _ _ (by omega) (by omega) (by omega) (by omega)]
    simp only [Option.bind_some, List.drop_length, Box.all, List.foldl, fin]
    split <;> rfl
  | succ d ih =>
    intro k i x hx hi hk
    have hlt : i < T.length := by omega
    have hq := hT T[i] (List.getElem_mem hlt)
    simp only [grid_Around.l0]
    rw [if_pos (by omega), if_pos (by omega), if_pos (by omega), rd_at hlt, w64 (x := (i : Int) + 1) (by omega) (by omega)]
    obtain ⟨k, rfl⟩ : ∃ m, k = m + 1 := ⟨k - 1, by omega⟩
    have := ih k (i + 1) (x.add T[i]) (Box.ok_add hx hq) (by omega) (by omega)
    rw [List.drop_eq_getElem_cons hlt]
    simp only [Box.all, List.foldl]
    exact this
def Box.one (q : S32) : Box := ⟨q.f0, q.f1, q.f0, q.f1⟩
theorem Box.ok_one {q : S32} (h : Near q) : (Box.one q).ok := by unfold Box.one Box.ok Near at *; dsimp only; omega
def ans (T : List S32) (cell : Int) : Int × Int × Int × Int × Int × Int :=
  match T with
  | [] => (0, 0, 0, 0, 0, 3)
  | q :: r => if cell < 1 then (0, 0, 0, 0, 0, 3) else fin ((Box.one q).all (q :: r)) cell
theorem around_is (T : List S32) (cell : Int) (hT : ∀ q ∈ T, Near q) (hlen : T.length ≤ 40) : grid_Around.f 60 T cell = some (ans T cell) := by
  unfold grid_Around.f ans
  cases T with
  | nil => simp [grid_Around.j0]
  | cons q r =>
    have hn : (0 : Int) < ((q :: r).length : Int) := by simp
    rw [if_neg (by omega)]
    by_cases hc : cell < 1
    · simp [hc, grid_Around.j0]
    · simp only [hc, decide_false, grid_Around.j0, if_false, Bool.false_eq_true]
      rw [if_pos hn]
      have h0 : rd_T32 (q :: r) 0 = q := rd_at (T := q :: r) (i := 0) (by simp)
      rw [h0]
      exact loop_is cell (by omega) (q :: r) hT (by omega) (q :: r).length 58 0 (Box.one q) (Box.ok_one (hT q (by simp))) (by omega) (by simp at hlen ⊢; omega)
end Ga
end Go.Proofs.Ytdihefgleefhmaa
