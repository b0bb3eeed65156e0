/- The snake over all nodes of a grid, in plain Lean: each node lies a cell from the one ahead; what the walk of GridNodes holds between two rounds. -/
import Derived.Test.YtdihefgleefhmaaGnp
namespace Go.Proofs.Ytdihefgleefhmaa
open Go.RowKit Go.Shelf Go.Proofs.Ytdihefgleefhmaa.PGridArounds Go.Proofs.YtdihefgleefhmaaW.PrintWords
namespace Gn
open Gc
abbrev Pos (g : G) := { k : Nat // k < g.R * g.M }
def wasX (g : G) (pre : List (Pos g)) : Int := match pre.getLast? with | none => g.x - g.c | some k => sX g k.1
def wasY (g : G) (pre : List (Pos g)) : Int := match pre.getLast? with | none => g.y | some k => sY g k.1
def far2 (a b c d : Int) : Int := (if a - c < c - a then c - a else a - c) + b - d
theorem pos_bounds (g : G) (hg : g.ok) (k : Pos g) : k.1 / g.M < g.R ∧ 0 ≤ sC g.M k.1 ∧ sC g.M k.1 < g.M := by
  obtain ⟨a1, a2, a3, a4, a5, a6, a7, a8, a9, a10⟩ := hg
  obtain ⟨k, hk⟩ := k
  have h1 : k / g.M < g.R := Nat.div_lt_of_lt_mul (by rw [Nat.mul_comm]; exact hk)
  have h2 : k % g.M < g.M := Nat.mod_lt _ (by omega)
  refine ⟨h1, ?_, ?_⟩ <;> (unfold sC; dsimp only; split <;> omega)
theorem xy_bounds (g : G) (hg : g.ok) (k : Pos g) : 0 ≤ sX g k.1 ∧ sX g k.1 ≤ 100000 ∧ 0 ≤ sY g k.1 ∧ sY g k.1 ≤ 100000 := by
  obtain ⟨h1, h2, h3⟩ := pos_bounds g hg k
  obtain ⟨a1, a2, a3, a4, a5, a6, a7, a8, a9, a10⟩ := hg
  obtain ⟨J, hJ⟩ : ∃ J, k.1 / g.M = J := ⟨_, rfl⟩
  unfold sX sY
  rw [hJ] at h1 ⊢
  have p1 : sC g.M k.1 * g.c ≤ 20 * 256 := Int.mul_le_mul (by omega) (by omega) (by omega) (by omega)
  have p2 : 0 ≤ sC g.M k.1 * g.c := Int.mul_nonneg (by omega) (by omega)
  have p3 : (J : Int) * g.c ≤ 20 * 256 := Int.mul_le_mul (by omega) (by omega) (by omega) (by omega)
  have p4 : 0 ≤ (J : Int) * g.c := Int.mul_nonneg (by omega) (by omega)
  omega
theorem was_bounds (g : G) (hg : g.ok) (pre : List (Pos g)) : -256 ≤ wasX g pre ∧ wasX g pre ≤ 100000 ∧ 0 ≤ wasY g pre ∧ wasY g pre ≤ 100000 := by
  unfold wasX wasY
  cases h : pre.getLast? with
  | none => obtain ⟨a1, a2, a3, a4, a5, a6, a7, a8, a9, a10⟩ := hg; dsimp only; omega
  | some k => have := xy_bounds g hg k; dsimp only; omega
theorem step_near (g : G) (hg : g.ok) (k : Nat) : far2 (sX g (k + 1)) (sY g (k + 1)) (sX g k) (sY g k) = g.c := by
  obtain ⟨a1, a2, a3, a4, a5, a6, a7, a8, a9, a10⟩ := hg
  have hM : 0 < g.M := by omega
  have hk := Nat.div_add_mod k g.M
  have hm := Nat.mod_lt k hM
  obtain ⟨j, t, hj, htd⟩ : ∃ j t, k / g.M = j ∧ k % g.M = t := ⟨_, _, rfl, rfl⟩
  rw [hj, htd] at hk
  rw [htd] at hm
  have hk' : k = j * g.M + t := by rw [Nat.mul_comm]; exact hk.symm
  by_cases ht : t + 1 < g.M
  · obtain ⟨d1, d2⟩ := div_mul_add (j := j) ht
    have e : k + 1 = j * g.M + (t + 1) := by omega
    have hd : (k + 1) / g.M = j := by rw [e]; exact d1
    have hd2 : (k + 1) % g.M = t + 1 := by rw [e]; exact d2
    unfold sX sY sC far2
    rw [hd, hd2, hj, htd]
    by_cases ho : j % 2 = 1
    · rw [if_pos ho, if_pos ho]
      have e1 : ((g.M : Int) - 1 - ((t + 1 : Nat) : Int)) * g.c = ((g.M : Int) - 1 - (t : Int)) * g.c - g.c := by
        rw [show ((g.M : Int) - 1 - ((t + 1 : Nat) : Int)) = ((g.M : Int) - 1 - (t : Int)) - 1 by omega, Int.sub_mul, Int.one_mul]
      rw [e1]
      split <;> omega
    · rw [if_neg ho, if_neg ho]
      have e1 : ((t + 1 : Nat) : Int) * g.c = (t : Int) * g.c + g.c := by
        rw [show ((t + 1 : Nat) : Int) = (t : Int) + 1 by omega, Int.add_mul, Int.one_mul]
      rw [e1]
      split <;> omega
  · obtain ⟨d1, d2⟩ := div_mul_add (j := j + 1) hM
    have e : k + 1 = (j + 1) * g.M + 0 := by rw [Nat.add_mul]; omega
    have hd : (k + 1) / g.M = j + 1 := by rw [e]; exact d1
    have hd2 : (k + 1) % g.M = 0 := by rw [e]; exact d2
    have e2 : ((j + 1 : Nat) : Int) * g.c = (j : Int) * g.c + g.c := by
      rw [show ((j + 1 : Nat) : Int) = (j : Int) + 1 by omega, Int.add_mul, Int.one_mul]
    have ht2 : (t : Int) = (g.M : Int) - 1 := by omega
    unfold sX sY sC far2
    rw [hd, hd2, hj, htd]
    by_cases ho : j % 2 = 1
    · rw [if_neg (by omega : ¬ (j + 1) % 2 = 1), if_pos ho, ht2]
      rw [show (g.M : Int) - 1 - ((g.M : Int) - 1) = ((0 : Nat) : Int) by omega, e2]
      split <;> omega
    · rw [if_pos (by omega : (j + 1) % 2 = 1), if_neg ho, ht2]
      rw [show (g.M : Int) - 1 - ((0 : Nat) : Int) = (g.M : Int) - 1 by omega, e2]
      split <;> omega
theorem first_near (g : G) (hg : g.ok) : far2 (sX g 0) (sY g 0) (g.x - g.c) g.y = g.c := by
  obtain ⟨a1, a2, a3, a4, a5, a6, a7, a8, a9, a10⟩ := hg
  unfold sX sY sC far2
  simp
  omega
theorem early (g : G) (k : Nat) (h : k < g.M) : sI g k = k := by
  unfold sI sC
  rw [Nat.div_eq_of_lt h, Nat.mod_eq_of_lt h]
  simp
theorem snake_law (g : G) (hg : g.ok) (pre : List (Pos g)) (x : Pos g) (h : (pre ++ [x]).map (·.1) <+: List.range (g.R * g.M)) :
    ((pre.length : Int) < g.M → sI g x.1 = pre.length) ∧ far2 (sX g x.1) (sY g x.1) (wasX g pre) (wasY g pre) = g.c := by
  obtain ⟨r, hr⟩ := h
  have hx : x.1 = pre.length := by
    have h1 : (List.range (g.R * g.M))[pre.length]? = some x.1 := by rw [← hr]; simp
    rw [List.getElem?_range] at h1
    · simpa using h1.symm
    · rcases Nat.lt_or_ge pre.length (g.R * g.M) with h | h
      · exact h
      · rw [List.getElem?_eq_none (by simpa using h)] at h1; cases h1
  refine ⟨fun h => by rw [hx]; exact early g _ (by omega), ?_⟩
  unfold wasX wasY
  cases hl : pre.getLast? with
  | none =>
    have : pre = [] := by simpa using hl
    subst this
    rw [hx]
    exact first_near g hg
  | some k =>
    have hne : pre ≠ [] := by rintro rfl; simp at hl
    have hpos : 0 < pre.length := List.length_pos_iff.2 hne
    have hk : k.1 = pre.length - 1 := by
      rw [List.getLast?_eq_getElem?] at hl
      have h1 : (List.range (g.R * g.M))[pre.length - 1]? = some k.1 := by
        rw [← hr, List.getElem?_append_left (by simp; omega), List.getElem?_map, List.getElem?_append_left (by omega), hl]; rfl
      rw [List.getElem?_range] at h1
      · simpa using h1.symm
      · rcases Nat.lt_or_ge (pre.length - 1) (g.R * g.M) with h | h
        · exact h
        · rw [List.getElem?_eq_none (by simpa using h)] at h1; cases h1
    dsimp only
    rw [hx, hk]
    have := step_near g hg (pre.length - 1)
    rwa [show pre.length - 1 + 1 = pre.length by omega] at this
end Gn
end Go.Proofs.Ytdihefgleefhmaa
