/- What the law GridNodes asks of the grid, in plain Lean, and its callees' contracts. -/
import Derived.Test.YtdihefgleefhmaaGns
import Derived.Test.YtdihefgleefhmaaGq
namespace Go.Proofs.Ytdihefgleefhmaa
open Go.RowKit Go.Shelf Go.Proofs.Ytdihefgleefhmaa.PGridArounds Go.Proofs.YtdihefgleefhmaaW.PrintWords Go.Proofs.YtdihefgleefhmaaW.PrintLast Go.Proofs.YtdihefgleefhmaaW.PrintMore
attribute [local go_sem] max2_int min2_int max_two min_two max_three min_three max_four min_four
attribute [local go_sem] Oper.semAt_some
namespace Gn
attribute [local go_sem] Gn.wide_fn Gn.wide_depth
open Gc
theorem bits_low (x : Int) : 0 ≤ bits BinOp.and IntKind.i64 x 65535 ∧ bits BinOp.and IntKind.i64 x 65535 ≤ 65535 := by
  have h : ((BitVec.ofInt 64 x) &&& (BitVec.ofInt 64 65535)).toNat ≤ 65535 := by
    rw [BitVec.toNat_and]
    exact Nat.le_trans Nat.and_le_right (by decide)
  have e : bits BinOp.and IntKind.i64 x 65535 = IntKind.i64.wrap (((BitVec.ofInt 64 x) &&& (BitVec.ofInt 64 65535)).toNat : Int) := rfl
  rw [e]
  generalize ((BitVec.ofInt 64 x) &&& (BitVec.ofInt 64 65535)).toNat = k at h
  have e2 : IntKind.i64.wrap (k : Int) = k := by
    simp [IntKind.wrap, IntKind.bits, IntKind.signed]; omega
  rw [e2]; omega
theorem near (f c : Int) (n : Nat) (h0 : 0 ≤ f) (h1 : f ≤ 65535) (hc2 : c ≤ 256) (hn : n ≤ 20) : farB f c ((n : Int) - 1) = false := by
  unfold farB
  rw [decide_eq_false_iff_not]
  rintro (h | h | ⟨h2, h3⟩)
  · omega
  · omega
  · rw [Int.ediv_lt_iff_lt_mul h2] at h3
    have : c * ((n : Int) - 1) ≤ 256 * 19 := Int.mul_le_mul hc2 (by omega) (by omega) (by omega)
    omega
theorem check_ok (g : G) (hg : g.ok) (w : World) : Calls Try.prog 11 #[g.v] w fun e w' => e = .returned (.int .i64 0) ∧ Below w.heap.size w w' := by
  obtain ⟨a1, a2, a3, a4, a5, a6, a7, a8, a9, a10⟩ := hg
  refine check_any g.x g.y g.c g.M g.R (by omega) (by omega) (by omega) (by omega) 0 ?_ w
  unfold want
  rw [if_neg (by omega), if_neg ?_, if_neg]
  · rw [near g.x g.c g.M a1 a2 a6 a8, near g.y g.c g.R a3 a4 a6 a10]; simp
  · rw [Int.ediv_lt_iff_lt_mul (by omega)]
    have : (g.M : Int) * g.R ≤ 20 * 20 := Int.mul_le_mul (by omega) (by omega) (by omega) (by omega)
    omega
theorem len_ok (g : G) (hg : g.ok) (w : World) : Calls Try.prog 14 #[g.v] w fun e w' => e = .returned (.int .i64 (g.M * g.R)) ∧ Below w.heap.size w w' := by
  obtain ⟨a1, a2, a3, a4, a5, a6, a7, a8, a9, a10⟩ := hg
  refine grid_Grid_Len.calls g.x g.y g.c g.M g.R _ w ?_
  have : (g.M : Int) * g.R ≤ 20 * 20 := Int.mul_le_mul (by omega) (by omega) (by omega) (by omega)
  have h0 : 0 ≤ (g.M : Int) * g.R := Int.mul_nonneg (by omega) (by omega)
  unfold grid_Grid_Len.f
  rw [w64 (by omega) (by omega)]
theorem the_grid (x y u v t : Int) (hu : 0 ≤ u) (hu2 : u ≤ 255) :
    ∃ g : G, g.ok ∧ bits BinOp.and IntKind.i64 x 65535 = g.x ∧ bits BinOp.and IntKind.i64 y 65535 = g.y ∧ 1 + u = g.c ∧ 1 + v % 20 = g.M ∧ 1 + t % 20 = g.R := by
  have h1 := bits_low x
  have h2 := bits_low y
  refine ⟨⟨bits BinOp.and IntKind.i64 x 65535, bits BinOp.and IntKind.i64 y 65535, 1 + u, (1 + v % 20).toNat, (1 + t % 20).toNat⟩, ?_, rfl, rfl, rfl, ?_, ?_⟩
  · unfold G.ok; dsimp only; omega
  · dsimp only; omega
  · dsimp only; omega
theorem Holds.cells' {g : G} {b : Nat} {W : World} (h : Holds g b W) : (∀ u : Gq.Later W, u.w.cell? ⟨b, 0, none⟩ = some (.int .i64 g.x)) ∧ (∀ u : Gq.Later W, u.w.cell? ⟨b, 1, none⟩ = some (.int .i64 g.y)) ∧ (∀ u : Gq.Later W, u.w.cell? ⟨b, 2, none⟩ = some (.int .i64 g.c)) ∧ (∀ u : Gq.Later W, u.w.cell? ⟨b, 3, none⟩ = some (.int .i64 g.M)) ∧ (∀ u : Gq.Later W, u.w.cell? ⟨b, 4, none⟩ = some (.int .i64 g.R)) :=
  ⟨Gq.Later.cell h.cells.1, Gq.Later.cell h.cells.2.1, Gq.Later.cell h.cells.2.2.1, Gq.Later.cell h.cells.2.2.2.1, Gq.Later.cell h.cells.2.2.2.2⟩
end Gn
end Go.Proofs.Ytdihefgleefhmaa
