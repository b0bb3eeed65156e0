/- What only reads a mesh: At, Real, place. -/
import Derived.Test.YtdihefgleefhmaaMe
namespace Go.Proofs.Ytdihefgleefhmaa
open Go.RowKit
namespace Mr
open Wd Pr
theorem at_any (M : Mesh) (b : Nat) (v : Nat) (w : World) (h : MeshR w b M) (hv : v < M.at_.length) :
    Calls Try.prog 23 #[.pointer (some ⟨b, 0, none⟩), .int .i64 v] w fun e w' => e = .returned (.int .i64 (iat M.at_ v)) ∧ w = w' := by
  obtain ⟨gp, cp, gt, ct, ga, ca, fV, h⟩ := h
  have k := h.head.cell 3 _ rfl
  have k2 := h.at_ v hv
  clear h
  go_enter Try.func23, Try.ntmps23
  go_wp2
  go_ret
  exact ⟨rfl, rfl⟩
/-- is there a real triangle of that number? -/
def realB (M : Mesh) (t : Int) : Bool := decide (0 ≤ t ∧ t < M.tris.length) && (decide (0 ≤ (tat M.tris t.toNat).v0) && decide (0 ≤ (tat M.tris t.toNat).v1) && decide (0 ≤ (tat M.tris t.toNat).v2))
theorem real_any (M : Mesh) (b : Nat) (t : Int) (w : World) (h : MeshR w b M) :
    Calls Try.prog 39 #[.pointer (some ⟨b, 0, none⟩), .int .i64 t] w fun e w' => e = .returned (.bool (realB M t)) ∧ Below w.heap.size w w' := by
  obtain ⟨gp, cp, gt, ct, ga, ca, fV, h⟩ := h
  have k := h.head.cell 1 _ rfl
  by_cases h1 : t < 0
  · have e : realB M t = false := by unfold realB; rw [decide_eq_false (by omega)]; rfl
    rw [e]
    clear h e
    go_enter Try.func39, Try.ntmps39
    go_wp2
    go_ret
    exact ⟨rfl, bel_refl _⟩
  obtain ⟨i, rfl⟩ := Int.eq_ofNat_of_zero_le (Int.not_lt.mp h1)
  by_cases h2 : i < M.tris.length
  · have e : realB M (i : Int) = (decide (0 ≤ (tat M.tris i).v0) && decide (0 ≤ (tat M.tris i).v1) && decide (0 ≤ (tat M.tris i).v2)) := by unfold realB; rw [decide_eq_true (by omega)]; rfl
    rw [e]
    obtain ⟨t0, t1, t2, _, _, _, _, _, _⟩ := h.tris i h2
    clear h e
    generalize (tat M.tris i).v0 = x0 at *
    generalize (tat M.tris i).v1 = x1 at *
    generalize (tat M.tris i).v2 = x2 at *
    cases c0 : decide (0 ≤ x0)
    · go_enter Try.func39, Try.ntmps39
      go_wp2
      go_ret
      exact ⟨rfl, bel_alloc (bel_refl _) _⟩
    cases c1 : decide (0 ≤ x1)
    · go_enter Try.func39, Try.ntmps39
      go_wp2
      go_ret
      exact ⟨rfl, bel_alloc (bel_refl _) _⟩
    go_enter Try.func39, Try.ntmps39
    go_wp2
    go_ret
    exact ⟨rfl, bel_alloc (bel_refl _) _⟩
  · have e : realB M (i : Int) = false := by unfold realB; rw [decide_eq_false (by omega)]; rfl
    rw [e]
    clear h e
    go_enter Try.func39, Try.ntmps39
    go_wp2
    go_ret
    exact ⟨rfl, bel_refl _⟩
/-- where a point stands in a triangle; below 0: nowhere. -/
def place (t : Tri) (v : Int) : Int := if t.v0 = v then 0 else if t.v1 = v then 1 else if t.v2 = v then 2 else -1
theorem place_any (t : Tri) (v : Int) (w : World) :
    Calls Try.prog 61 #[tv t, .int .i64 v] w fun e w' => e = .returned (.int .i64 (place t v)) ∧ Below w.heap.size w w' := by
  obtain ⟨v0, v1, v2, n0, n1, n2, f0, f1, f2⟩ := t
  have hB := Blk.new w 61 #[.int .i64 v0, .int .i64 v1, .int .i64 v2, .int .i64 n0, .int .i64 n1, .int .i64 n2, .bool f0, .bool f1, .bool f2]
  have hI := Try.slices_Index_int w.heap.size 0 3 3 [v0, v1, v2] v (w.alloc (.cells #[.int .i64 v0, .int .i64 v1, .int .i64 v2, .int .i64 n0, .int .i64 n1, .int .i64 n2, .bool f0, .bool f1, .bool f2] 61)) (by simp) (by omega) (by
    intro j hj
    match j, hj with
    | 0, _ => exact hB.cell 0 _ rfl
    | 1, _ => exact hB.cell 1 _ rfl
    | 2, _ => exact hB.cell 2 _ rfl
    | j + 3, hj => simp at hj; omega)
  have e : (Lib.idxOf ([v0, v1, v2].take 3) v : Int) = place ⟨v0, v1, v2, n0, n1, n2, f0, f1, f2⟩ v := by
    unfold place
    simp only [Lib.idxOf, Lib.idxFrom, List.take_succ_cons, List.take_zero]
    split <;> (try split) <;> (try split) <;> simp_all
  rw [e] at hI
  have HI := Lib.hid hI
  clear hI e hB
  go_enter Try.func61, Try.ntmps61
  go_wp2_with (go_at_call 86; refine HI.out.mono ?_; rintro e w1 ⟨rfl, rfl⟩)
  go_ret
  exact ⟨rfl, bel_alloc (bel_refl _) _⟩
end Mr
end Go.Proofs.Ytdihefgleefhmaa
