/- Does a point lie strictly beyond an edge of a triangle? -/
import Derived.Test.YtdihefgleefhmaaMr
namespace Go.Proofs.Ytdihefgleefhmaa
open Go.RowKit
/-- all that is asked of a mesh's numbers by what reads it. -/
structure Mesh.ok (M : Mesh) : Prop where
  near : nearAll M.pts
  pts : M.pts.length ≤ 1000000000
  tris : M.tris.length ≤ 1000000000
  at_ : M.at_.length = M.pts.length
/-- twice the area of an edge's points, by numbers, and a third one. -/
def oriE (M : Mesh) (a b : Int) (p : Pt) : Int := ori (pat M.pts a.toNat) (pat M.pts b.toNat) p
def beyond (M : Mesh) (t : Tri) (i : Nat) (p : Pt) : Bool := decide (oriE M (t.v ((i + 1) % 3)) (t.v ((i + 2) % 3)) p < 0)
namespace By
open Wd Pr
theorem sign_lt (n : Int) : decide (n.sign < 0) = decide (n < 0) := by
  rw [Bool.eq_iff_iff]; simp [Int.sign_neg_iff]
set_option maxHeartbeats 1000000 in
set_option maxRecDepth 100000 in
theorem beyond_any (M : Mesh) (b : Nat) (t : Tri) (i : Nat) (p : Pt) (w : World) (h : MeshR w b M) (ho : M.ok) (hi : i < 3) (hp : p.near) (x y : Nat) (hx : t.v ((i + 1) % 3) = x) (hy : t.v ((i + 2) % 3) = y) (hxl : x < M.pts.length) (hyl : y < M.pts.length) :
    Calls Try.prog 79 #[.pointer (some ⟨b, 0, none⟩), tv t, .int .i64 i, pv p] w fun e w' => e = .returned (.bool (beyond M t i p)) ∧ Below w.heap.size w w' := by
  obtain ⟨gp, cp, gt, ct, ga, ca, fV, h⟩ := h
  have hO := fun w => orient_any (pat M.pts x) (pat M.pts y) p w (ho.near x) (ho.near y) hp
  have e : beyond M t i p = decide ((ori (pat M.pts x) (pat M.pts y) p).sign < 0) := by
    rw [sign_lt]
    unfold beyond oriE
    rw [hx, hy]
    rfl
  rw [e]
  clear e
  have h2 := h.later (bel_alloc (bel_alloc (bel_refl w) (.cells #[.int .i64 t.v0, .int .i64 t.v1, .int .i64 t.v2, .int .i64 t.n0, .int .i64 t.n1, .int .i64 t.n2, .bool t.f0, .bool t.f1, .bool t.f2] 61)) (.cells #[.int .i64 p.x, .int .i64 p.y] 32))
  generalize (ori (pat M.pts x) (pat M.pts y) p).sign = s at hO ⊢
  have HO := Lib.hid hO
  have B1 := (Blk.new w 61 #[.int .i64 t.v0, .int .i64 t.v1, .int .i64 t.v2, .int .i64 t.n0, .int .i64 t.n1, .int .i64 t.n2, .bool t.f0, .bool t.f1, .bool t.f2]).alloc (.cells #[.int .i64 p.x, .int .i64 p.y] 32)
  have B2 := Blk.new' (n := w.heap.size + 1) (w.alloc (.cells #[.int .i64 t.v0, .int .i64 t.v1, .int .i64 t.v2, .int .i64 t.n0, .int .i64 t.n1, .int .i64 t.n2, .bool t.f0, .bool t.f1, .bool t.f2] 61)) 32 #[.int .i64 p.x, .int .i64 p.y] (by simp)
  have HB := Lib.hid (bel_alloc (bel_alloc (bel_refl w) (.cells #[.int .i64 t.v0, .int .i64 t.v1, .int .i64 t.v2, .int .i64 t.n0, .int .i64 t.n1, .int .i64 t.n2, .bool t.f0, .bool t.f1, .bool t.f2] 61)) (.cells #[.int .i64 p.x, .int .i64 p.y] 32))
  clear hO h
  go_enter Try.func79, Try.ntmps79
  go_upto_region 1 with (fail)
  obtain ⟨W, hW⟩ : ∃ W, (w.alloc (.cells #[.int .i64 t.v0, .int .i64 t.v1, .int .i64 t.v2, .int .i64 t.n0, .int .i64 t.n1, .int .i64 t.n2, .bool t.f0, .bool t.f1, .bool t.f2] 61)).alloc (.cells #[.int .i64 p.x, .int .i64 p.y] 32) = W := ⟨_, rfl⟩
  rw [hW] at h2 B1 B2 HB ⊢
  clear hW
  have lx := Gq.Later.cell (h2.head.cell 0 (.slice (some ⟨gp, 0, none⟩) M.pts.length cp) rfl)
  have px0 := Gq.Later.cell (h2.pts x hxl).1
  have px1 := Gq.Later.cell (h2.pts x hxl).2
  have py0 := Gq.Later.cell (h2.pts y hyl).1
  have py1 := Gq.Later.cell (h2.pts y hyl).2
  have q0 := B2.cells 0 (.int .i64 p.x) rfl
  have q1 := B2.cells 1 (.int .i64 p.y) rfl
  have xi : (0 : Int) ≤ (x : Int) := by omega
  have xi1 : (x : Int) < (M.pts.length : Int) := by omega
  have yi : (0 : Int) ≤ (y : Int) := by omega
  have yi1 : (y : Int) < (M.pts.length : Int) := by omega
  rcases (show i = 0 ∨ i = 1 ∨ i = 2 by omega) with rfl | rfl | rfl
  · have r0 : ∀ u : Gq.Later W, u.w.cell? ⟨w.heap.size, 1, none⟩ = some (.int .i64 x) := hx ▸ B1.cells 1 (.int .i64 t.v1) rfl
    have r1 : ∀ u : Gq.Later W, u.w.cell? ⟨w.heap.size, 2, none⟩ = some (.int .i64 y) := hy ▸ B1.cells 2 (.int .i64 t.v2) rfl
    clear hx hy h2 B1 B2
    refine Go.Gq.region (by kernel_rfl) (by kernel_rfl) ?_
    repeat (go_big_quiet_step ((go_at_call 28; exact Gq.call (HO.out _))))
    refine wpQuiet_nil ?_
    intro wx hw'
    have HX := Lib.hid (Go.Gq.later_bel hw')
    clear hw' lx px0 px1 py0 py1 q0 q1 r0 r1
    go_wp2
    go_ret
    exact ⟨rfl, bel_step HB.out HX.out⟩
  · have r0 : ∀ u : Gq.Later W, u.w.cell? ⟨w.heap.size, 2, none⟩ = some (.int .i64 x) := hx ▸ B1.cells 2 (.int .i64 t.v2) rfl
    have r1 : ∀ u : Gq.Later W, u.w.cell? ⟨w.heap.size, 0, none⟩ = some (.int .i64 y) := hy ▸ B1.cells 0 (.int .i64 t.v0) rfl
    clear hx hy h2 B1 B2
    refine Go.Gq.region (by kernel_rfl) (by kernel_rfl) ?_
    repeat (go_big_quiet_step ((go_at_call 28; exact Gq.call (HO.out _))))
    refine wpQuiet_nil ?_
    intro wx hw'
    have HX := Lib.hid (Go.Gq.later_bel hw')
    clear hw' lx px0 px1 py0 py1 q0 q1 r0 r1
    go_wp2
    go_ret
    exact ⟨rfl, bel_step HB.out HX.out⟩
  · have r0 : ∀ u : Gq.Later W, u.w.cell? ⟨w.heap.size, 0, none⟩ = some (.int .i64 x) := hx ▸ B1.cells 0 (.int .i64 t.v0) rfl
    have r1 : ∀ u : Gq.Later W, u.w.cell? ⟨w.heap.size, 1, none⟩ = some (.int .i64 y) := hy ▸ B1.cells 1 (.int .i64 t.v1) rfl
    clear hx hy h2 B1 B2
    refine Go.Gq.region (by kernel_rfl) (by kernel_rfl) ?_
    repeat (go_big_quiet_step ((go_at_call 28; exact Gq.call (HO.out _))))
    refine wpQuiet_nil ?_
    intro wx hw'
    have HX := Lib.hid (Go.Gq.later_bel hw')
    clear hw' lx px0 px1 py0 py1 q0 q1 r0 r1
    go_wp2
    go_ret
    exact ⟨rfl, bel_step HB.out HX.out⟩
end By
end Go.Proofs.Ytdihefgleefhmaa
