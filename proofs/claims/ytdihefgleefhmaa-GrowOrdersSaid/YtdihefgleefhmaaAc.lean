/- across: the triangle beyond an edge. -/
import Derived.Test.YtdihefgleefhmaaIt
namespace Go.Proofs.Ytdihefgleefhmaa
open Go.RowKit
/-- the corner that is neither a nor c. -/
def cornerNot (t : Tri) (a c : Int) (k : Nat) : Bool := t.v k != a && t.v k != c
def acrossOf (t : Tri) (a c : Int) : Int := if cornerNot t a c 0 then t.n 0 else if cornerNot t a c 1 then t.n 1 else if cornerNot t a c 2 then t.n 2 else -1
namespace Ac
theorem bne_i (a b : Int) : (a != b) = !(a == b) := rfl
set_option maxRecDepth 100000 in
set_option maxHeartbeats 1000000 in
theorem across_any (M : Mesh) (b t : Nat) (a c : Int) (w : World) (h : MeshR w b M) (htl : t < M.tris.length) :
  Calls Try.prog 83 #[.pointer (some ⟨b, 0, none⟩), .int .i64 t, .int .i64 a, .int .i64 c] w fun e w' => e = .returned (.int .i64 (acrossOf (tat M.tris t) a c)) ∧ Below w.heap.size w w' := by
 obtain ⟨gp, cp, gt, ct, ga, ca, fV, h⟩ := h
 have k1 := h.head.cell 1 (.slice (some ⟨gt, 0, none⟩) M.tris.length ct) rfl
 obtain ⟨t0, t1, t2, t3, t4, t5, t6, t7, t8⟩ := h.tris t htl
 have tt0 : (0 : Int) ≤ (t : Int) := by omega
 have tt1 : (t : Int) < (M.tris.length : Int) := by omega
 generalize tat M.tris t = T at *
 obtain ⟨r, hr⟩ : ∃ r, acrossOf T a c = r := ⟨_, rfl⟩
 have HR := Lib.hid hr
 rw [hr]
 clear hr h
 go_enter Try.func83, Try.ntmps83
 go_upto_region 2 with (fail)
 have hX := Blk.new w 61 #[.int .i64 T.v0, .int .i64 T.v1, .int .i64 T.v2, .int .i64 T.n0, .int .i64 T.n1, .int .i64 T.n2, .bool T.f0, .bool T.f1, .bool T.f2]
 have hB := bel_alloc (bel_refl w) (.cells #[.int .i64 T.v0, .int .i64 T.v1, .int .i64 T.v2, .int .i64 T.n0, .int .i64 T.n1, .int .i64 T.n2, .bool T.f0, .bool T.f1, .bool T.f2] 61)
 obtain ⟨U, hU⟩ : ∃ U, w.alloc (.cells #[.int .i64 T.v0, .int .i64 T.v1, .int .i64 T.v2, .int .i64 T.n0, .int .i64 T.n1, .int .i64 T.n2, .bool T.f0, .bool T.f1, .bool T.f2] 61) = U := ⟨_, rfl⟩
 rw [hU] at hX hB ⊢
 have HX := Lib.hid hX
 have HB := Lib.hid hB
 clear hX hB hU k1 t0 t1 t2 t3 t4 t5 t6 t7 t8
 go_wp2
 go_loopw [18] (fun q wr => ∃ k : Nat, q = .int .i64 k ∧ k ≤ 3 ∧ Hid (∀ j, j < k → cornerNot T a c j = false) ∧ Hid (U = wr)) (fun q _ => 3 - (intOf q).toNat)
 case atStart => exact ⟨0, rfl, by omega, fun j hj => absurd hj (by omega), rfl⟩
 case round =>
  obtain ⟨k, rfl, hk, HE, HU⟩ := hrel
  have hUe := HU.out
  subst hUe
  clear HU
  obtain ⟨y0, y1, y2, y3, y4, y5, _, _, _⟩ := Blk.all9 HX.out
  rcases (show k = 0 ∨ k = 1 ∨ k = 2 ∨ k = 3 by omega) with rfl | rfl | rfl | rfl
  ·obtain ⟨q1, hq1⟩ : ∃ q, (T.v0 != a) = q := ⟨_, rfl⟩
   obtain ⟨q2, hq2⟩ : ∃ q, (T.v0 != c) = q := ⟨_, rfl⟩
   have HQ : Hid (cornerNot T a c 0 = (q1 && q2)) := by
    show (T.v0 != a && T.v0 != c) = _
    rw [hq1, hq2]
   have hend : cornerNot T a c 0 = true → acrossOf T a c = T.n0 := by
    intro hh
    unfold acrossOf
    rw [if_pos hh]
    rfl
   have HEND := Lib.hid hend
   clear hend
   cases q1
   ·go_wp2
    go_roundw
    case rel => exact ⟨1, by go_num, by omega, fun j hj => by rcases Nat.lt_succ_iff_lt_or_eq.1 hj with h | h; exact HE.out j h; exact h ▸ HQ.out, trivial⟩
    case measure => simp [intOf]
   ·cases q2
    ·go_wp2
     go_roundw
     case rel => exact ⟨1, by go_num, by omega, fun j hj => by rcases Nat.lt_succ_iff_lt_or_eq.1 hj with h | h; exact HE.out j h; exact h ▸ HQ.out, trivial⟩
     case measure => simp [intOf]
    ·go_wp2
     go_ret
     exact ⟨congrArg (fun x => Ending.returned (Value.int .i64 x)) ((HEND.out HQ.out).symm.trans HR.out), HB.out⟩
  ·obtain ⟨q1, hq1⟩ : ∃ q, (T.v1 != a) = q := ⟨_, rfl⟩
   obtain ⟨q2, hq2⟩ : ∃ q, (T.v1 != c) = q := ⟨_, rfl⟩
   have HQ : Hid (cornerNot T a c 1 = (q1 && q2)) := by
    show (T.v1 != a && T.v1 != c) = _
    rw [hq1, hq2]
   have hend : cornerNot T a c 1 = true → acrossOf T a c = T.n1 := by
    intro hh
    unfold acrossOf
    rw [if_neg (by rw [HE.out 0 (by omega)]; simp), if_pos hh]
    rfl
   have HEND := Lib.hid hend
   clear hend
   cases q1
   ·go_wp2
    go_roundw
    case rel => exact ⟨2, by go_num, by omega, fun j hj => by rcases Nat.lt_succ_iff_lt_or_eq.1 hj with h | h; exact HE.out j h; exact h ▸ HQ.out, trivial⟩
    case measure => simp [intOf]
   ·cases q2
    ·go_wp2
     go_roundw
     case rel => exact ⟨2, by go_num, by omega, fun j hj => by rcases Nat.lt_succ_iff_lt_or_eq.1 hj with h | h; exact HE.out j h; exact h ▸ HQ.out, trivial⟩
     case measure => simp [intOf]
    ·go_wp2
     go_ret
     exact ⟨congrArg (fun x => Ending.returned (Value.int .i64 x)) ((HEND.out HQ.out).symm.trans HR.out), HB.out⟩
  ·obtain ⟨q1, hq1⟩ : ∃ q, (T.v2 != a) = q := ⟨_, rfl⟩
   obtain ⟨q2, hq2⟩ : ∃ q, (T.v2 != c) = q := ⟨_, rfl⟩
   have HQ : Hid (cornerNot T a c 2 = (q1 && q2)) := by
    show (T.v2 != a && T.v2 != c) = _
    rw [hq1, hq2]
   have hend : cornerNot T a c 2 = true → acrossOf T a c = T.n2 := by
    intro hh
    unfold acrossOf
    rw [if_neg (by rw [HE.out 0 (by omega)]; simp), if_neg (by rw [HE.out 1 (by omega)]; simp), if_pos hh]
    rfl
   have HEND := Lib.hid hend
   clear hend
   cases q1
   ·go_wp2
    go_roundw
    case rel => exact ⟨3, by go_num, by omega, fun j hj => by rcases Nat.lt_succ_iff_lt_or_eq.1 hj with h | h; exact HE.out j h; exact h ▸ HQ.out, trivial⟩
    case measure => simp [intOf]
   ·cases q2
    ·go_wp2
     go_roundw
     case rel => exact ⟨3, by go_num, by omega, fun j hj => by rcases Nat.lt_succ_iff_lt_or_eq.1 hj with h | h; exact HE.out j h; exact h ▸ HQ.out, trivial⟩
     case measure => simp [intOf]
    ·go_wp2
     go_ret
     exact ⟨congrArg (fun x => Ending.returned (Value.int .i64 x)) ((HEND.out HQ.out).symm.trans HR.out), HB.out⟩
  ·have hend : acrossOf T a c = -1 := by
    unfold acrossOf
    rw [if_neg (by rw [HE.out 0 (by omega)]; simp), if_neg (by rw [HE.out 1 (by omega)]; simp), if_neg (by rw [HE.out 2 (by omega)]; simp)]
   have HEND := Lib.hid hend
   clear hend
   go_wp2
   go_ret
   exact ⟨congrArg (fun x => Ending.returned (Value.int .i64 x)) (HEND.out.symm.trans HR.out), HB.out⟩
end Ac
end Go.Proofs.Ytdihefgleefhmaa
