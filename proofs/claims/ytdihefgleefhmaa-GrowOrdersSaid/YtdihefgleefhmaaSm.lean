/- Are all numbers small? -/
import Derived.Test.YtdihefgleefhmaaQk
import Derived.Test.YtdihefgleefhmaaWd
namespace Go.Proofs.Ytdihefgleefhmaa
open Go.RowKit
namespace Qk
def smallB (x : Int) : Bool := decide (x < -1073741824) || decide (x > 1073741824)
theorem small_no {l : List Int} {k : Nat} (h : k < l.length) (hs : smallB l[k] = true) : (l.all fun x => !smallB x) = false := by
 rw [List.all_eq_false]
 exact ⟨l[k], List.getElem_mem h, by rw [hs]; simp⟩
set_option maxHeartbeats 1000000 in
theorem small_any (l : List Int) (g c : Nat) (w : World) (hl : l.length ≤ 1000) (hc : ∀ i (h : i < l.length), w.cell? ⟨g, i, none⟩ = some (.int .i64 l[i])) :
  Calls Try.prog 40 #[.slice (some ⟨g, 0, none⟩) l.length c] w fun e w' => e = .returned (.bool (l.all fun x => !smallB x)) ∧ w' = w := by
 have HC := Lib.hid hc
 obtain ⟨r, hr⟩ : ∃ r, (l.all fun x => !smallB x) = r := ⟨_, rfl⟩
 have HR := Lib.hid hr
 rw [hr]
 clear hc hr
 go_enter Try.func40, Try.ntmps40
 go_wp2
 go_loopw [7] (fun q wr => ∃ k : Nat, q = .int .i64 k ∧ k ≤ l.length ∧ Hid (∀ j (h : j < l.length), j < k → smallB l[j] = false) ∧ Hid (wr = w)) (fun q _ => l.length - (intOf q).toNat)
 case atStart => exact ⟨0, rfl, by omega, fun j _ hj => absurd hj (by omega), rfl⟩
 case round =>
  obtain ⟨k, rfl, hk, HE, HW⟩ := hrel
  have hw := HW.out
  subst hw
  clear HW
  by_cases hlt : k < l.length
  ·have k0 := HC.out k hlt
   obtain ⟨x, hx⟩ : ∃ x, l[k] = x := ⟨_, rfl⟩
   rw [hx] at k0
   have HX := Lib.hid hx
   clear hx
   by_cases h1 : x < -1073741824
   ·have HB : Hid (smallB x = true) := Lib.hid (by unfold smallB; simp; omega)
    go_wp2
    go_ret
    exact ⟨congrArg (fun q => Ending.returned (Value.bool q)) ((small_no hlt (by rw [HX.out]; exact HB.out)).symm.trans HR.out), rfl⟩
   ·by_cases h2 : 1073741824 < x
    ·have HB : Hid (smallB x = true) := Lib.hid (by unfold smallB; simp; omega)
     go_wp2
     go_ret
     exact ⟨congrArg (fun q => Ending.returned (Value.bool q)) ((small_no hlt (by rw [HX.out]; exact HB.out)).symm.trans HR.out), rfl⟩
    ·have HB : Hid (smallB x = false) := Lib.hid (by unfold smallB; simp; omega)
     go_wp2
     go_roundw
     case rel => exact ⟨k + 1, by go_num, by omega, fun j h hj => by rcases Nat.lt_succ_iff_lt_or_eq.1 hj with h' | h'; exact HE.out j h h'; subst h'; rw [HX.out]; exact HB.out, trivial⟩
     case measure => simp [intOf]; omega
  ·have hkl : k = l.length := by omega
   subst hkl
   have HB : Hid (r = true) := Lib.hid (by
    rw [← HR.out, List.all_eq_true]
    intro y hy
    obtain ⟨j, hj, rfl⟩ := List.mem_iff_getElem.1 hy
    rw [HE.out j hj hj]; rfl)
   go_wp2
   go_ret
   exact ⟨congrArg (fun q => Ending.returned (Value.bool q)) HB.out.symm, rfl⟩
end Qk
end Go.Proofs.Ytdihefgleefhmaa
/- Four points on a circle. -/
namespace Go.Proofs.Ytdihefgleefhmaa
open Go.RowKit
/-- the sign tells on which side of the circle through a, b, c a point lies. -/
def inc (a b c p : Pt) : Int := incDet (a.x - p.x) (a.y - p.y) (b.x - p.x) (b.y - p.y) (c.x - p.x) (c.y - p.y)
namespace Ci
open Wd Pr Qk
def quickOk (a p : Pt) : Prop := small (a.x - p.x) ∧ small (a.y - p.y)
theorem small_of {x : Int} (h : small x) : smallB x = false := by unfold small at h; unfold smallB; simp; omega
theorem small6 (x0 x1 x2 x3 x4 x5 : Int) (g t c : Nat) (w : World) (h : Blk w g t #[.int .i64 x0, .int .i64 x1, .int .i64 x2, .int .i64 x3, .int .i64 x4, .int .i64 x5]) (hs : small x0 ∧ small x1 ∧ small x2 ∧ small x3 ∧ small x4 ∧ small x5) :
  Calls Try.prog 40 #[.slice (some ⟨g, 0, none⟩) 6 c] w fun e w' => e = .returned (.bool true) ∧ w' = w := by
 have k := small_any [x0, x1, x2, x3, x4, x5] g c w (by simp) (fun i hi => h.cell i _ (by
  rcases (show i = 0 ∨ i = 1 ∨ i = 2 ∨ i = 3 ∨ i = 4 ∨ i = 5 by simp at hi; omega) with rfl | rfl | rfl | rfl | rfl | rfl <;> rfl))
 have e : ([x0, x1, x2, x3, x4, x5].all fun x => !smallB x) = true := by
  simp [small_of hs.1, small_of hs.2.1, small_of hs.2.2.1, small_of hs.2.2.2.1, small_of hs.2.2.2.2.1, small_of hs.2.2.2.2.2]
 rw [e] at k
 exact k
set_option maxHeartbeats 2000000 in
set_option maxRecDepth 100000 in
theorem circle_quick (a b c p : Pt) (w : World) (ha : a.near) (hb : b.near) (hc : c.near) (hp : p.near) (qa : quickOk a p) (qb : quickOk b p) (qc : quickOk c p) :
  Calls Try.prog 25 #[pv a, pv b, pv c, pv p] w fun e w' => e = .returned (.int .i64 (inc a b c p).sign) ∧ Below w.heap.size w w' := by
 obtain ⟨ax, ay⟩ := a
 obtain ⟨bx, bz⟩ := b
 obtain ⟨cx, cy⟩ := c
 obtain ⟨px, py⟩ := p
 simp only [inc, quickOk, small, Pt.near] at *
 have hQ := fun w => quick_any (ax - px) (ay - py) (bx - px) (bz - py) (cx - px) (cy - py) w qa.1 qa.2 qb.1 qb.2 qc.1 qc.2
 generalize (incDet (ax - px) (ay - py) (bx - px) (bz - py) (cx - px) (cy - py)).sign = r at hQ ⊢
 have HQ := Lib.hid hQ
 have HSM : Hid (small (ax - px) ∧ small (ay - py) ∧ small (bx - px) ∧ small (bz - py) ∧ small (cx - px) ∧ small (cy - py)) := ⟨qa.1, qa.2, qb.1, qb.2, qc.1, qc.2⟩
 clear hQ
 have w1 := wrap_in (ax - px) (by omega) (by omega)
 have w2 := wrap_in (ay - py) (by omega) (by omega)
 have w3 := wrap_in (bx - px) (by omega) (by omega)
 have w4 := wrap_in (bz - py) (by omega) (by omega)
 have w5 := wrap_in (cx - px) (by omega) (by omega)
 have w6 := wrap_in (cy - py) (by omega) (by omega)
 go_enter Try.func25, Try.ntmps25
 go_upto_region 1 with (fail)
 simp only [Nat.add_assoc, Nat.reduceAdd]
 have hA := (((Blk.new w 32 #[.int .i64 ax, .int .i64 ay]).alloc (.cells #[.int .i64 bx, .int .i64 bz] 32)).alloc (.cells #[.int .i64 cx, .int .i64 cy] 32)).alloc (.cells #[.int .i64 px, .int .i64 py] 32)
 have hB := ((Blk.new' (n := w.heap.size + 1) (w.alloc (.cells #[.int .i64 ax, .int .i64 ay] 32)) 32 #[.int .i64 bx, .int .i64 bz] (by simp)).alloc (.cells #[.int .i64 cx, .int .i64 cy] 32)).alloc (.cells #[.int .i64 px, .int .i64 py] 32)
 have hC := (Blk.new' (n := w.heap.size + 2) ((w.alloc (.cells #[.int .i64 ax, .int .i64 ay] 32)).alloc (.cells #[.int .i64 bx, .int .i64 bz] 32)) 32 #[.int .i64 cx, .int .i64 cy] (by simp)).alloc (.cells #[.int .i64 px, .int .i64 py] 32)
 have hP := Blk.new' (n := w.heap.size + 3) (((w.alloc (.cells #[.int .i64 ax, .int .i64 ay] 32)).alloc (.cells #[.int .i64 bx, .int .i64 bz] 32)).alloc (.cells #[.int .i64 cx, .int .i64 cy] 32)) 32 #[.int .i64 px, .int .i64 py] (by simp)
 have HB := Lib.hid (bel_alloc (bel_alloc (bel_alloc (bel_alloc (bel_refl w) (.cells #[.int .i64 ax, .int .i64 ay] 32)) (.cells #[.int .i64 bx, .int .i64 bz] 32)) (.cells #[.int .i64 cx, .int .i64 cy] 32)) (.cells #[.int .i64 px, .int .i64 py] 32))
 obtain ⟨W, hW⟩ : ∃ W, (((w.alloc (.cells #[.int .i64 ax, .int .i64 ay] 32)).alloc (.cells #[.int .i64 bx, .int .i64 bz] 32)).alloc (.cells #[.int .i64 cx, .int .i64 cy] 32)).alloc (.cells #[.int .i64 px, .int .i64 py] 32) = W := ⟨_, rfl⟩
 rw [hW] at hA hB hC hP HB ⊢
 clear hW
 have k0 := hA.cells 0 (.int .i64 ax) rfl
 have k1 := hA.cells 1 (.int .i64 ay) rfl
 have k2 := hB.cells 0 (.int .i64 bx) rfl
 have k3 := hB.cells 1 (.int .i64 bz) rfl
 have k4 := hC.cells 0 (.int .i64 cx) rfl
 have k5 := hC.cells 1 (.int .i64 cy) rfl
 have k6 := hP.cells 0 (.int .i64 px) rfl
 have k7 := hP.cells 1 (.int .i64 py) rfl
 clear hA hB hC hP ha hb hc hp qa qb qc
 refine Go.Gq.region (by kernel_rfl) (by kernel_rfl) ?_
 repeat (go_big_quiet_step ((fail)))
 refine wpQuiet_nil ?_
 intro wx hw'
 have HX := Lib.hid (Go.Gq.later_bel hw')
 clear hw' k0 k1 k2 k3 k4 k5 k6 k7 w1 w2 w3 w4 w5 w6
 generalize ax - px = x0 at *
 generalize ay - py = x1 at *
 generalize bx - px = x2 at *
 generalize bz - py = x3 at *
 generalize cx - px = x4 at *
 generalize cy - py = x5 at *
 go_wp2_with (first | (go_at_call 40; refine (small6 x0 x1 x2 x3 x4 x5 _ _ 6 _ (Blk.new _ _ _) HSM.out).mono ?_; rintro e w2 ⟨rfl, rfl⟩) | (go_at_call 41; refine (HQ.out _).mono ?_; rintro e w3 ⟨rfl, hb⟩; have HB3 := Lib.hid hb; clear hb))
 go_ret
 exact ⟨rfl, bel_step (bel_alloc (bel_step HB.out HX.out) _) HB3.out⟩
end Ci
end Go.Proofs.Ytdihefgleefhmaa
