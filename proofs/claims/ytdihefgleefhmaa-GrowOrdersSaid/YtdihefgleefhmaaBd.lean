/- Build: a mesh of points. -/
import Derived.Test.YtdihefgleefhmaaIs
import Derived.Test.YtdihefgleefhmaaNw
import Derived.Test.YtdihefgleefhmaaBa
namespace Go.Proofs.Ytdihefgleefhmaa
open Go.RowKit
/-- a point comes into a mesh, and another mesh is left, whatever else there is. -/
def InsGood (M : Mesh) (v : Nat) (fr : Int) (M' : Mesh) : Prop := ∀ (F0 : Nat → Prop) (B b : Nat) (w : World), MeshF F0 B w b M → (∀ k, F0 k → k < w.heap.size) → B ≤ w.heap.size →
 Calls Try.prog 33 #[.pointer (some ⟨b, 0, none⟩), .int .i64 v, .int .i64 fr] w fun e w' => e = .returned (.bool true) ∧ MeshF F0 B w' b M' ∧ Below B w w' ∧ Same F0 w w'
/-- what Build hands back where the points don't lie on a line. -/
structure Grown (l : List Pt) (bs cs : Nat) (Ms : Nat → Mesh) (La : Nat → Nat) : Prop where
 m0 : Ms 0 = newMesh l 0 bs cs
 l0 : La 0 = 0
 same : ∀ v, v < l.length → (v = 0 ∨ v = bs ∨ v = cs) → Ms (v + 1) = Ms v ∧ La (v + 1) = La v
 step : ∀ v, v < l.length → ¬ (v = 0 ∨ v = bs ∨ v = cs) → InsGood (Ms v) v (iat (Ms v).at_ (La v)) (Ms (v + 1)) ∧ La (v + 1) = v
 read : ∀ v, v < l.length → 0 < (Ms v).pts.length ∧ 0 < (Ms v).tris.length ∧ La v < (Ms v).at_.length
namespace Bd
open Wd Pr
set_option maxHeartbeats 2000000 in
set_option maxRecDepth 100000 in
theorem build_none (g c : Nat) (l : List Pt) (w : World) (hP : PtsAt w g l) (hn : nearAll l) (hb : baseOf l = none) :
  Calls Try.prog 20 #[.slice (some ⟨g, 0, none⟩) l.length c] w fun e w' => e = .returned (.tuple #[.pointer none, .bool false]) ∧ Below w.heap.size w w' := by
 have h1 := Ba.base_at g c l w hP hn
 rw [hb] at h1
 simp only [baseV] at h1
 have H1 := Lib.hid h1
 clear h1 hb hP hn
 generalize l.length = n at *
 go_enter Try.func20, Try.ntmps20
 go_wp2_with (go_at_call 27; refine H1.out.mono ?_; rintro e w1 ⟨rfl, hb1⟩; have HB1 := Lib.hid hb1; clear hb1)
 refine bodyPost_ret (v := .tuple #[.pointer none, .bool false]) (by simp [results, Try.results20, go_sem]) rfl ⟨rfl, bel_alloc HB1.out _⟩
theorem far_of {F : Nat → Prop} {B B' : Nat} {W : World} {b : Nat} {M : Mesh} (h : MeshAt B W b M) (hF : ∀ k, F k → k < B) (hB : B' ≤ B) : MeshF F B' W b M := by
 obtain ⟨pV, tV, fV, aV, h⟩ := h
 refine ⟨pV, tV, fV, aV, ⟨h.head, Nat.le_trans hB h.le, Iq.own_base h.pts hB, Iq.own_base h.tris hB, Iq.own_base h.free hB, Iq.own_base h.at_ hB, h.apart⟩, fun hb => ?_, fun g hg hb => ?_⟩
 ·have := hF b hb; have := h.le; omega
 ·have := hF g hb
  rcases hg with hg | hg | hg | hg
  ·have := (h.pts.lt g hg).1; omega
  ·have := (h.tris.lt g hg).1; omega
  ·have := (h.free.lt g hg).1; omega
  ·have := (h.at_.lt g hg).1; omega
/-- the three numbers, and the mesh. -/
structure BuildS (w W : World) (lb mb : Nat) (bs cs : Nat) (M : Mesh) : Prop where
 mesh : MeshF (fun k => k = lb) w.heap.size W mb M
 lV : Blk W lb 58 #[.int .i64 0, .int .i64 bs, .int .i64 cs]
 bel : Below w.heap.size w W
theorem BuildS.call {w W W' : World} {lb mb bs cs : Nat} {M M' : Mesh} (h : BuildS w W lb mb bs cs M) (hm : MeshF (fun k => k = lb) w.heap.size W' mb M') (hb : Below w.heap.size W W') (hs : Same (fun k => k = lb) W W') : BuildS w W' lb mb bs cs M' :=
 ⟨hm, (hs lb rfl).trans h.lV, h.bel.trans hb⟩
set_option maxHeartbeats 2000000 in
set_option maxRecDepth 100000 in
theorem build_some (g c : Nat) (l : List Pt) (w : World) (hP : PtsAt w g l) (hn : nearAll l) (bs cs : Nat) (hb : baseOf l = some (bs, cs)) (h0 : 0 < l.length) (hbl : bs < l.length) (hcl : cs < l.length) (hl9 : l.length ≤ 1000000000) (ho : ori (pat l 0) (pat l bs) (pat l cs) ≠ 0) (Ms : Nat → Mesh) (La : Nat → Nat) (hG : Grown l bs cs Ms La) :
  Calls Try.prog 20 #[.slice (some ⟨g, 0, none⟩) l.length c] w fun e w' => ∃ mb : Nat, e = .returned (.tuple #[.pointer (some ⟨mb, 0, none⟩), .bool true]) ∧ MeshAt w.heap.size w' mb (Ms l.length) ∧ Below w.heap.size w w' := by
 have h1 := Ba.base_at g c l w hP hn
 rw [hb] at h1
 simp only [baseV] at h1
 have hnw := fun u (hb : Below w.heap.size w u) => Nw.new_any g c l 0 bs cs u (hP.later hb) hn h0 hbl hcl hl9 ho
 have H1 := Lib.hid h1
 have HNW := Lib.hid hnw
 have HG := Lib.hid hG
 obtain ⟨n, hnn⟩ : ∃ n, l.length = n := ⟨_, rfl⟩
 have HL := Lib.hid hnn
 rw [hnn] at H1 HNW hbl hcl hl9 h0 ⊢
 clear h1 hb hP hn hnw hG ho hnn
 go_enter Try.func20, Try.ntmps20
 go_upto_region 4 with (go_at_call 27; refine H1.out.mono ?_; rintro e w1 ⟨rfl, hb1⟩; have HB1 := Lib.hid hb1; clear hb1)
 have hb2 := bel_alloc HB1.out (.cells #[.int .i64 0, .int .i64 bs, .int .i64 cs] 58)
 have hl2 := Blk.new w1 58 #[.int .i64 0, .int .i64 bs, .int .i64 cs]
 have hlt := hl2.lt
 have hsz := HB1.out.size
 clear H1 HB1
 generalize w1.alloc (.cells #[.int .i64 0, .int .i64 bs, .int .i64 cs] 58) = W2 at *
 generalize w1.heap.size = lb at *
 have hn2 : Calls Try.prog 32 #[.slice (some ⟨g, 0, none⟩) n c, .int .i64 0, .int .i64 bs, .int .i64 cs] W2 fun e w' => ∃ mb : Nat, e = .returned (.tuple #[.pointer (some ⟨mb, 0, none⟩), .bool true]) ∧ MeshAt W2.heap.size w' mb (newMesh l 0 bs cs) ∧ Below W2.heap.size W2 w' := HNW.out W2 hb2
 obtain ⟨q0, q1, q2, _, _, _⟩ := hl2.three
 have HN2 := Lib.hid hn2
 have HB2 := Lib.hid hb2
 have HL2 := Lib.hid hl2
 clear hn2 hb2 hl2 HNW
 go_upto_region 5 with (go_at_call 32; refine HN2.out.mono ?_; rintro e w3 ⟨mb, rfl, hm3, hb3⟩; have HM3 := Lib.hid hm3; have HB3 := Lib.hid hb3; clear hm3 hb3)
 have hS : BuildS w w3 lb mb bs cs (Ms 0) := ⟨by rw [HG.out.m0]; exact far_of HM3.out (fun k hk => by rw [hk]; exact hlt) HB2.out.size, HL2.out.later HB3.out, bel_step HB2.out HB3.out⟩
 have HS := Lib.hid hS
 obtain ⟨r0, r1, r2, _, _, _⟩ := hS.lV.three
 clear hS q0 q1 q2 HN2 HB2 HL2 HM3 HB3
 go_wp2
 go_loopw [8, 32] (fun x y wr => ∃ v : Nat, y = .int .i64 v ∧ x = .int .i64 (La v : Nat) ∧ v ≤ n ∧ Hid (BuildS w wr lb mb bs cs (Ms v))) (fun _ y _ => n - (intOf y).toNat)
 case atStart => exact ⟨0, rfl, by rw [HG.out.l0]; rfl, Nat.zero_le _, HS⟩
 case round =>
  obtain ⟨v, rfl, rfl, hv, HV⟩ := hrel
  obtain ⟨r0, r1, r2, _, _, _⟩ := HV.out.lV.three
  by_cases hlt2 : v < n
  ·have v1 : (v : Int) < (n : Int) := by omega
   have hvl : v < l.length := by have := HL.out; omega
   by_cases e0 : v = 0
   ·obtain ⟨hs1, hs2⟩ := HG.out.same v hvl (.inl e0)
    have HS1 := Lib.hid hs1
    have HS2 := Lib.hid hs2
    have b0 : ((v : Int) != 0) = false := by simp [e0]
    clear hs1 hs2 e0
    go_wp2
    go_roundw
    case rel => exact ⟨v + 1, by go_num, by rw [HS2.out], by omega, Lib.hid (by rw [HS1.out]; exact HV.out)⟩
    case measure => simp [intOf]; omega
   ·have b0 : ((v : Int) != 0) = true := by simp; omega
    by_cases e1 : v = bs
    ·obtain ⟨hs1, hs2⟩ := HG.out.same v hvl (.inr (.inl e1))
     have HS1 := Lib.hid hs1
     have HS2 := Lib.hid hs2
     have b1 : ((v : Int) != (bs : Int)) = false := by simp [e1]
     clear hs1 hs2 e0 e1
     go_wp2
     go_roundw
     case rel => exact ⟨v + 1, by go_num, by rw [HS2.out], by omega, Lib.hid (by rw [HS1.out]; exact HV.out)⟩
     case measure => simp [intOf]; omega
    ·have b1 : ((v : Int) != (bs : Int)) = true := by simp; omega
     by_cases e2 : v = cs
     ·obtain ⟨hs1, hs2⟩ := HG.out.same v hvl (.inr (.inr e2))
      have HS1 := Lib.hid hs1
      have HS2 := Lib.hid hs2
      have b2 : ((v : Int) != (cs : Int)) = false := by simp [e2]
      clear hs1 hs2 e0 e1 e2
      go_wp2
      go_roundw
      case rel => exact ⟨v + 1, by go_num, by rw [HS2.out], by omega, Lib.hid (by rw [HS1.out]; exact HV.out)⟩
      case measure => simp [intOf]; omega
     ·have b2 : ((v : Int) != (cs : Int)) = true := by simp; omega
      obtain ⟨hs1, hs2⟩ := HG.out.step v hvl (by rintro (h | h | h) <;> contradiction)
      obtain ⟨k1, k2, k3⟩ := HG.out.read v hvl
      have hat := Mr.at_any (Ms v) mb (La v) wr (HV.out.mesh.at_.read k1 k2 (by omega)) k3
      have hin := hs1 (fun k => k = lb) w.heap.size mb wr HV.out.mesh (fun k hk => by rw [hk]; exact HV.out.lV.lt) HV.out.bel.size
      have HAT := Lib.hid hat
      have HIN := Lib.hid hin
      have HS2 := Lib.hid hs2
      clear hs1 hs2 k1 k2 k3 hat hin e0 e1 e2
      generalize iat (Ms v).at_ (La v) = fr at *
      go_wp2_with (first
       | (go_at_call 23; refine HAT.out.mono ?_; rintro e w4 ⟨rfl, hw4⟩; obtain rfl := hw4)
       | (go_at_call 33; refine HIN.out.mono ?_; rintro e w5 ⟨rfl, hm5, hb5, hs5⟩; have HS5 := Lib.hid (HV.out.call hm5 hb5 hs5); clear hm5 hb5 hs5))
      go_roundw
      case rel => exact ⟨v + 1, by go_num, by rw [HS2.out], by omega, HS5⟩
      case measure => simp [intOf]; omega
  ·have hvn : n = v := by omega
   subst hvn
   go_wp2
   refine bodyPost_ret (v := .tuple #[.pointer (some ⟨mb, 0, none⟩), .bool true]) (by simp [results, Try.results20, go_sem]) rfl ⟨mb, rfl, HV.out.mesh.at_, HV.out.bel⟩
end Bd
end Go.Proofs.Ytdihefgleefhmaa
