/- stars: can the triangles of each point, and of Ghost, be gone round? -/
import Derived.Test.YtdihefgleefhmaaRd
import Derived.Carry
namespace Go.Proofs.Ytdihefgleefhmaa
open Go.RowKit
namespace St
open Sq Go.Maps
theorem CntMono {W : World} {b N N' : Nat} {f : Int → Int} (h : CntAt W b N f) (hN : N ≤ N') : CntAt W b N' f := by
 obtain ⟨n, D, h1, h2, h3⟩ := h
 exact ⟨n, D, h1, by omega, h3⟩
theorem StarS.mono {w W : World} {m1 m2 N N' : Nat} {f o : Int → Int} (h : StarS w W m1 m2 N f o) (hN : N ≤ N') : StarS w W m1 m2 N' f o := ⟨CntMono h.cnt hN, h.one, h.ne, h.bel, h.b1, h.b2⟩
set_option maxHeartbeats 4000000 in
set_option maxRecDepth 100000 in
theorem stars_any (M : Mesh) (b : Nat) (w : World) (h : MeshR w b M) (ho : M.ok) (hs : StarsOk M) :
  Calls Try.prog 36 #[.pointer (some ⟨b, 0, none⟩)] w fun e w' => e = .returned (.bool true) ∧ Below w.heap.size w w' := by
 obtain ⟨gp, cp, gt, ct, ga, ca, fV, h⟩ := h
 have T9 := ho.tris
 have P9 := ho.pts
 have A9 := ho.at_
 have H := Lib.hid h
 have HS := Lib.hid hs
 have HO := Lib.hid ho
 have hM1 := h.later (bel_alloc (bel_alloc (bel_refl w) (.map #[] 0)) (.map #[] 0))
 have hh := hM1.head.cell 1 (.slice (some ⟨gt, 0, none⟩) M.tris.length ct) rfl
 have hmm := @run_makeMap Try.prog
 obtain ⟨L, hL⟩ : ∃ L, M.tris.length = L := ⟨_, rfl⟩
 rw [hL] at T9 hh
 have HL := Lib.hid hL
 clear h hs ho hL hM1
 go_enter Try.func36, Try.ntmps36
 go_upto_region 2 with (fail)
 have hS : StarS w ((w.alloc (.map #[] 0)).alloc (.map #[] 0)) w.heap.size (w.heap.size + 1) 0 (cntM M 0) (oneM M 0) := by
  refine ⟨(CntAt.new w).later (bel_alloc (bel_refl _) _), ⟨[], ?_, fun v => rfl⟩, by omega, bel_alloc (bel_alloc (bel_refl w) _) _, Nat.le_refl _, by omega⟩
  have := MapAt.new (Value.int .i64) (Value.int .i64) (w.alloc (.map #[] 0)) (α := Int) (β := Int)
  rw [show (w.alloc (.map #[] 0)).heap.size = w.heap.size + 1 by simp] at this
  exact this
 have HSS := Lib.hid hS
 clear hS
 obtain ⟨m1, hm1⟩ : ∃ m, w.heap.size = m := ⟨_, rfl⟩
 generalize (w.alloc (.map #[] 0)).alloc (.map #[] 0) = W1 at *
 have HW : Hid (∀ W', Below w.heap.size w W' → MR W' b M gp cp gt ct ga ca fV) := Lib.hid fun W' hb => H.out.later hb
 rw [hm1] at HSS ⊢
 obtain ⟨m2, hm2⟩ : ∃ m, m1 + 1 = m := ⟨_, rfl⟩
 rw [hm2] at HSS ⊢
 clear hm1 hm2
 go_wp2
 go_loopw [20] (fun a wr => ∃ n : Nat, a = .int .i64 n ∧ n ≤ L ∧ Hid (StarS w wr m1 m2 (3 * n) (cntM M n) (oneM M n))) (fun a _ => L - (intOf a).toNat)
 case atStart => exact ⟨0, rfl, Nat.zero_le _, HSS⟩
 case round =>
  obtain ⟨n, rfl, hn, HN⟩ := hrel
  by_cases hlt : n < L
  ·have hM := HW.out wr HN.out.bel
   obtain ⟨e0, e1, e2, e3, e4, e5, e6, e7, e8⟩ := hM.tris n (by rw [HL.out]; exact hlt)
   have hvs := HS.out.vs n (by rw [HL.out]; exact hlt)
   have hcn : cntM M (n + 1) = bump (tat M.tris n) (cntM M n) 3 := rfl
   have hon : oneM M (n + 1) = mark (tat M.tris n) n (oneM M n) 3 := rfl
   have hcb := cnt_bound M n
   generalize tat M.tris n = T at *
   have HVS := Lib.hid hvs
   have HCN := Lib.hid hcn
   have HON := Lib.hid hon
   have HCB := Lib.hid hcb
   have n0 : (0 : Int) ≤ (n : Int) := by omega
   have n1 : (n : Int) < (L : Int) := by omega
   clear hM hvs hcn hon hcb
   go_upto_region 5 with (fail)
   have hS2 := HN.out.later (bel_alloc (bel_refl wr) (.cells #[.int .i64 T.v0, .int .i64 T.v1, .int .i64 T.v2, .int .i64 T.n0, .int .i64 T.n1, .int .i64 T.n2, .bool T.f0, .bool T.f1, .bool T.f2] 61))
   have hB2 := (Blk.new wr 61 #[.int .i64 T.v0, .int .i64 T.v1, .int .i64 T.v2, .int .i64 T.n0, .int .i64 T.n1, .int .i64 T.n2, .bool T.f0, .bool T.f1, .bool T.f2])
   obtain ⟨tb, htb⟩ : ∃ tb, wr.heap.size = tb := ⟨_, rfl⟩
   rw [htb] at hB2 ⊢
   clear htb e0 e1 e2 e3 e4 e5 e6 e7 e8
   generalize (wr.alloc (.cells #[.int .i64 T.v0, .int .i64 T.v1, .int .i64 T.v2, .int .i64 T.n0, .int .i64 T.n1, .int .i64 T.n2, .bool T.f0, .bool T.f1, .bool T.f2] 61)) = W2 at *
   obtain ⟨x0, x1, x2⟩ : W2.cell? ⟨tb, 0, none⟩ = some (.int .i64 T.v0) ∧ W2.cell? ⟨tb, 1, none⟩ = some (.int .i64 T.v1) ∧ W2.cell? ⟨tb, 2, none⟩ = some (.int .i64 T.v2) := ⟨hB2.cell 0 _ rfl, hB2.cell 1 _ rfl, hB2.cell 2 _ rfl⟩
   have HS2 := Lib.hid hS2
   clear hS2 hB2
   go_wp2
   go_loopw [27] (fun a wq => ∃ k : Nat, a = .int .i64 k ∧ k ≤ 3 ∧ Hid (StarS w wq m1 m2 (3 * n + k) (bump T (cntM M n) k) (mark T n (oneM M n) k))) (fun a _ => 3 - (intOf a).toNat)
   case atStart => exact ⟨0, rfl, by omega, HS2⟩
   case round =>
    obtain ⟨k, rfl, hk, HK⟩ := hrel
    rcases (show k = 0 ∨ k = 1 ∨ k = 2 ∨ k = 3 by omega) with rfl | rfl | rfl | rfl
    ·have ix : ∀ w, (Instr.index 58 (.agg #[.int .i64 T.v0, .int .i64 T.v1, .int .i64 T.v2]) (.int .i64 0)).run Try.prog w = .ok (.int .i64 T.v0) w := fun _ => by kernel_rfl
     have hb1 : bump T (cntM M n) 1 = if T.v0 = -2 then bump T (cntM M n) 0 else fun u => if u = T.v0 then bump T (cntM M n) 0 u + 1 else bump T (cntM M n) 0 u := rfl
     have hm1 : mark T n (oneM M n) 1 = if T.v0 = -2 then mark T n (oneM M n) 0 else fun u => if u = T.v0 then (n : Int) else mark T n (oneM M n) 0 u := rfl
     by_cases hg : T.v0 = -2
     ·have q1 : (T.v0 != -2) = false := by simp [hg]
      rw [if_pos hg] at hb1 hm1
      have HB1 := Lib.hid hb1
      have HM1 := Lib.hid hm1
      clear hb1 hm1 hg
      go_wp2
      go_roundw
      case rel => exact ⟨1, by go_num, by omega, Lib.hid (by rw [HB1.out, HM1.out]; exact StarS.mono HK.out (by omega))⟩
      case measure => simp [intOf]
     ·have q1 : (T.v0 != -2) = true := by simpa using hg
      rw [if_neg hg] at hb1 hm1
      have hwv : (Lit.int .i64 T.v0).wf = true := wf_of (by have := HVS.out 0 (by omega); simp only [Tri.v] at this; omega)
      have hbd := bump_bound T (cntM M n) (3 * n) HCB.out 0 T.v0
      have hlk := HK.out.cnt.look hwv
      have HB1 := Lib.hid hb1
      have HM1 := Lib.hid hm1
      clear hb1 hm1 hg
      obtain ⟨l, hl, hv⟩ := HK.out.one
      have HV := Lib.hid hv
      have HLm := Lib.hid hl
      clear hv hl
      obtain ⟨c, hc⟩ : ∃ c, bump T (cntM M n) 0 T.v0 = c := ⟨_, rfl⟩
      rw [hc] at hbd hlk
      have HC := Lib.hid hc
      have wc : IntKind.i64.wrap (c + 1) = c + 1 := IntWalk.i64_in _ (by omega)
      have HWV := Lib.hid hwv
      have hwc : (Lit.int .i64 (c + 1)).wf = true := wf_of (by omega)
      have HWC := Lib.hid hwc
      have hfe : (fun u => if u = T.v0 then c + 1 else bump T (cntM M n) 0 u) = bump T (cntM M n) 1 := by
       rw [HB1.out]
       funext u
       by_cases hu : u = T.v0
       ·simp [hu, HC.out]
       ·simp [hu]
      have HFE := Lib.hid hfe
      clear hc hwv hwc hfe
      go_upto_region 10 with (at_mapUpdate; refine wpList_cnt_put rfl _ rfl _ _ _ rfl m1 (3 * n + 0) rfl HK.out.cnt T.v0 (c + 1) rfl rfl HWV.out HWC.out (by omega) (by unfold maxLen; omega) ?_; intro w3 hc3 hg3; have HS3 := Lib.hid (HK.out.put1 hc3 hg3); have HL3 := Lib.hid (HLm.out.grown hg3 (fun e => HK.out.ne (Option.some.inj e).symm)); clear hc3 hg3)
      go_wp2_with (at_mapUpdate; refine wpList_map_put _ rfl _ _ _ 95 rfl Try.underlying95 (Mp.int_ok Try.underlying3) m2 rfl HL3.out T.v0 (n : Int) rfl rfl ?_; intro w4 hl4 hg4; have HS4 := Lib.hid (HS3.out.put2 HV.out hl4 hg4); clear hl4 hg4)
      go_roundw
      case rel =>
       refine ⟨1, by go_num, by omega, Lib.hid ?_⟩
       have h4 := HS4.out
       rw [HFE.out, ← HM1.out] at h4
       exact h4
      case measure => simp [intOf]
    ·have ix : ∀ w, (Instr.index 58 (.agg #[.int .i64 T.v0, .int .i64 T.v1, .int .i64 T.v2]) (.int .i64 1)).run Try.prog w = .ok (.int .i64 T.v1) w := fun _ => by kernel_rfl
     have hb1 : bump T (cntM M n) 2 = if T.v1 = -2 then bump T (cntM M n) 1 else fun u => if u = T.v1 then bump T (cntM M n) 1 u + 1 else bump T (cntM M n) 1 u := rfl
     have hm1 : mark T n (oneM M n) 2 = if T.v1 = -2 then mark T n (oneM M n) 1 else fun u => if u = T.v1 then (n : Int) else mark T n (oneM M n) 1 u := rfl
     by_cases hg : T.v1 = -2
     ·have q1 : (T.v1 != -2) = false := by simp [hg]
      rw [if_pos hg] at hb1 hm1
      have HB1 := Lib.hid hb1
      have HM1 := Lib.hid hm1
      clear hb1 hm1 hg
      go_wp2
      go_roundw
      case rel => exact ⟨2, by go_num, by omega, Lib.hid (by rw [HB1.out, HM1.out]; exact StarS.mono HK.out (by omega))⟩
      case measure => simp [intOf]
     ·have q1 : (T.v1 != -2) = true := by simpa using hg
      rw [if_neg hg] at hb1 hm1
      have hwv : (Lit.int .i64 T.v1).wf = true := wf_of (by have := HVS.out 1 (by omega); simp only [Tri.v] at this; omega)
      have hbd := bump_bound T (cntM M n) (3 * n) HCB.out 1 T.v1
      have hlk := HK.out.cnt.look hwv
      have HB1 := Lib.hid hb1
      have HM1 := Lib.hid hm1
      clear hb1 hm1 hg
      obtain ⟨l, hl, hv⟩ := HK.out.one
      have HV := Lib.hid hv
      have HLm := Lib.hid hl
      clear hv hl
      obtain ⟨c, hc⟩ : ∃ c, bump T (cntM M n) 1 T.v1 = c := ⟨_, rfl⟩
      rw [hc] at hbd hlk
      have HC := Lib.hid hc
      have wc : IntKind.i64.wrap (c + 1) = c + 1 := IntWalk.i64_in _ (by omega)
      have HWV := Lib.hid hwv
      have hwc : (Lit.int .i64 (c + 1)).wf = true := wf_of (by omega)
      have HWC := Lib.hid hwc
      have hfe : (fun u => if u = T.v1 then c + 1 else bump T (cntM M n) 1 u) = bump T (cntM M n) 2 := by
       rw [HB1.out]
       funext u
       by_cases hu : u = T.v1
       ·simp [hu, HC.out]
       ·simp [hu]
      have HFE := Lib.hid hfe
      clear hc hwv hwc hfe
      go_upto_region 10 with (at_mapUpdate; refine wpList_cnt_put rfl _ rfl _ _ _ rfl m1 (3 * n + 1) rfl HK.out.cnt T.v1 (c + 1) rfl rfl HWV.out HWC.out (by omega) (by unfold maxLen; omega) ?_; intro w3 hc3 hg3; have HS3 := Lib.hid (HK.out.put1 hc3 hg3); have HL3 := Lib.hid (HLm.out.grown hg3 (fun e => HK.out.ne (Option.some.inj e).symm)); clear hc3 hg3)
      go_wp2_with (at_mapUpdate; refine wpList_map_put _ rfl _ _ _ 95 rfl Try.underlying95 (Mp.int_ok Try.underlying3) m2 rfl HL3.out T.v1 (n : Int) rfl rfl ?_; intro w4 hl4 hg4; have HS4 := Lib.hid (HS3.out.put2 HV.out hl4 hg4); clear hl4 hg4)
      go_roundw
      case rel =>
       refine ⟨2, by go_num, by omega, Lib.hid ?_⟩
       have h4 := HS4.out
       rw [HFE.out, ← HM1.out] at h4
       exact h4
      case measure => simp [intOf]
    ·have ix : ∀ w, (Instr.index 58 (.agg #[.int .i64 T.v0, .int .i64 T.v1, .int .i64 T.v2]) (.int .i64 2)).run Try.prog w = .ok (.int .i64 T.v2) w := fun _ => by kernel_rfl
     have hb1 : bump T (cntM M n) 3 = if T.v2 = -2 then bump T (cntM M n) 2 else fun u => if u = T.v2 then bump T (cntM M n) 2 u + 1 else bump T (cntM M n) 2 u := rfl
     have hm1 : mark T n (oneM M n) 3 = if T.v2 = -2 then mark T n (oneM M n) 2 else fun u => if u = T.v2 then (n : Int) else mark T n (oneM M n) 2 u := rfl
     by_cases hg : T.v2 = -2
     ·have q1 : (T.v2 != -2) = false := by simp [hg]
      rw [if_pos hg] at hb1 hm1
      have HB1 := Lib.hid hb1
      have HM1 := Lib.hid hm1
      clear hb1 hm1 hg
      go_wp2
      go_roundw
      case rel => exact ⟨3, by go_num, by omega, Lib.hid (by rw [HB1.out, HM1.out]; exact StarS.mono HK.out (by omega))⟩
      case measure => simp [intOf]
     ·have q1 : (T.v2 != -2) = true := by simpa using hg
      rw [if_neg hg] at hb1 hm1
      have hwv : (Lit.int .i64 T.v2).wf = true := wf_of (by have := HVS.out 2 (by omega); simp only [Tri.v] at this; omega)
      have hbd := bump_bound T (cntM M n) (3 * n) HCB.out 2 T.v2
      have hlk := HK.out.cnt.look hwv
      have HB1 := Lib.hid hb1
      have HM1 := Lib.hid hm1
      clear hb1 hm1 hg
      obtain ⟨l, hl, hv⟩ := HK.out.one
      have HV := Lib.hid hv
      have HLm := Lib.hid hl
      clear hv hl
      obtain ⟨c, hc⟩ : ∃ c, bump T (cntM M n) 2 T.v2 = c := ⟨_, rfl⟩
      rw [hc] at hbd hlk
      have HC := Lib.hid hc
      have wc : IntKind.i64.wrap (c + 1) = c + 1 := IntWalk.i64_in _ (by omega)
      have HWV := Lib.hid hwv
      have hwc : (Lit.int .i64 (c + 1)).wf = true := wf_of (by omega)
      have HWC := Lib.hid hwc
      have hfe : (fun u => if u = T.v2 then c + 1 else bump T (cntM M n) 2 u) = bump T (cntM M n) 3 := by
       rw [HB1.out]
       funext u
       by_cases hu : u = T.v2
       ·simp [hu, HC.out]
       ·simp [hu]
      have HFE := Lib.hid hfe
      clear hc hwv hwc hfe
      go_upto_region 10 with (at_mapUpdate; refine wpList_cnt_put rfl _ rfl _ _ _ rfl m1 (3 * n + 2) rfl HK.out.cnt T.v2 (c + 1) rfl rfl HWV.out HWC.out (by omega) (by unfold maxLen; omega) ?_; intro w3 hc3 hg3; have HS3 := Lib.hid (HK.out.put1 hc3 hg3); have HL3 := Lib.hid (HLm.out.grown hg3 (fun e => HK.out.ne (Option.some.inj e).symm)); clear hc3 hg3)
      go_wp2_with (at_mapUpdate; refine wpList_map_put _ rfl _ _ _ 95 rfl Try.underlying95 (Mp.int_ok Try.underlying3) m2 rfl HL3.out T.v2 (n : Int) rfl rfl ?_; intro w4 hl4 hg4; have HS4 := Lib.hid (HS3.out.put2 HV.out hl4 hg4); clear hl4 hg4)
      go_roundw
      case rel =>
       refine ⟨3, by go_num, by omega, Lib.hid ?_⟩
       have h4 := HS4.out
       rw [HFE.out, ← HM1.out] at h4
       exact h4
      case measure => simp [intOf]
    ·have hend := HK.out
     rw [← HCN.out, ← HON.out] at hend
     have HEND := Lib.hid hend
     clear hend
     go_wp2
     go_roundw
     case rel => exact ⟨n + 1, by go_num, by omega, Lib.hid (StarS.mono HEND.out (by omega))⟩
     case measure => simp [intOf]; omega
  ·have hnn : n = L := by omega
   subst hnn
   obtain ⟨nn, D, hown, hle, hD⟩ := HN.out.cnt
   obtain ⟨l, hl, hv⟩ := HN.out.one
   have HD := Lib.hid hD
   have HV := Lib.hid hv
   have HLm := Lib.hid hl
   have HBe := Lib.hid HN.out.bel
   have HNE := Lib.hid HN.out.ne
   have HB1 := Lib.hid HN.out.b1
   clear hD hl hv HN
   go_wp2_with (first | (at_range; refine wpList_range_own _ rfl _ 95 rfl 3 3 (int_keyed Try.underlying3) Try.underlying95 _ m1 nn D rfl hown ?_; intro w0 hrg0 hg0 hs0))
   go_frame
   have HBe0 := Lib.hid (bel_step HBe.out ⟨hg0.os, hg0.tape, hg0.output, hg0.size, fun k hk => hg0.block k hk (by simp)⟩)
   have HLm0 := Lib.hid (HLm.out.grown hg0 (by simp))
   obtain ⟨ri, hri⟩ : ∃ r, wr.heap.size = r := ⟨_, rfl⟩
   rw [hri] at hrg0 ⊢
   have hrB : w.heap.size ≤ ri := by rw [← hri]; exact HBe.out.size
   have hrm : m2 ≠ ri := by have := HLm.out.lt; omega
   have HRG := Lib.hid hrg0
   have HRM := Lib.hid hrm
   clear hrg0 hg0 hs0 hri hown hrm HBe HLm
   go_loopw [9] (fun _ wq => ∃ (left : Lit → Bool) (cnt : Nat), Hid (wq.ranges Try.prog 3 (plainElem Try.prog 3) m1 ri nn D left cnt) ∧ Hid (MapAt (Value.int .i64) (Value.int .i64) wq m2 l) ∧ Hid (Below w.heap.size w wq)) (fun _ wq => wq.rangeLeft m1 ri)
   case atStart => exact ⟨_, _, HRG, HLm0, HBe0⟩
   case round =>
    obtain ⟨left, cnt, HR, HLq, HBq⟩ := hrel
    go_wp2_with (first | (at_next; refine wpList_next_ranges_ii _ rfl _ rfl 3 3 .i64 .i64 (int_keyed Try.underlying3) Try.underlying3 Try.underlying3 m1 ri nn D left cnt rfl HR.out ?_ ?_))
    ·intro _ _
     have hct : CntAt wr m1 nn (cntM M n) := ⟨nn, D, HR.out.owns, Nat.le_refl _, HD.out⟩
     have hM := HW.out wr HBq.out
     have hh := hM.head.cell 3 (.slice (some ⟨ga, 0, none⟩) M.at_.length ca) rfl
     obtain ⟨A, hA⟩ : ∃ A, M.at_.length = A := ⟨_, rfl⟩
     rw [hA] at hh A9
     have HA := Lib.hid hA
     have HCT := Lib.hid hct
     clear hM HR hct hA
     go_wp2
     go_loopw [61] (fun a wz => ∃ i : Nat, a = .int .i64 i ∧ i ≤ A ∧ Hid (CntAt wz m1 nn (cntM M n)) ∧ Hid (Below w.heap.size w wz)) (fun a _ => A - (intOf a).toNat)
     case atStart => exact ⟨0, rfl, Nat.zero_le _, HCT, HBq⟩
     case round =>
      obtain ⟨i, rfl, hi, HCi, HBi⟩ := hrel
      by_cases hlt3 : i < A
      ·have hM := HW.out wr HBi.out
       have hh1 := hM.head.cell 1 (.slice (some ⟨gt, 0, none⟩) M.tris.length ct) rfl
       rw [HL.out] at hh1
       have hai := hM.at_ i (by rw [HA.out]; exact hlt3)
       obtain ⟨s1, s2, s3⟩ := HS.out.at_ i (by rw [HA.out]; exact hlt3)
       rw [HL.out] at s1 s2
       have hwi : (Lit.int .i64 (i : Int)).wf = true := wf_of (by omega)
       have hlk := HCi.out.look hwi
       have i0 : (0 : Int) ≤ (i : Int) := by omega
       have i1 : (i : Int) < (A : Int) := by omega
       obtain ⟨t, ht⟩ : ∃ t, iat M.at_ i = t := ⟨_, rfl⟩
       obtain ⟨c, hc⟩ : ∃ c, cntM M n i = c := ⟨_, rfl⟩
       rw [ht] at hai s1 s2 s3
       rw [hc] at hlk s1
       have HWI := Lib.hid hwi
       have HMi := Lib.hid hM
       clear ht hc hwi hM
       by_cases hneg : t < 0
       ·have q1 : (c == 0) = true := by simpa using s1.1 hneg
        have g1 : ¬ (n : Int) ≤ t := by omega
        have g2 : ¬ (0 : Int) ≤ t := by omega
        clear s1 s2 s3
        go_wp2
        go_roundw
        case rel => exact ⟨i + 1, by go_num, by omega, HCi, HBi⟩
        case measure => simp [intOf]; omega
       ·have q1 : (c == 0) = false := by
         have := s1.2
         simp only [beq_eq_false_iff_ne, ne_eq]
         intro h0
         exact hneg (this h0)
        have g1 : ¬ (n : Int) ≤ t := by omega
        have g2 : (0 : Int) ≤ t := by omega
        have g3 := s3 g2
        obtain ⟨tn, htn⟩ : ∃ tn : Nat, t = tn := ⟨t.toNat, by omega⟩
        subst htn
        rw [Int.toNat_natCast] at g3
        obtain ⟨e0, e1, e2, e3, e4, e5, e6, e7, e8⟩ := HMi.out.tris tn (by rw [HL.out]; omega)
        generalize tat M.tris tn = T at *
        have hpl := Mr.place_any T (i : Int) wr
        obtain ⟨pl, hpe⟩ : ∃ pl, Mr.place T (i : Int) = pl := ⟨_, rfl⟩
        rw [hpe] at hpl g3
        have g4 : ¬ pl < 0 := by omega
        have HPL := Lib.hid hpl
        clear s1 s2 s3 hpl hpe g3
        go_wp2_with (go_at_call 61; refine HPL.out.mono ?_; rintro e w5 ⟨rfl, hb5⟩; have HC5 := Lib.hid (HCi.out.later hb5); have HB5 := Lib.hid (bel_step HBi.out hb5); clear hb5)
        go_roundw
        case rel => exact ⟨i + 1, by go_num, by omega, HC5, HB5⟩
        case measure => simp [intOf]; omega
      ·have hg : (Lit.int .i64 (-1)).wf = true := wf_of (by omega)
       have hlk := HCi.out.look hg
       have h0 := HS.out.ghost
       rw [HL.out] at h0
       obtain ⟨c, hc⟩ : ∃ c, cntM M n (-1) = c := ⟨_, rfl⟩
       rw [hc] at hlk h0
       have HC2 := Lib.hid hc
       clear hc hg
       have hiA : A = i := by omega
       subst hiA
       go_wp2
       go_ret
       exact ⟨rfl, HBi.out⟩
    ·intro x c w2 cnt2 hwx _ _ hat hrg1 hlt2 hg1 hs1 hen
     have hb2 : Below w.heap.size w w2 := bel_grown HBq.out hg1 hrB
     have hl2 := HLq.out.grown hg1 (fun e => HRM.out (Option.some.inj e))
     have hcx : cntM M n x ≠ 0 ∧ c = cntM M n x := by
      have h1 := HD.out x (.lit (.int .i64 (c + 1)))
      rw [hat] at h1
      split at h1
      ·simp only [DataW.lit.injEq, Lit.int.injEq, true_and] at h1
       omega
      ·rename_i h0
       simp only [DataW.lit.injEq, Lit.int.injEq, true_and] at h1
       exact ⟨h0, h1⟩
     obtain ⟨ts, kk, hro, hone, hcnt⟩ := HS.out.round x (by rw [HL.out]; exact hcx.1)
     rw [HL.out] at hone hcnt
     have hlk := hl2.look (z := (0 : Int)) Try.underlying95 (Mp.int_ok Try.underlying3) (zero3 w2) x
     rw [HV.out x, hone] at hlk
     have hrd := Rd.round_any M b x ts kk w2 ⟨_, _, _, _, _, _, _, HW.out w2 hb2⟩ HO.out hro
     obtain rfl : c = (kk : Int) := hcx.2.trans hcnt
     have HRD := Lib.hid hrd
     have HRG1 := Lib.hid hrg1
     have HL2 := Lib.hid hl2
     have HB2 := Lib.hid hb2
     have hlf := HR.out.left_eq
     have HLF := Lib.hid hlf
     clear hro hone hcnt hcx hat hrg1 hg1 hs1 hrd hl2 hb2 hlf hwx
     go_wp2_with (go_at_call 60; refine HRD.out.mono ?_; rintro e w3 ⟨rfl, hb3⟩; have HR3 := Lib.hid (HRG1.out.kept (grown_later hb3) (by simp) (by simp)); have HL3 := Lib.hid (HL2.out.later hb3); have HB3 := Lib.hid (bel_step HB2.out hb3); clear hb3)
     go_roundw
     case rel => exact ⟨_, _, HR3, HL3, HB3⟩
     case measure =>
      rw [HR3.out.left_eq, HLF.out]
      omega
end St
end Go.Proofs.Ytdihefgleefhmaa
