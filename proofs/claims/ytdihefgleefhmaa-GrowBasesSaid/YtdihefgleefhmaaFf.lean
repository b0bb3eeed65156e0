/- fit: the square is built, sound, of two triangles, four points, and has a border of four. -/
import Derived.Test.YtdihefgleefhmaaFt
namespace Go.Proofs.Ytdihefgleefhmaa
open Go.RowKit
namespace Ff
open Ft
def cr (i : Nat) : Nat := [0, 1, 1, 1, 1, 2, 2].getD i 0
set_option maxHeartbeats 2000000 in
set_option maxRecDepth 100000 in
theorem fit_any (ha : areaOk M1) (w : World) : Calls Try.prog 18 #[] w fun e w' => e = .returned (.bool true) ∧ Below w.heap.size w w' := by
  have hb := Blk.new w 32 #[.int .i64 0, .int .i64 0, .int .i64 2, .int .i64 0, .int .i64 0, .int .i64 2, .int .i64 2, .int .i64 2]
  have hbl := bel_alloc (bel_refl w) (.cells #[.int .i64 0, .int .i64 0, .int .i64 2, .int .i64 0, .int .i64 0, .int .i64 2, .int .i64 2, .int .i64 2] 32)
  have hP : PtsAt (w.alloc (.cells #[.int .i64 0, .int .i64 0, .int .i64 2, .int .i64 0, .int .i64 0, .int .i64 2, .int .i64 2, .int .i64 2] 32)) w.heap.size sq := by
    refine ⟨by decide, fun i hi => ?_⟩
    have : i = 0 ∨ i = 1 ∨ i = 2 ∨ i = 3 := by have : sq.length = 4 := rfl; omega
    rcases this with rfl | rfl | rfl | rfl
    · exact ⟨hb.cell 0 _ rfl, hb.cell 1 _ rfl⟩
    · exact ⟨hb.cell 2 _ rfl, hb.cell 3 _ rfl⟩
    · exact ⟨hb.cell 4 _ rfl, hb.cell 5 _ rfl⟩
    · exact ⟨hb.cell 6 _ rfl, hb.cell 7 _ rfl⟩
  have hbd := build1 w.heap.size 4 _ hP
  have HBD := Lib.hid hbd
  have HBL := Lib.hid hbl
  have HAR := Lib.hid ha
  clear hb hP hbd hbl ha
  go_enter Try.func18, Try.ntmps18
  go_upto_region 2 with (go_at_call 20; refine HBD.out.mono ?_; rintro e w3 ⟨mb, rfl, hm3, hb3⟩; have HM3 := Lib.hid hm3; have HB3 := Lib.hid (bel_step HBL.out hb3); clear hm3 hb3)
  have hR := HM3.out.read (by decide) (by decide) (by decide)
  have hsd := Sd.sound_any M1 mb w3 hR ok1 sound1 HAR.out
  have HSD := Lib.hid hsd
  obtain ⟨gp, cp, gt, ct, ga, ca, fV, hM⟩ := hR
  have HM := Lib.hid hM
  clear hsd hM
  go_upto_region 4 with (go_at_call 22; refine HSD.out.mono ?_; rintro e w4 ⟨rfl, hb4⟩; have HB4 := Lib.hid (bel_step HB3.out hb4); have HM4 := Lib.hid (HM.out.later hb4); clear hb4)
  have hh := HM4.out.head.cell 1 (.slice (some ⟨gt, 0, none⟩) 6 ct) rfl
  go_wp2
  go_loopw [3, 31] (fun z q wr => ∃ i : Nat, q = .int .i64 i ∧ z = .int .i64 (cr i : Nat) ∧ i ≤ 6 ∧ Hid (Below w.heap.size w wr) ∧ Hid (MR wr mb M1 gp cp gt ct ga ca fV)) (fun _ q _ => 6 - (intOf q).toNat)
  case atStart => exact ⟨0, rfl, rfl, by omega, HB4, HM4⟩
  case round =>
    obtain ⟨i, rfl, rfl, hi, HB, HMr⟩ := hrel
    rcases (show i = 0 ∨ i = 1 ∨ i = 2 ∨ i = 3 ∨ i = 4 ∨ i = 5 ∨ i = 6 by omega) with rfl | rfl | rfl | rfl | rfl | rfl | rfl
    · obtain ⟨e0, e1, e2, e3, e4, e5, e6, e7, e8⟩ : wr.cell? ⟨gt, 0, none⟩ = some (.int .i64 (0)) ∧ wr.cell? ⟨gt, 1, none⟩ = some (.int .i64 (1)) ∧ wr.cell? ⟨gt, 2, none⟩ = some (.int .i64 (2)) ∧ wr.cell? ⟨gt, 3, none⟩ = some (.int .i64 (4)) ∧ wr.cell? ⟨gt, 4, none⟩ = some (.int .i64 (2)) ∧ wr.cell? ⟨gt, 5, none⟩ = some (.int .i64 (3)) ∧ wr.cell? ⟨gt, 6, none⟩ = some (.bool false) ∧ wr.cell? ⟨gt, 7, none⟩ = some (.bool false) ∧ wr.cell? ⟨gt, 8, none⟩ = some (.bool false) := HMr.out.tris 0 (by decide)
      have hbn := bel_alloc (bel_refl wr) (.cells #[.int .i64 (0), .int .i64 (1), .int .i64 (2), .int .i64 (4), .int .i64 (2), .int .i64 (3), .bool false, .bool false, .bool false] 61)
      have HB2 := Lib.hid (bel_step HB.out hbn)
      have HM2 := Lib.hid (HMr.out.later hbn)
      have ww : IntKind.i64.wrap 1 = 1 := by decide
      have ww2 : IntKind.i64.wrap 2 = 2 := by decide
      clear hbn
      rw [show cr 0 = 0 from rfl]
      go_wp2
      go_roundw
      case rel => exact ⟨1, by go_num, rfl, by omega, HB2, HM2⟩
      case measure => simp [intOf]
    · obtain ⟨e0, e1, e2, e3, e4, e5, e6, e7, e8⟩ : wr.cell? ⟨gt, 9, none⟩ = some (.int .i64 (-1)) ∧ wr.cell? ⟨gt, 10, none⟩ = some (.int .i64 (2)) ∧ wr.cell? ⟨gt, 11, none⟩ = some (.int .i64 (3)) ∧ wr.cell? ⟨gt, 12, none⟩ = some (.int .i64 (4)) ∧ wr.cell? ⟨gt, 13, none⟩ = some (.int .i64 (5)) ∧ wr.cell? ⟨gt, 14, none⟩ = some (.int .i64 (2)) ∧ wr.cell? ⟨gt, 15, none⟩ = some (.bool false) ∧ wr.cell? ⟨gt, 16, none⟩ = some (.bool false) ∧ wr.cell? ⟨gt, 17, none⟩ = some (.bool false) := HMr.out.tris 1 (by decide)
      have hbn := bel_alloc (bel_refl wr) (.cells #[.int .i64 (-1), .int .i64 (2), .int .i64 (3), .int .i64 (4), .int .i64 (5), .int .i64 (2), .bool false, .bool false, .bool false] 61)
      have HB2 := Lib.hid (bel_step HB.out hbn)
      have HM2 := Lib.hid (HMr.out.later hbn)
      have ww : IntKind.i64.wrap 1 = 1 := by decide
      have ww2 : IntKind.i64.wrap 2 = 2 := by decide
      clear hbn
      rw [show cr 1 = 1 from rfl]
      go_wp2
      go_roundw
      case rel => exact ⟨2, by go_num, rfl, by omega, HB2, HM2⟩
      case measure => simp [intOf]
    · obtain ⟨e0, e1, e2, e3, e4, e5, e6, e7, e8⟩ : wr.cell? ⟨gt, 18, none⟩ = some (.int .i64 (0)) ∧ wr.cell? ⟨gt, 19, none⟩ = some (.int .i64 (2)) ∧ wr.cell? ⟨gt, 20, none⟩ = some (.int .i64 (-1)) ∧ wr.cell? ⟨gt, 21, none⟩ = some (.int .i64 (1)) ∧ wr.cell? ⟨gt, 22, none⟩ = some (.int .i64 (3)) ∧ wr.cell? ⟨gt, 23, none⟩ = some (.int .i64 (0)) ∧ wr.cell? ⟨gt, 24, none⟩ = some (.bool false) ∧ wr.cell? ⟨gt, 25, none⟩ = some (.bool false) ∧ wr.cell? ⟨gt, 26, none⟩ = some (.bool false) := HMr.out.tris 2 (by decide)
      have hbn := bel_alloc (bel_refl wr) (.cells #[.int .i64 (0), .int .i64 (2), .int .i64 (-1), .int .i64 (1), .int .i64 (3), .int .i64 (0), .bool false, .bool false, .bool false] 61)
      have HB2 := Lib.hid (bel_step HB.out hbn)
      have HM2 := Lib.hid (HMr.out.later hbn)
      have ww : IntKind.i64.wrap 1 = 1 := by decide
      have ww2 : IntKind.i64.wrap 2 = 2 := by decide
      clear hbn
      rw [show cr 2 = 1 from rfl]
      go_wp2
      go_roundw
      case rel => exact ⟨3, by go_num, rfl, by omega, HB2, HM2⟩
      case measure => simp [intOf]
    · obtain ⟨e0, e1, e2, e3, e4, e5, e6, e7, e8⟩ : wr.cell? ⟨gt, 27, none⟩ = some (.int .i64 (1)) ∧ wr.cell? ⟨gt, 28, none⟩ = some (.int .i64 (0)) ∧ wr.cell? ⟨gt, 29, none⟩ = some (.int .i64 (-1)) ∧ wr.cell? ⟨gt, 30, none⟩ = some (.int .i64 (2)) ∧ wr.cell? ⟨gt, 31, none⟩ = some (.int .i64 (5)) ∧ wr.cell? ⟨gt, 32, none⟩ = some (.int .i64 (0)) ∧ wr.cell? ⟨gt, 33, none⟩ = some (.bool false) ∧ wr.cell? ⟨gt, 34, none⟩ = some (.bool false) ∧ wr.cell? ⟨gt, 35, none⟩ = some (.bool false) := HMr.out.tris 3 (by decide)
      have hbn := bel_alloc (bel_refl wr) (.cells #[.int .i64 (1), .int .i64 (0), .int .i64 (-1), .int .i64 (2), .int .i64 (5), .int .i64 (0), .bool false, .bool false, .bool false] 61)
      have HB2 := Lib.hid (bel_step HB.out hbn)
      have HM2 := Lib.hid (HMr.out.later hbn)
      have ww : IntKind.i64.wrap 1 = 1 := by decide
      have ww2 : IntKind.i64.wrap 2 = 2 := by decide
      clear hbn
      rw [show cr 3 = 1 from rfl]
      go_wp2
      go_roundw
      case rel => exact ⟨4, by go_num, rfl, by omega, HB2, HM2⟩
      case measure => simp [intOf]
    · obtain ⟨e0, e1, e2, e3, e4, e5, e6, e7, e8⟩ : wr.cell? ⟨gt, 36, none⟩ = some (.int .i64 (2)) ∧ wr.cell? ⟨gt, 37, none⟩ = some (.int .i64 (1)) ∧ wr.cell? ⟨gt, 38, none⟩ = some (.int .i64 (3)) ∧ wr.cell? ⟨gt, 39, none⟩ = some (.int .i64 (5)) ∧ wr.cell? ⟨gt, 40, none⟩ = some (.int .i64 (1)) ∧ wr.cell? ⟨gt, 41, none⟩ = some (.int .i64 (0)) ∧ wr.cell? ⟨gt, 42, none⟩ = some (.bool false) ∧ wr.cell? ⟨gt, 43, none⟩ = some (.bool false) ∧ wr.cell? ⟨gt, 44, none⟩ = some (.bool false) := HMr.out.tris 4 (by decide)
      have hbn := bel_alloc (bel_refl wr) (.cells #[.int .i64 (2), .int .i64 (1), .int .i64 (3), .int .i64 (5), .int .i64 (1), .int .i64 (0), .bool false, .bool false, .bool false] 61)
      have HB2 := Lib.hid (bel_step HB.out hbn)
      have HM2 := Lib.hid (HMr.out.later hbn)
      have ww : IntKind.i64.wrap 1 = 1 := by decide
      have ww2 : IntKind.i64.wrap 2 = 2 := by decide
      clear hbn
      rw [show cr 4 = 1 from rfl]
      go_wp2
      go_roundw
      case rel => exact ⟨5, by go_num, rfl, by omega, HB2, HM2⟩
      case measure => simp [intOf]
    · obtain ⟨e0, e1, e2, e3, e4, e5, e6, e7, e8⟩ : wr.cell? ⟨gt, 45, none⟩ = some (.int .i64 (1)) ∧ wr.cell? ⟨gt, 46, none⟩ = some (.int .i64 (-1)) ∧ wr.cell? ⟨gt, 47, none⟩ = some (.int .i64 (3)) ∧ wr.cell? ⟨gt, 48, none⟩ = some (.int .i64 (1)) ∧ wr.cell? ⟨gt, 49, none⟩ = some (.int .i64 (4)) ∧ wr.cell? ⟨gt, 50, none⟩ = some (.int .i64 (3)) ∧ wr.cell? ⟨gt, 51, none⟩ = some (.bool false) ∧ wr.cell? ⟨gt, 52, none⟩ = some (.bool false) ∧ wr.cell? ⟨gt, 53, none⟩ = some (.bool false) := HMr.out.tris 5 (by decide)
      have hbn := bel_alloc (bel_refl wr) (.cells #[.int .i64 (1), .int .i64 (-1), .int .i64 (3), .int .i64 (1), .int .i64 (4), .int .i64 (3), .bool false, .bool false, .bool false] 61)
      have HB2 := Lib.hid (bel_step HB.out hbn)
      have HM2 := Lib.hid (HMr.out.later hbn)
      have ww : IntKind.i64.wrap 1 = 1 := by decide
      have ww2 : IntKind.i64.wrap 2 = 2 := by decide
      clear hbn
      rw [show cr 5 = 2 from rfl]
      go_wp2
      go_roundw
      case rel => exact ⟨6, by go_num, rfl, by omega, HB2, HM2⟩
      case measure => simp [intOf]
    · rw [show cr 6 = 2 from rfl]
      have h0 := HMr.out.head.cell 0 (.slice (some ⟨gp, 0, none⟩) 4 cp) rfl
      have hhu := Hu.hull_any M1 mb wr ⟨_, _, _, _, _, _, _, HMr.out⟩ ok1 (by decide) (by decide)
      rw [hull1] at hhu
      have HHU := Lib.hid hhu
      clear hhu
      go_wp2_with (go_at_call 26; refine HHU.out.mono ?_; rintro e w6 ⟨v, rfl, hown, hb6⟩; obtain ⟨A6, c6, rfl⟩ := own_slice hown; have HB6 := Lib.hid (bel_step HB.out hb6); clear hown hb6)
      go_ret
      exact ⟨rfl, HB6.out⟩
end Ff
end Go.Proofs.Ytdihefgleefhmaa
