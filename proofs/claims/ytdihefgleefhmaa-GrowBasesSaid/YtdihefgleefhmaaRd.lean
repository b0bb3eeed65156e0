/- round: how many triangles come, going round a point. -/
import Derived.Test.YtdihefgleefhmaaBy
import Derived.Test.YtdihefgleefhmaaDr
import Derived.Test.YtdihefgleefhmaaIt
namespace Go.Proofs.Ytdihefgleefhmaa
open Go.RowKit
/-- the next triangle round a point. -/
def nextRound (M : Mesh) (v : Int) (t : Nat) : Int := (tat M.tris t).n ((Mr.place (tat M.tris t) v + 1) % 3).toNat
/-- the triangles that come, from t on: k of them, then it is t again. -/
structure RoundOk (M : Mesh) (v : Int) (ts : Nat → Nat) (k : Nat) : Prop where
  pos : 0 < k
  few : k ≤ M.tris.length
  lt : ∀ i, i < k → ts i < M.tris.length
  there : ∀ i, i < k → 0 ≤ Mr.place (tat M.tris (ts i)) v
  next : ∀ i, i < k → nextRound M v (ts i) = ts (i + 1)
  last : ts k = ts 0
  apart : ∀ i, 0 < i → i < k → ts i ≠ ts 0
namespace Rd
theorem place_lt3 (T : Tri) (v : Int) : Mr.place T v < 3 := by
  unfold Mr.place
  split <;> (try split) <;> (try split) <;> omega
set_option maxHeartbeats 2000000 in
set_option maxRecDepth 100000 in
theorem round_any (M : Mesh) (b : Nat) (v : Int) (ts : Nat → Nat) (k : Nat) (w : World) (h : MeshR w b M) (ho : M.ok) (hr : RoundOk M v ts k) :
    Calls Try.prog 60 #[.pointer (some ⟨b, 0, none⟩), .int .i64 v, .int .i64 (ts 0 : Nat)] w fun e w' => e = .returned (.int .i64 k) ∧ Below w.heap.size w w' := by
  obtain ⟨gp, cp, gt, ct, ga, ca, fV, h⟩ := h
  have T9 := ho.tris
  have H := Lib.hid h
  have HR := Lib.hid hr
  have kf := hr.few
  obtain ⟨L, hL⟩ : ∃ L, M.tris.length = L := ⟨_, rfl⟩
  rw [hL] at T9 kf
  have HL := Lib.hid hL
  clear h hr ho hL
  go_enter Try.func60, Try.ntmps60
  go_wp2
  go_loopw [7, 8] (fun x y wr => ∃ i : Nat, x = .int .i64 i ∧ y = .int .i64 (ts i : Nat) ∧ i < k ∧ Hid (Below w.heap.size w wr)) (fun x _ _ => k - (intOf x).toNat)
  case atStart => exact ⟨0, rfl, rfl, HR.out.pos, Lib.hid (bel_refl w)⟩
  case round =>
    obtain ⟨i, rfl, rfl, hi, HB⟩ := hrel
    have hM := H.out.later HB.out
    have hh := hM.head.cell 1 (.slice (some ⟨gt, 0, none⟩) M.tris.length ct) rfl
    rw [HL.out] at hh
    have hlt := HR.out.lt i hi
    obtain ⟨e0, e1, e2, e3, e4, e5, e6, e7, e8⟩ := hM.tris (ts i) hlt
    rw [HL.out] at hlt
    have hth := HR.out.there i hi
    have hnx := HR.out.next i hi
    unfold nextRound at hnx
    generalize hT : tat M.tris (ts i) = T at *
    have hp := Mr.place_any T v wr
    have hp3 := place_lt3 T v
    obtain ⟨q, hq⟩ : ∃ q : Nat, Mr.place T v = q := ⟨(Mr.place T v).toNat, by omega⟩
    rw [hq] at hp hnx hp3
    have q3 : q < 3 := by omega
    have t0 : (0 : Int) ≤ (ts i : Int) := by omega
    have t1 : (ts i : Int) < (L : Int) := by omega
    have HP := Lib.hid hp
    have hml : Hid (MR wr b M gp cp gt ct ga ca fV) := Lib.hid hM
    clear hM hT hth hp hq hp3
    rcases (show q = 0 ∨ q = 1 ∨ q = 2 by omega) with rfl | rfl | rfl
    · have hn : T.n1 = (ts (i + 1) : Nat) := by
        have := hnx
        simpa [Tri.n] using this
      have HN := Lib.hid hn
      clear hnx hn
      go_upto_region 4 with (go_at_call 61; refine HP.out.mono ?_; rintro e w1 ⟨rfl, hb1⟩; have HB1 := Lib.hid hb1; clear hb1)
      have hm1 := hml.out.later HB1.out
      have hh1 := hm1.head.cell 1 (.slice (some ⟨gt, 0, none⟩) M.tris.length ct) rfl
      rw [HL.out] at hh1
      have e9 := cell_later e4 HB1.out
      rw [HN.out] at e9
      have HB2 := Lib.hid (bel_step HB.out HB1.out)
      clear hm1 hh e0 e1 e2 e3 e4 e5 e6 e7 e8 HB1 HB HP
      by_cases hk : i + 1 = k
      · have hend : ts (i + 1) = ts 0 := by rw [hk]; exact HR.out.last
        have HE := Lib.hid hend
        have HK := Lib.hid hk
        have q1 : ((ts (i + 1) : Int) == (ts 0 : Int)) = true := by simp [hend]
        clear hk hend
        go_wp2
        go_ret
        exact ⟨by rw [← HK.out]; rfl, HB2.out⟩
      · have hlt2 : i + 1 < k := by omega
        have hne := HR.out.apart (i + 1) (by omega) hlt2
        have q1 : ((ts (i + 1) : Int) == (ts 0 : Int)) = false := by simp; omega
        have q2 : ¬ (L : Int) < (i : Int) + 1 := by omega
        clear hne hk
        go_wp2
        go_roundw
        case rel => exact ⟨i + 1, by go_num, rfl, hlt2, HB2⟩
        case measure => simp [intOf]; omega
    · have hn : T.n2 = (ts (i + 1) : Nat) := by
        have := hnx
        simpa [Tri.n] using this
      have HN := Lib.hid hn
      clear hnx hn
      go_upto_region 4 with (go_at_call 61; refine HP.out.mono ?_; rintro e w1 ⟨rfl, hb1⟩; have HB1 := Lib.hid hb1; clear hb1)
      have hm1 := hml.out.later HB1.out
      have hh1 := hm1.head.cell 1 (.slice (some ⟨gt, 0, none⟩) M.tris.length ct) rfl
      rw [HL.out] at hh1
      have e9 := cell_later e5 HB1.out
      rw [HN.out] at e9
      have HB2 := Lib.hid (bel_step HB.out HB1.out)
      clear hm1 hh e0 e1 e2 e3 e4 e5 e6 e7 e8 HB1 HB HP
      by_cases hk : i + 1 = k
      · have hend : ts (i + 1) = ts 0 := by rw [hk]; exact HR.out.last
        have HE := Lib.hid hend
        have HK := Lib.hid hk
        have q1 : ((ts (i + 1) : Int) == (ts 0 : Int)) = true := by simp [hend]
        clear hk hend
        go_wp2
        go_ret
        exact ⟨by rw [← HK.out]; rfl, HB2.out⟩
      · have hlt2 : i + 1 < k := by omega
        have hne := HR.out.apart (i + 1) (by omega) hlt2
        have q1 : ((ts (i + 1) : Int) == (ts 0 : Int)) = false := by simp; omega
        have q2 : ¬ (L : Int) < (i : Int) + 1 := by omega
        clear hne hk
        go_wp2
        go_roundw
        case rel => exact ⟨i + 1, by go_num, rfl, hlt2, HB2⟩
        case measure => simp [intOf]; omega
    · have hn : T.n0 = (ts (i + 1) : Nat) := by
        have := hnx
        simpa [Tri.n] using this
      have HN := Lib.hid hn
      clear hnx hn
      go_upto_region 4 with (go_at_call 61; refine HP.out.mono ?_; rintro e w1 ⟨rfl, hb1⟩; have HB1 := Lib.hid hb1; clear hb1)
      have hm1 := hml.out.later HB1.out
      have hh1 := hm1.head.cell 1 (.slice (some ⟨gt, 0, none⟩) M.tris.length ct) rfl
      rw [HL.out] at hh1
      have e9 := cell_later e3 HB1.out
      rw [HN.out] at e9
      have HB2 := Lib.hid (bel_step HB.out HB1.out)
      clear hm1 hh e0 e1 e2 e3 e4 e5 e6 e7 e8 HB1 HB HP
      by_cases hk : i + 1 = k
      · have hend : ts (i + 1) = ts 0 := by rw [hk]; exact HR.out.last
        have HE := Lib.hid hend
        have HK := Lib.hid hk
        have q1 : ((ts (i + 1) : Int) == (ts 0 : Int)) = true := by simp [hend]
        clear hk hend
        go_wp2
        go_ret
        exact ⟨by rw [← HK.out]; rfl, HB2.out⟩
      · have hlt2 : i + 1 < k := by omega
        have hne := HR.out.apart (i + 1) (by omega) hlt2
        have q1 : ((ts (i + 1) : Int) == (ts 0 : Int)) = false := by simp; omega
        have q2 : ¬ (L : Int) < (i : Int) + 1 := by omega
        clear hne hk
        go_wp2
        go_roundw
        case rel => exact ⟨i + 1, by go_num, rfl, hlt2, HB2⟩
        case measure => simp [intOf]; omega
end Rd
end Go.Proofs.Ytdihefgleefhmaa
