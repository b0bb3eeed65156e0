/- Slices of points; do all points lie on a line? -/
import Derived.Test.YtdihefgleefhmaaPr
namespace Go.Proofs.Ytdihefgleefhmaa
open Go.RowKit
def Pt.zero : Pt := ⟨0, 0⟩
/-- the point of a number. -/
def pat (l : List Pt) (i : Nat) : Pt := l.getD i Pt.zero
/-- a slice, at the head of a block, of points. -/
def PtsAt (W : World) (g : Nat) (l : List Pt) : Prop := l.length ≤ 4294967296 ∧ ∀ i, i < l.length → W.cell? ⟨g, i * 2, none⟩ = some (.int .i64 (pat l i).x) ∧ W.cell? ⟨g, i * 2 + 1, none⟩ = some (.int .i64 (pat l i).y)
theorem PtsAt.later {W W' : World} {g : Nat} {l : List Pt} (h : PtsAt W g l) (hb : Below W.heap.size W W') : PtsAt W' g l :=
  ⟨h.1, fun i hi => ⟨(hb.cell (World.block_lt_of_cell? _ _ (h.2 i hi).1)).trans (h.2 i hi).1, (hb.cell (World.block_lt_of_cell? _ _ (h.2 i hi).2)).trans (h.2 i hi).2⟩⟩
theorem PtsAt.cells {W : World} {g : Nat} {l : List Pt} (h : PtsAt W g l) (i : Nat) (hi : i < l.length) : (∀ u : Gq.Later W, u.w.cell? ⟨g, i * 2, none⟩ = some (.int .i64 (pat l i).x)) ∧ (∀ u : Gq.Later W, u.w.cell? ⟨g, i * 2 + 1, none⟩ = some (.int .i64 (pat l i).y)) :=
  ⟨Gq.Later.cell (h.2 i hi).1, Gq.Later.cell (h.2 i hi).2⟩
def nearAll (l : List Pt) : Prop := ∀ i, (pat l i).near
theorem zero_near : Pt.zero.near := by unfold Pt.near Pt.zero; dsimp only; omega
/-- do all points lie on a line? -/
def Flat (l : List Pt) : Prop := ∀ i, i < l.length → ∀ k, k < i → ∀ j, j < k → ori (pat l i) (pat l k) (pat l j) = 0
namespace Fl
open Wd Pr
set_option maxHeartbeats 1000000 in
theorem flat_no (g c : Nat) (l : List Pt) (w : World) (hP : PtsAt w g l) (hn : nearAll l) (b : Bool) (hb : b = true ↔ Flat l) :
    Calls Try.prog 21 #[.slice (some ⟨g, 0, none⟩) l.length c] w fun e w' => e = .returned (.bool b) ∧ Below w.heap.size w w' := by
  have hlen := hP.1
  have HP := Lib.hid hP
  have HN := Lib.hid hn
  have HB0 := Lib.hid hb
  clear hP hn hb
  go_enter Try.func21, Try.ntmps21
  go_wp2
  go_loopw [8] (fun p wr => ∃ i : Nat, p = .int .i64 i ∧ i ≤ l.length ∧ Hid (∀ i', i' < i → ∀ k, k < i' → ∀ j, j < k → ori (pat l i') (pat l k) (pat l j) = 0) ∧ Hid (Below w.heap.size w wr)) (fun p _ => l.length - (intOf p).toNat)
  case atStart => exact ⟨0, rfl, Nat.zero_le _, Lib.hid (fun i' h => by omega), Lib.hid (bel_refl w)⟩
  case round =>
    obtain ⟨i, rfl, hi, HI, HB⟩ := hrel
    by_cases hlt : i < l.length
    · go_wp2
      go_loopw [12] (fun p wr => ∃ k : Nat, p = .int .i64 k ∧ k ≤ i ∧ Hid (∀ k', k' < k → ∀ j, j < k' → ori (pat l i) (pat l k') (pat l j) = 0) ∧ Hid (Below w.heap.size w wr)) (fun p _ => i - (intOf p).toNat)
      case atStart => exact ⟨0, rfl, Nat.zero_le _, Lib.hid (fun i' h => by omega), HB⟩
      case round =>
        obtain ⟨k, rfl, hk, HK, HB2⟩ := hrel
        by_cases hlt2 : k < i
        · go_wp2
          go_loopw [16] (fun p wr => ∃ j : Nat, p = .int .i64 j ∧ j ≤ k ∧ Hid (∀ j', j' < j → ori (pat l i) (pat l k) (pat l j') = 0) ∧ Hid (Below w.heap.size w wr)) (fun p _ => k - (intOf p).toNat)
          case atStart => exact ⟨0, rfl, Nat.zero_le _, Lib.hid (fun i' h => by omega), HB2⟩
          case round =>
            obtain ⟨j, rfl, hj, HJ, HB3⟩ := hrel
            by_cases hlt3 : j < k
            · have hS := sign_eq0 (ori (pat l i) (pat l k) (pat l j))
              have hO := Lib.hid (fun w => orient_any (pat l i) (pat l k) (pat l j) w (HN.out i) (HN.out k) (HN.out j))
              by_cases hz : ori (pat l i) (pat l k) (pat l j) = 0
              · have HZ := Lib.hid hz
                rw [decide_eq_true hz] at hS
                clear hz
                generalize (ori (pat l i) (pat l k) (pat l j)).sign = s at *
                have hS2 : (s != 0) = false := by simpa using hS
                go_upto_region 10 with (fail)
                have hP := HP.out.later HB3.out
                obtain ⟨l0, l1⟩ := hP.cells i (by omega)
                obtain ⟨l2, l3⟩ := hP.cells k (by omega)
                obtain ⟨l4, l5⟩ := hP.cells j (by omega)
                clear hP
                refine Go.Gq.region (by kernel_rfl) (by kernel_rfl) ?_
                repeat (go_big_quiet_step ((go_at_call 28; exact Gq.call (hO.out _))))
                refine wpQuiet_nil ?_
                intro wx hw'
                have HX := Lib.hid (Go.Gq.later_bel hw')
                clear hw' l0 l1 l2 l3 l4 l5
                go_wp2
                go_roundw
                case rel => exact ⟨j + 1, by go_num, by omega, Lib.hid (fun j' hj' => by
                  rcases Nat.lt_or_ge j' j with h | h
                  · exact HJ.out j' h
                  · have : j' = j := by omega
                    subst this
                    exact HZ.out), Lib.hid (bel_step HB3.out HX.out)⟩
                case measure => simp [intOf]; omega
              · have HZ := Lib.hid hz
                rw [decide_eq_false hz] at hS
                clear hz
                generalize (ori (pat l i) (pat l k) (pat l j)).sign = s at *
                have hS2 : (s != 0) = true := by simpa using hS
                go_upto_region 10 with (fail)
                have hP := HP.out.later HB3.out
                obtain ⟨l0, l1⟩ := hP.cells i (by omega)
                obtain ⟨l2, l3⟩ := hP.cells k (by omega)
                obtain ⟨l4, l5⟩ := hP.cells j (by omega)
                clear hP
                refine Go.Gq.region (by kernel_rfl) (by kernel_rfl) ?_
                repeat (go_big_quiet_step ((go_at_call 28; exact Gq.call (hO.out _))))
                refine wpQuiet_nil ?_
                intro wx hw'
                have HX := Lib.hid (Go.Gq.later_bel hw')
                clear hw' l0 l1 l2 l3 l4 l5
                go_wp2
                go_ret
                have hF : b = false := by
                  cases hbb : b
                  · rfl
                  · exact absurd (HB0.out.1 hbb i (by omega) k hlt2 j hlt3) HZ.out
                exact ⟨by rw [hF]; rfl, bel_step HB3.out HX.out⟩
            · go_wp2
              go_roundw
              case rel => exact ⟨k + 1, by go_num, by omega, Lib.hid (fun k' hk' => by
                rcases Nat.lt_or_ge k' k with h | h
                · exact HK.out k' h
                · have : k' = k := by omega
                  subst this
                  exact fun j' hj' => HJ.out j' (by omega)), HB3⟩
              case measure => simp [intOf]; omega
        · go_wp2
          go_roundw
          case rel => exact ⟨i + 1, by go_num, by omega, Lib.hid (fun i' hi' => by
            rcases Nat.lt_or_ge i' i with h | h
            · exact HI.out i' h
            · have : i' = i := by omega
              subst this
              exact fun k' hk' => HK.out k' (by omega)), HB2⟩
          case measure => simp [intOf]; omega
    · go_wp2
      go_ret
      have hT : b = true := HB0.out.2 (fun i' hi' => HI.out i' (by omega))
      exact ⟨by rw [hT]; rfl, HB.out⟩
end Fl
end Go.Proofs.Ytdihefgleefhmaa
