/- The square's areas; a slice of points that is handed over. -/
import Derived.Test.YtdihefgleefhmaaAg
import Derived.WalkKit
import Derived.ProofKit
import Derived.OpenShut
import Derived.ShutString
import Derived.ChangeOld
import Derived.Below
import Derived.Deep.SlicePairs
import Derived.Test.YtdihefgleefhmaaAw
import Derived.Test.YtdihefgleefhmaaFt
namespace Go.Proofs.Ytdihefgleefhmaa
namespace Fa
open Ft
theorem real_lt (M : Mesh) (t : Nat) (h : Mr.realB M t = true) : t < M.tris.length := by
 unfold Mr.realB at h
 simp only [Bool.and_eq_true, decide_eq_true_eq] at h
 omega
theorem ok : AreaOk M1 where
 pos t ht := by
  have hl := real_lt M1 t ht
  revert ht
  rcases (show t = 0 ∨ t = 1 ∨ t = 2 ∨ t = 3 ∨ t = 4 ∨ t = 5 by have : M1.tris.length = 6 := rfl; omega) with rfl | rfl | rfl | rfl | rfl | rfl <;> decide
 some := by decide
 few := by decide
 inn := by decide
 turn i j hi hj := by
  have h : ∀ i, i < (hull M1).length → ∀ j, j < (hull M1).length → 0 ≤ ori (pat M1.pts (hullN M1 i)) (pat M1.pts (hullN M1 ((i + 1) % (hull M1).length))) (pat M1.pts (hullN M1 j)) := by decide
  exact h i hi j hj
 eq := by decide
theorem area1 : areaOk M1 := fun b w h => Aw.area_any M1 b w h ok1 (by decide) (by decide) (wf_of_list _ (by decide)) ok
end Fa
end Go.Proofs.Ytdihefgleefhmaa
namespace Go.Proofs.Ytdihefgleefhmaa.Pa
open Go.ChangeShapes Go.WideShapes Go.ChangeAt Go.RowKit Go.Deep
open Go.Proofs.Ytdihefgleefhmaa
theorem cells32 : Try.prog.cellsOf 32 = 2 := by kernel_rfl
theorem cells3 : Try.prog.cellsOf 3 = 1 := by kernel_rfl
def num : Value → Int
 | .int _ n => n
 | _ => 0
/-- a slice of points that reads as data is a list of points in memory. -/
theorem pts_read {H : Type} {enc : TypeId × Value → H} {w : World} {base : Nat} {spare : Nat → Bool} {held : Bool} {fuel len cap : Nat} {a : Option Addr} {x : DataW H × List MemPlace}
  (h : DataW.trod enc Try.prog w base spare held fuel 30 [.slice a len cap] = some x) : ∃ l : List Pt, l.length = len ∧ ArgAt w a l ∧ l.length ≤ cap ∧ (a = none → l = []) := by
 rcases open_slice_pairs Try.underlying30 Try.underlying32 cells32 rfl rfl cells3 cells3 h with ⟨hcs, _⟩ | ⟨ad, n, c, m, k, V0, V1, D0, D1, P0, P1, hcs, _, hl, hm, hmm, _, hi⟩
 ·simp only [List.cons.injEq, Value.slice.injEq, and_true] at hcs
  obtain ⟨rfl, rfl, rfl⟩ := hcs
  exact ⟨[], rfl, fun h => absurd h (by simp), Nat.le_refl _, fun _ => rfl⟩
 ·simp only [List.cons.injEq, Value.slice.injEq, and_true] at hcs
  obtain ⟨rfl, rfl, rfl⟩ := hcs
  have hlm : len ≤ m := by rw [hmm]; split <;> omega
  have hpt : ∀ j, j < len → pat ((List.range len).map fun i => (⟨num (V0 i), num (V1 i)⟩ : Pt)) j = ⟨num (V0 j), num (V1 j)⟩ := fun j hj => by
   unfold pat
   rw [List.getD_eq_getElem?_getD, List.getElem?_map, List.getElem?_range hj]
   rfl
  refine ⟨(List.range len).map fun i => ⟨num (V0 i), num (V1 i)⟩, by simp, fun _ => ⟨ad, rfl, fun j hj => ?_⟩, by simp; omega, fun h => by cases h⟩
  have hjl : j < len := by simpa using hj
  rw [hpt j hjl]
  obtain ⟨h0, h1, t0, t1⟩ := hi j (by omega)
  obtain ⟨x0, e0, _, _⟩ := DataW.trod_int Try.underlying3 t0
  obtain ⟨x1, e1, _, _⟩ := DataW.trod_int Try.underlying3 t1
  simp only [List.cons.injEq, and_true] at e0 e1
  rw [e0] at h0
  rw [e1] at h1
  have ea : ad.add (j * 2 + 1) = ⟨(ad.add (j * 2)).block, (ad.add (j * 2)).off + 1, none⟩ := by
   unfold Addr.add
   rw [if_neg (by omega)]
   split
   ·rename_i h
    simp
   ·simp [Nat.add_assoc]
  rw [ea] at h1
  rw [e0, e1]
  exact ⟨h0, h1⟩
end Go.Proofs.Ytdihefgleefhmaa.Pa
