/- The law GrowBases of the isohyet mesh holds for every list of points: it returns true, and its argument reads as it did. No condition. -/
import Derived.Test.YtdihefgleefhmaaRows
import Derived.Test.YtdihefgleefhmaaGb
import Derived.WalkKit
import Derived.ProofKit
import Derived.OpenShut
import Derived.ShutString
import Derived.ChangeOld
import Derived.Below
import Derived.Deep.SlicePairs
import Derived.Test.YtdihefgleefhmaaAw
import Derived.Test.YtdihefgleefhmaaFt
/- The square's areas are its border's. -/
namespace Go.Proofs.Ytdihefgleefhmaa
namespace Fa
open Ft
theorem real_lt (M : Mesh) (t : Nat) (h : Mr.realB M t = true) : t < M.tris.length := by
  unfold Mr.realB at h
  simp only [Bool.and_eq_true, decide_eq_true_eq] at h
  omega
theorem ok : AreaOk M1 where
  pos t ht := by
    have hl := real_lt M1 t ht
    revert ht
    rcases (show t = 0 ∨ t = 1 ∨ t = 2 ∨ t = 3 ∨ t = 4 ∨ t = 5 by have : M1.tris.length = 6 := rfl; omega) with rfl | rfl | rfl | rfl | rfl | rfl <;> decide
  some := by decide
  few := by decide
  inn := by decide
  turn i j hi hj := by
    have h : ∀ i, i < (hull M1).length → ∀ j, j < (hull M1).length → 0 ≤ ori (pat M1.pts (hullN M1 i)) (pat M1.pts (hullN M1 ((i + 1) % (hull M1).length))) (pat M1.pts (hullN M1 j)) := by decide
    exact h i hi j hj
  eq := by decide
theorem area1 : areaOk M1 := fun b w h => Aw.area_any M1 b w h ok1 (by decide) (by decide) (wf_of_list _ (by decide)) ok
end Fa
end Go.Proofs.Ytdihefgleefhmaa
namespace Go.Proofs.Ytdihefgleefhmaa.growBases
open Go.ChangeShapes Go.WideShapes Go.ChangeAt Go.RowKit Go.Deep
open Go.Proofs.Ytdihefgleefhmaa
theorem own : ownKnob Try.prog.godebug = none := by kernel_rfl
theorem laidOut : laidOutB Try.prog = true := by kernel_rfl
theorem cells32 : Try.prog.cellsOf 32 = 2 := by kernel_rfl
theorem cells3 : Try.prog.cellsOf 3 = 1 := by kernel_rfl
def num : Value → Int
  | .int _ n => n
  | _ => 0
/-- a slice of points that reads as data is a list of points in memory. -/
theorem pts_read {H : Type} {enc : TypeId × Value → H} {w : World} {base : Nat} {spare : Nat → Bool} {held : Bool} {fuel len cap : Nat} {a : Option Addr} {x : DataW H × List MemPlace}
    (h : DataW.trod enc Try.prog w base spare held fuel 30 [.slice a len cap] = some x) : ∃ l : List Pt, l.length = len ∧ ArgAt w a l := by
  rcases open_slice_pairs Try.underlying30 Try.underlying32 cells32 rfl rfl cells3 cells3 h with ⟨hcs, _⟩ | ⟨ad, n, c, m, k, V0, V1, D0, D1, P0, P1, hcs, _, hl, hm, hmm, _, hi⟩
  · simp only [List.cons.injEq, Value.slice.injEq, and_true] at hcs
    obtain ⟨rfl, rfl, rfl⟩ := hcs
    exact ⟨[], rfl, fun h => absurd h (by simp)⟩
  · simp only [List.cons.injEq, Value.slice.injEq, and_true] at hcs
    obtain ⟨rfl, rfl, rfl⟩ := hcs
    have hlm : len ≤ m := by rw [hmm]; split <;> omega
    have hpt : ∀ j, j < len → pat ((List.range len).map fun i => (⟨num (V0 i), num (V1 i)⟩ : Pt)) j = ⟨num (V0 j), num (V1 j)⟩ := fun j hj => by
      unfold pat
      rw [List.getD_eq_getElem?_getD, List.getElem?_map, List.getElem?_range hj]
      rfl
    refine ⟨(List.range len).map fun i => ⟨num (V0 i), num (V1 i)⟩, by simp, fun _ => ⟨ad, rfl, fun j hj => ?_⟩⟩
    have hjl : j < len := by simpa using hj
    rw [hpt j hjl]
    obtain ⟨h0, h1, t0, t1⟩ := hi j (by omega)
    obtain ⟨x0, e0, _, _⟩ := DataW.trod_int Try.underlying3 t0
    obtain ⟨x1, e1, _, _⟩ := DataW.trod_int Try.underlying3 t1
    simp only [List.cons.injEq, and_true] at e0 e1
    rw [e0] at h0
    rw [e1] at h1
    have ea : ad.add (j * 2 + 1) = ⟨(ad.add (j * 2)).block, (ad.add (j * 2)).off + 1, none⟩ := by
      unfold Addr.add
      rw [if_neg (by omega)]
      split
      · rename_i h
        simp [h]
      · simp [Nat.add_assoc]
    rw [ea] at h1
    rw [e0, e1]
    exact ⟨h0, h1⟩
set_option maxHeartbeats 1000000 in
set_option maxRecDepth 100000 in
theorem lifted (os : Os) (started : os.Started) (H : Type) (enc : TypeId × Value → H) :
    ReturnsInHanded {} Try.checked os 8 .any (Rows.growBasesSpec.pre6 enc Try.prog Try.f8 Rows.growBasesRow.domain false) (Rows.growBasesSpec.post enc Try.prog Try.f8 false true false false) := by
  refine returnsInHanded_of_change (C := Try.checked) own started (by kernel_rfl) Try.func8
    (ChangeSpec.witness6 (enc := enc) (C := Try.checked) false ⟨#[], #[.slice none 0 0], []⟩ 8 (by kernel_rfl) (by kernel_rfl) (by kernel_rfl) (by kernel_rfl)) ?_
  intro W base args ds gs before hval0 hW _ _
  have hval : ∀ (j : Nat) t v, Try.f8.params[j]? = some t → args[j]? = some v → Value.okWide Try.prog W .any base t v := hval0
  have hW' := hW
  obtain ⟨p, q, hA0, hV, rfl, _, _⟩ := hW
  have hA : DataW.TrodAll enc Try.prog W 0 (fun _ => true) true Try.f8.params.toList args.toList ds p := hA0
  rw [Try.params8] at hA hval
  obtain ⟨v0, d0, rfl, rfl, h0⟩ := trodAll_one hA
  obtain ⟨rfl, rfl⟩ := trodVars_none hV
  obtain ⟨a0, len0, cap0, rfl⟩ := okWide_slice Try.underlying30 (hval 0 30 v0 rfl rfl)
  have k0 := h0
  have lt0 : ∀ x ∈ p, x.block < W.heap.size := by obtain ⟨m, hm⟩ := k0; exact DataW.trod_lt m _ _ _ hm
  obtain ⟨fuel, hf⟩ := h0
  obtain ⟨l, rfl, hr⟩ := pts_read hf
  clear hA0 hval0 hA hval hf
  refine (Gb.law_any Fa.area1 a0 cap0 l W hr).mono fun e W' ⟨he, bel⟩ => ?_
  subst he
  exact ⟨_, rfl, _, _, _, [], _, [], hW', trodAll_mk1 (shut_bool Try.underlying4 _), trodAll_mk1 (Below.trod laidOut (by kernel_rfl) (of_decide_eq_true (by kernel_rfl)) k0 bel lt0), rfl, bel.frame _, fun h => by cases h⟩
theorem over : Rows.growBasesRow.holds Try.pinned (OpenSpec.ofChange Rows.growBasesSpec) :=
  OpenClaim.holds_of_wide 8 Try.f8 rfl rfl rfl rfl rfl rfl rfl ⟨rfl, rfl, rfl, rfl, rfl⟩ rfl rfl rfl rfl rfl (by kernel_rfl) Try.func8 (by kernel_rfl)
    (of_decide_eq_true (by kernel_rfl)) (by unfold Func.isWrapper; first | (rw [if_pos (by decide +kernel)]; kernel_rfl) | (rw [if_neg (by decide +kernel)]; exact ⟨rfl, rfl⟩))
    (fun os started H enc _ => lifted os started H enc)
theorem proved : Rows.GrowBasesSaid := over
end Go.Proofs.Ytdihefgleefhmaa.growBases
namespace Go.Proofs.Ytdihefgleefhmaa
theorem growBases_holds : Rows.GrowBasesSaid := growBases.proved
end Go.Proofs.Ytdihefgleefhmaa
#print axioms Go.Proofs.Ytdihefgleefhmaa.growBases_holds
