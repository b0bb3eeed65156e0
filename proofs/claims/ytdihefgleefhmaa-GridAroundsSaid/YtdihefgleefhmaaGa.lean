/- The law GridArounds of the isohyet grid holds for every list of points and every cell: it returns true, and its arguments read as they did. No condition. -/
import Derived.Test.YtdihefgleefhmaaRows
import Derived.Test.YtdihefgleefhmaaGam
import Derived.WalkKit
import Derived.ProofKit
import Derived.OpenShut
import Derived.ShutString
import Derived.ChangeOld
import Derived.Below
import Derived.Deep.SlicePairs
namespace Go.Proofs.Ytdihefgleefhmaa.gridArounds
open Go.ChangeShapes Go.WideShapes Go.ChangeAt Go.RowKit Go.Deep
open Go.Proofs.Ytdihefgleefhmaa.PGridArounds Go.Proofs.YtdihefgleefhmaaW.PrintWords
theorem own : ownKnob Try.prog.godebug = none := by kernel_rfl
theorem laidOut : laidOutB Try.prog = true := by kernel_rfl
theorem cells32 : Try.prog.cellsOf 32 = 2 := by kernel_rfl
theorem cells3 : Try.prog.cellsOf 3 = 1 := by kernel_rfl
theorem law_any (A0 : Option Addr) (c0 : Nat) (l : List S32) (a1 : Int) (w : World) (hr : Kd.C k32 w A0 l.length l) :
    Calls Try.prog 4 #[.slice A0 l.length c0, .int .i64 a1] w fun e w' => e = .returned (.bool true) ∧ Below w.heap.size w w' := by
  by_cases hl : 30 < l.length
  · exact Ga.a_long A0 c0 l a1 w hl
  · by_cases h0 : 0 < l.length
    · by_cases h1 : 1 ≤ a1
      · obtain ⟨⟨r1, r2, r3, r4, r5, r6⟩, hA⟩ : ∃ r, r = Ga.ans (l.map Ga.tame) a1 := ⟨_, rfl⟩
        exact Ga.a_main A0 c0 l a1 w (by omega) hr h0 h1 r1 r2 r3 r4 r5 r6 hA
      · refine Ga.a_low A0 c0 l a1 w (by omega) hr (by rw [decide_eq_true (by omega : a1 < 1), Bool.or_true]) ?_
        cases l with
        | nil => rfl
        | cons q r => show _ = (if a1 < 1 then _ else _); rw [if_pos (by omega)]
    · have : l = [] := List.eq_nil_of_length_eq_zero (by omega)
      subst this
      exact Ga.a_low A0 c0 [] a1 w (by simp) hr rfl rfl
def num : Value → Int
  | .int _ n => n
  | _ => 0
/-- a slice of points that reads as data is a list of points in memory. -/
theorem pts_read {H : Type} {enc : TypeId × Value → H} {w : World} {base : Nat} {spare : Nat → Bool} {held : Bool} {fuel len cap : Nat} {a : Option Addr} {x : DataW H × List MemPlace}
    (h : DataW.trod enc Try.prog w base spare held fuel 30 [.slice a len cap] = some x) : ∃ l : List S32, l.length = len ∧ Kd.C k32 w a l.length l := by
  rcases open_slice_pairs Try.underlying30 Try.underlying32 cells32 rfl rfl cells3 cells3 h with ⟨hcs, _⟩ | ⟨ad, n, c, m, k, V0, V1, D0, D1, P0, P1, hcs, _, hl, hm, hmm, _, hi⟩
  · simp only [List.cons.injEq, Value.slice.injEq, and_true] at hcs
    obtain ⟨rfl, rfl, rfl⟩ := hcs
    exact ⟨[], rfl, rfl, by simp, fun h => absurd h (by simp)⟩
  · simp only [List.cons.injEq, Value.slice.injEq, and_true] at hcs
    obtain ⟨rfl, rfl, rfl⟩ := hcs
    have hlm : len ≤ m := by rw [hmm]; split <;> omega
    refine ⟨(List.range len).map fun i => ⟨num (V0 i), num (V1 i)⟩, by simp, by simp, ?_, ?_⟩
    · simp; unfold maxLen at hm; omega
    · intro _
      refine ⟨ad, rfl, fun j p hj => ?_⟩
      rw [List.getElem?_map] at hj
      have hjl : j < len := by
        rcases Nat.lt_or_ge j len with h | h
        · exact h
        · rw [List.getElem?_eq_none (by simpa using h)] at hj; simp at hj
      rw [List.getElem?_range hjl] at hj
      simp only [Option.map_some, Option.some.injEq] at hj
      subst hj
      obtain ⟨h0, h1, t0, t1⟩ := hi j (by omega)
      obtain ⟨x0, e0, _, _⟩ := DataW.trod_int Try.underlying3 t0
      obtain ⟨x1, e1, _, _⟩ := DataW.trod_int Try.underlying3 t1
      simp only [List.cons.injEq, and_true] at e0 e1
      rw [e0] at h0; rw [e1] at h1
      rw [e0, e1]
      refine ⟨[.int .i64 x0, .int .i64 x1], rfl, k32_mk w ⟨x0, x1⟩, fun i u hu => ?_⟩
      match i, hu with
      | 0, hu => simp only [List.getElem?_cons_zero] at hu; rw [← hu]; exact h0
      | 1, hu => simp only [List.getElem?_cons_succ, List.getElem?_cons_zero] at hu; rw [← hu]; exact h1
      | n + 2, hu => simp at hu
set_option maxHeartbeats 1000000 in
set_option maxRecDepth 100000 in
theorem lifted (os : Os) (started : os.Started) (H : Type) (enc : TypeId × Value → H) :
    ReturnsInHanded {} Try.checked os 4 .any (Rows.gridAroundsSpec.pre6 enc Try.prog Try.f4 Rows.gridAroundsRow.domain false) (Rows.gridAroundsSpec.post enc Try.prog Try.f4 false true false false) := by
  refine returnsInHanded_of_change (C := Try.checked) own started (by kernel_rfl) Try.func4
    (ChangeSpec.witness6 (enc := enc) (C := Try.checked) false ⟨#[], #[.slice none 0 0, .int .i64 0], []⟩ 8 (by kernel_rfl) (by kernel_rfl) (by kernel_rfl) (by kernel_rfl)) ?_
  intro W base args ds gs before hval0 hW _ _
  have hval : ∀ (j : Nat) t v, Try.f4.params[j]? = some t → args[j]? = some v → Value.okWide Try.prog W .any base t v := hval0
  have hW' := hW
  obtain ⟨p, q, hA0, hV, rfl, _, _⟩ := hW
  have hA : DataW.TrodAll enc Try.prog W 0 (fun _ => true) true Try.f4.params.toList args.toList ds p := hA0
  rw [Try.params4] at hA hval
  obtain ⟨v0, v1, d0, d1, p0, p1, rfl, rfl, rfl, h0, h1⟩ := trodAll_two hA
  obtain ⟨rfl, rfl⟩ := trodVars_none hV
  obtain ⟨a0, len0, cap0, rfl⟩ := okWide_slice Try.underlying30 (hval 0 30 v0 rfl rfl)
  obtain ⟨c, rfl, rfl, rfl, wc⟩ := open_int Try.underlying3 (hval 1 3 v1 rfl rfl) h1
  have k0 := h0
  have lt0 : ∀ x ∈ p0, x.block < W.heap.size := by obtain ⟨m, hm⟩ := k0; exact DataW.trod_lt m _ _ _ hm
  obtain ⟨fuel, hf⟩ := h0
  obtain ⟨l, rfl, hr⟩ := pts_read hf
  clear hA0 hval0 hA hval hf
  refine (law_any a0 cap0 l c W hr).mono fun e W' ⟨he, bel⟩ => ?_
  subst he
  exact ⟨_, rfl, _, _, _, [], _, [], hW', trodAll_mk1 (shut_bool Try.underlying4 _), trodAll_mk2 (Below.trod laidOut (by kernel_rfl) (of_decide_eq_true (by kernel_rfl)) k0 bel lt0) (shut_int Try.underlying3 wc), rfl, bel.frame _, fun h => by cases h⟩
theorem over : Rows.gridAroundsRow.holds Try.pinned (OpenSpec.ofChange Rows.gridAroundsSpec) :=
  OpenClaim.holds_of_wide 4 Try.f4 rfl rfl rfl rfl rfl rfl rfl ⟨rfl, rfl, rfl, rfl, rfl⟩ rfl rfl rfl rfl rfl (by kernel_rfl) Try.func4 (by kernel_rfl)
    (of_decide_eq_true (by kernel_rfl)) (by unfold Func.isWrapper; first | (rw [if_pos (by decide +kernel)]; kernel_rfl) | (rw [if_neg (by decide +kernel)]; exact ⟨rfl, rfl⟩))
    (fun os started H enc _ => lifted os started H enc)
theorem proved : Rows.GridAroundsSaid := over
end Go.Proofs.Ytdihefgleefhmaa.gridArounds
namespace Go.Proofs.Ytdihefgleefhmaa
theorem gridArounds_holds : Rows.GridAroundsSaid := gridArounds.proved
end Go.Proofs.Ytdihefgleefhmaa
#print axioms Go.Proofs.Ytdihefgleefhmaa.gridArounds_holds
