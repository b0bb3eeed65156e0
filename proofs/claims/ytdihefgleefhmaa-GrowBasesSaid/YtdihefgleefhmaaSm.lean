/- Are all numbers small? -/
import Derived.Test.YtdihefgleefhmaaQk
namespace Go.Proofs.Ytdihefgleefhmaa
open Go.RowKit
namespace Qk
def smallB (x : Int) : Bool := decide (x < -1073741824) || decide (x > 1073741824)
theorem small_no {l : List Int} {k : Nat} (h : k < l.length) (hs : smallB l[k] = true) : (l.all fun x => !smallB x) = false := by
  rw [List.all_eq_false]
  exact ⟨l[k], List.getElem_mem h, by rw [hs]; simp⟩
set_option maxHeartbeats 1000000 in
theorem small_any (l : List Int) (g c : Nat) (w : World) (hl : l.length ≤ 1000) (hc : ∀ i (h : i < l.length), w.cell? ⟨g, i, none⟩ = some (.int .i64 l[i])) :
    Calls Try.prog 40 #[.slice (some ⟨g, 0, none⟩) l.length c] w fun e w' => e = .returned (.bool (l.all fun x => !smallB x)) ∧ w' = w := by
  have HC := Lib.hid hc
  obtain ⟨r, hr⟩ : ∃ r, (l.all fun x => !smallB x) = r := ⟨_, rfl⟩
  have HR := Lib.hid hr
  rw [hr]
  clear hc hr
  go_enter Try.func40, Try.ntmps40
  go_wp2
  go_loopw [7] (fun q wr => ∃ k : Nat, q = .int .i64 k ∧ k ≤ l.length ∧ Hid (∀ j (h : j < l.length), j < k → smallB l[j] = false) ∧ Hid (wr = w)) (fun q _ => l.length - (intOf q).toNat)
  case atStart => exact ⟨0, rfl, by omega, fun j _ hj => absurd hj (by omega), rfl⟩
  case round =>
    obtain ⟨k, rfl, hk, HE, HW⟩ := hrel
    have hw := HW.out
    subst hw
    clear HW
    by_cases hlt : k < l.length
    · have k0 := HC.out k hlt
      obtain ⟨x, hx⟩ : ∃ x, l[k] = x := ⟨_, rfl⟩
      rw [hx] at k0
      have HX := Lib.hid hx
      clear hx
      by_cases h1 : x < -1073741824
      · have HB : Hid (smallB x = true) := Lib.hid (by unfold smallB; simp; omega)
        go_wp2
        go_ret
        exact ⟨congrArg (fun q => Ending.returned (Value.bool q)) ((small_no hlt (by rw [HX.out]; exact HB.out)).symm.trans HR.out), rfl⟩
      · by_cases h2 : 1073741824 < x
        · have HB : Hid (smallB x = true) := Lib.hid (by unfold smallB; simp; omega)
          go_wp2
          go_ret
          exact ⟨congrArg (fun q => Ending.returned (Value.bool q)) ((small_no hlt (by rw [HX.out]; exact HB.out)).symm.trans HR.out), rfl⟩
        · have HB : Hid (smallB x = false) := Lib.hid (by unfold smallB; simp; omega)
          go_wp2
          go_roundw
          case rel => exact ⟨k + 1, by go_num, by omega, fun j h hj => by rcases Nat.lt_succ_iff_lt_or_eq.1 hj with h' | h'; exact HE.out j h h'; subst h'; rw [HX.out]; exact HB.out, trivial⟩
          case measure => simp [intOf]; omega
    · have hkl : k = l.length := by omega
      subst hkl
      have HB : Hid (r = true) := Lib.hid (by
        rw [← HR.out, List.all_eq_true]
        intro y hy
        obtain ⟨j, hj, rfl⟩ := List.mem_iff_getElem.1 hy
        rw [HE.out j hj hj]; rfl)
      go_wp2
      go_ret
      exact ⟨congrArg (fun q => Ending.returned (Value.bool q)) HB.out.symm, rfl⟩
end Qk
end Go.Proofs.Ytdihefgleefhmaa
