/- Points that came in; what an append has left alone. -/
import Derived.Test.YtdihefgleefhmaaFt
import Derived.Test.YtdihefgleefhmaaBa
namespace Go.Proofs.Ytdihefgleefhmaa
open Go.RowKit
/-- points that came in: a slice of them. -/
def ArgAt (W : World) (a : Option Addr) (l : List Pt) : Prop := 0 < l.length → ∃ ad : Addr, a = some ad ∧ ∀ i, i < l.length → W.cell? (ad.add (i * 2)) = some (.int .i64 (pat l i).x) ∧ W.cell? ⟨(ad.add (i * 2)).block, (ad.add (i * 2)).off + 1, none⟩ = some (.int .i64 (pat l i).y)
namespace Gb
open Wd Pr Ft
/-- what an append to a row of the call's own has left alone. -/
theorem grown_below {W W' : World} {B B' e s n : Nat} {v : Value} {xs : List Value} {o : Obj} (hg : (W.alloc o).grownBy W' v.ownBlock) (h : W.ownsRow B' e s v n xs) (hs : B' ≤ W.heap.size) (hB : B ≤ B' := by exact Nat.le_refl _) : Below B W W' := by
 refine ⟨hg.os, hg.tape, hg.output, Nat.le_trans (by simp) hg.size, fun k hk => ?_⟩
 refine (hg.block k (by simp; omega) (fun e => ?_)).trans (Below.heap_alloc _ _ _ (by omega))
 have := (h.lt k e.symm).1
 omega
end Gb
end Go.Proofs.Ytdihefgleefhmaa
