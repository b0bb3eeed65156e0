/- A drawn region, inside a round of a loop over a function, by one condition on the world. -/
import Derived.Test.YtdihefgleefhmaaGt
import Derived.Deep.RegionHeld
namespace Go.Gq
open Go Go.RowKit
theorem region_held_in {P : Program} {id m l₀ : Nat} {Q : Exit → Act → World → Prop} {a : Act} {w : World} {l : List Oper} (S : World → Prop) (hm : P.follows .mixedOrders = true) (hd : noDefer l = true) (hS : S w.drew)
    (h : S w.drew → wpAnyH P .any l.toArray (OnlyN (Q .normal)) S l.toArray.size (Array.replicate l.toArray.size false) a w.drew) : (Code.region id l.toArray true).wpIn (Fence.wide.inRound l₀) m P Q a w := by
  refine Code.wpIn_mono (Q := OnlyN (Q .normal)) (fun e a w h => by cases e <;> first | exact h | exact h.elim) ?_
  have hd' : ∀ (i : Nat) (o : Oper), l.toArray[i]? = some o → ∀ c, o.op ≠ .defer c := fun i o ho => noDefer_spec hd o (by
    obtain ⟨hi, rfl⟩ := Array.getElem?_eq_some_iff.1 ho
    simp)
  exact wpIn_region_any hm (any_round l₀ rfl hd' _ _ _ _ (any_wide (onlyN_out _) _ _ _ _ (wpAny_of_held _ _ _ _ (h hS))))
theorem region_held {P : Program} {id : Nat} {Q : Exit → Act → World → Prop} {a : Act} {w : World} {l : List Oper} (S : World → Prop) (hm : P.follows .mixedOrders = true) (hS : S w.drew)
    (h : S w.drew → wpAnyH P .any l.toArray (OnlyN (Q .normal)) S l.toArray.size (Array.replicate l.toArray.size false) a w.drew) : (Code.region id l.toArray true).wp P Q a w :=
  wp_mono (Q := OnlyN (Q .normal)) (wp_region_any hm (wpAny_of_held _ _ _ _ (h hS))) fun e a w h => by cases e <;> first | exact h | exact h.elim
end Go.Gq
