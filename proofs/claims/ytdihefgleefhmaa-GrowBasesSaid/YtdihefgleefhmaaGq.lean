/- A region that draws its order and only reads, or calls what only lays new blocks: one walk of its written order serves every order; inside a round of a loop over a function too. -/
import Derived.BigQuiet
import Derived.Sort.QuietThIn
import Derived.OwnWalkIn
import Derived.Below
import Derived.RangeFuncCalls
namespace Go.Gq
open Go.RowKit
section
variable {P : Program} {ops : Array Oper} {C : World → Prop}

/-- no operation of the region is a 'defer'. -/
def noDefer (l : List Oper) : Bool := l.all fun o => match o.op with | .defer _ => false | _ => true
theorem noDefer_spec {l : List Oper} (h : noDefer l = true) : ∀ o ∈ l, ∀ c, o.op ≠ .defer c := by
  intro o ho c hc
  have := List.all_eq_true.1 h o ho
  rw [hc] at this
  simp at this

theorem oper_round {F : Fence} {n : Nat} {o : Oper} {a : Act} {w : World} {K : Act → World → Prop} {Q : Exit → Act → World → Prop} (l : Nat) (hro : F.round = none) (hd : ∀ c, o.op ≠ .defer c)
    (h : o.wpIn F n P a w K Q) : o.wpIn (F.inRound l) n P a w K Q := by
  unfold Oper.wpIn at *
  refine ⟨h.1, ?_⟩
  have h2 := h.2
  rw [hro, Oper.semAt_none] at h2
  rw [Fence.inRound_round, Oper.semAt_eq _ _ _ hd]
  generalize (execOp a.eval o).run P w = r at *
  cases r with
  | ok x w' => cases x <;> exact h2
  | halt x w' => cases x <;> exact h2

theorem any_round {F : Fence} {n : Nat} {md : Region.Mode} {Q : Exit → Act → World → Prop} (l : Nat) (hro : F.round = none) (hd : ∀ (i : Nat) (o : Oper), ops[i]? = some o → ∀ c, o.op ≠ .defer c) :
    ∀ (fuel : Nat) (L : Array Bool) (a : Act) (w : World), wpAnyIn F n P md ops Q fuel L a w → wpAnyIn (F.inRound l) n P md ops Q fuel L a w
  | 0, _, _, _, h => h
  | fuel + 1, L, a, w, h => by
    refine ⟨h.1, fun i hi => ?_⟩
    have h2 := h.2 i hi
    unfold wpOpIn at *
    split
    · rename_i ho
      simp only [ho] at h2
      exact any_round l hro hd fuel _ _ _ h2
    · rename_i o ho
      simp only [ho] at h2
      split
      · rename_i hw
        simp only [hw, if_true] at h2
        exact oper_round l hro (hd i o ho) (Oper.wpIn_mono (fun a' w' h' => any_round l hro hd fuel _ a' w' h') h2)
      · rename_i hw
        simp only [hw] at h2
        exact ⟨h2.1, any_round l hro hd fuel _ _ _ h2.2⟩

theorem quiet_wide {n : Nat} {Q : Act → Prop} : ∀ (l : List Oper) (a : Act), wpQuiet P ops C Q l a → wpQuietIn Fence.wide n P ops C Q l a
  | [], _, h => h
  | o :: l, a, h => by
    unfold wpQuietIn
    unfold wpQuiet at h
    refine ⟨fun _ _ _ _ => trivial, ?_⟩
    split
    · rename_i hw
      simp only [hw, if_true] at h
      obtain ⟨v, h1, h2⟩ := h
      refine ⟨v, fun w hC => ?_, quiet_wide l _ h2⟩
      have h3 := h1 w hC
      unfold Oper.quietAt at h3
      unfold Oper.quietAtIn
      generalize (execOp a.eval o).run P w = r at *
      cases r with
      | ok x w' =>
        cases x <;> simp only [Oper.quietUpon] at h3 <;> simp only [Oper.quietUponIn]
        case value u => exact h3
        case skip => exact h3
        case enter f args => exact ⟨h3.1, fun hs => by simp [Fence.wide] at hs, callsIn_wide.2 h3.2⟩
      | halt x w' => simp only [Oper.quietUpon] at h3
    · rename_i hw
      simp only [hw] at h
      exact quiet_wide l _ h

/-- IN A ROUND: one walk of the written order serves every order. -/
theorem region_round {id n l₀ : Nat} {Q : Exit → Act → World → Prop} {a : Act} {w : World} (hm : P.follows .mixedOrders = true) (hB : Region.lexB .any ops = true) (hd : noDefer ops.toList = true) (hC : C { w with drawn := w.drawn + 1 })
    (h : wpQuiet P ops C (fun a' => ∀ w', C w' → Q .normal a' w') ops.toList a) : (Code.region id ops true).wpIn (Fence.wide.inRound l₀) n P Q a w := by
  simp only [Region.lexB, Bool.and_eq_true] at hB
  have hd' : ∀ (i : Nat) (o : Oper), ops[i]? = some o → ∀ c, o.op ≠ .defer c := fun i o ho => noDefer_spec hd o (by
    obtain ⟨hi, rfl⟩ := Array.getElem?_eq_some_iff.1 ho
    simp)
  refine wpIn_region_any hm (any_round l₀ rfl hd' _ _ _ _ (wpAnyIn_of_quiet (F := Fence.wide) (Q := fun a' => ∀ w', C w' → Q .normal a' w') rfl (fun _ w' hw' h => h w' hw') _ _ _ _ hC ?_))
  have := wpAnyQIn_lex (F := Fence.wide) (n := n) (C := C) (md := .any) hB.1 ops.toList 0 (Array.replicate ops.size false) a (by simp) (by simpa using hB.2) (quiet_wide _ _ h)
  simpa using this
end

/-- the worlds in which all that lay in W lies as it lay. -/
structure Later (W : World) where
  w : World
  bel : Below W.heap.size W w
theorem later_bel {W w' : World} (h : ∃ u : Later W, w' = u.w) : Below W.heap.size W w' := by obtain ⟨u, rfl⟩ := h; exact u.bel
instance (W : World) : Nonempty (Later W) := ⟨⟨W, Below.refl _ _⟩⟩
theorem Later.cell {W : World} {p : Addr} {v : Value} (h : W.cell? p = some v) (u : Later W) : u.w.cell? p = some v := (u.bel.cell (World.block_lt_of_cell? _ _ h)).trans h
theorem call {P : Program} {f : FuncId} {args : Array Value} {W : World} {u : Later W} {v : Value} (h : Calls P f args u.w fun e w' => e = .returned v ∧ Below u.w.heap.size u.w w') :
    Calls P f args u.w fun e w' => e = .returned v ∧ ∃ u' : Later W, w' = u'.w :=
  h.mono fun _ w' ⟨he, hb⟩ => ⟨he, ⟨⟨w', u.bel.trans (hb.mono u.bel.size)⟩, rfl⟩⟩

theorem region {P : Program} {id : Nat} {Q : Exit → Act → World → Prop} {a : Act} {w : World} {l : List Oper} (hm : P.follows .mixedOrders = true) (hB : Region.lexB .any l.toArray = true)
    (h : wpQuiet P l.toArray (fun w' => ∃ u : Later w, w' = u.w) (fun a' => ∀ w', (∃ u : Later w, w' = u.w) → Q .normal a' w') l a) : (Code.region id l.toArray true).wp P Q a w :=
  wp_region_quiet (C := fun w' => ∃ u : Later w, w' = u.w) hm hB ⟨⟨w.drew, (Below.refl _ w).drew⟩, rfl⟩ (by simpa using h)
theorem region_in {P : Program} {id n l₀ : Nat} {Q : Exit → Act → World → Prop} {a : Act} {w : World} {l : List Oper} (hm : P.follows .mixedOrders = true) (hB : Region.lexB .any l.toArray = true) (hd : noDefer l = true)
    (h : wpQuiet P l.toArray (fun w' => ∃ u : Later w, w' = u.w) (fun a' => ∀ w', (∃ u : Later w, w' = u.w) → Q .normal a' w') l a) : (Code.region id l.toArray true).wpIn (Fence.wide.inRound l₀) n P Q a w :=
  region_round (C := fun w' => ∃ u : Later w, w' = u.w) hm hB (by simpa using hd) ⟨⟨w.drew, (Below.refl _ w).drew⟩, rfl⟩ (by simpa using h)

end Go.Gq
