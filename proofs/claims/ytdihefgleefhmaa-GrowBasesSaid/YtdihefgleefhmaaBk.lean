/- Blocks known whole: how they lie behind new blocks, draws, stores and calls that only make memory. -/
import Derived.Test.YtdihefgleefhmaaProg
import Derived.Test.YtdihefgleefhmaaGq
import Derived.WalkKit
import Derived.Outline
import Derived.Lib.Hide
import Derived.WalkSpells
import Derived.WalkLawsBesides
import Derived.Deep.Cut
namespace Go.Proofs.Ytdihefgleefhmaa
open Go.RowKit
theorem bcell {W w1 : World} (hb : Below W.heap.size W w1) : (∀ b o, b < W.heap.size → w1.cell? ⟨b, o, none⟩ = W.cell? ⟨b, o, none⟩) ∧ (∀ b o, b < W.heap.size → w1.frozen? ⟨b, o, none⟩ = W.frozen? ⟨b, o, none⟩) :=
  ⟨fun b o h => hb.cell (p := ⟨b, o, none⟩) h, fun b o h => hb.frozen (p := ⟨b, o, none⟩) h⟩
theorem bel_refl (w : World) : Below w.heap.size w w := Below.refl _ _
theorem bel_alloc {w0 w : World} (h : Below w0.heap.size w0 w) (o : Obj) : Below w0.heap.size w0 (w.alloc o) := h.alloc h.size o
theorem bel_step {w0 w w' : World} (h : Below w0.heap.size w0 w) (k : Below w.heap.size w w') : Below w0.heap.size w0 w' := h.trans (k.mono h.size)
theorem bel_drew {w0 w : World} (h : Below w0.heap.size w0 w) : Below w0.heap.size w0 w.drew := h.drew
theorem bel_drewN {w0 w : World} (h : Below w0.heap.size w0 w) (n : Nat) : Below w0.heap.size w0 (w.drewN n) := ⟨h.os, h.tape, h.output, h.size, h.block⟩
theorem bel_set {w0 w : World} (h : Below w0.heap.size w0 w) {b : Nat} (hb : w0.heap.size ≤ b) (i : Nat) (v : Value) : Below w0.heap.size w0 (w.setCell ⟨b, i, none⟩ v) := h.setCell hb v
/-- block b holds just these cells, none of them frozen. -/
def Blk (W : World) (b : Nat) (t : TypeId) (cs : Array Value) : Prop := W.heap[b]? = some (.cells cs t (0, 0))
section
variable {W W' : World} {b : Nat} {t : TypeId} {cs : Array Value}
theorem Blk.lt (h : Blk W b t cs) : b < W.heap.size := (Array.getElem?_eq_some_iff.1 h).1
theorem Blk.new (W : World) (t : TypeId) (cs : Array Value) : Blk (W.alloc (.cells cs t)) W.heap.size t cs := World.alloc_heap_new _ _
theorem Blk.new' {n : Nat} (W : World) (t : TypeId) (cs : Array Value) (h : W.heap.size = n) : Blk (W.alloc (.cells cs t)) n t cs := h ▸ Blk.new W t cs
theorem Blk.later (h : Blk W b t cs) (hb : Below W.heap.size W W') : Blk W' b t cs := (hb.block b h.lt).trans h
theorem Blk.below {B : Nat} (h : Blk W b t cs) (hb : Below B W W') (hl : b < B) : Blk W' b t cs := (hb.block b hl).trans h
theorem Blk.alloc (h : Blk W b t cs) (o : Obj) : Blk (W.alloc o) b t cs := h.later (bel_alloc (bel_refl W) o)
theorem Blk.drew (h : Blk W b t cs) : Blk W.drew b t cs := h
theorem Blk.cell (h : Blk W b t cs) (i : Nat) (v : Value) (hv : cs[i]? = some v) : W.cell? ⟨b, i, none⟩ = some v := by
  unfold Blk at h
  simp [World.cell?, h, hv]
theorem Blk.frozen (h : Blk W b t cs) (i : Nat) : W.frozen? ⟨b, i, none⟩ = false := by
  unfold Blk at h
  simp [World.frozen?, h]
theorem Blk.set (h : Blk W b t cs) (i : Nat) (v : Value) : Blk (W.setCell ⟨b, i, none⟩ v) b t (cs.setIfInBounds i v) := by
  unfold Blk at h ⊢
  simp [World.setCell, Array.getElem?_modify, h]
theorem Blk.other (h : Blk W b t cs) {c : Nat} (hc : b ≠ c) (i : Nat) (v : Value) : Blk (W.setCell ⟨c, i, none⟩ v) b t cs :=
  (Below.heap_setCell W ⟨c, i, none⟩ v b hc).trans h
/-- what a walk wants of a block of two cells. -/
theorem Blk.two {x y : Value} (h : Blk W b t #[x, y]) : W.cell? ⟨b, 0, none⟩ = some x ∧ W.cell? ⟨b, 1, none⟩ = some y ∧ W.frozen? ⟨b, 0, none⟩ = false ∧ W.frozen? ⟨b, 1, none⟩ = false :=
  ⟨h.cell 0 x rfl, h.cell 1 y rfl, h.frozen 0, h.frozen 1⟩
theorem Blk.one {x : Value} (h : Blk W b t #[x]) : W.cell? ⟨b, 0, none⟩ = some x ∧ W.frozen? ⟨b, 0, none⟩ = false := ⟨h.cell 0 x rfl, h.frozen 0⟩
theorem Blk.three {x y z : Value} (h : Blk W b t #[x, y, z]) : W.cell? ⟨b, 0, none⟩ = some x ∧ W.cell? ⟨b, 1, none⟩ = some y ∧ W.cell? ⟨b, 2, none⟩ = some z ∧ W.frozen? ⟨b, 0, none⟩ = false ∧ W.frozen? ⟨b, 1, none⟩ = false ∧ W.frozen? ⟨b, 2, none⟩ = false :=
  ⟨h.cell 0 x rfl, h.cell 1 y rfl, h.cell 2 z rfl, h.frozen 0, h.frozen 1, h.frozen 2⟩
theorem Blk.three_set {x y z u v s : Value} (h : Blk W b t #[x, y, z]) : (W.setCell ⟨b, 0, none⟩ u).cell? ⟨b, 0, none⟩ = some u ∧ ((W.setCell ⟨b, 0, none⟩ u).setCell ⟨b, 1, none⟩ v).cell? ⟨b, 1, none⟩ = some v ∧ (((W.setCell ⟨b, 0, none⟩ u).setCell ⟨b, 1, none⟩ v).setCell ⟨b, 2, none⟩ s).cell? ⟨b, 2, none⟩ = some s :=
  ⟨(h.set 0 u).cell 0 u rfl, ((h.set 0 u).set 1 v).cell 1 v rfl, (((h.set 0 u).set 1 v).set 2 s).cell 2 s rfl⟩
/-- and of one that two cells were stored into. -/
theorem Blk.two_set {x y u v : Value} (h : Blk W b t #[x, y]) : (W.setCell ⟨b, 0, none⟩ u).cell? ⟨b, 0, none⟩ = some u ∧ ((W.setCell ⟨b, 0, none⟩ u).setCell ⟨b, 1, none⟩ v).cell? ⟨b, 1, none⟩ = some v ∧ ((W.setCell ⟨b, 0, none⟩ u).setCell ⟨b, 1, none⟩ v).cell? ⟨b, 0, none⟩ = some u ∧ (W.setCell ⟨b, 1, none⟩ v).cell? ⟨b, 1, none⟩ = some v :=
  ⟨(h.set 0 u).cell 0 u rfl, ((h.set 0 u).set 1 v).cell 1 v rfl, ((h.set 0 u).set 1 v).cell 0 u rfl, (h.set 1 v).cell 1 v rfl⟩
end
/-- a fact on a cell, in all worlds that come later. -/
theorem Blk.cells {W : World} {b : Nat} {t : TypeId} {cs : Array Value} (h : Blk W b t cs) (i : Nat) (v : Value) (hv : cs[i]? = some v) : ∀ u : Gq.Later W, u.w.cell? ⟨b, i, none⟩ = some v := Gq.Later.cell (h.cell i v hv)
end Go.Proofs.Ytdihefgleefhmaa
