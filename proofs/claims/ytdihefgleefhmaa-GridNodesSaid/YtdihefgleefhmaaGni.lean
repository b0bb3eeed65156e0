/- What the walk of GridNodes holds between two rounds of its loop over the snake; the law of such a loop with its frame set out. -/
import Derived.Test.YtdihefgleefhmaaGnl
import Derived.RangeFuncBound
namespace Go.Proofs.Ytdihefgleefhmaa
open Go.RowKit Go.Shelf Go.Proofs.Ytdihefgleefhmaa.PGridArounds Go.Proofs.YtdihefgleefhmaaW.PrintWords
namespace Gn
open Gc
def Two (W : World) (b : Nat) (x y : Int) : Prop := W.heap[b]? = some (.cells #[.int .i64 x, .int .i64 y] 32 (0, 0))
theorem Two.cells {W : World} {b : Nat} {x y : Int} (h : Two W b x y) : W.cell? ⟨b, 0, none⟩ = some (.int .i64 x) ∧ W.cell? ⟨b, 1, none⟩ = some (.int .i64 y) ∧ W.frozen? ⟨b, 0, none⟩ = false ∧ W.frozen? ⟨b, 1, none⟩ = false := by
  unfold Two at h
  refine ⟨?_, ?_, ?_, ?_⟩ <;> simp [World.cell?, World.frozen?, h]
structure Inv (g : G) (b6 b7 bN bW : Nat) (w0 : World) (pre : List (Pos g)) (W : World) : Prop where
  six : Boxed W b6 4 (.bool false)
  seven : Holds g b7 W
  n : Boxed W bN 3 (.int .i64 pre.length)
  was : Two W bW (wasX g pre) (wasY g pre)
  bel : Below w0.heap.size w0 W
theorem blk_kept {A B : World} {row : Option Nat} {b : Nat} {cs : Array Value} {t : TypeId} (h : A.heap[b]? = some (.cells cs t (0, 0))) (hg : A.grownBy B row) (hr : ∀ r, row = some r → ∃ o : Obj, A.heap[r]? = some o ∧ o.isCells = false) : B.heap[b]? = some (.cells cs t (0, 0)) :=
  (hg.block b (Array.getElem?_eq_some_iff.1 h).1 (fun e => by
    obtain ⟨o, ho, hc⟩ := hr b e.symm
    rw [h] at ho
    cases ho
    simp [Obj.isCells] at hc)).trans h
theorem Inv.own {g : G} {b6 b7 bN bW : Nat} {w0 : World} {B : Nat} (hB : w0.heap.size ≤ B) : OwnFrom B (fun pre W => Inv g b6 b7 bN bW w0 pre W) := by
  intro pre W W' row h hg hr
  have hr' : ∀ r, row = some r → ∃ o : Obj, W.heap[r]? = some o ∧ o.isCells = false := fun r e => (hr r e).2
  exact ⟨blk_kept h.six hg hr', blk_kept h.seven hg hr', blk_kept h.n hg hr', blk_kept h.was hg hr', h.bel.grown hg h.bel.size (fun k e => Nat.le_trans hB (hr k e).1)⟩
theorem grown_later {W W' : World} (hb : Below W.heap.size W W') : W.grownBy W' none := ⟨hb.os, hb.tape, hb.output, hb.size, fun k hk _ => hb.block k hk⟩
theorem Inv.later {g : G} {b6 b7 bN bW : Nat} {w0 : World} {pre : List (Pos g)} {W W' : World} (h : Inv g b6 b7 bN bW w0 pre W) (hb : Below W.heap.size W W') : Inv g b6 b7 bN bW w0 pre W' :=
  have hg := grown_later hb
  have hr : ∀ r, (none : Option Nat) = some r → ∃ o : Obj, W.heap[r]? = some o ∧ o.isCells = false := fun r e => by cases e
  ⟨blk_kept h.six hg hr, blk_kept h.seven hg hr, blk_kept h.n hg hr, blk_kept h.was hg hr, h.bel.trans (hb.mono h.bel.size)⟩
theorem Two.later {W W' : World} {b : Nat} {x y : Int} (h : Two W b x y) (hb : Below W.heap.size W W') : Two W' b x y := (hb.block b (Array.getElem?_eq_some_iff.1 h).1).trans h
theorem keeps_later {B : Nat} {W W' : World} (hb : Below W.heap.size W W') : KeepsFrom B W W' := KeepsFrom.of_grownBy (grown_later hb) (fun j e => by cases e)
theorem snake_pos (g : G) (hg : g.ok) (n Bn : Nat) (w : World) (h : Holds g Bn w) :
    SeqStopsK Fence.wide n Try.prog 31 #[.pointer (some ⟨Bn, 0, none⟩)] (fun k : Pos g => enc g k.1) (Kp Bn) (fun ys => ys.map (·.1) = List.range (g.R * g.M)) (fun pre => pre.map (·.1) <+: List.range (g.R * g.M)) (g.R * g.M) w := by
  intro l J Jx W hW hJ hJx hY h0
  refine (snake1 g hg n l Bn (fun pre W => ∃ ys : List (Pos g), ys.map (·.1) = pre ∧ J ys W) (fun pre W => ∃ ys : List (Pos g), ys.map (·.1) = pre ∧ Jx ys W) ?_ W ?_ (h.later hW) ⟨[], rfl, h0⟩).mono ?_
  · rintro x W1 hx ⟨ys, hys, hj⟩
    have hlen : ys.length = x := by have := congrArg List.length hys; simpa using this
    refine YieldAt.mono (hY ys ⟨x, hx⟩ W1 hj (by rw [hlen]; exact hx)) ?_
    rintro e W' (⟨he, h1, h2⟩ | ⟨he, h1⟩)
    · exact .inl ⟨he, ⟨_, by simp [hys], h1⟩, h2⟩
    · exact .inr ⟨he, _, by simp [hys], h1⟩
  · rintro pre A B row ⟨ys, hys, hj⟩ hg' hr
    exact ⟨ys, hys, hJ ys A B row hj hg' hr⟩
  · rintro e W' ⟨he, ⟨_, rfl, ys, hys, hj⟩ | ⟨pre, hp, ys, hys, hj⟩⟩
    · exact ⟨he, .inl ⟨ys, hys, hj⟩⟩
    · exact ⟨he, .inr ⟨ys, by show ys.map (·.1) <+: _; rw [hys]; exact hp, hj⟩⟩
theorem blk_far {w : World} {b c i : Nat} {v : Value} {o : Obj} (h : c ≠ b) (k : w.heap[c]? = some o) : (w.setCell ⟨b, i, none⟩ v).heap[c]? = some o :=
  (Below.heap_setCell w ⟨b, i, none⟩ v c h).trans k
theorem blk_set {w : World} {b : Nat} {cs : Array Value} {t : TypeId} {fr : Nat × Nat} (h : w.heap[b]? = some (.cells cs t fr)) (i : Nat) (v : Value) :
    (w.setCell ⟨b, i, none⟩ v).heap[b]? = some (.cells (cs.setIfInBounds i v) t fr) := by
  simp [World.setCell, Array.getElem?_modify, h]
/-- the world behind 'was = p; n++'. -/
def stepW (wx : World) (bN bW : Nat) (x y n : Int) : World := ((wx.setCell ⟨bW, 0, none⟩ (.int .i64 x)).setCell ⟨bW, 1, none⟩ (.int .i64 y)).setCell ⟨bN, 0, none⟩ (.int .i64 n)
theorem stepW_far {wx : World} {bN bW c : Nat} {x y n : Int} {o : Obj} (h1 : c ≠ bN) (h2 : c ≠ bW) (k : wx.heap[c]? = some o) : (stepW wx bN bW x y n).heap[c]? = some o :=
  blk_far h1 (blk_far h2 (blk_far h2 k))
theorem Inv.step {g : G} {b6 b7 bN bW : Nat} {w0 : World} {pre : List (Pos g)} {wx : World} (h : Inv g b6 b7 bN bW w0 pre wx) (x : Pos g)
    (h1 : b6 ≠ bN) (h2 : b6 ≠ bW) (h3 : b7 ≠ bN) (h4 : b7 ≠ bW) (h5 : bN ≠ bW) (h6 : w0.heap.size ≤ bN) (h7 : w0.heap.size ≤ bW) :
    Inv g b6 b7 bN bW w0 (pre ++ [x]) (stepW wx bN bW (sX g x.1) (sY g x.1) (pre.length + 1)) := by
  refine ⟨stepW_far h1 h2 h.six, stepW_far h3 h4 h.seven, ?_, ?_, ?_⟩
  · have := blk_set (w := (wx.setCell ⟨bW, 0, none⟩ (.int .i64 (sX g x.1))).setCell ⟨bW, 1, none⟩ (.int .i64 (sY g x.1))) (blk_far h5 (blk_far h5 h.n)) 0 (.int .i64 (pre.length + 1))
    unfold Boxed
    rw [List.length_append]
    exact this
  · have e1 : wasX g (pre ++ [x]) = sX g x.1 := by unfold wasX; simp
    have e2 : wasY g (pre ++ [x]) = sY g x.1 := by unfold wasY; simp
    unfold Two
    rw [e1, e2]
    exact blk_far (Ne.symm h5) (blk_set (blk_set h.was 0 _) 1 _)
  · exact ((h.bel.setCell (p := ⟨bW, 0, none⟩) h7 _).setCell (p := ⟨bW, 1, none⟩) h7 _).setCell (p := ⟨bN, 0, none⟩) h6 _
theorem stepW_keeps {B : Nat} {W wx : World} {bN bW : Nat} {x y n : Int} (hb : Below W.heap.size W wx) : KeepsFrom B W (stepW wx bN bW x y n) :=
  (((keeps_later hb).trans ((KeepsOthers.setCell _ _ _).from _)).trans ((KeepsOthers.setCell _ _ _).from _)).trans ((KeepsOthers.setCell _ _ _).from _)
section
variable {P : Program} {n : Nat}
/-- the law of a loop over a function whose assign code lays at most one block: the frame behind it is the frame ahead, some slots set. -/
theorem range_set {α : Type} {g : Operand} {ps : Array Tmp} {assign body : Code} {Q : Exit → Act → World → Prop} {a : Act} {w : World}
    (h1 : 1 ≤ n) {gf : Nat} {lb : Array Value} (hg : a.eval g = .func (.func gf) #[] lb) (eg : ∀ args w, (callFunc gf args).run P w = .ok (.enter gf args) w)
    {encs : α → Array Value} {Kp : World → World → Prop} {S Sp : List α → Prop} {N : Nat} (hseq : SeqStopsK Fence.wide (n - 1) P gf lb encs Kp S Sp N w)
    (hKt : ∀ {A B C : World}, Kp A B → Kp B C → Kp A C) (hKb : ∀ (W : World) (l : Nat) (o o' : Obj), w.heap.size ≤ l → W.heap[l]? = some o → o.isCells = false → o.isWalk = false → Kp W (W.putObj l o')) (hps : ∀ x, (encs x).size = ps.size)
    (I : List α → World → Prop) (Ix : Code → List α → World → Prop) (hI : OwnFrom w.heap.size I) (hIx : ∀ c, OwnFrom w.heap.size (Ix c)) (h0 : I [] w)
    (A : α → Nat → World → Prop) (hA : ∀ x Bx, OwnFrom w.heap.size (fun (_ : Unit) W => A x Bx W)) (set : α → Nat → Array Value → Array Value)
    (hassign : ∀ (l : Nat) (pre : List α) (x : α) (W : World) (K : Act → World → Prop), I pre W → (∀ a' W', KeepsFrom w.heap.size W W' → Kp W W' → I pre W' → (∃ Bx, A x Bx W' ∧ a' = { tmps := set x Bx a.tmps, defers := [] }) → K a' W') →
      assign.wpIn (Fence.wide.inRound l) (n - 1 - 1) P (Exit.then K (fun _ _ _ => False)) { tmps := (ps.zip (encs x)).foldl (fun t (p, v) => t.setIfInBounds p v) a.tmps, defers := [] } W)
    (hbody : ∀ (l : Nat) (pre : List α) (x : α) (Bx : Nat) (W : World), I pre W → A x Bx W → pre.length < N →
      body.wpIn (Fence.wide.inRound l) (n - 1 - 1) P (ownPostG w.heap.size Kp I Ix (pre ++ [x]) W) { tmps := set x Bx a.tmps, defers := [] } W)
    (hdone : ∀ (D : Nat) (xs : List α) (W : World), w.heap.size ≤ D → S xs → I xs W → W.heap[D]? = some (.deferred (some [])) → Q .normal { a with defers := { target := .collected D, args := #[] } :: a.defers } W)
    (hstop : ∀ (D : Nat) (c : Code) (pre : List α) (W : World), w.heap.size ≤ D → Sp pre → Ix c pre W → W.heap[D]? = some (.deferred (some [])) → c.wpIn Fence.wide n P Q { a with defers := { target := .collected D, args := #[] } :: a.defers } W) :
    (Code.rangeFunc g ps assign body).wp P Q a w := by
  refine (wpIn_wide (n := n)).1 (wpIn_rangeFunc_ownH (F := Fence.wide) rfl h1 hg trivial eg hseq hKt hKb (Below.refl _ _) hps I Ix hI hIx h0 (fun x a' W => ∃ Bx, A x Bx W ∧ a' = { tmps := set x Bx a.tmps, defers := [] }) ?_ hassign ?_ hdone hstop)
  · rintro x a' _ X Y row ⟨Bx, hx, ha⟩ hg' hr
    exact ⟨Bx, hA x Bx () X Y row hx hg' hr, ha⟩
  · rintro l pre x a' W _ _ hi ⟨Bx, hx, rfl⟩ hlen
    exact hbody l pre x Bx W hi hx hlen
end
end Gn
end Go.Proofs.Ytdihefgleefhmaa
