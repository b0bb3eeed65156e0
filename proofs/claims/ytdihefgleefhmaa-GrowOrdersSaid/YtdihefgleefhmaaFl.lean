/- Slices of points; do all points lie on a line? -/
import Derived.Test.YtdihefgleefhmaaWd
import Derived.Laws.OwnMore
import Derived.OwnWalk
namespace Go.Proofs.Ytdihefgleefhmaa
open Go.RowKit
def Pt.zero : Pt := ⟨0, 0⟩
/-- the point of a number. -/
def pat (l : List Pt) (i : Nat) : Pt := l.getD i Pt.zero
/-- a slice, at the head of a block, of points. -/
def PtsAt (W : World) (g : Nat) (l : List Pt) : Prop := l.length ≤ 4294967296 ∧ ∀ i, i < l.length → W.cell? ⟨g, i * 2, none⟩ = some (.int .i64 (pat l i).x) ∧ W.cell? ⟨g, i * 2 + 1, none⟩ = some (.int .i64 (pat l i).y)
theorem PtsAt.later {W W' : World} {g : Nat} {l : List Pt} (h : PtsAt W g l) (hb : Below W.heap.size W W') : PtsAt W' g l :=
 ⟨h.1, fun i hi => ⟨(hb.cell (World.block_lt_of_cell? _ _ (h.2 i hi).1)).trans (h.2 i hi).1, (hb.cell (World.block_lt_of_cell? _ _ (h.2 i hi).2)).trans (h.2 i hi).2⟩⟩
theorem PtsAt.cells {W : World} {g : Nat} {l : List Pt} (h : PtsAt W g l) (i : Nat) (hi : i < l.length) : (∀ u : Gq.Later W, u.w.cell? ⟨g, i * 2, none⟩ = some (.int .i64 (pat l i).x)) ∧ (∀ u : Gq.Later W, u.w.cell? ⟨g, i * 2 + 1, none⟩ = some (.int .i64 (pat l i).y)) :=
 ⟨Gq.Later.cell (h.2 i hi).1, Gq.Later.cell (h.2 i hi).2⟩
def nearAll (l : List Pt) : Prop := ∀ i, (pat l i).near
theorem zero_near : Pt.zero.near := by unfold Pt.near Pt.zero; dsimp only; omega
/-- do all points lie on a line? -/
def Flat (l : List Pt) : Prop := ∀ i, i < l.length → ∀ k, k < i → ∀ j, j < k → ori (pat l i) (pat l k) (pat l j) = 0
namespace Fl
open Wd Pr
set_option maxHeartbeats 1000000 in
theorem flat_no (g c : Nat) (l : List Pt) (w : World) (hP : PtsAt w g l) (hn : nearAll l) (b : Bool) (hb : b = true ↔ Flat l) :
  Calls Try.prog 21 #[.slice (some ⟨g, 0, none⟩) l.length c] w fun e w' => e = .returned (.bool b) ∧ Below w.heap.size w w' := by
 have hlen := hP.1
 have HP := Lib.hid hP
 have HN := Lib.hid hn
 have HB0 := Lib.hid hb
 clear hP hn hb
 go_enter Try.func21, Try.ntmps21
 go_wp2
 go_loopw [8] (fun p wr => ∃ i : Nat, p = .int .i64 i ∧ i ≤ l.length ∧ Hid (∀ i', i' < i → ∀ k, k < i' → ∀ j, j < k → ori (pat l i') (pat l k) (pat l j) = 0) ∧ Hid (Below w.heap.size w wr)) (fun p _ => l.length - (intOf p).toNat)
 case atStart => exact ⟨0, rfl, Nat.zero_le _, Lib.hid (fun i' h => by omega), Lib.hid (bel_refl w)⟩
 case round =>
  obtain ⟨i, rfl, hi, HI, HB⟩ := hrel
  by_cases hlt : i < l.length
  ·go_wp2
   go_loopw [12] (fun p wr => ∃ k : Nat, p = .int .i64 k ∧ k ≤ i ∧ Hid (∀ k', k' < k → ∀ j, j < k' → ori (pat l i) (pat l k') (pat l j) = 0) ∧ Hid (Below w.heap.size w wr)) (fun p _ => i - (intOf p).toNat)
   case atStart => exact ⟨0, rfl, Nat.zero_le _, Lib.hid (fun i' h => by omega), HB⟩
   case round =>
    obtain ⟨k, rfl, hk, HK, HB2⟩ := hrel
    by_cases hlt2 : k < i
    ·go_wp2
     go_loopw [16] (fun p wr => ∃ j : Nat, p = .int .i64 j ∧ j ≤ k ∧ Hid (∀ j', j' < j → ori (pat l i) (pat l k) (pat l j') = 0) ∧ Hid (Below w.heap.size w wr)) (fun p _ => k - (intOf p).toNat)
     case atStart => exact ⟨0, rfl, Nat.zero_le _, Lib.hid (fun i' h => by omega), HB2⟩
     case round =>
      obtain ⟨j, rfl, hj, HJ, HB3⟩ := hrel
      by_cases hlt3 : j < k
      ·have hS := sign_eq0 (ori (pat l i) (pat l k) (pat l j))
       have hO := Lib.hid (fun w => orient_any (pat l i) (pat l k) (pat l j) w (HN.out i) (HN.out k) (HN.out j))
       by_cases hz : ori (pat l i) (pat l k) (pat l j) = 0
       ·have HZ := Lib.hid hz
        rw [decide_eq_true hz] at hS
        clear hz
        generalize (ori (pat l i) (pat l k) (pat l j)).sign = s at *
        have hS2 : (s != 0) = false := by simpa using hS
        go_upto_region 10 with (fail)
        have hP := HP.out.later HB3.out
        obtain ⟨l0, l1⟩ := hP.cells i (by omega)
        obtain ⟨l2, l3⟩ := hP.cells k (by omega)
        obtain ⟨l4, l5⟩ := hP.cells j (by omega)
        clear hP
        refine Go.Gq.region (by kernel_rfl) (by kernel_rfl) ?_
        repeat (go_big_quiet_step ((go_at_call 28; exact Gq.call (hO.out _))))
        refine wpQuiet_nil ?_
        intro wx hw'
        have HX := Lib.hid (Go.Gq.later_bel hw')
        clear hw' l0 l1 l2 l3 l4 l5
        go_wp2
        go_roundw
        case rel => exact ⟨j + 1, by go_num, by omega, Lib.hid (fun j' hj' => by
         rcases Nat.lt_or_ge j' j with h | h
         ·exact HJ.out j' h
         ·have : j' = j := by omega
          subst this
          exact HZ.out), Lib.hid (bel_step HB3.out HX.out)⟩
        case measure => simp [intOf]; omega
       ·have HZ := Lib.hid hz
        rw [decide_eq_false hz] at hS
        clear hz
        generalize (ori (pat l i) (pat l k) (pat l j)).sign = s at *
        have hS2 : (s != 0) = true := by simpa using hS
        go_upto_region 10 with (fail)
        have hP := HP.out.later HB3.out
        obtain ⟨l0, l1⟩ := hP.cells i (by omega)
        obtain ⟨l2, l3⟩ := hP.cells k (by omega)
        obtain ⟨l4, l5⟩ := hP.cells j (by omega)
        clear hP
        refine Go.Gq.region (by kernel_rfl) (by kernel_rfl) ?_
        repeat (go_big_quiet_step ((go_at_call 28; exact Gq.call (hO.out _))))
        refine wpQuiet_nil ?_
        intro wx hw'
        have HX := Lib.hid (Go.Gq.later_bel hw')
        clear hw' l0 l1 l2 l3 l4 l5
        go_wp2
        go_ret
        have hF : b = false := by
         cases hbb : b
         ·rfl
         ·exact absurd (HB0.out.1 hbb i (by omega) k hlt2 j hlt3) HZ.out
        exact ⟨by rw [hF]; rfl, bel_step HB3.out HX.out⟩
      ·go_wp2
       go_roundw
       case rel => exact ⟨k + 1, by go_num, by omega, Lib.hid (fun k' hk' => by
        rcases Nat.lt_or_ge k' k with h | h
        ·exact HK.out k' h
        ·have : k' = k := by omega
         subst this
         exact fun j' hj' => HJ.out j' (by omega)), HB3⟩
       case measure => simp [intOf]; omega
    ·go_wp2
     go_roundw
     case rel => exact ⟨i + 1, by go_num, by omega, Lib.hid (fun i' hi' => by
      rcases Nat.lt_or_ge i' i with h | h
      ·exact HI.out i' h
      ·have : i' = i := by omega
       subst this
       exact fun k' hk' => HK.out k' (by omega)), HB2⟩
     case measure => simp [intOf]; omega
  ·go_wp2
   go_ret
   have hT : b = true := HB0.out.2 (fun i' hi' => HI.out i' (by omega))
   exact ⟨by rw [hT]; rfl, HB.out⟩
end Fl
end Go.Proofs.Ytdihefgleefhmaa
/- A mesh, and how it lies in memory. -/
namespace Go.Proofs.Ytdihefgleefhmaa
open Go.RowKit
/-- a triangle: its points, what lies across, which edges are faults. -/
structure Tri where
 v0 : Int
 v1 : Int
 v2 : Int
 n0 : Int
 n1 : Int
 n2 : Int
 f0 : Bool
 f1 : Bool
 f2 : Bool
deriving DecidableEq
def Tri.gone : Tri := ⟨-2, -2, -2, -1, -1, -1, false, false, false⟩
def Tri.v (t : Tri) : Nat → Int
 | 0 => t.v0
 | 1 => t.v1
 | _ => t.v2
def Tri.n (t : Tri) : Nat → Int
 | 0 => t.n0
 | 1 => t.n1
 | _ => t.n2
def Tri.f (t : Tri) : Nat → Bool
 | 0 => t.f0
 | 1 => t.f1
 | _ => t.f2
abbrev Tri.cs (t : Tri) : List Value := [.int .i64 t.v0, .int .i64 t.v1, .int .i64 t.v2, .int .i64 t.n0, .int .i64 t.n1, .int .i64 t.n2, .bool t.f0, .bool t.f1, .bool t.f2]
abbrev tv (t : Tri) : Value := .agg #[.int .i64 t.v0, .int .i64 t.v1, .int .i64 t.v2, .int .i64 t.n0, .int .i64 t.n1, .int .i64 t.n2, .bool t.f0, .bool t.f1, .bool t.f2]
abbrev Pt.cs (p : Pt) : List Value := [.int .i64 p.x, .int .i64 p.y]
structure Mesh where
 pts : List Pt
 tris : List Tri
 free : List Nat
 at_ : List Int
deriving DecidableEq
/-- the triangle of a number. -/
def tat (l : List Tri) (i : Nat) : Tri := l.getD i Tri.gone
def iat (l : List Int) (i : Nat) : Int := l.getD i 0
/-- rows of elements of k cells each. -/
theorem flat_get {α β : Type} (f : α → List β) (k : Nat) (hf : ∀ a, (f a).length = k) : ∀ (l : List α) (i j : Nat), j < k → (l.flatMap f)[i * k + j]? = (l[i]?).bind fun a => (f a)[j]?
 | [], i, j, _ => by simp
 | a :: l, 0, j, hj => by
  rw [List.flatMap_cons, Nat.zero_mul, Nat.zero_add, List.getElem?_append_left (by rw [hf]; exact hj)]
  rfl
 | a :: l, i + 1, j, hj => by
  rw [List.flatMap_cons, List.getElem?_append_right (by rw [hf, Nat.add_mul]; omega), hf]
  have e : (i + 1) * k + j - k = i * k + j := by rw [Nat.add_mul]; omega
  rw [e, flat_get f k hf l i j hj]
  rfl
theorem flat_len {α β : Type} (f : α → List β) (k : Nat) (hf : ∀ a, (f a).length = k) : ∀ l : List α, (l.flatMap f).length = l.length * k
 | [] => by simp
 | a :: l => by rw [List.flatMap_cons, List.length_append, hf, flat_len f k hf l, List.length_cons, Nat.add_mul]; omega
theorem flat_set {α β : Type} (f : α → List β) (k : Nat) (hf : ∀ a, (f a).length = k) (a' : α) (u : β) : ∀ (l : List α) (i j : Nat), j < k → (∀ a, l[i]? = some a → f a' = (f a).set j u) → (l.flatMap f).set (i * k + j) u = (l.set i a').flatMap f
 | [], i, j, _, _ => by simp
 | a :: l, 0, j, hj, h => by
  have h' := h a rfl
  rw [List.flatMap_cons, Nat.zero_mul, Nat.zero_add, List.set_append_left _ _ (by rw [hf]; exact hj), List.set_cons_zero, List.flatMap_cons, h']
 | a :: l, i + 1, j, hj, h => by
  rw [List.flatMap_cons, List.set_append_right _ _ (by rw [hf, Nat.add_mul]; omega), hf]
  have e : (i + 1) * k + j - k = i * k + j := by rw [Nat.add_mul]; omega
  rw [e, flat_set f k hf a' u l i j hj (fun b hb => h b hb), List.set_cons_succ, List.flatMap_cons]
theorem grown_later {W W' : World} (hb : Below W.heap.size W W') : W.grownBy W' none := ⟨hb.os, hb.tape, hb.output, hb.size, fun k hk _ => hb.block k hk⟩
theorem own_shape {W : World} {B e s n : Nat} {v : Value} {xs : List Value} (h : W.ownsRow B e s v n xs) (hn : 0 < n) : ∃ g c, v = .slice (some ⟨g, 0, none⟩) n c ∧ B ≤ g := by
 obtain ⟨_, ⟨_, h0⟩ | ⟨g, c, cur, hv, hB, _⟩⟩ := h
 ·omega
 ·exact ⟨g, c, hv, hB⟩
theorem own_later {W W' : World} {B e s n : Nat} {v : Value} {xs : List Value} (h : W.ownsRow B e s v n xs) (hb : Below W.heap.size W W') : W'.ownsRow B e s v n xs := by
 cases ho : v.ownBlock with
 | none => exact h.kept (grown_later hb) (.inl ho)
 | some g => exact h.kept (grown_later hb) (.inr (by rw [ho]; simp))
/-- a mesh that lies, with its header in block b, in blocks from B on. -/
structure MAt (B : Nat) (W : World) (b : Nat) (M : Mesh) (pV tV fV aV : Value) : Prop where
 head : Blk W b 53 #[pV, tV, fV, aV]
 le : B ≤ b
 pts : W.ownsRow B 32 2 pV M.pts.length (M.pts.flatMap Pt.cs)
 tris : W.ownsRow B 61 9 tV M.tris.length (M.tris.flatMap Tri.cs)
 free : W.ownsRow B 3 1 fV M.free.length (M.free.map fun (n : Nat) => Value.int .i64 n)
 at_ : W.ownsRow B 3 1 aV M.at_.length (M.at_.map (Value.int .i64))
 apart : fV.ownBlock = none ∨ fV.ownBlock ≠ aV.ownBlock
def MeshAt (B : Nat) (W : World) (b : Nat) (M : Mesh) : Prop := ∃ pV tV fV aV, MAt B W b M pV tV fV aV
theorem MAt.later {B : Nat} {W W' : World} {b : Nat} {M : Mesh} {pV tV fV aV : Value} (h : MAt B W b M pV tV fV aV) (hb : Below W.heap.size W W') : MAt B W' b M pV tV fV aV :=
 ⟨h.head.later hb, h.le, own_later h.pts hb, own_later h.tris hb, own_later h.free hb, own_later h.at_ hb, h.apart⟩
theorem MeshAt.later {B : Nat} {W W' : World} {b : Nat} {M : Mesh} (h : MeshAt B W b M) (hb : Below W.heap.size W W') : MeshAt B W' b M := by
 obtain ⟨pV, tV, fV, aV, h⟩ := h
 exact ⟨pV, tV, fV, aV, h.later hb⟩
/-- what is read of a mesh. -/
def TriAt (W : World) (g i : Nat) (t : Tri) : Prop :=
 W.cell? ⟨g, i * 9, none⟩ = some (.int .i64 t.v0) ∧ W.cell? ⟨g, i * 9 + 1, none⟩ = some (.int .i64 t.v1) ∧ W.cell? ⟨g, i * 9 + 2, none⟩ = some (.int .i64 t.v2) ∧
 W.cell? ⟨g, i * 9 + 3, none⟩ = some (.int .i64 t.n0) ∧ W.cell? ⟨g, i * 9 + 4, none⟩ = some (.int .i64 t.n1) ∧ W.cell? ⟨g, i * 9 + 5, none⟩ = some (.int .i64 t.n2) ∧
 W.cell? ⟨g, i * 9 + 6, none⟩ = some (.bool t.f0) ∧ W.cell? ⟨g, i * 9 + 7, none⟩ = some (.bool t.f1) ∧ W.cell? ⟨g, i * 9 + 8, none⟩ = some (.bool t.f2)
structure MR (W : World) (b : Nat) (M : Mesh) (gp cp gt ct ga ca : Nat) (fV : Value) : Prop where
 head : Blk W b 53 #[.slice (some ⟨gp, 0, none⟩) M.pts.length cp, .slice (some ⟨gt, 0, none⟩) M.tris.length ct, fV, .slice (some ⟨ga, 0, none⟩) M.at_.length ca]
 pts : ∀ i, i < M.pts.length → W.cell? ⟨gp, i * 2, none⟩ = some (.int .i64 (pat M.pts i).x) ∧ W.cell? ⟨gp, i * 2 + 1, none⟩ = some (.int .i64 (pat M.pts i).y)
 tris : ∀ i, i < M.tris.length → TriAt W gt i (tat M.tris i)
 at_ : ∀ i, i < M.at_.length → W.cell? ⟨ga, i, none⟩ = some (.int .i64 (iat M.at_ i))
def MeshR (W : World) (b : Nat) (M : Mesh) : Prop := ∃ gp cp gt ct ga ca fV, MR W b M gp cp gt ct ga ca fV
theorem cell_later {W W' : World} {p : Addr} {v : Value} (h : W.cell? p = some v) (hb : Below W.heap.size W W') : W'.cell? p = some v := (hb.cell (World.block_lt_of_cell? _ _ h)).trans h
theorem TriAt.later {W W' : World} {g i : Nat} {t : Tri} (h : TriAt W g i t) (hb : Below W.heap.size W W') : TriAt W' g i t := by
 obtain ⟨h0, h1, h2, h3, h4, h5, h6, h7, h8⟩ := h
 exact ⟨cell_later h0 hb, cell_later h1 hb, cell_later h2 hb, cell_later h3 hb, cell_later h4 hb, cell_later h5 hb, cell_later h6 hb, cell_later h7 hb, cell_later h8 hb⟩
theorem MR.later {W W' : World} {b : Nat} {M : Mesh} {gp cp gt ct ga ca : Nat} {fV : Value} (h : MR W b M gp cp gt ct ga ca fV) (hb : Below W.heap.size W W') : MR W' b M gp cp gt ct ga ca fV :=
 ⟨h.head.later hb, fun i hi => ⟨cell_later (h.pts i hi).1 hb, cell_later (h.pts i hi).2 hb⟩, fun i hi => (h.tris i hi).later hb, fun i hi => cell_later (h.at_ i hi) hb⟩
theorem MeshR.later {W W' : World} {b : Nat} {M : Mesh} (h : MeshR W b M) (hb : Below W.heap.size W W') : MeshR W' b M := by
 obtain ⟨gp, cp, gt, ct, ga, ca, fV, h⟩ := h
 exact ⟨gp, cp, gt, ct, ga, ca, fV, h.later hb⟩
theorem pat_get {l : List Pt} {i : Nat} (h : i < l.length) : l[i]? = some (pat l i) := by unfold pat; rw [List.getD_eq_getElem?_getD, List.getElem?_eq_getElem h]; rfl
theorem tat_get {l : List Tri} {i : Nat} (h : i < l.length) : l[i]? = some (tat l i) := by unfold tat; rw [List.getD_eq_getElem?_getD, List.getElem?_eq_getElem h]; rfl
theorem iat_get {l : List Int} {i : Nat} (h : i < l.length) : l[i]? = some (iat l i) := by unfold iat; rw [List.getD_eq_getElem?_getD, List.getElem?_eq_getElem h]; rfl
theorem MeshAt.read {B : Nat} {W : World} {b : Nat} {M : Mesh} (h : MeshAt B W b M) (hp : 0 < M.pts.length) (ht : 0 < M.tris.length) (ha : 0 < M.at_.length) : MeshR W b M := by
 obtain ⟨pV, tV, fV, aV, h⟩ := h
 obtain ⟨gp, cp, rfl, _⟩ := own_shape h.pts hp
 obtain ⟨gt, ct, rfl, _⟩ := own_shape h.tris ht
 obtain ⟨ga, ca, rfl, _⟩ := own_shape h.at_ ha
 refine ⟨gp, cp, gt, ct, ga, ca, fV, h.head, fun i hi => ?_, fun i hi => ?_, fun i hi => ?_⟩
 ·have k := fun j (hj : j < 2) => (h.pts.cellAt (i * 2 + j) (by omega)).trans ((flat_get Pt.cs 2 (fun _ => rfl) M.pts i j hj).trans (by rw [pat_get hi]))
  exact ⟨k 0 (by omega), k 1 (by omega)⟩
 ·have k := fun j (hj : j < 9) => (h.tris.cellAt (i * 9 + j) (by omega)).trans ((flat_get Tri.cs 9 (fun _ => rfl) M.tris i j hj).trans (by rw [tat_get hi]))
  exact ⟨k 0 (by omega), k 1 (by omega), k 2 (by omega), k 3 (by omega), k 4 (by omega), k 5 (by omega), k 6 (by omega), k 7 (by omega), k 8 (by omega)⟩
 ·have := h.at_.cellAt i (by omega)
  rw [this, List.getElem?_map, iat_get hi]
  rfl
end Go.Proofs.Ytdihefgleefhmaa
/- What only reads a mesh: At, Real, place. -/
namespace Go.Proofs.Ytdihefgleefhmaa
open Go.RowKit
namespace Mr
open Wd Pr
theorem at_any (M : Mesh) (b : Nat) (v : Nat) (w : World) (h : MeshR w b M) (hv : v < M.at_.length) :
  Calls Try.prog 23 #[.pointer (some ⟨b, 0, none⟩), .int .i64 v] w fun e w' => e = .returned (.int .i64 (iat M.at_ v)) ∧ w = w' := by
 obtain ⟨gp, cp, gt, ct, ga, ca, fV, h⟩ := h
 have k := h.head.cell 3 _ rfl
 have k2 := h.at_ v hv
 clear h
 go_enter Try.func23, Try.ntmps23
 go_wp2
 go_ret
 exact ⟨rfl, rfl⟩
/-- is there a real triangle of that number? -/
def realB (M : Mesh) (t : Int) : Bool := decide (0 ≤ t ∧ t < M.tris.length) && (decide (0 ≤ (tat M.tris t.toNat).v0) && decide (0 ≤ (tat M.tris t.toNat).v1) && decide (0 ≤ (tat M.tris t.toNat).v2))
theorem real_any (M : Mesh) (b : Nat) (t : Int) (w : World) (h : MeshR w b M) :
  Calls Try.prog 39 #[.pointer (some ⟨b, 0, none⟩), .int .i64 t] w fun e w' => e = .returned (.bool (realB M t)) ∧ Below w.heap.size w w' := by
 obtain ⟨gp, cp, gt, ct, ga, ca, fV, h⟩ := h
 have k := h.head.cell 1 _ rfl
 by_cases h1 : t < 0
 ·have e : realB M t = false := by unfold realB; rw [decide_eq_false (by omega)]; rfl
  rw [e]
  clear h e
  go_enter Try.func39, Try.ntmps39
  go_wp2
  go_ret
  exact ⟨rfl, bel_refl _⟩
 obtain ⟨i, rfl⟩ := Int.eq_ofNat_of_zero_le (Int.not_lt.mp h1)
 by_cases h2 : i < M.tris.length
 ·have e : realB M (i : Int) = (decide (0 ≤ (tat M.tris i).v0) && decide (0 ≤ (tat M.tris i).v1) && decide (0 ≤ (tat M.tris i).v2)) := by unfold realB; rw [decide_eq_true (by omega)]; rfl
  rw [e]
  obtain ⟨t0, t1, t2, _, _, _, _, _, _⟩ := h.tris i h2
  clear h e
  generalize (tat M.tris i).v0 = x0 at *
  generalize (tat M.tris i).v1 = x1 at *
  generalize (tat M.tris i).v2 = x2 at *
  cases c0 : decide (0 ≤ x0)
  ·go_enter Try.func39, Try.ntmps39
   go_wp2
   go_ret
   exact ⟨rfl, bel_alloc (bel_refl _) _⟩
  cases c1 : decide (0 ≤ x1)
  ·go_enter Try.func39, Try.ntmps39
   go_wp2
   go_ret
   exact ⟨rfl, bel_alloc (bel_refl _) _⟩
  go_enter Try.func39, Try.ntmps39
  go_wp2
  go_ret
  exact ⟨rfl, bel_alloc (bel_refl _) _⟩
 ·have e : realB M (i : Int) = false := by unfold realB; rw [decide_eq_false (by omega)]; rfl
  rw [e]
  clear h e
  go_enter Try.func39, Try.ntmps39
  go_wp2
  go_ret
  exact ⟨rfl, bel_refl _⟩
/-- where a point stands in a triangle; below 0: nowhere. -/
def place (t : Tri) (v : Int) : Int := if t.v0 = v then 0 else if t.v1 = v then 1 else if t.v2 = v then 2 else -1
theorem place_any (t : Tri) (v : Int) (w : World) :
  Calls Try.prog 61 #[tv t, .int .i64 v] w fun e w' => e = .returned (.int .i64 (place t v)) ∧ Below w.heap.size w w' := by
 obtain ⟨v0, v1, v2, n0, n1, n2, f0, f1, f2⟩ := t
 have hB := Blk.new w 61 #[.int .i64 v0, .int .i64 v1, .int .i64 v2, .int .i64 n0, .int .i64 n1, .int .i64 n2, .bool f0, .bool f1, .bool f2]
 have hI := Try.slices_Index_int w.heap.size 0 3 3 [v0, v1, v2] v (w.alloc (.cells #[.int .i64 v0, .int .i64 v1, .int .i64 v2, .int .i64 n0, .int .i64 n1, .int .i64 n2, .bool f0, .bool f1, .bool f2] 61)) (by simp) (by omega) (by
  intro j hj
  match j, hj with
  | 0, _ => exact hB.cell 0 _ rfl
  | 1, _ => exact hB.cell 1 _ rfl
  | 2, _ => exact hB.cell 2 _ rfl
  | j + 3, hj => simp at hj; omega)
 have e : (Lib.idxOf ([v0, v1, v2].take 3) v : Int) = place ⟨v0, v1, v2, n0, n1, n2, f0, f1, f2⟩ v := by
  unfold place
  simp only [Lib.idxOf, Lib.idxFrom, List.take_succ_cons, List.take_zero]
  split <;> (try split) <;> (try split) <;> simp_all
 rw [e] at hI
 have HI := Lib.hid hI
 clear hI e hB
 go_enter Try.func61, Try.ntmps61
 go_wp2_with (go_at_call 86; refine HI.out.mono ?_; rintro e w1 ⟨rfl, rfl⟩)
 go_ret
 exact ⟨rfl, bel_alloc (bel_refl _) _⟩
end Mr
end Go.Proofs.Ytdihefgleefhmaa
/- Does a point lie strictly beyond an edge of a triangle? -/
namespace Go.Proofs.Ytdihefgleefhmaa
open Go.RowKit
/-- all that is asked of a mesh's numbers by what reads it. -/
structure Mesh.ok (M : Mesh) : Prop where
 near : nearAll M.pts
 pts : M.pts.length ≤ 1000000000
 tris : M.tris.length ≤ 1000000000
 at_ : M.at_.length = M.pts.length
/-- twice the area of an edge's points, by numbers, and a third one. -/
def oriE (M : Mesh) (a b : Int) (p : Pt) : Int := ori (pat M.pts a.toNat) (pat M.pts b.toNat) p
def beyond (M : Mesh) (t : Tri) (i : Nat) (p : Pt) : Bool := decide (oriE M (t.v ((i + 1) % 3)) (t.v ((i + 2) % 3)) p < 0)
namespace By
open Wd Pr
theorem sign_lt (n : Int) : decide (n.sign < 0) = decide (n < 0) := by
 rw [Bool.eq_iff_iff]; simp [Int.sign_neg_iff]
set_option maxHeartbeats 1000000 in
set_option maxRecDepth 100000 in
theorem beyond_any (M : Mesh) (b : Nat) (t : Tri) (i : Nat) (p : Pt) (w : World) (h : MeshR w b M) (ho : M.ok) (hi : i < 3) (hp : p.near) (x y : Nat) (hx : t.v ((i + 1) % 3) = x) (hy : t.v ((i + 2) % 3) = y) (hxl : x < M.pts.length) (hyl : y < M.pts.length) :
  Calls Try.prog 79 #[.pointer (some ⟨b, 0, none⟩), tv t, .int .i64 i, pv p] w fun e w' => e = .returned (.bool (beyond M t i p)) ∧ Below w.heap.size w w' := by
 obtain ⟨gp, cp, gt, ct, ga, ca, fV, h⟩ := h
 have hO := fun w => orient_any (pat M.pts x) (pat M.pts y) p w (ho.near x) (ho.near y) hp
 have e : beyond M t i p = decide ((ori (pat M.pts x) (pat M.pts y) p).sign < 0) := by
  rw [sign_lt]
  unfold beyond oriE
  rw [hx, hy]
  rfl
 rw [e]
 clear e
 have h2 := h.later (bel_alloc (bel_alloc (bel_refl w) (.cells #[.int .i64 t.v0, .int .i64 t.v1, .int .i64 t.v2, .int .i64 t.n0, .int .i64 t.n1, .int .i64 t.n2, .bool t.f0, .bool t.f1, .bool t.f2] 61)) (.cells #[.int .i64 p.x, .int .i64 p.y] 32))
 generalize (ori (pat M.pts x) (pat M.pts y) p).sign = s at hO ⊢
 have HO := Lib.hid hO
 have B1 := (Blk.new w 61 #[.int .i64 t.v0, .int .i64 t.v1, .int .i64 t.v2, .int .i64 t.n0, .int .i64 t.n1, .int .i64 t.n2, .bool t.f0, .bool t.f1, .bool t.f2]).alloc (.cells #[.int .i64 p.x, .int .i64 p.y] 32)
 have B2 := Blk.new' (n := w.heap.size + 1) (w.alloc (.cells #[.int .i64 t.v0, .int .i64 t.v1, .int .i64 t.v2, .int .i64 t.n0, .int .i64 t.n1, .int .i64 t.n2, .bool t.f0, .bool t.f1, .bool t.f2] 61)) 32 #[.int .i64 p.x, .int .i64 p.y] (by simp)
 have HB := Lib.hid (bel_alloc (bel_alloc (bel_refl w) (.cells #[.int .i64 t.v0, .int .i64 t.v1, .int .i64 t.v2, .int .i64 t.n0, .int .i64 t.n1, .int .i64 t.n2, .bool t.f0, .bool t.f1, .bool t.f2] 61)) (.cells #[.int .i64 p.x, .int .i64 p.y] 32))
 clear hO h
 go_enter Try.func79, Try.ntmps79
 go_upto_region 1 with (fail)
 obtain ⟨W, hW⟩ : ∃ W, (w.alloc (.cells #[.int .i64 t.v0, .int .i64 t.v1, .int .i64 t.v2, .int .i64 t.n0, .int .i64 t.n1, .int .i64 t.n2, .bool t.f0, .bool t.f1, .bool t.f2] 61)).alloc (.cells #[.int .i64 p.x, .int .i64 p.y] 32) = W := ⟨_, rfl⟩
 rw [hW] at h2 B1 B2 HB ⊢
 clear hW
 have lx := Gq.Later.cell (h2.head.cell 0 (.slice (some ⟨gp, 0, none⟩) M.pts.length cp) rfl)
 have px0 := Gq.Later.cell (h2.pts x hxl).1
 have px1 := Gq.Later.cell (h2.pts x hxl).2
 have py0 := Gq.Later.cell (h2.pts y hyl).1
 have py1 := Gq.Later.cell (h2.pts y hyl).2
 have q0 := B2.cells 0 (.int .i64 p.x) rfl
 have q1 := B2.cells 1 (.int .i64 p.y) rfl
 have xi : (0 : Int) ≤ (x : Int) := by omega
 have xi1 : (x : Int) < (M.pts.length : Int) := by omega
 have yi : (0 : Int) ≤ (y : Int) := by omega
 have yi1 : (y : Int) < (M.pts.length : Int) := by omega
 rcases (show i = 0 ∨ i = 1 ∨ i = 2 by omega) with rfl | rfl | rfl
 ·have r0 : ∀ u : Gq.Later W, u.w.cell? ⟨w.heap.size, 1, none⟩ = some (.int .i64 x) := hx ▸ B1.cells 1 (.int .i64 t.v1) rfl
  have r1 : ∀ u : Gq.Later W, u.w.cell? ⟨w.heap.size, 2, none⟩ = some (.int .i64 y) := hy ▸ B1.cells 2 (.int .i64 t.v2) rfl
  clear hx hy h2 B1 B2
  refine Go.Gq.region (by kernel_rfl) (by kernel_rfl) ?_
  repeat (go_big_quiet_step ((go_at_call 28; exact Gq.call (HO.out _))))
  refine wpQuiet_nil ?_
  intro wx hw'
  have HX := Lib.hid (Go.Gq.later_bel hw')
  clear hw' lx px0 px1 py0 py1 q0 q1 r0 r1
  go_wp2
  go_ret
  exact ⟨rfl, bel_step HB.out HX.out⟩
 ·have r0 : ∀ u : Gq.Later W, u.w.cell? ⟨w.heap.size, 2, none⟩ = some (.int .i64 x) := hx ▸ B1.cells 2 (.int .i64 t.v2) rfl
  have r1 : ∀ u : Gq.Later W, u.w.cell? ⟨w.heap.size, 0, none⟩ = some (.int .i64 y) := hy ▸ B1.cells 0 (.int .i64 t.v0) rfl
  clear hx hy h2 B1 B2
  refine Go.Gq.region (by kernel_rfl) (by kernel_rfl) ?_
  repeat (go_big_quiet_step ((go_at_call 28; exact Gq.call (HO.out _))))
  refine wpQuiet_nil ?_
  intro wx hw'
  have HX := Lib.hid (Go.Gq.later_bel hw')
  clear hw' lx px0 px1 py0 py1 q0 q1 r0 r1
  go_wp2
  go_ret
  exact ⟨rfl, bel_step HB.out HX.out⟩
 ·have r0 : ∀ u : Gq.Later W, u.w.cell? ⟨w.heap.size, 0, none⟩ = some (.int .i64 x) := hx ▸ B1.cells 0 (.int .i64 t.v0) rfl
  have r1 : ∀ u : Gq.Later W, u.w.cell? ⟨w.heap.size, 1, none⟩ = some (.int .i64 y) := hy ▸ B1.cells 1 (.int .i64 t.v1) rfl
  clear hx hy h2 B1 B2
  refine Go.Gq.region (by kernel_rfl) (by kernel_rfl) ?_
  repeat (go_big_quiet_step ((go_at_call 28; exact Gq.call (HO.out _))))
  refine wpQuiet_nil ?_
  intro wx hw'
  have HX := Lib.hid (Go.Gq.later_bel hw')
  clear hw' lx px0 px1 py0 py1 q0 q1 r0 r1
  go_wp2
  go_ret
  exact ⟨rfl, bel_step HB.out HX.out⟩
end By
end Go.Proofs.Ytdihefgleefhmaa
