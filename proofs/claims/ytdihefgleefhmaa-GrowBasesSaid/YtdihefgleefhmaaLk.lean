/- Link: two edges lie across each other. -/
import Derived.Test.YtdihefgleefhmaaMs
import Derived.Deep.RegionHeld3
import Derived.Deep.DrawnRows
namespace Go.Proofs.Ytdihefgleefhmaa
open Go.RowKit
attribute [local go_sem ↓] Go.wp_at_zero Go.wp_at_succ
def Mesh.link (M : Mesh) (t i u j : Nat) (f : Bool) : Mesh :=
  let A := M.setTri t ((tat M.tris t).setN i u)
  let B := A.setTri u ((tat A.tris u).setN j t)
  let C := B.setTri t ((tat B.tris t).setF i f)
  C.setTri u ((tat C.tris u).setF j f)
theorem MAt.drew {B : Nat} {W : World} {b : Nat} {M : Mesh} {pV tV fV aV : Value} (h : MAt B W b M pV tV fV aV) : MAt B W.drew b M pV tV fV aV := h.later (bel_drew (bel_refl W))
/-- blocks of others: none of them is one of the mesh's. -/
def Far (F : Nat → Prop) (b : Nat) (pV tV fV aV : Value) : Prop := ¬ F b ∧ ∀ g, (pV.ownBlock = some g ∨ tV.ownBlock = some g ∨ fV.ownBlock = some g ∨ aV.ownBlock = some g) → ¬ F g
/-- a mesh that lies beside the blocks of F. -/
def MeshF (F : Nat → Prop) (B : Nat) (W : World) (b : Nat) (M : Mesh) : Prop := ∃ pV tV fV aV, MAt B W b M pV tV fV aV ∧ Far F b pV tV fV aV
/-- the blocks of F are as they were. -/
def Same (F : Nat → Prop) (W W' : World) : Prop := ∀ k, F k → W'.heap[k]? = W.heap[k]?
theorem Same.refl (F : Nat → Prop) (W : World) : Same F W W := fun _ _ => rfl
theorem Same.trans {F : Nat → Prop} {W W' W'' : World} (h : Same F W W') (k : Same F W' W'') : Same F W W'' := fun n hn => (k n hn).trans (h n hn)
theorem Same.set {F : Nat → Prop} {W W' : World} (h : Same F W W') {c : Nat} (hc : ¬ F c) (i : Nat) (v : Value) : Same F W (W'.setCell ⟨c, i, none⟩ v) := fun n hn =>
  (heap_setCell_other W' ⟨c, i, none⟩ n v (fun e => hc ((show n = c from e) ▸ hn))).trans (h n hn)
theorem Same.drew {F : Nat → Prop} {W W' : World} (h : Same F W W') : Same F W W'.drew := h
theorem Same.alloc {F : Nat → Prop} {W W' : World} (h : Same F W W') (hF : ∀ k, F k → k < W'.heap.size) (o : Obj) : Same F W (W'.alloc o) := fun n hn => (Below.heap_alloc _ _ _ (hF n hn)).trans (h n hn)
theorem Same.grown {F : Nat → Prop} {W W' W'' : World} (h : Same F W W') (hF : ∀ k, F k → k < W'.heap.size) {row : Option Nat} (hg : W'.grownBy W'' row) (hr : ∀ g, row = some g → ¬ F g) : Same F W W'' := fun n hn =>
  (hg.block n (hF n hn) (fun e => hr n e.symm hn)).trans (h n hn)
theorem Same.below {F : Nat → Prop} {W W' : World} (hF : ∀ k, F k → k < W.heap.size) (h : Below W.heap.size W W') : Same F W W' := fun n hn => h.block n (hF n hn)
theorem MeshF.at_ {F : Nat → Prop} {B : Nat} {W : World} {b : Nat} {M : Mesh} (h : MeshF F B W b M) : MeshAt B W b M := by
  obtain ⟨pV, tV, fV, aV, h, _⟩ := h
  exact ⟨pV, tV, fV, aV, h⟩
theorem MeshF.later {F : Nat → Prop} {B : Nat} {W W' : World} {b : Nat} {M : Mesh} (h : MeshF F B W b M) (hb : Below W.heap.size W W') : MeshF F B W' b M := by
  obtain ⟨pV, tV, fV, aV, h, hf⟩ := h
  exact ⟨pV, tV, fV, aV, h.later hb, hf⟩
/-- all the mesh's blocks lie below what is there: new blocks may be added to those of others. -/
theorem MeshF.wider {F : Nat → Prop} {B : Nat} {W : World} {b : Nat} {M : Mesh} (h : MeshF F B W b M) (G : Nat → Prop) (hG : ∀ k, G k → F k ∨ W.heap.size ≤ k) : MeshF G B W b M := by
  obtain ⟨pV, tV, fV, aV, h, hf⟩ := h
  refine ⟨pV, tV, fV, aV, h, fun hg => ?_, fun g hg hgg => ?_⟩
  · rcases hG _ hg with h1 | h1
    · exact hf.1 h1
    · have := h.head.lt; omega
  · rcases hG _ hgg with h1 | h1
    · exact hf.2 g hg h1
    · rcases hg with hg | hg | hg | hg
      · have := (h.pts.lt g hg).2; omega
      · have := (h.tris.lt g hg).2; omega
      · have := (h.free.lt g hg).2; omega
      · have := (h.at_.lt g hg).2; omega
namespace Lk
theorem cells {B : Nat} {W : World} {b : Nat} {M : Mesh} {pV fV aV : Value} {gt ct : Nat} (h : MAt B W b M pV (.slice (some ⟨gt, 0, none⟩) M.tris.length ct) fV aV) (t j : Nat) (ht : t < M.tris.length) (hj : j < 9) : ∃ v, W.cell? ⟨gt, t * 9 + j, none⟩ = some v := by
  have k := (h.tris.cellAt (t * 9 + j) (by omega)).trans (flat_get Tri.cs 9 (fun _ => rfl) M.tris t j hj)
  rw [tat_get ht] at k
  have : j < (tat M.tris t).cs.length := hj
  exact ⟨(tat M.tris t).cs[j], k.trans (List.getElem?_eq_getElem this)⟩
theorem keepH {b gt : Nat} (hb : b ≠ gt) : ∀ (W : World) (k : Nat) (x : Value), (W.setCell ⟨gt, k, none⟩ x).cell? ⟨b, 1, none⟩ = W.cell? ⟨b, 1, none⟩ :=
  fun W k x => World.cell?_of_block (heap_setCell_other W ⟨gt, k, none⟩ b x hb)
theorem stored' {B : Nat} {W : World} {b : Nat} {M : Mesh} {pV fV aV : Value} {gt ct n : Nat} (h : MAt B W b M pV (.slice (some ⟨gt, 0, none⟩) n ct) fV aV) (hn : M.tris.length = n) (t j : Nat) (ht : t < n) (hj : j < 9) (x : Tri) (u : Value) (hx : x.cs = (tat M.tris t).cs.set j u) :
    MAt B (W.setCell ⟨gt, t * 9 + j, none⟩ u) b (M.setTri t x) pV (.slice (some ⟨gt, 0, none⟩) n ct) fV aV := by
  subst hn
  exact h.stored t j ht hj x u hx
theorem len_set (M : Mesh) (t : Nat) (x : Tri) : (M.setTri t x).tris.length = M.tris.length := List.length_set
set_option maxHeartbeats 1000000 in
theorem link_any (F : Nat → Prop) (B b t i u j : Nat) (f : Bool) (M : Mesh) (w : World) (h : MeshF F B w b M) (ht : t < M.tris.length) (hu : u < M.tris.length) (hi : i < 3) (hj : j < 3) (hn : M.tris.length ≤ 1000000000) :
    Calls Try.prog 55 #[.pointer (some ⟨b, 0, none⟩), .int .i64 t, .int .i64 i, .int .i64 u, .int .i64 j, .bool f] w fun e w' => e = .returned (.tuple #[]) ∧ MeshF F B w' b (M.link t i u j f) ∧ Below B w w' ∧ Same F w w' := by
  obtain ⟨pV, tV, fV, aV, h, hF⟩ := h
  obtain ⟨gt, ct, rfl, hB⟩ := own_shape h.tris (by omega)
  have hb := blk_ne h.head h.tris (by decide) rfl
  have hk := keepH hb
  have hh := h.head.cell 1 _ rfl
  have hf : ∀ k, w.frozen? ⟨gt, k, none⟩ = false := fun k => h.tris.frozenAt k
  obtain ⟨x, hx⟩ := cells h t (3 + i) ht (by omega)
  obtain ⟨y, hy⟩ := cells h u (3 + j) hu (by omega)
  rw [← Nat.add_assoc] at hx hy
  have i0 : (0 : Int) ≤ (i : Int) := by omega
  have i1 : (i : Int) < 3 := by omega
  have j0 : (0 : Int) ≤ (j : Int) := by omega
  have j1 : (j : Int) < 3 := by omega
  obtain ⟨y1, hy1⟩ := cell?_setCell_some (w := w) (p := ⟨gt, t * 9 + 3 + i, none⟩) (x := .int .i64 u) (q := ⟨gt, u * 9 + 3 + j, none⟩) (v := y) hy
  have H := Lib.hid h
  have nf : ¬ F gt := hF.2 gt (.inr (.inl rfl))
  have HF := Lib.hid hF
  have NF := Lib.hid nf
  clear h hb hF nf
  obtain ⟨n, hnn⟩ : ∃ n, M.tris.length = n := ⟨_, rfl⟩
  have HN := Lib.hid hnn
  rw [hnn] at hh ht hu hn
  clear hnn
  go_enter Try.func55, Try.ntmps55
  go_upto_region 0 with (fail)
  go_region_held3 (fun w' => w'.cell? ⟨b, 1, none⟩ = some (.slice (some ⟨gt, 0, none⟩) n ct)) (go_keep) (fail)
  go_wp2
  have HB2 := Lib.hid ((((Below.refl B w).setCell (p := ⟨gt, t * 9 + 3 + i, none⟩) hB (.int .i64 u)).setCell (p := ⟨gt, u * 9 + 3 + j, none⟩) hB (.int .i64 t)).drew)
  have HS2 := Lib.hid ((((Same.refl F w).set NF.out (t * 9 + 3 + i) (.int .i64 u)).set NF.out (u * 9 + 3 + j) (.int .i64 t)).drew)
  have hM : MAt B w b M pV (.slice (some ⟨gt, 0, none⟩) n ct) fV aV := HN.out ▸ H.out
  have hA := stored' hM HN.out t (3 + i) ht (by omega) _ (.int .i64 u) (setN_cs (tat M.tris t) i hi u)
  have hA2 := stored' hA ((len_set _ _ _).trans HN.out) u (3 + j) hu (by omega) _ (.int .i64 t) (setN_cs (tat (M.setTri t ((tat M.tris t).setN i u)).tris u) j hj t)
  rw [← Nat.add_assoc, ← Nat.add_assoc] at hA2
  have hA3 := hA2.drew
  have hL2 : ((M.setTri t ((tat M.tris t).setN i u)).setTri u ((tat (M.setTri t ((tat M.tris t).setN i u)).tris u).setN j t)).tris.length = n := (len_set _ _ _).trans ((len_set _ _ _).trans HN.out)
  have hlink : M.link t i u j f = ((((M.setTri t ((tat M.tris t).setN i u)).setTri u ((tat (M.setTri t ((tat M.tris t).setN i u)).tris u).setN j t)).setTri t ((tat ((M.setTri t ((tat M.tris t).setN i u)).setTri u ((tat (M.setTri t ((tat M.tris t).setN i u)).tris u).setN j t)).tris t).setF i f))).setTri u ((tat (((M.setTri t ((tat M.tris t).setN i u)).setTri u ((tat (M.setTri t ((tat M.tris t).setN i u)).tris u).setN j t)).setTri t ((tat ((M.setTri t ((tat M.tris t).setN i u)).setTri u ((tat (M.setTri t ((tat M.tris t).setN i u)).tris u).setN j t)).tris t).setF i f)).tris u).setF j f) := rfl
  have HLINK := Lib.hid hlink
  clear hA hA2 hM hx hy hy1 hlink
  generalize (M.setTri t ((tat M.tris t).setN i u)).setTri u ((tat (M.setTri t ((tat M.tris t).setN i u)).tris u).setN j t) = M2 at *
  obtain ⟨W, hW⟩ : ∃ W, ((w.setCell ⟨gt, t * 9 + 3 + i, none⟩ (.int .i64 u)).setCell ⟨gt, u * 9 + 3 + j, none⟩ (.int .i64 t)).drew = W := ⟨_, rfl⟩
  rw [hW] at hA3 HB2 HS2 ⊢
  clear hW hh hf
  have hh := hA3.head.cell 1 _ rfl
  have hf : ∀ k, W.frozen? ⟨gt, k, none⟩ = false := fun k => (hL2 ▸ hA3 : MAt B W b M2 pV (.slice (some ⟨gt, 0, none⟩) M2.tris.length ct) fV aV).tris.frozenAt k
  obtain ⟨x, hx⟩ := cells (hL2 ▸ hA3 : MAt B W b M2 pV (.slice (some ⟨gt, 0, none⟩) M2.tris.length ct) fV aV) t (6 + i) (by omega) (by omega)
  obtain ⟨y, hy⟩ := cells (hL2 ▸ hA3 : MAt B W b M2 pV (.slice (some ⟨gt, 0, none⟩) M2.tris.length ct) fV aV) u (6 + j) (by omega) (by omega)
  rw [← Nat.add_assoc] at hx hy
  obtain ⟨y1, hy1⟩ := cell?_setCell_some (w := W) (p := ⟨gt, t * 9 + 6 + i, none⟩) (x := .bool f) (q := ⟨gt, u * 9 + 6 + j, none⟩) (v := y) hy
  have HA3 := Lib.hid hA3
  have HL2 := Lib.hid hL2
  clear hA3 hL2
  go_region_held3 (fun w' => w'.cell? ⟨b, 1, none⟩ = some (.slice (some ⟨gt, 0, none⟩) n ct)) (go_keep) (fail)
  go_wp2
  go_end0
  have hA := stored' HA3.out HL2.out t (6 + i) ht (by omega) _ (.bool f) (setF_cs (tat M2.tris t) i hi f)
  have hA2 := stored' hA ((len_set _ _ _).trans HL2.out) u (6 + j) hu (by omega) _ (.bool f) (setF_cs (tat (M2.setTri t ((tat M2.tris t).setF i f)).tris u) j hj f)
  rw [← Nat.add_assoc, ← Nat.add_assoc] at hA2
  rw [HLINK.out]
  exact ⟨rfl, ⟨_, _, _, _, hA2.drew, HF.out⟩, (((HB2.out).setCell (p := ⟨gt, t * 9 + 6 + i, none⟩) hB (.bool f)).setCell (p := ⟨gt, u * 9 + 6 + j, none⟩) hB (.bool f)).drew, ((HS2.out.set NF.out _ _).set NF.out _ _).drew⟩
end Lk
end Go.Proofs.Ytdihefgleefhmaa
