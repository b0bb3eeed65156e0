/- The first real triangle of a mesh. -/
import Derived.Test.YtdihefgleefhmaaIt
import Derived.Test.YtdihefgleefhmaaBy
namespace Go.Proofs.Ytdihefgleefhmaa
open Go.RowKit Go.Shelf
attribute [local go_sem] Oper.semAt_some
section
variable {P : Program} {n : Nat}
/-- the law of a loop over a function whose assign code lays at most one block: the frame behind it is the frame ahead, some slots set. -/
theorem range_set {α : Type} {g : Operand} {ps : Array Tmp} {assign body : Code} {Q : Exit → Act → World → Prop} {a : Act} {w : World}
    (h1 : 1 ≤ n) {gf : Nat} {lb : Array Value} (hg : a.eval g = .func (.func gf) #[] lb) (eg : ∀ args w, (callFunc gf args).run P w = .ok (.enter gf args) w)
    {encs : α → Array Value} {Kp : World → World → Prop} {S Sp : List α → Prop} {N : Nat} (hseq : SeqStopsK Fence.wide (n - 1) P gf lb encs Kp S Sp N w)
    (hKt : ∀ {A B C : World}, Kp A B → Kp B C → Kp A C) (hKb : ∀ (W : World) (l : Nat) (o o' : Obj), w.heap.size ≤ l → W.heap[l]? = some o → o.isCells = false → o.isWalk = false → Kp W (W.putObj l o')) (hps : ∀ x, (encs x).size = ps.size)
    (I : List α → World → Prop) (Ix : Code → List α → World → Prop) (hI : OwnFrom w.heap.size I) (hIx : ∀ c, OwnFrom w.heap.size (Ix c)) (h0 : I [] w)
    (A : α → Nat → World → Prop) (hA : ∀ x Bx, OwnFrom w.heap.size (fun (_ : Unit) W => A x Bx W)) (set : α → Nat → Array Value → Array Value)
    (hassign : ∀ (l : Nat) (pre : List α) (x : α) (W : World) (K : Act → World → Prop), I pre W → (∀ a' W', KeepsFrom w.heap.size W W' → Kp W W' → I pre W' → (∃ Bx, A x Bx W' ∧ a' = { tmps := set x Bx a.tmps, defers := [] }) → K a' W') →
      assign.wpIn (Fence.wide.inRound l) (n - 1 - 1) P (Exit.then K (fun _ _ _ => False)) { tmps := (ps.zip (encs x)).foldl (fun t (p, v) => t.setIfInBounds p v) a.tmps, defers := [] } W)
    (hbody : ∀ (l : Nat) (pre : List α) (x : α) (Bx : Nat) (W : World), I pre W → A x Bx W → pre.length < N →
      body.wpIn (Fence.wide.inRound l) (n - 1 - 1) P (ownPostG w.heap.size Kp I Ix (pre ++ [x]) W) { tmps := set x Bx a.tmps, defers := [] } W)
    (hdone : ∀ (D : Nat) (xs : List α) (W : World), w.heap.size ≤ D → S xs → I xs W → W.heap[D]? = some (.deferred (some [])) → Q .normal { a with defers := { target := .collected D, args := #[] } :: a.defers } W)
    (hstop : ∀ (D : Nat) (c : Code) (pre : List α) (W : World), w.heap.size ≤ D → Sp pre → Ix c pre W → W.heap[D]? = some (.deferred (some [])) → c.wpIn Fence.wide n P Q { a with defers := { target := .collected D, args := #[] } :: a.defers } W) :
    (Code.rangeFunc g ps assign body).wp P Q a w := by
  refine (wpIn_wide (n := n)).1 (wpIn_rangeFunc_ownH (F := Fence.wide) rfl h1 hg trivial eg hseq hKt hKb (Below.refl _ _) hps I Ix hI hIx h0 (fun x a' W => ∃ Bx, A x Bx W ∧ a' = { tmps := set x Bx a.tmps, defers := [] }) ?_ hassign ?_ hdone hstop)
  · rintro x a' _ X Y row ⟨Bx, hx, ha⟩ hg' hr
    exact ⟨Bx, hA x Bx () X Y row hx hg' hr, ha⟩
  · rintro l pre x a' W _ _ hi ⟨Bx, hx, rfl⟩ hlen
    exact hbody l pre x Bx W hi hx hlen
end
theorem keeps_later {B : Nat} {W W' : World} (hb : Below W.heap.size W W') : KeepsFrom B W W' := KeepsFrom.of_grownBy (grown_later hb) (fun j e => by cases e)
theorem blk_kept {A B : World} {row : Option Nat} {b : Nat} {cs : Array Value} {t : TypeId} (h : Blk A b t cs) (hg : A.grownBy B row) (hr : ∀ r, row = some r → ∃ o : Obj, A.heap[r]? = some o ∧ o.isCells = false) : Blk B b t cs :=
  (hg.block b h.lt (fun e => by
    obtain ⟨o, ho, hc⟩ := hr b e.symm
    unfold Blk at h
    rw [h] at ho
    cases ho
    simp [Obj.isCells] at hc)).trans h
namespace Fi
attribute [local go_sem] It.wide_fn It.wide_depth
def firstReal (M : Mesh) : Int := match realsTo M M.tris.length with
  | [] => -1
  | i :: _ => (i : Nat)
set_option maxRecDepth 100000 in
set_option maxHeartbeats 1000000 in
theorem first_any (M : Mesh) (b : Nat) (w : World) (h : MeshR w b M) (ho : M.ok) (hp : 0 < M.pts.length) (ht : 0 < M.tris.length) :
    Calls Try.prog 78 #[.pointer (some ⟨b, 0, none⟩)] w fun e w' => e = .returned (.int .i64 (firstReal M)) ∧ Below w.heap.size w w' := by
  obtain ⟨gp, cp, gt, ct, ga, ca, fV, h⟩ := h
  have hla := ho.at_
  have hlt := h.lt hp ht (by omega)
  refine (callsIn_wide (n := 9)).1 (callsIn_of_wp_marks Try.func78 rfl trivial (wpIn_wide.2 ?_) rfl)
  simp only [Try.ntmps78, List.size_toArray, List.length_cons, List.length_nil, Nat.reduceAdd, Nat.reduceSub, Array.replicate_succ, Array.replicate_zero, List.push_toArray, List.append_toArray, List.nil_append, List.cons_append]
  have H := Lib.hid h
  have HLT := Lib.hid hlt
  clear h hlt
  go_wp2_with (go_at_call 24; refine (callsIn_wide.1 (It.all_in b 9 _)).mono ?_; rintro e w5 ⟨rfl, rfl⟩)
  have hR := H.out.later (bel_alloc (bel_alloc (bel_refl w) (.cells #[.int .i64 0] 3)) (.cells #[.pointer (some ⟨b, 0, none⟩)] 46))
  have hC := (Blk.new w 3 #[.int .i64 0]).alloc (.cells #[.pointer (some ⟨b, 0, none⟩)] 46)
  have hX := Blk.new' (n := w.heap.size + 1) (w.alloc (.cells #[.int .i64 0] 3)) 46 #[.pointer (some ⟨b, 0, none⟩)] (by simp)
  have hB := bel_alloc (bel_alloc (bel_refl w) (.cells #[.int .i64 0] 3)) (.cells #[.pointer (some ⟨b, 0, none⟩)] 46)
  have hs : ((w.alloc (.cells #[.int .i64 0] 3)).alloc (.cells #[.pointer (some ⟨b, 0, none⟩)] 46)).heap.size = w.heap.size + 2 := by simp
  obtain ⟨W, hW⟩ : ∃ W, (w.alloc (.cells #[.int .i64 0] 3)).alloc (.cells #[.pointer (some ⟨b, 0, none⟩)] 46) = W := ⟨_, rfl⟩
  rw [hW] at hR hC hX hB hs ⊢
  clear hW
  have hin : ∀ k ∈ (w.heap.size + 1) :: mblocks b gp gt ga, k < W.heap.size := by
    intro k hk
    rcases List.mem_cons.1 hk with rfl | hk
    · omega
    · have := HLT.out k hk; omega
  refine range_set (n := 9) (by omega) (gf := 38) (lb := #[.pointer (some ⟨w.heap.size + 1, 0, none⟩)]) rfl (enters_of Try.func38 (by kernel_rfl) rfl)
    (It.all_pos M b (w.heap.size + 1) gp cp gt ct ga ca fV 8 ((w.heap.size + 1) :: mblocks b gp gt ga) W (by simp [mblocks]) ho.tris hX hR) Keep.trans (Keep.put hin) (fun _ => rfl)
    (fun pre V => pre = [] ∧ Blk V w.heap.size 3 #[.int .i64 0] ∧ Below w.heap.size w V)
    (fun c pre V => c = .ret ∧ ∃ x : It.RealOf M, pre = [x] ∧ Blk V w.heap.size 3 #[.int .i64 x.1] ∧ Below w.heap.size w V)
    (fun _ A B row h hg' hr => ⟨h.1, blk_kept h.2.1 hg' (fun r e => (hr r e).2), h.2.2.grown hg' h.2.2.size (fun k e => by have := (hr k e).1; omega)⟩)
    (fun _ _ A B row h hg' hr => by
      obtain ⟨h1, x, h2, h3, h4⟩ := h
      exact ⟨h1, x, h2, blk_kept h3 hg' (fun r e => (hr r e).2), h4.grown hg' h4.size (fun k e => by have := (hr k e).1; omega)⟩)
    ⟨rfl, hC, hB⟩
    (fun _ _ _ => True)
    (fun _ _ _ _ _ _ _ _ _ => trivial)
    (fun x Bx t => ((t.setIfInBounds 6 (.int .i64 x.1)).setIfInBounds 7 (tv (tat M.tris x.1))).setIfInBounds 3 (.int .i64 x.1))
    ?assign ?body ?done ?stop
  case assign =>
    intro l pre x V K hi hK2
    simp only [It.encT]
    gi_wp2
    exact hK2 _ _ (keeps_later (Below.refl _ _)) (Keep.refl _ _) hi ⟨0, trivial, by simp only [List.setIfInBounds_toArray, List.set_cons_succ, List.set_cons_zero]⟩
  case body =>
    rintro l pre x Bx V ⟨rfl, hc, hb⟩ _ _
    simp only [List.setIfInBounds_toArray, List.set_cons_succ, List.set_cons_zero]
    have c0 := hc.cell 0 (.int .i64 0) rfl
    have c1 := hc.frozen 0
    have HC := Lib.hid hc
    have HBb := Lib.hid hb
    clear hc hb
    gi_wp2
    exact ⟨(KeepsOthers.setCell _ _ _).from _, rfl, x, rfl, HC.out.set 0 _, bel_set HBb.out (Nat.le_refl _) _ _⟩
  case done =>
    rintro D ys V hD hys ⟨rfl, hc, hb⟩ hK
    have hf : firstReal M = -1 := by unfold firstReal; rw [← hys]; rfl
    have c0 := hc.cell 0 (.int .i64 0) rfl
    have c1 := hc.frozen 0
    have HC := Lib.hid (hc.set 0 (.int .i64 (-1)))
    have HBb := Lib.hid hb
    have HK := Lib.hid hK
    clear hc hb hK
    go_wp2
    have fD : (V.setCell ⟨w.heap.size, 0, none⟩ (.int .i64 (-1))).heap[D]? = some (.deferred (some [])) := (Below.heap_setCell _ _ _ _ (by simp; omega)).trans HK.out
    refine ⟨by simp, .inl ⟨_, _, rfl, run_takeDeferred fD, ?_⟩⟩
    have cF : ((V.setCell ⟨w.heap.size, 0, none⟩ (.int .i64 (-1))).putObj D (.deferred none)).cell? ⟨w.heap.size, 0, none⟩ = some (.int .i64 (-1)) :=
      Blk.cell (W := (V.setCell ⟨w.heap.size, 0, none⟩ (.int .i64 (-1))).putObj D (.deferred none)) (b := w.heap.size) (t := 3) (cs := #[.int .i64 (-1)]) ((World.putObj_heap_other (by omega)).trans HC.out) 0 _ rfl
    refine ⟨.int .i64 (-1), ?_, by rw [hf], ?_⟩
    · simp [results, Try.results78, go_sem, cF]
    · exact (bel_set HBb.out (Nat.le_refl _) _ _).trans (belowK_b (w := w) (Nat.le_refl _) _ D _ _ (by omega) fD rfl rfl)
  case stop =>
    rintro D c pre V hD hp ⟨rfl, x, rfl, hc, hb⟩ hK
    have hf : firstReal M = (x.1 : Nat) := by
      unfold firstReal
      obtain ⟨t, ht⟩ := hp
      rw [← ht]
      rfl
    have HK := Lib.hid hK
    refine wpIn_wide.2 ?_
    clear hK
    go_wp2
    refine ⟨by simp, .inl ⟨_, _, rfl, run_takeDeferred HK.out, ?_⟩⟩
    have cF : (V.putObj D (.deferred none)).cell? ⟨w.heap.size, 0, none⟩ = some (.int .i64 x.1) :=
      Blk.cell (W := V.putObj D (.deferred none)) (b := w.heap.size) (t := 3) (cs := #[.int .i64 x.1]) ((World.putObj_heap_other (by omega)).trans hc) 0 _ rfl
    refine ⟨.int .i64 x.1, ?_, by rw [hf], ?_⟩
    · simp [results, Try.results78, go_sem, cF]
    · exact hb.trans (belowK_b (w := w) (Nat.le_refl _) _ D _ _ (by omega) HK.out rfl rfl)
end Fi
end Go.Proofs.Ytdihefgleefhmaa
