/- The loop over all real triangles of a mesh: an iterator. -/
import Derived.Test.YtdihefgleefhmaaMr
import Derived.RangeFuncNested
import Derived.RangeFuncLeaves
import Derived.RangeFuncBound
import Derived.Shelf.Abstract
import Derived.OwnWalkIn
import Derived.TacticsInMore
import Derived.LoopNIn
import Derived.LoopIn
import Derived.LoopTactic
namespace Go.Proofs.Ytdihefgleefhmaa
open Go.RowKit Go.Shelf
attribute [local go_sem] Oper.semAt_some
/-- these blocks are as they were. -/
def Keep (L : List Nat) (A B : World) : Prop := ∀ k ∈ L, B.heap[k]? = A.heap[k]?
theorem Keep.refl (L : List Nat) (A : World) : Keep L A A := fun _ _ => rfl
theorem Keep.trans {L : List Nat} {A B C : World} (h : Keep L A B) (k : Keep L B C) : Keep L A C := fun i hi => (k i hi).trans (h i hi)
theorem Keep.below {L : List Nat} {A B : World} (h : Below A.heap.size A B) (hl : ∀ k ∈ L, k < A.heap.size) : Keep L A B := fun k hk => h.block k (hl k hk)
theorem Keep.put {L : List Nat} {n : Nat} (hl : ∀ k ∈ L, k < n) (W : World) (l : Nat) (o o' : Obj) (h : n ≤ l) (_ : W.heap[l]? = some o) (_ : o.isCells = false) (_ : o.isWalk = false) : Keep L W (W.putObj l o') :=
  fun k hk => World.putObj_heap_other (by have := hl k hk; omega)
theorem Keep.blk {L : List Nat} {A B : World} (h : Keep L A B) {b t : Nat} {cs : Array Value} (hb : b ∈ L) (k : Blk A b t cs) : Blk B b t cs := (h b hb).trans k
theorem Keep.cell {L : List Nat} {A B : World} (h : Keep L A B) {p : Addr} (hp : p.block ∈ L) : B.cell? p = A.cell? p := World.cell?_of_block (h _ hp)
/-- the blocks in which a mesh lies that is read. -/
abbrev mblocks (b gp gt ga : Nat) : List Nat := [b, gp, gt, ga]
theorem MR.keep {L : List Nat} {A B : World} {b : Nat} {M : Mesh} {gp cp gt ct ga ca : Nat} {fV : Value} (h : MR A b M gp cp gt ct ga ca fV) (k : Keep L A B) (hb : b ∈ L) (hp : gp ∈ L) (ht : gt ∈ L) (ha : ga ∈ L) : MR B b M gp cp gt ct ga ca fV := by
  refine ⟨k.blk hb h.head, fun i hi => ⟨(k.cell hp).trans (h.pts i hi).1, (k.cell hp).trans (h.pts i hi).2⟩, fun i hi => ?_, fun i hi => (k.cell ha).trans (h.at_ i hi)⟩
  obtain ⟨h0, h1, h2, h3, h4, h5, h6, h7, h8⟩ := h.tris i hi
  exact ⟨(k.cell ht).trans h0, (k.cell ht).trans h1, (k.cell ht).trans h2, (k.cell ht).trans h3, (k.cell ht).trans h4, (k.cell ht).trans h5, (k.cell ht).trans h6, (k.cell ht).trans h7, (k.cell ht).trans h8⟩
theorem MR.lt {A : World} {b : Nat} {M : Mesh} {gp cp gt ct ga ca : Nat} {fV : Value} (h : MR A b M gp cp gt ct ga ca fV) (hp : 0 < M.pts.length) (ht : 0 < M.tris.length) (ha : 0 < M.at_.length) : ∀ k ∈ mblocks b gp gt ga, k < A.heap.size := by
  intro k hk
  simp only [mblocks, List.mem_cons, List.not_mem_nil, or_false] at hk
  rcases hk with rfl | rfl | rfl | rfl
  · exact h.head.lt
  · exact World.block_lt_of_cell? _ _ (h.pts 0 hp).1
  · exact World.block_lt_of_cell? _ _ (h.tris 0 ht).1
  · exact World.block_lt_of_cell? _ _ (h.at_ 0 ha)
theorem abides_later {J : World → Prop} {B : Nat} (hJ : AbidesFrom B (fun (_ : Unit) => J)) {W W' : World} (h : J W) (hb : Below W.heap.size W W') : J W' :=
  hJ () W W' none h ⟨hb.os, hb.tape, hb.output, hb.size, fun k hk _ => hb.block k hk⟩ (fun r e => by cases e)
/-- the real triangles' numbers, up to one. -/
def realsTo (M : Mesh) (i : Nat) : List Nat := (List.range i).filter fun k => Mr.realB M k
theorem realsTo_succ (M : Mesh) (i : Nat) : realsTo M (i + 1) = if Mr.realB M i = true then realsTo M i ++ [i] else realsTo M i := by
  unfold realsTo
  rw [List.range_succ, List.filter_append]
  by_cases h : Mr.realB M i = true
  · rw [if_pos h]; simp [h]
  · rw [if_neg h]; simp [h]
theorem Blk.all9 {W : World} {b t : Nat} {x0 x1 x2 x3 x4 x5 x6 x7 x8 : Value} (h : Blk W b t #[x0, x1, x2, x3, x4, x5, x6, x7, x8]) : W.cell? ⟨b, 0, none⟩ = some x0 ∧ W.cell? ⟨b, 1, none⟩ = some x1 ∧ W.cell? ⟨b, 2, none⟩ = some x2 ∧ W.cell? ⟨b, 3, none⟩ = some x3 ∧ W.cell? ⟨b, 4, none⟩ = some x4 ∧ W.cell? ⟨b, 5, none⟩ = some x5 ∧ W.cell? ⟨b, 6, none⟩ = some x6 ∧ W.cell? ⟨b, 7, none⟩ = some x7 ∧ W.cell? ⟨b, 8, none⟩ = some x8 :=
  ⟨h.cell 0 x0 rfl, h.cell 1 x1 rfl, h.cell 2 x2 rfl, h.cell 3 x3 rfl, h.cell 4 x4 rfl, h.cell 5 x5 rfl, h.cell 6 x6 rfl, h.cell 7 x7 rfl, h.cell 8 x8 rfl⟩
namespace It
theorem wide_fn (f : FuncId) : Fence.wide.fn f ↔ True := Iff.rfl
theorem wide_depth : Fence.wide.depth = none := rfl
attribute [local go_sem] wide_fn wide_depth
set_option maxRecDepth 100000 in
set_option maxHeartbeats 1000000 in
theorem all1 (M : Mesh) (b Bn gp cp gt ct ga ca : Nat) (fV : Value) (n l : Nat) (L : List Nat) (J Jx : List Nat → World → Prop) (hL : Bn ∈ L ∧ b ∈ L ∧ gp ∈ L ∧ gt ∈ L ∧ ga ∈ L) (hlen : M.tris.length ≤ 1000000000)
    (hY : ∀ i W, i < M.tris.length → Mr.realB M i = true → J (realsTo M i) W → YieldAt Fence.wide (n - 1) Try.prog l #[.int .i64 i, tv (tat M.tris i)] W fun e W' =>
      (e = .returned (.bool true) ∧ J (realsTo M i ++ [i]) W' ∧ Keep L W W') ∨ (e = .returned (.bool false) ∧ Jx (realsTo M i ++ [i]) W'))
    (W : World) (hJ : AbidesFrom W.heap.size J) (hB : Blk W Bn 46 #[.pointer (some ⟨b, 0, none⟩)]) (hR : MR W b M gp cp gt ct ga ca fV) (h0 : J [] W) :
    CallsIn Fence.wide n Try.prog 38 #[.func (.yield l) #[] #[], .pointer (some ⟨Bn, 0, none⟩)] W fun e W' => (∃ v, e = .returned v) ∧
      (J (realsTo M M.tris.length) W' ∨ ∃ i, i < M.tris.length ∧ Mr.realB M i = true ∧ Jx (realsTo M i ++ [i]) W') := by
  have HY := Lib.hid hY
  have HJ := Lib.hid hJ
  have HR := Lib.hid hR
  have HB := Lib.hid hB
  have HL := Lib.hid hL
  have k0 := hB.cell 0 (.pointer (some ⟨b, 0, none⟩)) rfl
  have k1 := hR.head.cell 1 (.slice (some ⟨gt, 0, none⟩) M.tris.length ct) rfl
  clear hY hJ hR hB hL
  refine callsIn_of_wp Try.func38 rfl trivial ?_ rfl
  simp only [Try.ntmps38, List.size_toArray, List.length_cons, List.length_nil, Nat.reduceAdd, Nat.reduceSub, Array.replicate_succ, Array.replicate_zero, List.push_toArray, List.append_toArray, List.nil_append, List.cons_append]
  gi_wp2
  gi_loopw [10] (fun p wr => ∃ i : Nat, p = .int .i64 i ∧ i ≤ M.tris.length ∧ Hid (Blk wr Bn 46 #[.pointer (some ⟨b, 0, none⟩)]) ∧ Hid (MR wr b M gp cp gt ct ga ca fV) ∧ Hid (J (realsTo M i) wr))
    (fun p wr => M.tris.length - (intOf p).toNat)
  case atStart => exact ⟨0, rfl, Nat.zero_le _, HB, HR, Lib.hid h0⟩
  case round =>
    obtain ⟨i, rfl, hi, HBi, HRi, HJi⟩ := hrel
    clear k0 k1
    by_cases hlt : i < M.tris.length
    · obtain ⟨t0, t1, t2, t3, t4, t5, t6, t7, t8⟩ := HRi.out.tris i hlt
      have b0 := (HBi.out.alloc (.cells #[.int .i64 (tat M.tris i).v0, .int .i64 (tat M.tris i).v1, .int .i64 (tat M.tris i).v2, .int .i64 (tat M.tris i).n0, .int .i64 (tat M.tris i).n1, .int .i64 (tat M.tris i).n2, .bool (tat M.tris i).f0, .bool (tat M.tris i).f1, .bool (tat M.tris i).f2] 61)).cell 0 (.pointer (some ⟨b, 0, none⟩)) rfl
      have HRA := Lib.hid (Mr.real_any M b (i : Int) (wr.alloc (.cells #[.int .i64 (tat M.tris i).v0, .int .i64 (tat M.tris i).v1, .int .i64 (tat M.tris i).v2, .int .i64 (tat M.tris i).n0, .int .i64 (tat M.tris i).n1, .int .i64 (tat M.tris i).n2, .bool (tat M.tris i).f0, .bool (tat M.tris i).f1, .bool (tat M.tris i).f2] 61)) ⟨_, _, _, _, _, _, _, HRi.out.later (bel_alloc (bel_refl wr) _)⟩)
      have hBl := Lib.hid (bel_alloc (bel_refl wr) (.cells #[.int .i64 (tat M.tris i).v0, .int .i64 (tat M.tris i).v1, .int .i64 (tat M.tris i).v2, .int .i64 (tat M.tris i).n0, .int .i64 (tat M.tris i).n1, .int .i64 (tat M.tris i).n2, .bool (tat M.tris i).f0, .bool (tat M.tris i).f1, .bool (tat M.tris i).f2] 61))
      by_cases hr : Mr.realB M i = true
      · have HYI := Lib.hid (fun W => HY.out i W hlt hr)
        have HSU : Hid (realsTo M (i + 1) = realsTo M i ++ [i]) := Lib.hid (by rw [realsTo_succ, if_pos hr])
        have HRR := Lib.hid hr
        gi_wp2_with (gi_at_call 39; refine (callsIn_wide.2 HRA.out).mono ?_; rintro e w2 ⟨rfl, hb2⟩; obtain ⟨y0, y1, y2, y3, y4, y5, y6, y7, y8⟩ := ((Blk.new wr 61 #[.int .i64 (tat M.tris i).v0, .int .i64 (tat M.tris i).v1, .int .i64 (tat M.tris i).v2, .int .i64 (tat M.tris i).n0, .int .i64 (tat M.tris i).n1, .int .i64 (tat M.tris i).n2, .bool (tat M.tris i).f0, .bool (tat M.tris i).f1, .bool (tat M.tris i).f2]).later hb2).all9; have hb3 := bel_step hBl.out hb2; have HB2 := Lib.hid (HBi.out.later hb3); have HR2 := Lib.hid (HRi.out.later hb3); have hJ2 := abides_later (J := J (realsTo M i)) (B := W.heap.size) (fun _ A B row => HJ.out _ A B row) HJi.out hb3; obtain ⟨fn, tmps, assign, body, hy, hR⟩ := HYI.out w2 hJ2; have HRD := Lib.hid hR; clear hR hb2 hb3 hJ2)
        refine HRD.out.mono ?_
        rintro e W3 (⟨rfl, hJ3, hk3⟩ | ⟨rfl, hJx3⟩)
        · have HB3 := Lib.hid (hk3.blk HL.out.1 HB2.out)
          have HR3 := Lib.hid (HR2.out.keep hk3 HL.out.2.1 HL.out.2.2.1 HL.out.2.2.2.1 HL.out.2.2.2.2)
          have HJ3 := Lib.hid hJ3
          clear hJ3 hk3
          gi_wp2
          go_roundw
          case rel => exact ⟨i + 1, by go_num, by omega, HB3, HR3, Lib.hid (by rw [HSU.out]; exact HJ3.out)⟩
          case measure => simp [intOf]; omega
        · have HJ3 := Lib.hid hJx3
          clear hJx3
          gi_wp2
          refine bodyPost_ret (results_none rfl _ _ _) rfl ?_
          exact ⟨⟨_, rfl⟩, .inr ⟨i, hlt, HRR.out, HJ3.out⟩⟩
      · have hr2 : Mr.realB M i = false := by simpa using hr
        have HSU : Hid (realsTo M (i + 1) = realsTo M i) := Lib.hid (by rw [realsTo_succ, if_neg hr])
        clear hr
        gi_wp2_with (gi_at_call 39; refine (callsIn_wide.2 HRA.out).mono ?_; rintro e w2 ⟨rfl, hb2⟩; have hb3 := bel_step hBl.out hb2; have HB2 := Lib.hid (HBi.out.later hb3); have HR2 := Lib.hid (HRi.out.later hb3); have HJ2 := Lib.hid (abides_later (J := J (realsTo M i)) (B := W.heap.size) (fun _ A B row => HJ.out _ A B row) HJi.out hb3); clear hb2 hb3)
        go_roundw
        case rel => exact ⟨i + 1, by go_num, by omega, HB2, HR2, Lib.hid (by rw [HSU.out]; exact HJ2.out)⟩
        case measure => simp [intOf]; omega
    · have hi' : i = M.tris.length := by omega
      gi_wp2
      go_end0
      exact ⟨⟨_, rfl⟩, .inl (by rw [← hi']; exact HJi.out)⟩
/-- **m.All()**: the receiver is boxed; the function value captures the box. -/
theorem all_in (b n : Nat) (w : World) :
    CallsIn Fence.wide n Try.prog 24 #[.pointer (some ⟨b, 0, none⟩)] w fun e w' => e = .returned (.func (.func 38) #[] #[.pointer (some ⟨w.heap.size, 0, none⟩)]) ∧ w' = w.alloc (.cells #[.pointer (some ⟨b, 0, none⟩)] 46) := by
  refine callsIn_of_wp Try.func24 rfl trivial ?_ rfl
  simp only [Try.ntmps24, List.size_toArray, List.length_cons, List.length_nil, Nat.reduceAdd, Nat.reduceSub, Array.replicate_succ, Array.replicate_zero, List.push_toArray, List.append_toArray, List.nil_append, List.cons_append]
  gi_wp2
  go_ret
  exact ⟨rfl, rfl⟩
theorem realsTo_pre (M : Mesh) (i : Nat) (hr : Mr.realB M i = true) : ∀ n, i < n → realsTo M i ++ [i] <+: realsTo M n
  | 0, h => by omega
  | n + 1, h => by
    rcases Nat.lt_or_ge i n with h1 | h1
    · have ih := realsTo_pre M i hr n h1
      rw [realsTo_succ]
      split
      · exact ih.trans (List.prefix_append _ _)
      · exact ih
    · have : i = n := by omega
      subst this
      rw [realsTo_succ, if_pos hr]
      exact List.prefix_rfl
/-- the numbers of the mesh's real triangles. -/
abbrev RealOf (M : Mesh) := { i : Nat // i < M.tris.length ∧ Mr.realB M i = true }
def encT (M : Mesh) (x : RealOf M) : Array Value := #[.int .i64 x.1, tv (tat M.tris x.1)]
theorem all_pos (M : Mesh) (b Bn gp cp gt ct ga ca : Nat) (fV : Value) (n : Nat) (L : List Nat) (w : World) (hL : Bn ∈ L ∧ b ∈ L ∧ gp ∈ L ∧ gt ∈ L ∧ ga ∈ L) (hlen : M.tris.length ≤ 1000000000)
    (hB : Blk w Bn 46 #[.pointer (some ⟨b, 0, none⟩)]) (hR : MR w b M gp cp gt ct ga ca fV) :
    SeqStopsK Fence.wide n Try.prog 38 #[.pointer (some ⟨Bn, 0, none⟩)] (encT M) (Keep L) (fun ys => ys.map (·.1) = realsTo M M.tris.length) (fun pre => pre.map (·.1) <+: realsTo M M.tris.length) (realsTo M M.tris.length).length w := by
  intro l J Jx W hW hJ hJx hY h0
  refine (all1 M b Bn gp cp gt ct ga ca fV n l L (fun pre W => ∃ ys : List (RealOf M), ys.map (·.1) = pre ∧ J ys W) (fun pre W => ∃ ys : List (RealOf M), ys.map (·.1) = pre ∧ Jx ys W) hL hlen ?_ W ?_ (hB.later hW) (hR.later hW) ⟨[], rfl, h0⟩).mono ?_
  · rintro i W1 hi hr ⟨ys, hys, hj⟩
    have hp := realsTo_pre M i hr _ hi
    have hl : ys.length < (realsTo M M.tris.length).length := by
      have h1 := congrArg List.length hys
      have h2 := hp.length_le
      simp at h1 h2
      omega
    refine YieldAt.mono (hY ys ⟨i, hi, hr⟩ W1 hj hl) ?_
    rintro e W' (⟨he, h1, h2⟩ | ⟨he, h1⟩)
    · exact .inl ⟨he, ⟨_, by simp [hys], h1⟩, h2⟩
    · exact .inr ⟨he, _, by simp [hys], h1⟩
  · rintro pre A B row ⟨ys, hys, hj⟩ hg' hr
    exact ⟨ys, hys, hJ ys A B row hj hg' hr⟩
  · rintro e W' ⟨he, ⟨ys, hys, hj⟩ | ⟨i, hi, hr, ys, hys, hj⟩⟩
    · exact ⟨he, .inl ⟨ys, hys, hj⟩⟩
    · exact ⟨he, .inr ⟨ys, by show ys.map (·.1) <+: _; rw [hys]; exact realsTo_pre M i hr _ hi, hj⟩⟩
end It
end Go.Proofs.Ytdihefgleefhmaa
