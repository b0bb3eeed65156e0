/- parted: the ends of the fault on which a place lies. -/
import Derived.Test.YtdihefgleefhmaaMf
import Derived.Test.YtdihefgleefhmaaGt
import Derived.Test.YtdihefgleefhmaaWi
import Derived.Deep.DeepCutAuto
import Derived.Deep.RegionHeld3
namespace Go.Proofs.Ytdihefgleefhmaa
open Go.RowKit
abbrev partV (a b : Int) (f : Bool) : Value := .tuple #[.agg #[.int .i64 a, .int .i64 b], .bool f]
namespace Pd
set_option maxRecDepth 100000 in
set_option maxHeartbeats 1000000 in
theorem parted_off (b : Nat) (q : Place) (w : World) (hq : q.kind ≠ 1) :
    Calls Try.prog 57 #[.pointer (some ⟨b, 0, none⟩), plv q] w fun e w' => e = .returned (partV 0 0 false) ∧ Below w.heap.size w w' := by
  have hk : (q.kind != 1) = true := by simpa using hq
  obtain ⟨kd, tr, a, c⟩ := q
  simp only at hk
  clear hq
  go_enter Try.func57, Try.ntmps57
  go_wp2
  refine bodyPost_ret (v := partV 0 0 false) (by simp [results, Try.results57, go_sem]) rfl ⟨rfl, ?_⟩
  exact bel_alloc (bel_alloc (bel_refl w) _) _
set_option maxRecDepth 100000 in
set_option maxHeartbeats 1000000 in
theorem parted_on (M : Mesh) (b f : Nat) (q : Place) (xs : List (Nat × Nat)) (t k : Nat) (w : World) (h : MeshR w b M) (ho : M.ok) (hp : 0 < M.pts.length) (v : Nat) (hq : q.kind = 1) (hv : max q.a q.b = v) (hac : (q.a == q.b) = false) (hvl : v < M.at_.length)
    (hx : around M f v = some xs) (he : edgeOf M q.a q.b xs = some (t, k)) (htl : t < M.tris.length) (hk : k < 3) :
    Calls Try.prog 57 #[.pointer (some ⟨b, 0, none⟩), plv q] w fun e w' => e = .returned (partV q.a q.b ((tat M.tris t).f k)) ∧ Below w.heap.size w w' := by
  have hc : ∀ w, MeshR w b M → Calls Try.prog 82 #[.pointer (some ⟨b, 0, none⟩), .int .i64 q.a, .int .i64 q.b] w fun e w' => e = .returned (edgeV (some (t, k))) ∧ Below w.heap.size w w' := fun w h => by
    rw [← he]
    exact Mf.edge_any M b f q.a q.b xs w h ho hp (by omega) v hv hac hvl hx
  obtain ⟨kd, tr, a, c⟩ := q
  simp only [edgeV] at hq hc
  subst hq
  have HC := Lib.hid hc
  have H := Lib.hid h
  simp only
  clear hc h hv hac hx he hvl
  obtain ⟨r, hr⟩ : ∃ r, (tat M.tris t).f k = r := ⟨_, rfl⟩
  rw [hr]
  have HR := Lib.hid hr
  clear hr
  go_enter Try.func57, Try.ntmps57
  go_upto_region 3 with (fail)
  have k0 : Blk ((w.alloc (.cells #[.int .i64 1, .int .i64 tr, .int .i64 a, .int .i64 c] 101)).alloc (.cells #[.int .i64 0, .int .i64 0] 104)) w.heap.size 101 #[.int .i64 1, .int .i64 tr, .int .i64 a, .int .i64 c] := (Blk.new w 101 _).alloc _
  have k4 : Blk ((w.alloc (.cells #[.int .i64 1, .int .i64 tr, .int .i64 a, .int .i64 c] 101)).alloc (.cells #[.int .i64 0, .int .i64 0] 104)) (w.heap.size + 1) 104 #[.int .i64 0, .int .i64 0] := Blk.new' _ 104 _ (by simp)
  have kb := bel_alloc (bel_alloc (bel_refl w) (.cells #[.int .i64 1, .int .i64 tr, .int .i64 a, .int .i64 c] 101)) (.cells #[.int .i64 0, .int .i64 0] 104)
  obtain ⟨W, hW⟩ : ∃ W, ((w.alloc (.cells #[.int .i64 1, .int .i64 tr, .int .i64 a, .int .i64 c] 101)).alloc (.cells #[.int .i64 0, .int .i64 0] 104)) = W := ⟨_, rfl⟩
  rw [hW] at k0 k4 kb ⊢
  clear hW
  obtain ⟨gp, cp, gt, ct, ga, ca, fV, hM⟩ := H.out
  have hM0 := hM
  have hMW := hM.later kb
  have hc1 := HC.out W ⟨gp, cp, gt, ct, ga, ca, fV, hMW⟩
  have f2 := k0.cell 2 (.int .i64 a) rfl
  have f3 := k0.cell 3 (.int .i64 c) rfl
  have K0 := Lib.hid k0
  have K4 := Lib.hid k4
  have KB := Lib.hid kb
  have HM := Lib.hid hMW
  have HC1 := Lib.hid hc1
  clear hc1 k0 k4 kb hM hMW HC H
  go_upto_region 4 with (go_at_call 82; refine HC1.out.mono ?_; rintro e w1 ⟨rfl, hb1⟩; have HB1 := Lib.hid hb1; clear hb1)
  have k1 := HM.out.later HB1.out
  have hT := K4.out.later HB1.out
  have lx := k1.head.cell 1 (.slice (some ⟨gt, 0, none⟩) M.tris.length ct) rfl
  have p0 := (K0.out.later HB1.out).cell 2 (.int .i64 a) rfl
  have p1 := (K0.out.later HB1.out).cell 3 (.int .i64 c) rfl
  obtain ⟨t0, t1, s0, s1⟩ := hT.two
  obtain ⟨_, _, _, _, _, _, e0, e1, e2⟩ := k1.tris t htl
  have ne1 : b ≠ w.heap.size + 1 := by have := hM0.head.lt; omega
  have ne2 : gt ≠ w.heap.size + 1 := by have := World.block_lt_of_cell? _ _ (hM0.tris t htl).1; simp only at this; omega
  have ne3 := ne1.symm
  have ne4 := ne2.symm
  have HTH := Lib.hid hT
  have xi : (0 : Int) ≤ (t : Int) := by omega
  have xi1 : (t : Int) < (M.tris.length : Int) := by omega
  have HB2 := Lib.hid (bel_step KB.out HB1.out)
  clear k1 HM K0 K4 HC1 hT f2 f3 hM0 HB1 KB
  go_cut [4, 5] (fun v4 v5 wx => v4 = .pointer (some ⟨w.heap.size + 1, 0, none⟩) ∧ v5 = .bool r ∧ Hid (Blk wx (w.heap.size + 1) 104 #[.int .i64 a, .int .i64 c]) ∧ Hid (Below w.heap.size w wx))
  case first =>
    rcases (show k = 0 ∨ k = 1 ∨ k = 2 by omega) with rfl | rfl | rfl
    · have hr := HR.out
      simp only [Tri.f] at hr
      rw [hr] at e0
      clear e1 e2
      go_region_held3 (fun w' => w'.cell? ⟨b, 1, none⟩ = some (.slice (some ⟨gt, 0, none⟩) M.tris.length ct) ∧ w'.cell? ⟨w.heap.size, 2, none⟩ = some (.int .i64 a) ∧ w'.cell? ⟨w.heap.size, 3, none⟩ = some (.int .i64 c) ∧ w'.cell? ⟨gt, t * 9 + 6, none⟩ = some (.bool r)) (go_keep) (fail)
      all_goals
        go_wp2_with fail
        go_meet
        refine ⟨rfl, rfl, Lib.hid ?_, Lib.hid ?_⟩
        · exact (HTH.out.set 0 _).set 1 _
        · exact bel_set (bel_set (bel_drew HB2.out) (by omega) _ _) (by omega) _ _
    · have hr := HR.out
      simp only [Tri.f] at hr
      rw [hr] at e1
      clear e0 e2
      go_region_held3 (fun w' => w'.cell? ⟨b, 1, none⟩ = some (.slice (some ⟨gt, 0, none⟩) M.tris.length ct) ∧ w'.cell? ⟨w.heap.size, 2, none⟩ = some (.int .i64 a) ∧ w'.cell? ⟨w.heap.size, 3, none⟩ = some (.int .i64 c) ∧ w'.cell? ⟨gt, t * 9 + 7, none⟩ = some (.bool r)) (go_keep) (fail)
      all_goals
        go_wp2_with fail
        go_meet
        refine ⟨rfl, rfl, Lib.hid ?_, Lib.hid ?_⟩
        · exact (HTH.out.set 0 _).set 1 _
        · exact bel_set (bel_set (bel_drew HB2.out) (by omega) _ _) (by omega) _ _
    · have hr := HR.out
      simp only [Tri.f] at hr
      rw [hr] at e2
      clear e0 e1
      go_region_held3 (fun w' => w'.cell? ⟨b, 1, none⟩ = some (.slice (some ⟨gt, 0, none⟩) M.tris.length ct) ∧ w'.cell? ⟨w.heap.size, 2, none⟩ = some (.int .i64 a) ∧ w'.cell? ⟨w.heap.size, 3, none⟩ = some (.int .i64 c) ∧ w'.cell? ⟨gt, t * 9 + 8, none⟩ = some (.bool r)) (go_keep) (fail)
      all_goals
        go_wp2_with fail
        go_meet
        refine ⟨rfl, rfl, Lib.hid ?_, Lib.hid ?_⟩
        · exact (HTH.out.set 0 _).set 1 _
        · exact bel_set (bel_set (bel_drew HB2.out) (by omega) _ _) (by omega) _ _
  case rest =>
    obtain ⟨rfl, rfl, F4, FB⟩ := hcut
    obtain ⟨g0, g1, _, _⟩ := F4.out.two
    go_wp2
    refine bodyPost_ret (v := partV a c r) (by simp [results, Try.results57, go_sem, g0, g1]) rfl ⟨rfl, FB.out⟩
end Pd
end Go.Proofs.Ytdihefgleefhmaa
