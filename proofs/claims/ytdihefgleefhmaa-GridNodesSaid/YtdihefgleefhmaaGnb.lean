/- The walk of one round of GridNodes: its loop over the snake, way by way. -/
import Derived.Test.YtdihefgleefhmaaGni
namespace Go.Proofs.Ytdihefgleefhmaa
open Go.RowKit Go.Shelf Go.Proofs.Ytdihefgleefhmaa.PGridArounds Go.Proofs.YtdihefgleefhmaaW.PrintWords Go.Proofs.YtdihefgleefhmaaW.PrintLast Go.Proofs.YtdihefgleefhmaaW.PrintMore
attribute [local go_sem] max2_int min2_int max_two min_two max_three min_three max_four min_four
attribute [local go_sem] Oper.semAt_some
namespace Gn
attribute [local go_sem] Gn.wide_fn Gn.wide_depth
open Gc
theorem Holds.cells1 {g : G} {b : Nat} {W : World} (h : Holds g b W) : (∀ o, (W.alloc o).cell? ⟨b, 0, none⟩ = some (.int .i64 g.x)) ∧ (∀ o, (W.alloc o).cell? ⟨b, 1, none⟩ = some (.int .i64 g.y)) ∧ (∀ o, (W.alloc o).cell? ⟨b, 2, none⟩ = some (.int .i64 g.c)) ∧ (∀ o, (W.alloc o).cell? ⟨b, 3, none⟩ = some (.int .i64 g.M)) ∧ (∀ o, (W.alloc o).cell? ⟨b, 4, none⟩ = some (.int .i64 g.R)) :=
  have k := fun o => (Holds.later h ((Below.refl _ W).alloc (Nat.le_refl _) o)).cells
  ⟨fun o => (k o).1, fun o => (k o).2.1, fun o => (k o).2.2.1, fun o => (k o).2.2.2.1, fun o => (k o).2.2.2.2⟩
theorem Holds.cells2 {g : G} {b : Nat} {W : World} (h : Holds g b W) : (∀ o o', ((W.alloc o).alloc o').cell? ⟨b, 0, none⟩ = some (.int .i64 g.x)) ∧ (∀ o o', ((W.alloc o).alloc o').cell? ⟨b, 1, none⟩ = some (.int .i64 g.y)) ∧ (∀ o o', ((W.alloc o).alloc o').cell? ⟨b, 2, none⟩ = some (.int .i64 g.c)) ∧ (∀ o o', ((W.alloc o).alloc o').cell? ⟨b, 3, none⟩ = some (.int .i64 g.M)) ∧ (∀ o o', ((W.alloc o).alloc o').cell? ⟨b, 4, none⟩ = some (.int .i64 g.R)) :=
  have k := fun o => (Holds.later h ((Below.refl _ W).alloc (Nat.le_refl _) o)).cells1
  ⟨fun o => (k o).1, fun o => (k o).2.1, fun o => (k o).2.2.1, fun o => (k o).2.2.2.1, fun o => (k o).2.2.2.2⟩
theorem at_pos (g : G) (hg : g.ok) (x : Pos g) (w : World) : Calls Try.prog 16 #[g.v, .int .i64 (sI g x.1)] w fun e w' => e = .returned (.agg #[.int .i64 (sX g x.1), .int .i64 (sY g x.1)]) ∧ Below w.heap.size w w' := by
  obtain ⟨h1, h2, h3⟩ := pos_bounds g hg x
  obtain ⟨J, hJ⟩ : ∃ J, x.1 / g.M = J := ⟨_, rfl⟩
  unfold sI sY
  rw [hJ] at h1 ⊢
  exact at_at g hg (sC g.M x.1) J w h2 h3 (by omega) (by omega)
/-- the body of the first loop over a function that a code holds. -/
def firstRange : Code → Option Code
  | .seq a b => (firstRange a).orElse fun _ => firstRange b
  | .cond _ a b => (firstRange a).orElse fun _ => firstRange b
  | .block _ c => firstRange c
  | .loop c => firstRange c
  | .scope c => firstRange c
  | .rangeFunc _ _ _ b => some b
  | _ => none
set_option maxRecDepth 100000 in
set_option maxHeartbeats 2000000 in
theorem arm_ylok (u0 u1 u2 u3 u4 u5 u8 u9 u10 u15 u16 u17 u18 u19 u20 u21 u22 u23 u24 u25 u26 u27 u28 u29 u30 u31 u32 u33 u34 u35 u36 u37 u38 u39 u40 u41 u42 u43 u44 u45 u46 u47 u48 u49 u50 u51 u52 u53 u54 u55 u56 u57 u58 u59 u60 u61 u62 u63 u64 u65 u66 u67 u68 u69 u70 u71 u72 u73 u74 u75 u76 u77 u78 u79 u80 u81 u82 u83 u84 u85 u86 u87 u88 u89 u90 u91 u92 u93 u94 u95 u96 u97 u98 u99 u100 u101 u102 u103 u104 u105 u106 u107 u108 u109 u110 u111 u112 u113 u114 u115 u116 u117 u118 u119 u120 u121 u122 u123 u124 u125 u126 u127 u128 u129 u130 u131 u132 u133 u134 u135 u136 u137 u138 u139 u140 u141 u142 u143 u144 u145 u146 u147 u148 u149 u150 u151 u152 u153 u154 u155 u156 u157 u158 u159 u160 u161 u162 u163 u164 u165 u166 u167 u168 u169 u170 u171 u172 u173 u174 : Value) (body : Code) (hb : Try.f5.body.bind firstRange = some body) (g : G) (hg : g.ok) 
    (b6 b7 bN bW bS Bx bZ l : Nat) (w0 W : World) (hq : b6 < b7 ∧ b7 < bN ∧ bN < bW ∧ bW < bS ∧ w0.heap.size ≤ b6) (pre : List (Pos g)) (x : Pos g)
    (hi : Inv g b6 b7 bN bW w0 pre W) (hS : Holds g bS W) (hX : bW < Bx ∧ Two W Bx (sX g x.1) (sY g x.1) ∧ (pre.length : Int) < 400)
    (c1 : (pre.length : Int) < (g.M : Int)) (hc2 : (sI g x.1 == (pre.length : Int)) = true ∧ (sI g x.1 != (pre.length : Int)) = false) (hlt : sX g x.1 - wasX g pre < wasX g pre - sX g x.1) (hd : (wasX g pre - sX g x.1 + sY g x.1 - wasY g pre == g.c) = true ∧ (wasX g pre - sX g x.1 + sY g x.1 - wasY g pre != g.c) = false) :
    body.wpIn (Fence.wide.inRound l) (9 - 1 - 1) Try.prog (ownPostG bZ (Kp bS) (fun pre W => Inv g b6 b7 bN bW w0 pre W ∧ Holds g bS W) (fun _ pre _ => ¬ pre.map (·.1) <+: List.range (g.R * g.M)) (pre ++ [x]) W)
      { tmps := #[u0, u1, u2, u3, u4, u5, .pointer (some ⟨b6, 0, none⟩), .pointer (some ⟨b7, 0, none⟩), u8, u9, u10, .pointer (some ⟨bN, 0, none⟩), .pointer (some ⟨bW, 0, none⟩), .int .i64 (sI g x.1), .pointer (some ⟨Bx, 0, none⟩), u15, u16, u17, u18, u19, u20, u21, u22, u23, u24, u25, u26, u27, u28, u29, u30, u31, u32, u33, u34, u35, u36, u37, u38, u39, u40, u41, u42, u43, u44, u45, u46, u47, u48, u49, u50, u51, u52, u53, u54, u55, u56, u57, u58, u59, u60, u61, u62, u63, u64, u65, u66, u67, u68, u69, u70, u71, u72, u73, u74, u75, u76, u77, u78, u79, u80, u81, u82, u83, u84, u85, u86, u87, u88, u89, u90, u91, u92, u93, u94, u95, u96, u97, u98, u99, u100, u101, u102, u103, u104, u105, u106, u107, u108, u109, u110, u111, u112, u113, u114, u115, u116, u117, u118, u119, u120, u121, u122, u123, u124, u125, u126, u127, u128, u129, u130, u131, u132, u133, u134, u135, u136, u137, u138, u139, u140, u141, u142, u143, u144, u145, u146, u147, u148, u149, u150, u151, u152, u153, u154, u155, u156, u157, u158, u159, u160, u161, u162, u163, u164, u165, u166, u167, u168, u169, u170, u171, u172, u173, u174], defers := [] } W := by
  have e : Try.f5.body.bind firstRange = some _ := rfl
  rw [e] at hb
  cases hb
  clear e
  obtain ⟨q1, q2, q3, q4, q5⟩ := hq
  obtain ⟨hBx, hx, hlen⟩ := hX
  have hg' := hg
  obtain ⟨a1, a2, a3, a4, a5, a6, a7, a8, a9, a10⟩ := hg'
  obtain ⟨c2a, c2b⟩ := hc2
  obtain ⟨hd1, hd2⟩ := hd
  obtain ⟨xb1, xb2, xb3, xb4⟩ := xy_bounds g hg x
  obtain ⟨wb1, wb2, wb3, wb4⟩ := was_bounds g hg pre
  have hat := at_pos g hg x
  have HAT := Lib.hid hat
  clear hat
  obtain ⟨l0, l1, l2, l3, l4⟩ := hi.seven.cells'
  have n0 := Gq.Later.cell hi.n.cell
  have v0 := Gq.Later.cell hi.was.cells.1
  have v1 := Gq.Later.cell hi.was.cells.2.1
  have y0 := Gq.Later.cell hx.cells.1
  have y1 := Gq.Later.cell hx.cells.2.1
  have HI := Aside0.mk hi
  have HS := Aside0.mk hS
  have HX := Aside0.mk hx
  clear hi hS hx
  have c1n : pre.length < g.M := by omega
  gi_wp2
  refine Go.Gq.region_in (by kernel_rfl) (by kernel_rfl) (by kernel_rfl) ?_
  repeat (go_big_quiet_step ((go_at_call 16; exact Gq.call (HAT.out _))))
  refine wpQuiet_nil ?_
  intro wx hw'
  have hwx := Go.Gq.later_bel hw'
  clear hw'
  have i2 := HI.out.later hwx
  have x2 := HX.out.later hwx
  have HW := Aside0.mk hwx
  clear l0 l1 l2 l3 l4 n0 v0 v1 y0 y1 hwx
  have n1 := i2.n.cell
  have n2 := i2.n.frozen
  obtain ⟨v0, v1, v2, v3⟩ := i2.was.cells
  obtain ⟨y0, y1, _, _⟩ := x2.cells
  have HI2 := Aside0.mk i2
  clear i2 x2
  gi_wp2
  exact ⟨stepW_keeps HW.out, (stepW_far (by omega) (by omega) (HS.out.later HW.out)).trans HS.out.symm, HI2.out.step x (by omega) (by omega) (by omega) (by omega) (by omega) (by omega) (by omega), stepW_far (by omega) (by omega) (HS.out.later HW.out)⟩

set_option maxRecDepth 100000 in
set_option maxHeartbeats 2000000 in
theorem arm_ylbad (u0 u1 u2 u3 u4 u5 u8 u9 u10 u15 u16 u17 u18 u19 u20 u21 u22 u23 u24 u25 u26 u27 u28 u29 u30 u31 u32 u33 u34 u35 u36 u37 u38 u39 u40 u41 u42 u43 u44 u45 u46 u47 u48 u49 u50 u51 u52 u53 u54 u55 u56 u57 u58 u59 u60 u61 u62 u63 u64 u65 u66 u67 u68 u69 u70 u71 u72 u73 u74 u75 u76 u77 u78 u79 u80 u81 u82 u83 u84 u85 u86 u87 u88 u89 u90 u91 u92 u93 u94 u95 u96 u97 u98 u99 u100 u101 u102 u103 u104 u105 u106 u107 u108 u109 u110 u111 u112 u113 u114 u115 u116 u117 u118 u119 u120 u121 u122 u123 u124 u125 u126 u127 u128 u129 u130 u131 u132 u133 u134 u135 u136 u137 u138 u139 u140 u141 u142 u143 u144 u145 u146 u147 u148 u149 u150 u151 u152 u153 u154 u155 u156 u157 u158 u159 u160 u161 u162 u163 u164 u165 u166 u167 u168 u169 u170 u171 u172 u173 u174 : Value) (body : Code) (hb : Try.f5.body.bind firstRange = some body) (g : G) (hg : g.ok) 
    (b6 b7 bN bW bS Bx bZ l : Nat) (w0 W : World) (hq : b6 < b7 ∧ b7 < bN ∧ bN < bW ∧ bW < bS ∧ w0.heap.size ≤ b6) (pre : List (Pos g)) (x : Pos g)
    (hi : Inv g b6 b7 bN bW w0 pre W) (hS : Holds g bS W) (hX : bW < Bx ∧ Two W Bx (sX g x.1) (sY g x.1) ∧ (pre.length : Int) < 400)
    (c1 : (pre.length : Int) < (g.M : Int)) (hc2 : (sI g x.1 == (pre.length : Int)) = true ∧ (sI g x.1 != (pre.length : Int)) = false) (hlt : sX g x.1 - wasX g pre < wasX g pre - sX g x.1) (hd : (wasX g pre - sX g x.1 + sY g x.1 - wasY g pre == g.c) = false ∧ (wasX g pre - sX g x.1 + sY g x.1 - wasY g pre != g.c) = true) (HBAD : Hid (¬ (pre ++ [x]).map (·.1) <+: List.range (g.R * g.M))) :
    body.wpIn (Fence.wide.inRound l) (9 - 1 - 1) Try.prog (ownPostG bZ (Kp bS) (fun pre W => Inv g b6 b7 bN bW w0 pre W ∧ Holds g bS W) (fun _ pre _ => ¬ pre.map (·.1) <+: List.range (g.R * g.M)) (pre ++ [x]) W)
      { tmps := #[u0, u1, u2, u3, u4, u5, .pointer (some ⟨b6, 0, none⟩), .pointer (some ⟨b7, 0, none⟩), u8, u9, u10, .pointer (some ⟨bN, 0, none⟩), .pointer (some ⟨bW, 0, none⟩), .int .i64 (sI g x.1), .pointer (some ⟨Bx, 0, none⟩), u15, u16, u17, u18, u19, u20, u21, u22, u23, u24, u25, u26, u27, u28, u29, u30, u31, u32, u33, u34, u35, u36, u37, u38, u39, u40, u41, u42, u43, u44, u45, u46, u47, u48, u49, u50, u51, u52, u53, u54, u55, u56, u57, u58, u59, u60, u61, u62, u63, u64, u65, u66, u67, u68, u69, u70, u71, u72, u73, u74, u75, u76, u77, u78, u79, u80, u81, u82, u83, u84, u85, u86, u87, u88, u89, u90, u91, u92, u93, u94, u95, u96, u97, u98, u99, u100, u101, u102, u103, u104, u105, u106, u107, u108, u109, u110, u111, u112, u113, u114, u115, u116, u117, u118, u119, u120, u121, u122, u123, u124, u125, u126, u127, u128, u129, u130, u131, u132, u133, u134, u135, u136, u137, u138, u139, u140, u141, u142, u143, u144, u145, u146, u147, u148, u149, u150, u151, u152, u153, u154, u155, u156, u157, u158, u159, u160, u161, u162, u163, u164, u165, u166, u167, u168, u169, u170, u171, u172, u173, u174], defers := [] } W := by
  have e : Try.f5.body.bind firstRange = some _ := rfl
  rw [e] at hb
  cases hb
  clear e
  obtain ⟨q1, q2, q3, q4, q5⟩ := hq
  obtain ⟨hBx, hx, hlen⟩ := hX
  have hg' := hg
  obtain ⟨a1, a2, a3, a4, a5, a6, a7, a8, a9, a10⟩ := hg'
  obtain ⟨c2a, c2b⟩ := hc2
  obtain ⟨hd1, hd2⟩ := hd
  obtain ⟨xb1, xb2, xb3, xb4⟩ := xy_bounds g hg x
  obtain ⟨wb1, wb2, wb3, wb4⟩ := was_bounds g hg pre
  have hat := at_pos g hg x
  have HAT := Lib.hid hat
  clear hat
  obtain ⟨l0, l1, l2, l3, l4⟩ := hi.seven.cells'
  have n0 := Gq.Later.cell hi.n.cell
  have v0 := Gq.Later.cell hi.was.cells.1
  have v1 := Gq.Later.cell hi.was.cells.2.1
  have y0 := Gq.Later.cell hx.cells.1
  have y1 := Gq.Later.cell hx.cells.2.1
  have HI := Aside0.mk hi
  have HS := Aside0.mk hS
  have HX := Aside0.mk hx
  clear hi hS hx
  have c1n : pre.length < g.M := by omega
  gi_wp2
  refine Go.Gq.region_in (by kernel_rfl) (by kernel_rfl) (by kernel_rfl) ?_
  repeat (go_big_quiet_step ((go_at_call 16; exact Gq.call (HAT.out _))))
  refine wpQuiet_nil ?_
  intro wx hw'
  have hwx := Go.Gq.later_bel hw'
  clear hw'
  have i2 := HI.out.later hwx
  have HW := Aside0.mk hwx
  clear l0 l1 l2 l3 l4 n0 v0 v1 y0 y1 hwx
  have n1 := i2.six.cell
  have n2 := i2.six.frozen
  clear i2
  gi_wp2
  exact ⟨(keeps_later HW.out).trans ((KeepsOthers.setCell _ _ _).from _), HBAD.out⟩

set_option maxRecDepth 100000 in
set_option maxHeartbeats 2000000 in
theorem arm_ygok (u0 u1 u2 u3 u4 u5 u8 u9 u10 u15 u16 u17 u18 u19 u20 u21 u22 u23 u24 u25 u26 u27 u28 u29 u30 u31 u32 u33 u34 u35 u36 u37 u38 u39 u40 u41 u42 u43 u44 u45 u46 u47 u48 u49 u50 u51 u52 u53 u54 u55 u56 u57 u58 u59 u60 u61 u62 u63 u64 u65 u66 u67 u68 u69 u70 u71 u72 u73 u74 u75 u76 u77 u78 u79 u80 u81 u82 u83 u84 u85 u86 u87 u88 u89 u90 u91 u92 u93 u94 u95 u96 u97 u98 u99 u100 u101 u102 u103 u104 u105 u106 u107 u108 u109 u110 u111 u112 u113 u114 u115 u116 u117 u118 u119 u120 u121 u122 u123 u124 u125 u126 u127 u128 u129 u130 u131 u132 u133 u134 u135 u136 u137 u138 u139 u140 u141 u142 u143 u144 u145 u146 u147 u148 u149 u150 u151 u152 u153 u154 u155 u156 u157 u158 u159 u160 u161 u162 u163 u164 u165 u166 u167 u168 u169 u170 u171 u172 u173 u174 : Value) (body : Code) (hb : Try.f5.body.bind firstRange = some body) (g : G) (hg : g.ok) 
    (b6 b7 bN bW bS Bx bZ l : Nat) (w0 W : World) (hq : b6 < b7 ∧ b7 < bN ∧ bN < bW ∧ bW < bS ∧ w0.heap.size ≤ b6) (pre : List (Pos g)) (x : Pos g)
    (hi : Inv g b6 b7 bN bW w0 pre W) (hS : Holds g bS W) (hX : bW < Bx ∧ Two W Bx (sX g x.1) (sY g x.1) ∧ (pre.length : Int) < 400)
    (c1 : (pre.length : Int) < (g.M : Int)) (hc2 : (sI g x.1 == (pre.length : Int)) = true ∧ (sI g x.1 != (pre.length : Int)) = false) (hlt : ¬ sX g x.1 - wasX g pre < wasX g pre - sX g x.1) (hd : (sX g x.1 - wasX g pre + sY g x.1 - wasY g pre == g.c) = true ∧ (sX g x.1 - wasX g pre + sY g x.1 - wasY g pre != g.c) = false) :
    body.wpIn (Fence.wide.inRound l) (9 - 1 - 1) Try.prog (ownPostG bZ (Kp bS) (fun pre W => Inv g b6 b7 bN bW w0 pre W ∧ Holds g bS W) (fun _ pre _ => ¬ pre.map (·.1) <+: List.range (g.R * g.M)) (pre ++ [x]) W)
      { tmps := #[u0, u1, u2, u3, u4, u5, .pointer (some ⟨b6, 0, none⟩), .pointer (some ⟨b7, 0, none⟩), u8, u9, u10, .pointer (some ⟨bN, 0, none⟩), .pointer (some ⟨bW, 0, none⟩), .int .i64 (sI g x.1), .pointer (some ⟨Bx, 0, none⟩), u15, u16, u17, u18, u19, u20, u21, u22, u23, u24, u25, u26, u27, u28, u29, u30, u31, u32, u33, u34, u35, u36, u37, u38, u39, u40, u41, u42, u43, u44, u45, u46, u47, u48, u49, u50, u51, u52, u53, u54, u55, u56, u57, u58, u59, u60, u61, u62, u63, u64, u65, u66, u67, u68, u69, u70, u71, u72, u73, u74, u75, u76, u77, u78, u79, u80, u81, u82, u83, u84, u85, u86, u87, u88, u89, u90, u91, u92, u93, u94, u95, u96, u97, u98, u99, u100, u101, u102, u103, u104, u105, u106, u107, u108, u109, u110, u111, u112, u113, u114, u115, u116, u117, u118, u119, u120, u121, u122, u123, u124, u125, u126, u127, u128, u129, u130, u131, u132, u133, u134, u135, u136, u137, u138, u139, u140, u141, u142, u143, u144, u145, u146, u147, u148, u149, u150, u151, u152, u153, u154, u155, u156, u157, u158, u159, u160, u161, u162, u163, u164, u165, u166, u167, u168, u169, u170, u171, u172, u173, u174], defers := [] } W := by
  have e : Try.f5.body.bind firstRange = some _ := rfl
  rw [e] at hb
  cases hb
  clear e
  obtain ⟨q1, q2, q3, q4, q5⟩ := hq
  obtain ⟨hBx, hx, hlen⟩ := hX
  have hg' := hg
  obtain ⟨a1, a2, a3, a4, a5, a6, a7, a8, a9, a10⟩ := hg'
  obtain ⟨c2a, c2b⟩ := hc2
  obtain ⟨hd1, hd2⟩ := hd
  obtain ⟨xb1, xb2, xb3, xb4⟩ := xy_bounds g hg x
  obtain ⟨wb1, wb2, wb3, wb4⟩ := was_bounds g hg pre
  have hat := at_pos g hg x
  have HAT := Lib.hid hat
  clear hat
  obtain ⟨l0, l1, l2, l3, l4⟩ := hi.seven.cells'
  have n0 := Gq.Later.cell hi.n.cell
  have v0 := Gq.Later.cell hi.was.cells.1
  have v1 := Gq.Later.cell hi.was.cells.2.1
  have y0 := Gq.Later.cell hx.cells.1
  have y1 := Gq.Later.cell hx.cells.2.1
  have HI := Aside0.mk hi
  have HS := Aside0.mk hS
  have HX := Aside0.mk hx
  clear hi hS hx
  have c1n : pre.length < g.M := by omega
  gi_wp2
  refine Go.Gq.region_in (by kernel_rfl) (by kernel_rfl) (by kernel_rfl) ?_
  repeat (go_big_quiet_step ((go_at_call 16; exact Gq.call (HAT.out _))))
  refine wpQuiet_nil ?_
  intro wx hw'
  have hwx := Go.Gq.later_bel hw'
  clear hw'
  have i2 := HI.out.later hwx
  have x2 := HX.out.later hwx
  have HW := Aside0.mk hwx
  clear l0 l1 l2 l3 l4 n0 v0 v1 y0 y1 hwx
  have n1 := i2.n.cell
  have n2 := i2.n.frozen
  obtain ⟨v0, v1, v2, v3⟩ := i2.was.cells
  obtain ⟨y0, y1, _, _⟩ := x2.cells
  have HI2 := Aside0.mk i2
  clear i2 x2
  gi_wp2
  exact ⟨stepW_keeps HW.out, (stepW_far (by omega) (by omega) (HS.out.later HW.out)).trans HS.out.symm, HI2.out.step x (by omega) (by omega) (by omega) (by omega) (by omega) (by omega) (by omega), stepW_far (by omega) (by omega) (HS.out.later HW.out)⟩

set_option maxRecDepth 100000 in
set_option maxHeartbeats 2000000 in
theorem arm_ygbad (u0 u1 u2 u3 u4 u5 u8 u9 u10 u15 u16 u17 u18 u19 u20 u21 u22 u23 u24 u25 u26 u27 u28 u29 u30 u31 u32 u33 u34 u35 u36 u37 u38 u39 u40 u41 u42 u43 u44 u45 u46 u47 u48 u49 u50 u51 u52 u53 u54 u55 u56 u57 u58 u59 u60 u61 u62 u63 u64 u65 u66 u67 u68 u69 u70 u71 u72 u73 u74 u75 u76 u77 u78 u79 u80 u81 u82 u83 u84 u85 u86 u87 u88 u89 u90 u91 u92 u93 u94 u95 u96 u97 u98 u99 u100 u101 u102 u103 u104 u105 u106 u107 u108 u109 u110 u111 u112 u113 u114 u115 u116 u117 u118 u119 u120 u121 u122 u123 u124 u125 u126 u127 u128 u129 u130 u131 u132 u133 u134 u135 u136 u137 u138 u139 u140 u141 u142 u143 u144 u145 u146 u147 u148 u149 u150 u151 u152 u153 u154 u155 u156 u157 u158 u159 u160 u161 u162 u163 u164 u165 u166 u167 u168 u169 u170 u171 u172 u173 u174 : Value) (body : Code) (hb : Try.f5.body.bind firstRange = some body) (g : G) (hg : g.ok) 
    (b6 b7 bN bW bS Bx bZ l : Nat) (w0 W : World) (hq : b6 < b7 ∧ b7 < bN ∧ bN < bW ∧ bW < bS ∧ w0.heap.size ≤ b6) (pre : List (Pos g)) (x : Pos g)
    (hi : Inv g b6 b7 bN bW w0 pre W) (hS : Holds g bS W) (hX : bW < Bx ∧ Two W Bx (sX g x.1) (sY g x.1) ∧ (pre.length : Int) < 400)
    (c1 : (pre.length : Int) < (g.M : Int)) (hc2 : (sI g x.1 == (pre.length : Int)) = true ∧ (sI g x.1 != (pre.length : Int)) = false) (hlt : ¬ sX g x.1 - wasX g pre < wasX g pre - sX g x.1) (hd : (sX g x.1 - wasX g pre + sY g x.1 - wasY g pre == g.c) = false ∧ (sX g x.1 - wasX g pre + sY g x.1 - wasY g pre != g.c) = true) (HBAD : Hid (¬ (pre ++ [x]).map (·.1) <+: List.range (g.R * g.M))) :
    body.wpIn (Fence.wide.inRound l) (9 - 1 - 1) Try.prog (ownPostG bZ (Kp bS) (fun pre W => Inv g b6 b7 bN bW w0 pre W ∧ Holds g bS W) (fun _ pre _ => ¬ pre.map (·.1) <+: List.range (g.R * g.M)) (pre ++ [x]) W)
      { tmps := #[u0, u1, u2, u3, u4, u5, .pointer (some ⟨b6, 0, none⟩), .pointer (some ⟨b7, 0, none⟩), u8, u9, u10, .pointer (some ⟨bN, 0, none⟩), .pointer (some ⟨bW, 0, none⟩), .int .i64 (sI g x.1), .pointer (some ⟨Bx, 0, none⟩), u15, u16, u17, u18, u19, u20, u21, u22, u23, u24, u25, u26, u27, u28, u29, u30, u31, u32, u33, u34, u35, u36, u37, u38, u39, u40, u41, u42, u43, u44, u45, u46, u47, u48, u49, u50, u51, u52, u53, u54, u55, u56, u57, u58, u59, u60, u61, u62, u63, u64, u65, u66, u67, u68, u69, u70, u71, u72, u73, u74, u75, u76, u77, u78, u79, u80, u81, u82, u83, u84, u85, u86, u87, u88, u89, u90, u91, u92, u93, u94, u95, u96, u97, u98, u99, u100, u101, u102, u103, u104, u105, u106, u107, u108, u109, u110, u111, u112, u113, u114, u115, u116, u117, u118, u119, u120, u121, u122, u123, u124, u125, u126, u127, u128, u129, u130, u131, u132, u133, u134, u135, u136, u137, u138, u139, u140, u141, u142, u143, u144, u145, u146, u147, u148, u149, u150, u151, u152, u153, u154, u155, u156, u157, u158, u159, u160, u161, u162, u163, u164, u165, u166, u167, u168, u169, u170, u171, u172, u173, u174], defers := [] } W := by
  have e : Try.f5.body.bind firstRange = some _ := rfl
  rw [e] at hb
  cases hb
  clear e
  obtain ⟨q1, q2, q3, q4, q5⟩ := hq
  obtain ⟨hBx, hx, hlen⟩ := hX
  have hg' := hg
  obtain ⟨a1, a2, a3, a4, a5, a6, a7, a8, a9, a10⟩ := hg'
  obtain ⟨c2a, c2b⟩ := hc2
  obtain ⟨hd1, hd2⟩ := hd
  obtain ⟨xb1, xb2, xb3, xb4⟩ := xy_bounds g hg x
  obtain ⟨wb1, wb2, wb3, wb4⟩ := was_bounds g hg pre
  have hat := at_pos g hg x
  have HAT := Lib.hid hat
  clear hat
  obtain ⟨l0, l1, l2, l3, l4⟩ := hi.seven.cells'
  have n0 := Gq.Later.cell hi.n.cell
  have v0 := Gq.Later.cell hi.was.cells.1
  have v1 := Gq.Later.cell hi.was.cells.2.1
  have y0 := Gq.Later.cell hx.cells.1
  have y1 := Gq.Later.cell hx.cells.2.1
  have HI := Aside0.mk hi
  have HS := Aside0.mk hS
  have HX := Aside0.mk hx
  clear hi hS hx
  have c1n : pre.length < g.M := by omega
  gi_wp2
  refine Go.Gq.region_in (by kernel_rfl) (by kernel_rfl) (by kernel_rfl) ?_
  repeat (go_big_quiet_step ((go_at_call 16; exact Gq.call (HAT.out _))))
  refine wpQuiet_nil ?_
  intro wx hw'
  have hwx := Go.Gq.later_bel hw'
  clear hw'
  have i2 := HI.out.later hwx
  have HW := Aside0.mk hwx
  clear l0 l1 l2 l3 l4 n0 v0 v1 y0 y1 hwx
  have n1 := i2.six.cell
  have n2 := i2.six.frozen
  clear i2
  gi_wp2
  exact ⟨(keeps_later HW.out).trans ((KeepsOthers.setCell _ _ _).from _), HBAD.out⟩

set_option maxRecDepth 100000 in
set_option maxHeartbeats 2000000 in
theorem arm_nlok (u0 u1 u2 u3 u4 u5 u8 u9 u10 u15 u16 u17 u18 u19 u20 u21 u22 u23 u24 u25 u26 u27 u28 u29 u30 u31 u32 u33 u34 u35 u36 u37 u38 u39 u40 u41 u42 u43 u44 u45 u46 u47 u48 u49 u50 u51 u52 u53 u54 u55 u56 u57 u58 u59 u60 u61 u62 u63 u64 u65 u66 u67 u68 u69 u70 u71 u72 u73 u74 u75 u76 u77 u78 u79 u80 u81 u82 u83 u84 u85 u86 u87 u88 u89 u90 u91 u92 u93 u94 u95 u96 u97 u98 u99 u100 u101 u102 u103 u104 u105 u106 u107 u108 u109 u110 u111 u112 u113 u114 u115 u116 u117 u118 u119 u120 u121 u122 u123 u124 u125 u126 u127 u128 u129 u130 u131 u132 u133 u134 u135 u136 u137 u138 u139 u140 u141 u142 u143 u144 u145 u146 u147 u148 u149 u150 u151 u152 u153 u154 u155 u156 u157 u158 u159 u160 u161 u162 u163 u164 u165 u166 u167 u168 u169 u170 u171 u172 u173 u174 : Value) (body : Code) (hb : Try.f5.body.bind firstRange = some body) (g : G) (hg : g.ok) 
    (b6 b7 bN bW bS Bx bZ l : Nat) (w0 W : World) (hq : b6 < b7 ∧ b7 < bN ∧ bN < bW ∧ bW < bS ∧ w0.heap.size ≤ b6) (pre : List (Pos g)) (x : Pos g)
    (hi : Inv g b6 b7 bN bW w0 pre W) (hS : Holds g bS W) (hX : bW < Bx ∧ Two W Bx (sX g x.1) (sY g x.1) ∧ (pre.length : Int) < 400)
    (c1 : ¬ (pre.length : Int) < (g.M : Int)) (hlt : sX g x.1 - wasX g pre < wasX g pre - sX g x.1) (hd : (wasX g pre - sX g x.1 + sY g x.1 - wasY g pre == g.c) = true ∧ (wasX g pre - sX g x.1 + sY g x.1 - wasY g pre != g.c) = false) :
    body.wpIn (Fence.wide.inRound l) (9 - 1 - 1) Try.prog (ownPostG bZ (Kp bS) (fun pre W => Inv g b6 b7 bN bW w0 pre W ∧ Holds g bS W) (fun _ pre _ => ¬ pre.map (·.1) <+: List.range (g.R * g.M)) (pre ++ [x]) W)
      { tmps := #[u0, u1, u2, u3, u4, u5, .pointer (some ⟨b6, 0, none⟩), .pointer (some ⟨b7, 0, none⟩), u8, u9, u10, .pointer (some ⟨bN, 0, none⟩), .pointer (some ⟨bW, 0, none⟩), .int .i64 (sI g x.1), .pointer (some ⟨Bx, 0, none⟩), u15, u16, u17, u18, u19, u20, u21, u22, u23, u24, u25, u26, u27, u28, u29, u30, u31, u32, u33, u34, u35, u36, u37, u38, u39, u40, u41, u42, u43, u44, u45, u46, u47, u48, u49, u50, u51, u52, u53, u54, u55, u56, u57, u58, u59, u60, u61, u62, u63, u64, u65, u66, u67, u68, u69, u70, u71, u72, u73, u74, u75, u76, u77, u78, u79, u80, u81, u82, u83, u84, u85, u86, u87, u88, u89, u90, u91, u92, u93, u94, u95, u96, u97, u98, u99, u100, u101, u102, u103, u104, u105, u106, u107, u108, u109, u110, u111, u112, u113, u114, u115, u116, u117, u118, u119, u120, u121, u122, u123, u124, u125, u126, u127, u128, u129, u130, u131, u132, u133, u134, u135, u136, u137, u138, u139, u140, u141, u142, u143, u144, u145, u146, u147, u148, u149, u150, u151, u152, u153, u154, u155, u156, u157, u158, u159, u160, u161, u162, u163, u164, u165, u166, u167, u168, u169, u170, u171, u172, u173, u174], defers := [] } W := by
  have e : Try.f5.body.bind firstRange = some _ := rfl
  rw [e] at hb
  cases hb
  clear e
  obtain ⟨q1, q2, q3, q4, q5⟩ := hq
  obtain ⟨hBx, hx, hlen⟩ := hX
  have hg' := hg
  obtain ⟨a1, a2, a3, a4, a5, a6, a7, a8, a9, a10⟩ := hg'
  obtain ⟨hd1, hd2⟩ := hd
  obtain ⟨xb1, xb2, xb3, xb4⟩ := xy_bounds g hg x
  obtain ⟨wb1, wb2, wb3, wb4⟩ := was_bounds g hg pre
  have hat := at_pos g hg x
  have HAT := Lib.hid hat
  clear hat
  obtain ⟨l0, l1, l2, l3, l4⟩ := hi.seven.cells'
  have n0 := Gq.Later.cell hi.n.cell
  have v0 := Gq.Later.cell hi.was.cells.1
  have v1 := Gq.Later.cell hi.was.cells.2.1
  have y0 := Gq.Later.cell hx.cells.1
  have y1 := Gq.Later.cell hx.cells.2.1
  have HI := Aside0.mk hi
  have HS := Aside0.mk hS
  have HX := Aside0.mk hx
  clear hi hS hx
  have c1n : ¬ pre.length < g.M := by omega
  have c1e : (g.M : Int) ≤ pre.length := by omega
  have c1f : g.M ≤ pre.length := by omega
  gi_wp2
  refine Go.Gq.region_in (by kernel_rfl) (by kernel_rfl) (by kernel_rfl) ?_
  repeat (go_big_quiet_step ((go_at_call 16; exact Gq.call (HAT.out _))))
  refine wpQuiet_nil ?_
  intro wx hw'
  have hwx := Go.Gq.later_bel hw'
  clear hw'
  have i2 := HI.out.later hwx
  have x2 := HX.out.later hwx
  have HW := Aside0.mk hwx
  clear l0 l1 l2 l3 l4 n0 v0 v1 y0 y1 hwx
  have n1 := i2.n.cell
  have n2 := i2.n.frozen
  obtain ⟨v0, v1, v2, v3⟩ := i2.was.cells
  obtain ⟨y0, y1, _, _⟩ := x2.cells
  have HI2 := Aside0.mk i2
  clear i2 x2
  gi_wp2
  exact ⟨stepW_keeps HW.out, (stepW_far (by omega) (by omega) (HS.out.later HW.out)).trans HS.out.symm, HI2.out.step x (by omega) (by omega) (by omega) (by omega) (by omega) (by omega) (by omega), stepW_far (by omega) (by omega) (HS.out.later HW.out)⟩

set_option maxRecDepth 100000 in
set_option maxHeartbeats 2000000 in
theorem arm_nlbad (u0 u1 u2 u3 u4 u5 u8 u9 u10 u15 u16 u17 u18 u19 u20 u21 u22 u23 u24 u25 u26 u27 u28 u29 u30 u31 u32 u33 u34 u35 u36 u37 u38 u39 u40 u41 u42 u43 u44 u45 u46 u47 u48 u49 u50 u51 u52 u53 u54 u55 u56 u57 u58 u59 u60 u61 u62 u63 u64 u65 u66 u67 u68 u69 u70 u71 u72 u73 u74 u75 u76 u77 u78 u79 u80 u81 u82 u83 u84 u85 u86 u87 u88 u89 u90 u91 u92 u93 u94 u95 u96 u97 u98 u99 u100 u101 u102 u103 u104 u105 u106 u107 u108 u109 u110 u111 u112 u113 u114 u115 u116 u117 u118 u119 u120 u121 u122 u123 u124 u125 u126 u127 u128 u129 u130 u131 u132 u133 u134 u135 u136 u137 u138 u139 u140 u141 u142 u143 u144 u145 u146 u147 u148 u149 u150 u151 u152 u153 u154 u155 u156 u157 u158 u159 u160 u161 u162 u163 u164 u165 u166 u167 u168 u169 u170 u171 u172 u173 u174 : Value) (body : Code) (hb : Try.f5.body.bind firstRange = some body) (g : G) (hg : g.ok) 
    (b6 b7 bN bW bS Bx bZ l : Nat) (w0 W : World) (hq : b6 < b7 ∧ b7 < bN ∧ bN < bW ∧ bW < bS ∧ w0.heap.size ≤ b6) (pre : List (Pos g)) (x : Pos g)
    (hi : Inv g b6 b7 bN bW w0 pre W) (hS : Holds g bS W) (hX : bW < Bx ∧ Two W Bx (sX g x.1) (sY g x.1) ∧ (pre.length : Int) < 400)
    (c1 : ¬ (pre.length : Int) < (g.M : Int)) (hlt : sX g x.1 - wasX g pre < wasX g pre - sX g x.1) (hd : (wasX g pre - sX g x.1 + sY g x.1 - wasY g pre == g.c) = false ∧ (wasX g pre - sX g x.1 + sY g x.1 - wasY g pre != g.c) = true) (HBAD : Hid (¬ (pre ++ [x]).map (·.1) <+: List.range (g.R * g.M))) :
    body.wpIn (Fence.wide.inRound l) (9 - 1 - 1) Try.prog (ownPostG bZ (Kp bS) (fun pre W => Inv g b6 b7 bN bW w0 pre W ∧ Holds g bS W) (fun _ pre _ => ¬ pre.map (·.1) <+: List.range (g.R * g.M)) (pre ++ [x]) W)
      { tmps := #[u0, u1, u2, u3, u4, u5, .pointer (some ⟨b6, 0, none⟩), .pointer (some ⟨b7, 0, none⟩), u8, u9, u10, .pointer (some ⟨bN, 0, none⟩), .pointer (some ⟨bW, 0, none⟩), .int .i64 (sI g x.1), .pointer (some ⟨Bx, 0, none⟩), u15, u16, u17, u18, u19, u20, u21, u22, u23, u24, u25, u26, u27, u28, u29, u30, u31, u32, u33, u34, u35, u36, u37, u38, u39, u40, u41, u42, u43, u44, u45, u46, u47, u48, u49, u50, u51, u52, u53, u54, u55, u56, u57, u58, u59, u60, u61, u62, u63, u64, u65, u66, u67, u68, u69, u70, u71, u72, u73, u74, u75, u76, u77, u78, u79, u80, u81, u82, u83, u84, u85, u86, u87, u88, u89, u90, u91, u92, u93, u94, u95, u96, u97, u98, u99, u100, u101, u102, u103, u104, u105, u106, u107, u108, u109, u110, u111, u112, u113, u114, u115, u116, u117, u118, u119, u120, u121, u122, u123, u124, u125, u126, u127, u128, u129, u130, u131, u132, u133, u134, u135, u136, u137, u138, u139, u140, u141, u142, u143, u144, u145, u146, u147, u148, u149, u150, u151, u152, u153, u154, u155, u156, u157, u158, u159, u160, u161, u162, u163, u164, u165, u166, u167, u168, u169, u170, u171, u172, u173, u174], defers := [] } W := by
  have e : Try.f5.body.bind firstRange = some _ := rfl
  rw [e] at hb
  cases hb
  clear e
  obtain ⟨q1, q2, q3, q4, q5⟩ := hq
  obtain ⟨hBx, hx, hlen⟩ := hX
  have hg' := hg
  obtain ⟨a1, a2, a3, a4, a5, a6, a7, a8, a9, a10⟩ := hg'
  obtain ⟨hd1, hd2⟩ := hd
  obtain ⟨xb1, xb2, xb3, xb4⟩ := xy_bounds g hg x
  obtain ⟨wb1, wb2, wb3, wb4⟩ := was_bounds g hg pre
  have hat := at_pos g hg x
  have HAT := Lib.hid hat
  clear hat
  obtain ⟨l0, l1, l2, l3, l4⟩ := hi.seven.cells'
  have n0 := Gq.Later.cell hi.n.cell
  have v0 := Gq.Later.cell hi.was.cells.1
  have v1 := Gq.Later.cell hi.was.cells.2.1
  have y0 := Gq.Later.cell hx.cells.1
  have y1 := Gq.Later.cell hx.cells.2.1
  have HI := Aside0.mk hi
  have HS := Aside0.mk hS
  have HX := Aside0.mk hx
  clear hi hS hx
  have c1n : ¬ pre.length < g.M := by omega
  have c1e : (g.M : Int) ≤ pre.length := by omega
  have c1f : g.M ≤ pre.length := by omega
  gi_wp2
  refine Go.Gq.region_in (by kernel_rfl) (by kernel_rfl) (by kernel_rfl) ?_
  repeat (go_big_quiet_step ((go_at_call 16; exact Gq.call (HAT.out _))))
  refine wpQuiet_nil ?_
  intro wx hw'
  have hwx := Go.Gq.later_bel hw'
  clear hw'
  have i2 := HI.out.later hwx
  have HW := Aside0.mk hwx
  clear l0 l1 l2 l3 l4 n0 v0 v1 y0 y1 hwx
  have n1 := i2.six.cell
  have n2 := i2.six.frozen
  clear i2
  gi_wp2
  exact ⟨(keeps_later HW.out).trans ((KeepsOthers.setCell _ _ _).from _), HBAD.out⟩

set_option maxRecDepth 100000 in
set_option maxHeartbeats 2000000 in
theorem arm_ngok (u0 u1 u2 u3 u4 u5 u8 u9 u10 u15 u16 u17 u18 u19 u20 u21 u22 u23 u24 u25 u26 u27 u28 u29 u30 u31 u32 u33 u34 u35 u36 u37 u38 u39 u40 u41 u42 u43 u44 u45 u46 u47 u48 u49 u50 u51 u52 u53 u54 u55 u56 u57 u58 u59 u60 u61 u62 u63 u64 u65 u66 u67 u68 u69 u70 u71 u72 u73 u74 u75 u76 u77 u78 u79 u80 u81 u82 u83 u84 u85 u86 u87 u88 u89 u90 u91 u92 u93 u94 u95 u96 u97 u98 u99 u100 u101 u102 u103 u104 u105 u106 u107 u108 u109 u110 u111 u112 u113 u114 u115 u116 u117 u118 u119 u120 u121 u122 u123 u124 u125 u126 u127 u128 u129 u130 u131 u132 u133 u134 u135 u136 u137 u138 u139 u140 u141 u142 u143 u144 u145 u146 u147 u148 u149 u150 u151 u152 u153 u154 u155 u156 u157 u158 u159 u160 u161 u162 u163 u164 u165 u166 u167 u168 u169 u170 u171 u172 u173 u174 : Value) (body : Code) (hb : Try.f5.body.bind firstRange = some body) (g : G) (hg : g.ok) 
    (b6 b7 bN bW bS Bx bZ l : Nat) (w0 W : World) (hq : b6 < b7 ∧ b7 < bN ∧ bN < bW ∧ bW < bS ∧ w0.heap.size ≤ b6) (pre : List (Pos g)) (x : Pos g)
    (hi : Inv g b6 b7 bN bW w0 pre W) (hS : Holds g bS W) (hX : bW < Bx ∧ Two W Bx (sX g x.1) (sY g x.1) ∧ (pre.length : Int) < 400)
    (c1 : ¬ (pre.length : Int) < (g.M : Int)) (hlt : ¬ sX g x.1 - wasX g pre < wasX g pre - sX g x.1) (hd : (sX g x.1 - wasX g pre + sY g x.1 - wasY g pre == g.c) = true ∧ (sX g x.1 - wasX g pre + sY g x.1 - wasY g pre != g.c) = false) :
    body.wpIn (Fence.wide.inRound l) (9 - 1 - 1) Try.prog (ownPostG bZ (Kp bS) (fun pre W => Inv g b6 b7 bN bW w0 pre W ∧ Holds g bS W) (fun _ pre _ => ¬ pre.map (·.1) <+: List.range (g.R * g.M)) (pre ++ [x]) W)
      { tmps := #[u0, u1, u2, u3, u4, u5, .pointer (some ⟨b6, 0, none⟩), .pointer (some ⟨b7, 0, none⟩), u8, u9, u10, .pointer (some ⟨bN, 0, none⟩), .pointer (some ⟨bW, 0, none⟩), .int .i64 (sI g x.1), .pointer (some ⟨Bx, 0, none⟩), u15, u16, u17, u18, u19, u20, u21, u22, u23, u24, u25, u26, u27, u28, u29, u30, u31, u32, u33, u34, u35, u36, u37, u38, u39, u40, u41, u42, u43, u44, u45, u46, u47, u48, u49, u50, u51, u52, u53, u54, u55, u56, u57, u58, u59, u60, u61, u62, u63, u64, u65, u66, u67, u68, u69, u70, u71, u72, u73, u74, u75, u76, u77, u78, u79, u80, u81, u82, u83, u84, u85, u86, u87, u88, u89, u90, u91, u92, u93, u94, u95, u96, u97, u98, u99, u100, u101, u102, u103, u104, u105, u106, u107, u108, u109, u110, u111, u112, u113, u114, u115, u116, u117, u118, u119, u120, u121, u122, u123, u124, u125, u126, u127, u128, u129, u130, u131, u132, u133, u134, u135, u136, u137, u138, u139, u140, u141, u142, u143, u144, u145, u146, u147, u148, u149, u150, u151, u152, u153, u154, u155, u156, u157, u158, u159, u160, u161, u162, u163, u164, u165, u166, u167, u168, u169, u170, u171, u172, u173, u174], defers := [] } W := by
  have e : Try.f5.body.bind firstRange = some _ := rfl
  rw [e] at hb
  cases hb
  clear e
  obtain ⟨q1, q2, q3, q4, q5⟩ := hq
  obtain ⟨hBx, hx, hlen⟩ := hX
  have hg' := hg
  obtain ⟨a1, a2, a3, a4, a5, a6, a7, a8, a9, a10⟩ := hg'
  obtain ⟨hd1, hd2⟩ := hd
  obtain ⟨xb1, xb2, xb3, xb4⟩ := xy_bounds g hg x
  obtain ⟨wb1, wb2, wb3, wb4⟩ := was_bounds g hg pre
  have hat := at_pos g hg x
  have HAT := Lib.hid hat
  clear hat
  obtain ⟨l0, l1, l2, l3, l4⟩ := hi.seven.cells'
  have n0 := Gq.Later.cell hi.n.cell
  have v0 := Gq.Later.cell hi.was.cells.1
  have v1 := Gq.Later.cell hi.was.cells.2.1
  have y0 := Gq.Later.cell hx.cells.1
  have y1 := Gq.Later.cell hx.cells.2.1
  have HI := Aside0.mk hi
  have HS := Aside0.mk hS
  have HX := Aside0.mk hx
  clear hi hS hx
  have c1n : ¬ pre.length < g.M := by omega
  have c1e : (g.M : Int) ≤ pre.length := by omega
  have c1f : g.M ≤ pre.length := by omega
  gi_wp2
  refine Go.Gq.region_in (by kernel_rfl) (by kernel_rfl) (by kernel_rfl) ?_
  repeat (go_big_quiet_step ((go_at_call 16; exact Gq.call (HAT.out _))))
  refine wpQuiet_nil ?_
  intro wx hw'
  have hwx := Go.Gq.later_bel hw'
  clear hw'
  have i2 := HI.out.later hwx
  have x2 := HX.out.later hwx
  have HW := Aside0.mk hwx
  clear l0 l1 l2 l3 l4 n0 v0 v1 y0 y1 hwx
  have n1 := i2.n.cell
  have n2 := i2.n.frozen
  obtain ⟨v0, v1, v2, v3⟩ := i2.was.cells
  obtain ⟨y0, y1, _, _⟩ := x2.cells
  have HI2 := Aside0.mk i2
  clear i2 x2
  gi_wp2
  exact ⟨stepW_keeps HW.out, (stepW_far (by omega) (by omega) (HS.out.later HW.out)).trans HS.out.symm, HI2.out.step x (by omega) (by omega) (by omega) (by omega) (by omega) (by omega) (by omega), stepW_far (by omega) (by omega) (HS.out.later HW.out)⟩

set_option maxRecDepth 100000 in
set_option maxHeartbeats 2000000 in
theorem arm_ngbad (u0 u1 u2 u3 u4 u5 u8 u9 u10 u15 u16 u17 u18 u19 u20 u21 u22 u23 u24 u25 u26 u27 u28 u29 u30 u31 u32 u33 u34 u35 u36 u37 u38 u39 u40 u41 u42 u43 u44 u45 u46 u47 u48 u49 u50 u51 u52 u53 u54 u55 u56 u57 u58 u59 u60 u61 u62 u63 u64 u65 u66 u67 u68 u69 u70 u71 u72 u73 u74 u75 u76 u77 u78 u79 u80 u81 u82 u83 u84 u85 u86 u87 u88 u89 u90 u91 u92 u93 u94 u95 u96 u97 u98 u99 u100 u101 u102 u103 u104 u105 u106 u107 u108 u109 u110 u111 u112 u113 u114 u115 u116 u117 u118 u119 u120 u121 u122 u123 u124 u125 u126 u127 u128 u129 u130 u131 u132 u133 u134 u135 u136 u137 u138 u139 u140 u141 u142 u143 u144 u145 u146 u147 u148 u149 u150 u151 u152 u153 u154 u155 u156 u157 u158 u159 u160 u161 u162 u163 u164 u165 u166 u167 u168 u169 u170 u171 u172 u173 u174 : Value) (body : Code) (hb : Try.f5.body.bind firstRange = some body) (g : G) (hg : g.ok) 
    (b6 b7 bN bW bS Bx bZ l : Nat) (w0 W : World) (hq : b6 < b7 ∧ b7 < bN ∧ bN < bW ∧ bW < bS ∧ w0.heap.size ≤ b6) (pre : List (Pos g)) (x : Pos g)
    (hi : Inv g b6 b7 bN bW w0 pre W) (hS : Holds g bS W) (hX : bW < Bx ∧ Two W Bx (sX g x.1) (sY g x.1) ∧ (pre.length : Int) < 400)
    (c1 : ¬ (pre.length : Int) < (g.M : Int)) (hlt : ¬ sX g x.1 - wasX g pre < wasX g pre - sX g x.1) (hd : (sX g x.1 - wasX g pre + sY g x.1 - wasY g pre == g.c) = false ∧ (sX g x.1 - wasX g pre + sY g x.1 - wasY g pre != g.c) = true) (HBAD : Hid (¬ (pre ++ [x]).map (·.1) <+: List.range (g.R * g.M))) :
    body.wpIn (Fence.wide.inRound l) (9 - 1 - 1) Try.prog (ownPostG bZ (Kp bS) (fun pre W => Inv g b6 b7 bN bW w0 pre W ∧ Holds g bS W) (fun _ pre _ => ¬ pre.map (·.1) <+: List.range (g.R * g.M)) (pre ++ [x]) W)
      { tmps := #[u0, u1, u2, u3, u4, u5, .pointer (some ⟨b6, 0, none⟩), .pointer (some ⟨b7, 0, none⟩), u8, u9, u10, .pointer (some ⟨bN, 0, none⟩), .pointer (some ⟨bW, 0, none⟩), .int .i64 (sI g x.1), .pointer (some ⟨Bx, 0, none⟩), u15, u16, u17, u18, u19, u20, u21, u22, u23, u24, u25, u26, u27, u28, u29, u30, u31, u32, u33, u34, u35, u36, u37, u38, u39, u40, u41, u42, u43, u44, u45, u46, u47, u48, u49, u50, u51, u52, u53, u54, u55, u56, u57, u58, u59, u60, u61, u62, u63, u64, u65, u66, u67, u68, u69, u70, u71, u72, u73, u74, u75, u76, u77, u78, u79, u80, u81, u82, u83, u84, u85, u86, u87, u88, u89, u90, u91, u92, u93, u94, u95, u96, u97, u98, u99, u100, u101, u102, u103, u104, u105, u106, u107, u108, u109, u110, u111, u112, u113, u114, u115, u116, u117, u118, u119, u120, u121, u122, u123, u124, u125, u126, u127, u128, u129, u130, u131, u132, u133, u134, u135, u136, u137, u138, u139, u140, u141, u142, u143, u144, u145, u146, u147, u148, u149, u150, u151, u152, u153, u154, u155, u156, u157, u158, u159, u160, u161, u162, u163, u164, u165, u166, u167, u168, u169, u170, u171, u172, u173, u174], defers := [] } W := by
  have e : Try.f5.body.bind firstRange = some _ := rfl
  rw [e] at hb
  cases hb
  clear e
  obtain ⟨q1, q2, q3, q4, q5⟩ := hq
  obtain ⟨hBx, hx, hlen⟩ := hX
  have hg' := hg
  obtain ⟨a1, a2, a3, a4, a5, a6, a7, a8, a9, a10⟩ := hg'
  obtain ⟨hd1, hd2⟩ := hd
  obtain ⟨xb1, xb2, xb3, xb4⟩ := xy_bounds g hg x
  obtain ⟨wb1, wb2, wb3, wb4⟩ := was_bounds g hg pre
  have hat := at_pos g hg x
  have HAT := Lib.hid hat
  clear hat
  obtain ⟨l0, l1, l2, l3, l4⟩ := hi.seven.cells'
  have n0 := Gq.Later.cell hi.n.cell
  have v0 := Gq.Later.cell hi.was.cells.1
  have v1 := Gq.Later.cell hi.was.cells.2.1
  have y0 := Gq.Later.cell hx.cells.1
  have y1 := Gq.Later.cell hx.cells.2.1
  have HI := Aside0.mk hi
  have HS := Aside0.mk hS
  have HX := Aside0.mk hx
  clear hi hS hx
  have c1n : ¬ pre.length < g.M := by omega
  have c1e : (g.M : Int) ≤ pre.length := by omega
  have c1f : g.M ≤ pre.length := by omega
  gi_wp2
  refine Go.Gq.region_in (by kernel_rfl) (by kernel_rfl) (by kernel_rfl) ?_
  repeat (go_big_quiet_step ((go_at_call 16; exact Gq.call (HAT.out _))))
  refine wpQuiet_nil ?_
  intro wx hw'
  have hwx := Go.Gq.later_bel hw'
  clear hw'
  have i2 := HI.out.later hwx
  have HW := Aside0.mk hwx
  clear l0 l1 l2 l3 l4 n0 v0 v1 y0 y1 hwx
  have n1 := i2.six.cell
  have n2 := i2.six.frozen
  clear i2
  gi_wp2
  exact ⟨(keeps_later HW.out).trans ((KeepsOthers.setCell _ _ _).from _), HBAD.out⟩

set_option maxRecDepth 100000 in
set_option maxHeartbeats 2000000 in
theorem arm_y_bad (u0 u1 u2 u3 u4 u5 u8 u9 u10 u15 u16 u17 u18 u19 u20 u21 u22 u23 u24 u25 u26 u27 u28 u29 u30 u31 u32 u33 u34 u35 u36 u37 u38 u39 u40 u41 u42 u43 u44 u45 u46 u47 u48 u49 u50 u51 u52 u53 u54 u55 u56 u57 u58 u59 u60 u61 u62 u63 u64 u65 u66 u67 u68 u69 u70 u71 u72 u73 u74 u75 u76 u77 u78 u79 u80 u81 u82 u83 u84 u85 u86 u87 u88 u89 u90 u91 u92 u93 u94 u95 u96 u97 u98 u99 u100 u101 u102 u103 u104 u105 u106 u107 u108 u109 u110 u111 u112 u113 u114 u115 u116 u117 u118 u119 u120 u121 u122 u123 u124 u125 u126 u127 u128 u129 u130 u131 u132 u133 u134 u135 u136 u137 u138 u139 u140 u141 u142 u143 u144 u145 u146 u147 u148 u149 u150 u151 u152 u153 u154 u155 u156 u157 u158 u159 u160 u161 u162 u163 u164 u165 u166 u167 u168 u169 u170 u171 u172 u173 u174 : Value) (body : Code) (hb : Try.f5.body.bind firstRange = some body) (g : G) (hg : g.ok) 
    (b6 b7 bN bW bS Bx bZ l : Nat) (w0 W : World) (hq : b6 < b7 ∧ b7 < bN ∧ bN < bW ∧ bW < bS ∧ w0.heap.size ≤ b6) (pre : List (Pos g)) (x : Pos g)
    (hi : Inv g b6 b7 bN bW w0 pre W) (hS : Holds g bS W) (hX : bW < Bx ∧ Two W Bx (sX g x.1) (sY g x.1) ∧ (pre.length : Int) < 400)
    (c1 : (pre.length : Int) < (g.M : Int)) (hc2 : (sI g x.1 == (pre.length : Int)) = false ∧ (sI g x.1 != (pre.length : Int)) = true) (HBAD : Hid (¬ (pre ++ [x]).map (·.1) <+: List.range (g.R * g.M))) :
    body.wpIn (Fence.wide.inRound l) (9 - 1 - 1) Try.prog (ownPostG bZ (Kp bS) (fun pre W => Inv g b6 b7 bN bW w0 pre W ∧ Holds g bS W) (fun _ pre _ => ¬ pre.map (·.1) <+: List.range (g.R * g.M)) (pre ++ [x]) W)
      { tmps := #[u0, u1, u2, u3, u4, u5, .pointer (some ⟨b6, 0, none⟩), .pointer (some ⟨b7, 0, none⟩), u8, u9, u10, .pointer (some ⟨bN, 0, none⟩), .pointer (some ⟨bW, 0, none⟩), .int .i64 (sI g x.1), .pointer (some ⟨Bx, 0, none⟩), u15, u16, u17, u18, u19, u20, u21, u22, u23, u24, u25, u26, u27, u28, u29, u30, u31, u32, u33, u34, u35, u36, u37, u38, u39, u40, u41, u42, u43, u44, u45, u46, u47, u48, u49, u50, u51, u52, u53, u54, u55, u56, u57, u58, u59, u60, u61, u62, u63, u64, u65, u66, u67, u68, u69, u70, u71, u72, u73, u74, u75, u76, u77, u78, u79, u80, u81, u82, u83, u84, u85, u86, u87, u88, u89, u90, u91, u92, u93, u94, u95, u96, u97, u98, u99, u100, u101, u102, u103, u104, u105, u106, u107, u108, u109, u110, u111, u112, u113, u114, u115, u116, u117, u118, u119, u120, u121, u122, u123, u124, u125, u126, u127, u128, u129, u130, u131, u132, u133, u134, u135, u136, u137, u138, u139, u140, u141, u142, u143, u144, u145, u146, u147, u148, u149, u150, u151, u152, u153, u154, u155, u156, u157, u158, u159, u160, u161, u162, u163, u164, u165, u166, u167, u168, u169, u170, u171, u172, u173, u174], defers := [] } W := by
  have e : Try.f5.body.bind firstRange = some _ := rfl
  rw [e] at hb
  cases hb
  clear e
  obtain ⟨q1, q2, q3, q4, q5⟩ := hq
  obtain ⟨hBx, hx, hlen⟩ := hX
  have hg' := hg
  obtain ⟨a1, a2, a3, a4, a5, a6, a7, a8, a9, a10⟩ := hg'
  obtain ⟨c2a, c2b⟩ := hc2
  obtain ⟨xb1, xb2, xb3, xb4⟩ := xy_bounds g hg x
  obtain ⟨wb1, wb2, wb3, wb4⟩ := was_bounds g hg pre
  have hat := at_pos g hg x
  have HAT := Lib.hid hat
  clear hat
  obtain ⟨l0, l1, l2, l3, l4⟩ := hi.seven.cells'
  have n0 := Gq.Later.cell hi.n.cell
  have v0 := Gq.Later.cell hi.was.cells.1
  have v1 := Gq.Later.cell hi.was.cells.2.1
  have y0 := Gq.Later.cell hx.cells.1
  have y1 := Gq.Later.cell hx.cells.2.1
  have HI := Aside0.mk hi
  have HS := Aside0.mk hS
  have HX := Aside0.mk hx
  clear hi hS hx
  have c1n : pre.length < g.M := by omega
  gi_wp2
  refine Go.Gq.region_in (by kernel_rfl) (by kernel_rfl) (by kernel_rfl) ?_
  repeat (go_big_quiet_step ((go_at_call 16; exact Gq.call (HAT.out _))))
  refine wpQuiet_nil ?_
  intro wx hw'
  have hwx := Go.Gq.later_bel hw'
  clear hw'
  have i2 := HI.out.later hwx
  have HW := Aside0.mk hwx
  clear l0 l1 l2 l3 l4 n0 v0 v1 y0 y1 hwx
  have n1 := i2.six.cell
  have n2 := i2.six.frozen
  clear i2
  gi_wp2
  exact ⟨(keeps_later HW.out).trans ((KeepsOthers.setCell _ _ _).from _), HBAD.out⟩
end Gn
end Go.Proofs.Ytdihefgleefhmaa
