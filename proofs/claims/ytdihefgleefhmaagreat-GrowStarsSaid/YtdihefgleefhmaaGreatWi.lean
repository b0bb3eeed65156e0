import Derived.Test.YtdihefgleefhmaaGreatFl
import Derived.Deep.RegionHeld3
namespace Go.Proofs.YtdihefgleefhmaaGreat
open Go.RowKit
structure Place where
 kind:Int
 tri:Int
 a:Int
 b:Int
deriving DecidableEq
abbrev plv(q:Place):Value:=.agg #[.int .i64 q.kind,.int .i64 q.tri,.int .i64 q.a,.int .i64 q.b]
def withinE(M:Mesh)(t:Nat)(p:Pt):Nat→Place
 | 0=>⟨0,t,0,0⟩
 | k+1=>
  let T:=tat M.tris t
  let a:=T.v ((2-k+1)%3)
  let b:=T.v ((2-k+2)%3)
  if oriE M a b p=0 then ⟨1,t,min a b,max a b⟩ else withinE M t p k
def withinP(M:Mesh)(t:Nat)(p:Pt):Nat→Place
 | 0=>withinE M t p 3
 | k+1=>if pat M.pts ((tat M.tris t).v (2-k)).toNat=p then ⟨2,t,(tat M.tris t).v (2-k),0⟩ else withinP M t p k
def within(M:Mesh)(t:Nat)(p:Pt):Place:=withinP M t p 3
namespace Wi
open Wd Pr
attribute [local go_sem high] run_eql32 run_neq32 run_minI run_maxI
theorem Blk.four{W:World}{b t:Nat}{x y z u:Value}(h:Blk W b t #[x,y,z,u]):W.cell? ⟨b,0,none⟩=some x∧W.cell? ⟨b,1,none⟩=some y∧W.cell? ⟨b,2,none⟩=some z∧W.cell? ⟨b,3,none⟩=some u∧W.frozen? ⟨b,0,none⟩=false∧W.frozen? ⟨b,1,none⟩=false∧W.frozen? ⟨b,2,none⟩=false∧W.frozen? ⟨b,3,none⟩=false:=
 ⟨h.cell 0 x rfl,h.cell 1 y rfl,h.cell 2 z rfl,h.cell 3 u rfl,h.frozen 0,h.frozen 1,h.frozen 2,h.frozen 3⟩
theorem Blk.four_set{W:World}{b t:Nat}{x y z u x' y' z' u':Value}(h:Blk W b t #[x,y,z,u]):(W.setCell ⟨b,0,none⟩ x').cell? ⟨b,0,none⟩=some x'∧((W.setCell ⟨b,0,none⟩ x').setCell ⟨b,1,none⟩ y').cell? ⟨b,1,none⟩=some y'∧(((W.setCell ⟨b,0,none⟩ x').setCell ⟨b,1,none⟩ y').setCell ⟨b,2,none⟩ z').cell? ⟨b,2,none⟩=some z'∧((((W.setCell ⟨b,0,none⟩ x').setCell ⟨b,1,none⟩ y').setCell ⟨b,2,none⟩ z').setCell ⟨b,3,none⟩ u').cell? ⟨b,3,none⟩=some u':=
 ⟨(h.set 0 x').cell 0 x' rfl,((h.set 0 x').set 1 y').cell 1 y' rfl,(((h.set 0 x').set 1 y').set 2 z').cell 2 z' rfl,((((h.set 0 x').set 1 y').set 2 z').set 3 u').cell 3 u' rfl⟩
structure Laid(w W:World)(p:Pt)(x0 x1 x2:Nat):Prop where
 pt:Blk W w.heap.size 24 #[.int .i64 p.x,.int .i64 p.y]
 res:Blk W (w.heap.size+1) 78 #[.int .i64 0,.int .i64 0,.int .i64 0,.int .i64 0]
 v:Blk W (w.heap.size+2) 40 #[.int .i64 x0,.int .i64 x1,.int .i64 x2]
 bel:Below w.heap.size w W
theorem Laid.later{w W W':World}{p:Pt}{x0 x1 x2:Nat}(h:Laid w W p x0 x1 x2)(hb:Below W.heap.size W W'):Laid w W' p x0 x1 x2:=
 ⟨h.pt.later hb,h.res.later hb,h.v.later hb,bel_step h.bel hb⟩
theorem set4{w W:World}{p:Pt}{x0 x1 x2:Nat}(h:Laid w W p x0 x1 x2)(a b c d:Value):Below w.heap.size w ((((W.setCell ⟨w.heap.size+1,0,none⟩ a).setCell ⟨w.heap.size+1,1,none⟩ b).setCell ⟨w.heap.size+1,2,none⟩ c).setCell ⟨w.heap.size+1,3,none⟩ d):=
 bel_set (bel_set (bel_set (bel_set h.bel (by omega) _ _) (by omega) _ _) (by omega) _ _) (by omega) _ _
set_option maxRecDepth 100000 in
set_option maxHeartbeats 4000000 in
theorem within_any(M:Mesh)(b t:Nat)(p:Pt)(w:World)(h:MeshR w b M)(ho:M.ok)(ht:t<M.tris.length)(hp:p.near)(x0 x1 x2:Nat)(h0:(tat M.tris t).v0=x0)(h1:(tat M.tris t).v1=x1)(h2:(tat M.tris t).v2=x2)(l0:x0<M.pts.length)(l1:x1<M.pts.length)(l2:x2<M.pts.length) :
  Calls Tryz.prog 66 #[.pointer (some ⟨b,0,none⟩),.int .i64 t,pv p] w fun e w'=>e=.returned (plv (within M t p))∧Below w.heap.size w w':=by
 obtain⟨gp,cp,gt,ct,ga,ca,fV,h⟩:=h;have hlp:=ho.pts;have HOK:=Hd ho;have W2:=h.later (bel_alloc (bel_alloc (bel_refl w) (.cells #[.int .i64 p.x,.int .i64 p.y] 24)) (.cells #[.int .i64 0,.int .i64 0,.int .i64 0,.int .i64 0] 78));have k1:=W2.head.cell 1 (.slice (some ⟨gt,0,none⟩) M.tris.length ct) rfl;obtain⟨t0,t1,t2,_⟩:=W2.tris t ht;rw[h0]at t0;rw[h1]at t1;rw[h2]at t2;have H:=Hd h;have HW:Hid (withinP M t p 3=within M t p):=Hd rfl;obtain⟨r,hr⟩:∃r,within M t p=r:=⟨_,rfl⟩;rw[hr]at HW ⊢;have V0:Hid ((tat M.tris t).v 0=x0):=Hd h0;have V1:Hid ((tat M.tris t).v 1=x1):=Hd h1;have V2:Hid ((tat M.tris t).v 2=x2):=Hd h2;clear h W2 hr h0 h1 h2 ho
 go_enter Tryz.func66,Tryz.ntmps66
 go_wp2
 go_loopw [22] (fun q wr=>∃k:Nat,q=.int .i64 k∧k≤3∧Hid (withinP M t p (3-k)=r)∧Hid (Laid w wr p x0 x1 x2)) (fun q _=>3-(intOf q).toNat)
 case atStart=>
  refine⟨0,rfl,by omega,HW,Hd ⟨((Blk.new w 24 #[.int .i64 p.x,.int .i64 p.y]).alloc _).alloc _,(Blk.new' _ _ _ (by simp)).alloc _,Blk.new' _ _ _ (by simp),bel_alloc (bel_alloc (bel_alloc (bel_refl w) _) _) _⟩⟩
 case round=>
  obtain⟨k,rfl,hk,HP,HL⟩:=hrel;clear k1 t0 t1 t2;rcases(show k=0∨k=1∨k=2∨k=3 by omega)with rfl|rfl|rfl|rfl
  ·have ix:∀w,(Instr.index 40 (.agg #[.int .i64 x0,.int .i64 x1,.int .i64 x2]) (.int .i64 0)).run Tryz.prog w=.ok (.int .i64 x0) w:=fun _=>by kernel_rfl
   have he:=ptEq_iff (pat M.pts x0) p;have hm:=H.out.later HL.out.bel;have m0:=Gq.Later.cell (hm.head.cell 0 (.slice (some ⟨gp,0,none⟩) M.pts.length cp) rfl);have m1:=Gq.Later.cell (hm.pts x0 l0).1;have m2:=Gq.Later.cell (hm.pts x0 l0).2;have m3:=HL.out.pt.cells 0 (.int .i64 p.x) rfl;have m4:=HL.out.pt.cells 1 (.int .i64 p.y) rfl;have i0:(0:Int)≤(x0:Int):=by omega
   have i1:(x0:Int)<(M.pts.length:Int):=by omega
   have hstep:withinP M t p (3-0)=if pat M.pts x0=p then ⟨2,t,x0,0⟩ else withinP M t p (3-(0+1)):=by
    show(if pat M.pts ((tat M.tris t).v 0).toNat=p then _ else _)=_
    rw[V0.out];rfl
   clear hm;by_cases hz:pat M.pts x0=p
   ·rw[decide_eq_true hz]at he
    have HS:Hid (⟨2,t,x0,0⟩=r):=Hd (by rw[←HP.out,hstep,if_pos hz]);clear hz hstep
    go_upto_region 5 with(fail)
    refine Go.Gq.region (by kernel_rfl) (by kernel_rfl) ?_
    repeat (go_big_quiet_step ((fail)))
    refine wpQuiet_nil ?_;intro wx hw';have HX:=Hd (HL.out.later (Go.Gq.later_bel hw'));clear hw' m0 m1 m2 m3 m4;obtain⟨c0,c1,c2,c3,c4,c5,c6,c7⟩:=Blk.four HX.out.res;obtain⟨n0,n1,n2,n3⟩:=Blk.four_set (x':=.int .i64 2) (y':=.int .i64 t) (z':=.int .i64 x0) (u':=.int .i64 0) HX.out.res;go_wp2;rw[←HS.out];exact bodyPost_ret (v:=plv ⟨2,t,x0,0⟩) (by simp[results,Tryz.results66,go_sem,n0,n1,n2,n3]) rfl ⟨rfl,set4 HX.out _ _ _ _⟩
   ·rw[decide_eq_false hz]at he
    have HS:Hid (withinP M t p (3-(0+1))=r):=Hd (by rw[←HP.out,hstep,if_neg hz]);clear hz hstep
    go_upto_region 5 with(fail)
    refine Go.Gq.region (by kernel_rfl) (by kernel_rfl) ?_
    repeat (go_big_quiet_step ((fail)))
    refine wpQuiet_nil ?_;intro wx hw';have HX:=Hd (HL.out.later (Go.Gq.later_bel hw'));clear hw' m0 m1 m2 m3 m4;go_wp2;go_roundw
    case rel=>exact⟨0+1,by go_num,by omega,HS,HX⟩
    case measure=>simp[intOf]
  ·have ix:∀w,(Instr.index 40 (.agg #[.int .i64 x0,.int .i64 x1,.int .i64 x2]) (.int .i64 1)).run Tryz.prog w=.ok (.int .i64 x1) w:=fun _=>by kernel_rfl
   have he:=ptEq_iff (pat M.pts x1) p;have hm:=H.out.later HL.out.bel;have m0:=Gq.Later.cell (hm.head.cell 0 (.slice (some ⟨gp,0,none⟩) M.pts.length cp) rfl);have m1:=Gq.Later.cell (hm.pts x1 l1).1;have m2:=Gq.Later.cell (hm.pts x1 l1).2;have m3:=HL.out.pt.cells 0 (.int .i64 p.x) rfl;have m4:=HL.out.pt.cells 1 (.int .i64 p.y) rfl;have i0:(0:Int)≤(x1:Int):=by omega
   have i1:(x1:Int)<(M.pts.length:Int):=by omega
   have hstep:withinP M t p (3-1)=if pat M.pts x1=p then ⟨2,t,x1,0⟩ else withinP M t p (3-(1+1)):=by
    show(if pat M.pts ((tat M.tris t).v 1).toNat=p then _ else _)=_
    rw[V1.out];rfl
   clear hm;by_cases hz:pat M.pts x1=p
   ·rw[decide_eq_true hz]at he
    have HS:Hid (⟨2,t,x1,0⟩=r):=Hd (by rw[←HP.out,hstep,if_pos hz]);clear hz hstep
    go_upto_region 5 with(fail)
    refine Go.Gq.region (by kernel_rfl) (by kernel_rfl) ?_
    repeat (go_big_quiet_step ((fail)))
    refine wpQuiet_nil ?_;intro wx hw';have HX:=Hd (HL.out.later (Go.Gq.later_bel hw'));clear hw' m0 m1 m2 m3 m4;obtain⟨c0,c1,c2,c3,c4,c5,c6,c7⟩:=Blk.four HX.out.res;obtain⟨n0,n1,n2,n3⟩:=Blk.four_set (x':=.int .i64 2) (y':=.int .i64 t) (z':=.int .i64 x1) (u':=.int .i64 0) HX.out.res;go_wp2;rw[←HS.out];exact bodyPost_ret (v:=plv ⟨2,t,x1,0⟩) (by simp[results,Tryz.results66,go_sem,n0,n1,n2,n3]) rfl ⟨rfl,set4 HX.out _ _ _ _⟩
   ·rw[decide_eq_false hz]at he
    have HS:Hid (withinP M t p (3-(1+1))=r):=Hd (by rw[←HP.out,hstep,if_neg hz]);clear hz hstep
    go_upto_region 5 with(fail)
    refine Go.Gq.region (by kernel_rfl) (by kernel_rfl) ?_
    repeat (go_big_quiet_step ((fail)))
    refine wpQuiet_nil ?_;intro wx hw';have HX:=Hd (HL.out.later (Go.Gq.later_bel hw'));clear hw' m0 m1 m2 m3 m4;go_wp2;go_roundw
    case rel=>exact⟨1+1,by go_num,by omega,HS,HX⟩
    case measure=>simp[intOf]
  ·have ix:∀w,(Instr.index 40 (.agg #[.int .i64 x0,.int .i64 x1,.int .i64 x2]) (.int .i64 2)).run Tryz.prog w=.ok (.int .i64 x2) w:=fun _=>by kernel_rfl
   have he:=ptEq_iff (pat M.pts x2) p;have hm:=H.out.later HL.out.bel;have m0:=Gq.Later.cell (hm.head.cell 0 (.slice (some ⟨gp,0,none⟩) M.pts.length cp) rfl);have m1:=Gq.Later.cell (hm.pts x2 l2).1;have m2:=Gq.Later.cell (hm.pts x2 l2).2;have m3:=HL.out.pt.cells 0 (.int .i64 p.x) rfl;have m4:=HL.out.pt.cells 1 (.int .i64 p.y) rfl;have i0:(0:Int)≤(x2:Int):=by omega
   have i1:(x2:Int)<(M.pts.length:Int):=by omega
   have hstep:withinP M t p (3-2)=if pat M.pts x2=p then ⟨2,t,x2,0⟩ else withinP M t p (3-(2+1)):=by
    show(if pat M.pts ((tat M.tris t).v 2).toNat=p then _ else _)=_
    rw[V2.out];rfl
   clear hm;by_cases hz:pat M.pts x2=p
   ·rw[decide_eq_true hz]at he
    have HS:Hid (⟨2,t,x2,0⟩=r):=Hd (by rw[←HP.out,hstep,if_pos hz]);clear hz hstep
    go_upto_region 5 with(fail)
    refine Go.Gq.region (by kernel_rfl) (by kernel_rfl) ?_
    repeat (go_big_quiet_step ((fail)))
    refine wpQuiet_nil ?_;intro wx hw';have HX:=Hd (HL.out.later (Go.Gq.later_bel hw'));clear hw' m0 m1 m2 m3 m4;obtain⟨c0,c1,c2,c3,c4,c5,c6,c7⟩:=Blk.four HX.out.res;obtain⟨n0,n1,n2,n3⟩:=Blk.four_set (x':=.int .i64 2) (y':=.int .i64 t) (z':=.int .i64 x2) (u':=.int .i64 0) HX.out.res;go_wp2;rw[←HS.out];exact bodyPost_ret (v:=plv ⟨2,t,x2,0⟩) (by simp[results,Tryz.results66,go_sem,n0,n1,n2,n3]) rfl ⟨rfl,set4 HX.out _ _ _ _⟩
   ·rw[decide_eq_false hz]at he
    have HS:Hid (withinP M t p (3-(2+1))=r):=Hd (by rw[←HP.out,hstep,if_neg hz]);clear hz hstep
    go_upto_region 5 with(fail)
    refine Go.Gq.region (by kernel_rfl) (by kernel_rfl) ?_
    repeat (go_big_quiet_step ((fail)))
    refine wpQuiet_nil ?_;intro wx hw';have HX:=Hd (HL.out.later (Go.Gq.later_bel hw'));clear hw' m0 m1 m2 m3 m4;go_wp2;go_roundw
    case rel=>exact⟨2+1,by go_num,by omega,HS,HX⟩
    case measure=>simp[intOf]
  ·go_wp2
   go_loopw [38] (fun q wr=>∃k:Nat,q=.int .i64 k∧k≤3∧Hid (withinE M t p (3-k)=r)∧Hid (Laid w wr p x0 x1 x2)) (fun q _=>3-(intOf q).toNat)
   case atStart=>exact⟨0,rfl,by omega,HP,HL⟩
   case round=>
    obtain⟨k,rfl,hk,HP,HL⟩:=hrel;rcases(show k=0∨k=1∨k=2∨k=3 by omega)with rfl|rfl|rfl|rfl
    ·have hm:=H.out.later HL.out.bel
     have g0:=HL.out.v.cells 0 (.int .i64 x0) rfl;have g1:=HL.out.v.cells 1 (.int .i64 x1) rfl;have g2:=HL.out.v.cells 2 (.int .i64 x2) rfl;have i0:(0:Int)≤(x1:Int):=by omega
     have i1:(x1:Int)<(M.pts.length:Int):=by omega
     have j0:(0:Int)≤(x2:Int):=by omega
     have j1:(x2:Int)<(M.pts.length:Int):=by omega
     have hS:=sign_eq0 (ori (pat M.pts x1) (pat M.pts x2) p);have hO:=Hd (fun w=>orient_any (pat M.pts x1) (pat M.pts x2) p w (HOK.out.near x1) (HOK.out.near x2) hp)
     have hstep:withinE M t p (3-0)=if ori (pat M.pts x1) (pat M.pts x2) p=0 then ⟨1,t,min x1 x2,max x1 x2⟩ else withinE M t p (3-(0+1)):=by
      show(if oriE M ((tat M.tris t).v 1) ((tat M.tris t).v 2) p=0 then (⟨1,t,min ((tat M.tris t).v 1) ((tat M.tris t).v 2),max ((tat M.tris t).v 1) ((tat M.tris t).v 2)⟩:Place) else _)=_
      rw[V1.out,V2.out];rfl
     clear hm;by_cases hz:ori (pat M.pts x1) (pat M.pts x2) p=0
     ·rw[decide_eq_true hz]at hS
      have HS:Hid ((⟨1,t,min x1 x2,max x1 x2⟩:Place)=r):=Hd (by rw[←HP.out,hstep,if_pos hz]);clear hz hstep;generalize (ori (pat M.pts x1) (pat M.pts x2) p).sign=s at *
      go_upto_region 11 with(fail)
      refine Go.Gq.region (by kernel_rfl) (by kernel_rfl) ?_
      repeat (go_big_quiet_step ((fail)))
      refine wpQuiet_nil ?_;intro wx hw';have HX:=Hd (HL.out.later (Go.Gq.later_bel hw'));clear hw' g0 g1 g2;have hm:=H.out.later HX.out.bel;have m0:=Gq.Later.cell (hm.head.cell 0 (.slice (some ⟨gp,0,none⟩) M.pts.length cp) rfl);have m1:=Gq.Later.cell (hm.pts x1 l1).1;have m2:=Gq.Later.cell (hm.pts x1 l1).2;have m5:=Gq.Later.cell (hm.pts x2 l2).1;have m6:=Gq.Later.cell (hm.pts x2 l2).2;have m3:=HX.out.pt.cells 0 (.int .i64 p.x) rfl;have m4:=HX.out.pt.cells 1 (.int .i64 p.y) rfl;clear hm
      go_upto_region 12 with(fail)
      refine Go.Gq.region (by kernel_rfl) (by kernel_rfl) ?_
      repeat (go_big_quiet_step ((go_at_call 16;exact Gq.call (hO.out _))))
      refine wpQuiet_nil ?_;intro wy hw';have HY:=Hd (HX.out.later (Go.Gq.later_bel hw'));clear hw' m0 m1 m2 m3 m4 m5 m6;obtain⟨c0,c1,c2,c3,c4,c5,c6,c7⟩:=Blk.four HY.out.res;obtain⟨n0,n1,n2,n3⟩:=Blk.four_set (x':=.int .i64 1) (y':=.int .i64 t) (z':=.int .i64 (min x1 x2)) (u':=.int .i64 (max x1 x2)) HY.out.res;go_wp2;rw[←HS.out];exact bodyPost_ret (v:=plv ⟨1,t,min x1 x2,max x1 x2⟩) (by simp[results,Tryz.results66,go_sem,n0,n1,n2,n3]) rfl ⟨rfl,set4 HY.out _ _ _ _⟩
     ·rw[decide_eq_false hz]at hS
      have HS:Hid (withinE M t p (3-(0+1))=r):=Hd (by rw[←HP.out,hstep,if_neg hz]);clear hz hstep;generalize (ori (pat M.pts x1) (pat M.pts x2) p).sign=s at *
      go_upto_region 11 with(fail)
      refine Go.Gq.region (by kernel_rfl) (by kernel_rfl) ?_
      repeat (go_big_quiet_step ((fail)))
      refine wpQuiet_nil ?_;intro wx hw';have HX:=Hd (HL.out.later (Go.Gq.later_bel hw'));clear hw' g0 g1 g2;have hm:=H.out.later HX.out.bel;have m0:=Gq.Later.cell (hm.head.cell 0 (.slice (some ⟨gp,0,none⟩) M.pts.length cp) rfl);have m1:=Gq.Later.cell (hm.pts x1 l1).1;have m2:=Gq.Later.cell (hm.pts x1 l1).2;have m5:=Gq.Later.cell (hm.pts x2 l2).1;have m6:=Gq.Later.cell (hm.pts x2 l2).2;have m3:=HX.out.pt.cells 0 (.int .i64 p.x) rfl;have m4:=HX.out.pt.cells 1 (.int .i64 p.y) rfl;clear hm
      go_upto_region 12 with(fail)
      refine Go.Gq.region (by kernel_rfl) (by kernel_rfl) ?_
      repeat (go_big_quiet_step ((go_at_call 16;exact Gq.call (hO.out _))))
      refine wpQuiet_nil ?_;intro wy hw';have HY:=Hd (HX.out.later (Go.Gq.later_bel hw'));clear hw' m0 m1 m2 m3 m4 m5 m6;go_wp2;go_roundw
      case rel=>exact⟨0+1,by go_num,by omega,HS,HY⟩
      case measure=>simp[intOf]
    ·have hm:=H.out.later HL.out.bel
     have g0:=HL.out.v.cells 0 (.int .i64 x0) rfl;have g1:=HL.out.v.cells 1 (.int .i64 x1) rfl;have g2:=HL.out.v.cells 2 (.int .i64 x2) rfl;have i0:(0:Int)≤(x2:Int):=by omega
     have i1:(x2:Int)<(M.pts.length:Int):=by omega
     have j0:(0:Int)≤(x0:Int):=by omega
     have j1:(x0:Int)<(M.pts.length:Int):=by omega
     have hS:=sign_eq0 (ori (pat M.pts x2) (pat M.pts x0) p);have hO:=Hd (fun w=>orient_any (pat M.pts x2) (pat M.pts x0) p w (HOK.out.near x2) (HOK.out.near x0) hp)
     have hstep:withinE M t p (3-1)=if ori (pat M.pts x2) (pat M.pts x0) p=0 then ⟨1,t,min x2 x0,max x2 x0⟩ else withinE M t p (3-(1+1)):=by
      show(if oriE M ((tat M.tris t).v 2) ((tat M.tris t).v 0) p=0 then (⟨1,t,min ((tat M.tris t).v 2) ((tat M.tris t).v 0),max ((tat M.tris t).v 2) ((tat M.tris t).v 0)⟩:Place) else _)=_
      rw[V2.out,V0.out];rfl
     clear hm;by_cases hz:ori (pat M.pts x2) (pat M.pts x0) p=0
     ·rw[decide_eq_true hz]at hS
      have HS:Hid ((⟨1,t,min x2 x0,max x2 x0⟩:Place)=r):=Hd (by rw[←HP.out,hstep,if_pos hz]);clear hz hstep;generalize (ori (pat M.pts x2) (pat M.pts x0) p).sign=s at *
      go_upto_region 11 with(fail)
      refine Go.Gq.region (by kernel_rfl) (by kernel_rfl) ?_
      repeat (go_big_quiet_step ((fail)))
      refine wpQuiet_nil ?_;intro wx hw';have HX:=Hd (HL.out.later (Go.Gq.later_bel hw'));clear hw' g0 g1 g2;have hm:=H.out.later HX.out.bel;have m0:=Gq.Later.cell (hm.head.cell 0 (.slice (some ⟨gp,0,none⟩) M.pts.length cp) rfl);have m1:=Gq.Later.cell (hm.pts x2 l2).1;have m2:=Gq.Later.cell (hm.pts x2 l2).2;have m5:=Gq.Later.cell (hm.pts x0 l0).1;have m6:=Gq.Later.cell (hm.pts x0 l0).2;have m3:=HX.out.pt.cells 0 (.int .i64 p.x) rfl;have m4:=HX.out.pt.cells 1 (.int .i64 p.y) rfl;clear hm
      go_upto_region 12 with(fail)
      refine Go.Gq.region (by kernel_rfl) (by kernel_rfl) ?_
      repeat (go_big_quiet_step ((go_at_call 16;exact Gq.call (hO.out _))))
      refine wpQuiet_nil ?_;intro wy hw';have HY:=Hd (HX.out.later (Go.Gq.later_bel hw'));clear hw' m0 m1 m2 m3 m4 m5 m6;obtain⟨c0,c1,c2,c3,c4,c5,c6,c7⟩:=Blk.four HY.out.res;obtain⟨n0,n1,n2,n3⟩:=Blk.four_set (x':=.int .i64 1) (y':=.int .i64 t) (z':=.int .i64 (min x2 x0)) (u':=.int .i64 (max x2 x0)) HY.out.res;go_wp2;rw[←HS.out];exact bodyPost_ret (v:=plv ⟨1,t,min x2 x0,max x2 x0⟩) (by simp[results,Tryz.results66,go_sem,n0,n1,n2,n3]) rfl ⟨rfl,set4 HY.out _ _ _ _⟩
     ·rw[decide_eq_false hz]at hS
      have HS:Hid (withinE M t p (3-(1+1))=r):=Hd (by rw[←HP.out,hstep,if_neg hz]);clear hz hstep;generalize (ori (pat M.pts x2) (pat M.pts x0) p).sign=s at *
      go_upto_region 11 with(fail)
      refine Go.Gq.region (by kernel_rfl) (by kernel_rfl) ?_
      repeat (go_big_quiet_step ((fail)))
      refine wpQuiet_nil ?_;intro wx hw';have HX:=Hd (HL.out.later (Go.Gq.later_bel hw'));clear hw' g0 g1 g2;have hm:=H.out.later HX.out.bel;have m0:=Gq.Later.cell (hm.head.cell 0 (.slice (some ⟨gp,0,none⟩) M.pts.length cp) rfl);have m1:=Gq.Later.cell (hm.pts x2 l2).1;have m2:=Gq.Later.cell (hm.pts x2 l2).2;have m5:=Gq.Later.cell (hm.pts x0 l0).1;have m6:=Gq.Later.cell (hm.pts x0 l0).2;have m3:=HX.out.pt.cells 0 (.int .i64 p.x) rfl;have m4:=HX.out.pt.cells 1 (.int .i64 p.y) rfl;clear hm
      go_upto_region 12 with(fail)
      refine Go.Gq.region (by kernel_rfl) (by kernel_rfl) ?_
      repeat (go_big_quiet_step ((go_at_call 16;exact Gq.call (hO.out _))))
      refine wpQuiet_nil ?_;intro wy hw';have HY:=Hd (HX.out.later (Go.Gq.later_bel hw'));clear hw' m0 m1 m2 m3 m4 m5 m6;go_wp2;go_roundw
      case rel=>exact⟨1+1,by go_num,by omega,HS,HY⟩
      case measure=>simp[intOf]
    ·have hm:=H.out.later HL.out.bel
     have g0:=HL.out.v.cells 0 (.int .i64 x0) rfl;have g1:=HL.out.v.cells 1 (.int .i64 x1) rfl;have g2:=HL.out.v.cells 2 (.int .i64 x2) rfl;have i0:(0:Int)≤(x0:Int):=by omega
     have i1:(x0:Int)<(M.pts.length:Int):=by omega
     have j0:(0:Int)≤(x1:Int):=by omega
     have j1:(x1:Int)<(M.pts.length:Int):=by omega
     have hS:=sign_eq0 (ori (pat M.pts x0) (pat M.pts x1) p);have hO:=Hd (fun w=>orient_any (pat M.pts x0) (pat M.pts x1) p w (HOK.out.near x0) (HOK.out.near x1) hp)
     have hstep:withinE M t p (3-2)=if ori (pat M.pts x0) (pat M.pts x1) p=0 then ⟨1,t,min x0 x1,max x0 x1⟩ else withinE M t p (3-(2+1)):=by
      show(if oriE M ((tat M.tris t).v 0) ((tat M.tris t).v 1) p=0 then (⟨1,t,min ((tat M.tris t).v 0) ((tat M.tris t).v 1),max ((tat M.tris t).v 0) ((tat M.tris t).v 1)⟩:Place) else _)=_
      rw[V0.out,V1.out];rfl
     clear hm;by_cases hz:ori (pat M.pts x0) (pat M.pts x1) p=0
     ·rw[decide_eq_true hz]at hS
      have HS:Hid ((⟨1,t,min x0 x1,max x0 x1⟩:Place)=r):=Hd (by rw[←HP.out,hstep,if_pos hz]);clear hz hstep;generalize (ori (pat M.pts x0) (pat M.pts x1) p).sign=s at *
      go_upto_region 11 with(fail)
      refine Go.Gq.region (by kernel_rfl) (by kernel_rfl) ?_
      repeat (go_big_quiet_step ((fail)))
      refine wpQuiet_nil ?_;intro wx hw';have HX:=Hd (HL.out.later (Go.Gq.later_bel hw'));clear hw' g0 g1 g2;have hm:=H.out.later HX.out.bel;have m0:=Gq.Later.cell (hm.head.cell 0 (.slice (some ⟨gp,0,none⟩) M.pts.length cp) rfl);have m1:=Gq.Later.cell (hm.pts x0 l0).1;have m2:=Gq.Later.cell (hm.pts x0 l0).2;have m5:=Gq.Later.cell (hm.pts x1 l1).1;have m6:=Gq.Later.cell (hm.pts x1 l1).2;have m3:=HX.out.pt.cells 0 (.int .i64 p.x) rfl;have m4:=HX.out.pt.cells 1 (.int .i64 p.y) rfl;clear hm
      go_upto_region 12 with(fail)
      refine Go.Gq.region (by kernel_rfl) (by kernel_rfl) ?_
      repeat (go_big_quiet_step ((go_at_call 16;exact Gq.call (hO.out _))))
      refine wpQuiet_nil ?_;intro wy hw';have HY:=Hd (HX.out.later (Go.Gq.later_bel hw'));clear hw' m0 m1 m2 m3 m4 m5 m6;obtain⟨c0,c1,c2,c3,c4,c5,c6,c7⟩:=Blk.four HY.out.res;obtain⟨n0,n1,n2,n3⟩:=Blk.four_set (x':=.int .i64 1) (y':=.int .i64 t) (z':=.int .i64 (min x0 x1)) (u':=.int .i64 (max x0 x1)) HY.out.res;go_wp2;rw[←HS.out];exact bodyPost_ret (v:=plv ⟨1,t,min x0 x1,max x0 x1⟩) (by simp[results,Tryz.results66,go_sem,n0,n1,n2,n3]) rfl ⟨rfl,set4 HY.out _ _ _ _⟩
     ·rw[decide_eq_false hz]at hS
      have HS:Hid (withinE M t p (3-(2+1))=r):=Hd (by rw[←HP.out,hstep,if_neg hz]);clear hz hstep;generalize (ori (pat M.pts x0) (pat M.pts x1) p).sign=s at *
      go_upto_region 11 with(fail)
      refine Go.Gq.region (by kernel_rfl) (by kernel_rfl) ?_
      repeat (go_big_quiet_step ((fail)))
      refine wpQuiet_nil ?_;intro wx hw';have HX:=Hd (HL.out.later (Go.Gq.later_bel hw'));clear hw' g0 g1 g2;have hm:=H.out.later HX.out.bel;have m0:=Gq.Later.cell (hm.head.cell 0 (.slice (some ⟨gp,0,none⟩) M.pts.length cp) rfl);have m1:=Gq.Later.cell (hm.pts x0 l0).1;have m2:=Gq.Later.cell (hm.pts x0 l0).2;have m5:=Gq.Later.cell (hm.pts x1 l1).1;have m6:=Gq.Later.cell (hm.pts x1 l1).2;have m3:=HX.out.pt.cells 0 (.int .i64 p.x) rfl;have m4:=HX.out.pt.cells 1 (.int .i64 p.y) rfl;clear hm
      go_upto_region 12 with(fail)
      refine Go.Gq.region (by kernel_rfl) (by kernel_rfl) ?_
      repeat (go_big_quiet_step ((go_at_call 16;exact Gq.call (hO.out _))))
      refine wpQuiet_nil ?_;intro wy hw';have HY:=Hd (HX.out.later (Go.Gq.later_bel hw'));clear hw' m0 m1 m2 m3 m4 m5 m6;go_wp2;go_roundw
      case rel=>exact⟨2+1,by go_num,by omega,HS,HY⟩
      case measure=>simp[intOf]
    ·obtain⟨c0,c1,c2,c3,c4,c5,c6,c7⟩:=Blk.four HL.out.res
     obtain⟨n0,n1,n2,n3⟩:=Blk.four_set (x':=.int .i64 0) (y':=.int .i64 t) (z':=.int .i64 0) (u':=.int .i64 0) HL.out.res;go_wp2;rw[←HP.out];exact bodyPost_ret (v:=plv ⟨0,t,0,0⟩) (by simp[results,Tryz.results66,go_sem,n0,n1,n2,n3]) rfl ⟨rfl,set4 HL.out _ _ _ _⟩
end Wi
end Go.Proofs.YtdihefgleefhmaaGreat
