import Derived.Test.YtdihefgleefhmaaGreatQk
import Derived.Test.YtdihefgleefhmaaGreatFl
import Derived.Deep.RegionHeld3
import Derived.Deep.DeepCutAuto
namespace Go.Proofs.YtdihefgleefhmaaGreat
open Go.RowKit
def CircOk(a b c p:Pt):Prop:=∀w,Calls Tryz.prog 44 #[pv a,pv b,pv c,pv p] w fun e w'=>e=.returned (.int .i64 (inc a b c p).sign)∧Below w.heap.size w w'
def ghostIn(M:Mesh)(x y:Int)(p:Pt):Bool:=decide (0<ori (pat M.pts x.toNat) (pat M.pts y.toNat) p)||Pr.betB p (pat M.pts x.toNat) (pat M.pts y.toNat)
def conflict(M:Mesh)(T:Tri)(p:Pt):Bool:=if T.v0=-1 then ghostIn M T.v1 T.v2 p else if T.v1=-1 then ghostIn M T.v2 T.v0 p else if T.v2=-1 then ghostIn M T.v0 T.v1 p
 else decide (0<inc (pat M.pts T.v0.toNat) (pat M.pts T.v1.toNat) (pat M.pts T.v2.toNat) p)
namespace Cf
open Wd Pr
structure Laid(w W:World)(p:Pt)(T:Tri):Prop where
 p:Blk W w.heap.size 24 #[.int .i64 p.x,.int .i64 p.y]
 v:Blk W (w.heap.size+1) 40 #[.int .i64 T.v0,.int .i64 T.v1,.int .i64 T.v2]
 bel:Below w.heap.size w W
theorem Laid.later{w W W':World}{p:Pt}{T:Tri}(h:Laid w W p T)(hb:Below W.heap.size W W'):Laid w W' p T:=⟨h.p.later hb,h.v.later hb,bel_step h.bel hb⟩
set_option maxHeartbeats 2000000 in
set_option maxRecDepth 100000 in
theorem conflict_any(M:Mesh)(b t:Nat)(p:Pt)(w:World)(h:MeshR w b M)(ho:M.ok)(hp:p.near)(htl:t<M.tris.length)(T:Tri)(hT:tat M.tris t=T)
  (hv:∀j,j<3→T.v j≠-1→0≤T.v j∧T.v j<M.pts.length) (h1:T.v0=-1→T.v1≠-1∧T.v2≠-1) (h2:T.v1=-1→T.v2≠-1)
  (hc:CircOk (pat M.pts T.v0.toNat) (pat M.pts T.v1.toNat) (pat M.pts T.v2.toNat) p) :
  Calls Tryz.prog 15 #[.pointer (some ⟨b,0,none⟩),.int .i64 t,pv p] w fun e w'=>e=.returned (.bool (conflict M T p))∧Below w.heap.size w w':=by
 obtain⟨gp,cp,gt,ct,ga,ca,fV,h⟩:=h;have hW0:=h.later (bel_alloc (bel_refl w) (.cells #[.int .i64 p.x,.int .i64 p.y] 24));have k1:=hW0.head.cell 1 (.slice (some ⟨gt,0,none⟩) M.tris.length ct) rfl;obtain⟨t0,t1,t2,_⟩:=hW0.tris t htl;rw[hT]at t0 t1 t2;have tt0:(0:Int)≤(t:Int):=by omega
 have tt1:(t:Int)<(M.tris.length:Int):=by omega
 obtain⟨r,hr⟩:∃r,conflict M T p=r:=⟨_,rfl⟩;rw[hr];have HR:=Hd hr;have H:=Hd h;have HV:=Hd hv;have HO:=Hd ho;have HP:=Hd hp;have H1:=Hd h1;have H2:=Hd h2;have HC:=Hd hc;clear hr h hv ho hp h1 h2 hc hW0 hT
 go_enter Tryz.func15,Tryz.ntmps15
 go_upto_region 2 with(fail)
 have hL:Laid w ((w.alloc (.cells #[.int .i64 p.x,.int .i64 p.y] 24)).alloc (.cells #[.int .i64 T.v0,.int .i64 T.v1,.int .i64 T.v2] 40)) p T:=
  ⟨(Blk.new w 24 _).alloc _,Blk.new' _ 40 _ (by simp),bel_alloc (bel_alloc (bel_refl w) _) _⟩
 obtain⟨W,hW⟩:∃W,((w.alloc (.cells #[.int .i64 p.x,.int .i64 p.y] 24)).alloc (.cells #[.int .i64 T.v0,.int .i64 T.v1,.int .i64 T.v2] 40))=W:=⟨_,rfl⟩;rw[hW]at hL ⊢;have HL:=Hd hL;clear hL hW k1 t0 t1 t2;go_wp2
 go_loopw [19] (fun q wr=>∃k:Nat,q=.int .i64 k∧k≤3∧Hid (∀j,j<k→T.v j≠-1)∧Hid (W=wr)) (fun q _=>3-(intOf q).toNat)
 case atStart=>exact⟨0,rfl,by omega,fun j hj=>absurd hj (by omega),rfl⟩
 case round=>
  obtain⟨k,rfl,hk,HE,HU⟩:=hrel;have hUe:=HU.out;subst hUe;clear HU;obtain⟨y0,y1,y2,_,_,_⟩:=HL.out.v.three;rcases(show k=0∨k=1∨k=2∨k=3 by omega)with rfl|rfl|rfl|rfl
  ·by_cases hg:T.v0=-1
   ·have hx:=(H1.out hg).1
    have hy:=(H1.out hg).2;have hxr:=HV.out 1 (by omega) hx;have hyr:=HV.out 2 (by omega) hy;obtain⟨nx,hnx⟩:∃n:Nat,T.v1=n:=⟨T.v1.toNat,by have:=hxr.1;simp only[Tri.v]at this;omega⟩;obtain⟨ny,hny⟩:∃n:Nat,T.v2=n:=⟨T.v2.toNat,by have:=hyr.1;simp only[Tri.v]at this;omega⟩
    have hres:conflict M T p=(decide (0<ori (pat M.pts nx) (pat M.pts ny) p)||Pr.betB p (pat M.pts nx) (pat M.pts ny)):=by
     unfold conflict;rw[if_pos hg];unfold ghostIn;rw[hnx,hny];rfl
    have HRES:=Hd (hres.symm.trans HR.out);have nxl:nx<M.pts.length:=by have:=hxr.2;simp only[Tri.v]at this;omega
    have nyl:ny<M.pts.length:=by have:=hyr.2;simp only[Tri.v]at this;omega
    have hMW:=(H.out).later HL.out.bel;have c0:=hMW.head.cell 0 (.slice (some ⟨gp,0,none⟩) M.pts.length cp) rfl;obtain⟨cx0,cx1⟩:=hMW.pts nx nxl;obtain⟨cy0,cy1⟩:=hMW.pts ny nyl;rw[hg]at y0;rw[hnx]at y1;rw[hny]at y2;have n0:=World.new_ne _ _ c0;have n1:=World.new_ne _ _ cx0;have n2:=World.new_ne _ _ y0;have xi:(0:Int)≤(nx:Int):=by omega
    have xi1:(nx:Int)<(M.pts.length:Int):=by omega
    have yi:(0:Int)≤(ny:Int):=by omega
    have yi1:(ny:Int)<(M.pts.length:Int):=by omega
    have hO:=Hd (fun w=>orient_any (pat M.pts nx) (pat M.pts ny) p w (HO.out.near nx) (HO.out.near ny) HP.out);have hBt:=Hd (fun w=>between_any p (pat M.pts nx) (pat M.pts ny) w HP.out (HO.out.near nx) (HO.out.near ny));have P0:=Hd HL.out.p;have HBW:=Hd HL.out.bel;generalize pat M.pts nx=A at *;generalize pat M.pts ny=C at *;clear hx hy hxr hyr hres hMW hnx hny nxl nyl hg
    go_wp2_with fail
    go_cut [9,10] (fun v9 v10 wx=>∃b9 b10:Nat,v9=.pointer (some ⟨b9,0,none⟩)∧v10=.pointer (some ⟨b10,0,none⟩)∧Hid (Blk wx b9 24 #[.int .i64 A.x,.int .i64 A.y])∧Hid (Blk wx b10 24 #[.int .i64 C.x,.int .i64 C.y])∧Hid (Below W.heap.size W wx))
    case first=>
     have w0:IntKind.i64.wrap 0=0:=by decide
     have w1:IntKind.i64.wrap 1=1:=by decide
     have w2:IntKind.i64.wrap 2=2:=by decide
     have w3:IntKind.i64.wrap 3=3:=by decide
     have w4:IntKind.i64.wrap 4=4:=by decide
     go_region_held3 (fun w'=>w'.cell? ⟨b,0,none⟩=some (.slice (some ⟨gp,0,none⟩) M.pts.length cp)∧w'.cell? ⟨w.heap.size+1,1,none⟩=some (.int .i64 nx)∧w'.cell? ⟨w.heap.size+1,2,none⟩=some (.int .i64 ny)∧w'.cell? ⟨gp,nx*2,none⟩=some (.int .i64 A.x)∧w'.cell? ⟨gp,nx*2+1,none⟩=some (.int .i64 A.y)∧w'.cell? ⟨gp,ny*2,none⟩=some (.int .i64 C.x)∧w'.cell? ⟨gp,ny*2+1,none⟩=some (.int .i64 C.y)) (go_keep) (fail)
     ·go_wp2_with fail
      go_meet
      exact⟨_,_,rfl,rfl,Hd ((Blk.new W 24 _).alloc _).drew,Hd (Blk.new' _ 24 _ (by simp)).drew,Hd (bel_drew (bel_alloc (bel_alloc (bel_refl W) _) _))⟩
     ·go_wp2_with fail
      go_meet
      exact⟨_,_,rfl,rfl,Hd (Blk.new' _ 24 _ (by simp)).drew,Hd ((Blk.new W 24 _).alloc _).drew,Hd (bel_drew (bel_alloc (bel_alloc (bel_refl W) _) _))⟩
    case rest=>
     obtain⟨b9,b10,rfl,rfl,F9,F10,FB⟩:=hcut
     rename_i wx
     have hdec:decide (0<ori A C p)=decide (0<(ori A C p).sign):=by rw[Bool.eq_iff_iff];simp
     have hr2:=HRES.out;rw[hdec]at hr2;have HR2:=Hd hr2;clear hdec hr2 HRES c0 cx0 cx1 cy0 cy1 n0 n1 n2 y0 y1 y2;obtain⟨f90,f91,_,_⟩:=F9.out.two;obtain⟨f100,f101,_,_⟩:=F10.out.two;obtain⟨f50,f51,_,_⟩:=(P0.out.later FB.out).two;generalize (ori A C p).sign=s at hO HR2;by_cases hs:0<s
     ·go_wp2_with ((go_at_call 16;refine(hO.out _).mono ?_;rintro e w1 ⟨rfl,hb1⟩;have HB1:=Hd hb1;clear hb1))
      go_ret
      refine⟨congrArg (fun x=>Ending.returned (Value.bool x)) ?_,bel_step (bel_step HBW.out FB.out) HB1.out⟩;have:=HR2.out;rw[decide_eq_true hs]at this;exact this
     ·go_wp2_with (first
       | (go_at_call 16;refine(hO.out _).mono ?_;rintro e w1 ⟨rfl,hb1⟩;have g90:=cell_later f90 hb1;have g91:=cell_later f91 hb1;have g100:=cell_later f100 hb1;have g101:=cell_later f101 hb1;have g50:=cell_later f50 hb1;have g51:=cell_later f51 hb1;have HB1:=Hd hb1;clear hb1)
       | (go_at_call 43;refine(hBt.out _).mono ?_;rintro e w2 ⟨rfl,hb2⟩;have HB2:=Hd hb2;clear hb2))
      go_ret
      refine⟨congrArg (fun x=>Ending.returned (Value.bool x)) ?_,bel_step (bel_step (bel_step HBW.out FB.out) HB1.out) HB2.out⟩;have:=HR2.out;rw[decide_eq_false (show ¬0<s by omega),Bool.false_or]at this ⊢;exact this
   ·have hq:(T.v0 != -1)=true:=by simpa using hg
    have HQ:=Hd hg;clear hg;go_wp2;go_roundw
    case rel=>exact⟨1,by go_num,by omega,fun j hj=>by rcases Nat.lt_succ_iff_lt_or_eq.1 hj with h|h;exact HE.out j h;exact h▸HQ.out,trivial⟩
    case measure=>simp[intOf]
  ·by_cases hg:T.v1=-1
   ·have hx:=H2.out hg
    have hy:T.v0≠-1:=HE.out 0 (by omega);have hxr:=HV.out 2 (by omega) hx;have hyr:=HV.out 0 (by omega) hy;obtain⟨nx,hnx⟩:∃n:Nat,T.v2=n:=⟨T.v2.toNat,by have:=hxr.1;simp only[Tri.v]at this;omega⟩;obtain⟨ny,hny⟩:∃n:Nat,T.v0=n:=⟨T.v0.toNat,by have:=hyr.1;simp only[Tri.v]at this;omega⟩
    have hres:conflict M T p=(decide (0<ori (pat M.pts nx) (pat M.pts ny) p)||Pr.betB p (pat M.pts nx) (pat M.pts ny)):=by
     unfold conflict;rw[if_neg (show ¬T.v0=-1 from HE.out 0 (by omega)),if_pos hg];unfold ghostIn;rw[hnx,hny];rfl
    have HRES:=Hd (hres.symm.trans HR.out);have nxl:nx<M.pts.length:=by have:=hxr.2;simp only[Tri.v]at this;omega
    have nyl:ny<M.pts.length:=by have:=hyr.2;simp only[Tri.v]at this;omega
    have hMW:=(H.out).later HL.out.bel;have c0:=hMW.head.cell 0 (.slice (some ⟨gp,0,none⟩) M.pts.length cp) rfl;obtain⟨cx0,cx1⟩:=hMW.pts nx nxl;obtain⟨cy0,cy1⟩:=hMW.pts ny nyl;rw[hg]at y1;rw[hnx]at y2;rw[hny]at y0;have n0:=World.new_ne _ _ c0;have n1:=World.new_ne _ _ cx0;have n2:=World.new_ne _ _ y0;have xi:(0:Int)≤(nx:Int):=by omega
    have xi1:(nx:Int)<(M.pts.length:Int):=by omega
    have yi:(0:Int)≤(ny:Int):=by omega
    have yi1:(ny:Int)<(M.pts.length:Int):=by omega
    have hO:=Hd (fun w=>orient_any (pat M.pts nx) (pat M.pts ny) p w (HO.out.near nx) (HO.out.near ny) HP.out);have hBt:=Hd (fun w=>between_any p (pat M.pts nx) (pat M.pts ny) w HP.out (HO.out.near nx) (HO.out.near ny));have P0:=Hd HL.out.p;have HBW:=Hd HL.out.bel;generalize pat M.pts nx=A at *;generalize pat M.pts ny=C at *;clear hx hy hxr hyr hres hMW hnx hny nxl nyl hg
    go_wp2_with fail
    go_cut [9,10] (fun v9 v10 wx=>∃b9 b10:Nat,v9=.pointer (some ⟨b9,0,none⟩)∧v10=.pointer (some ⟨b10,0,none⟩)∧Hid (Blk wx b9 24 #[.int .i64 A.x,.int .i64 A.y])∧Hid (Blk wx b10 24 #[.int .i64 C.x,.int .i64 C.y])∧Hid (Below W.heap.size W wx))
    case first=>
     have w0:IntKind.i64.wrap 0=0:=by decide
     have w1:IntKind.i64.wrap 1=1:=by decide
     have w2:IntKind.i64.wrap 2=2:=by decide
     have w3:IntKind.i64.wrap 3=3:=by decide
     have w4:IntKind.i64.wrap 4=4:=by decide
     go_region_held3 (fun w'=>w'.cell? ⟨b,0,none⟩=some (.slice (some ⟨gp,0,none⟩) M.pts.length cp)∧w'.cell? ⟨w.heap.size+1,2,none⟩=some (.int .i64 nx)∧w'.cell? ⟨w.heap.size+1,0,none⟩=some (.int .i64 ny)∧w'.cell? ⟨gp,nx*2,none⟩=some (.int .i64 A.x)∧w'.cell? ⟨gp,nx*2+1,none⟩=some (.int .i64 A.y)∧w'.cell? ⟨gp,ny*2,none⟩=some (.int .i64 C.x)∧w'.cell? ⟨gp,ny*2+1,none⟩=some (.int .i64 C.y)) (go_keep) (fail)
     ·go_wp2_with fail
      go_meet
      exact⟨_,_,rfl,rfl,Hd ((Blk.new W 24 _).alloc _).drew,Hd (Blk.new' _ 24 _ (by simp)).drew,Hd (bel_drew (bel_alloc (bel_alloc (bel_refl W) _) _))⟩
     ·go_wp2_with fail
      go_meet
      exact⟨_,_,rfl,rfl,Hd (Blk.new' _ 24 _ (by simp)).drew,Hd ((Blk.new W 24 _).alloc _).drew,Hd (bel_drew (bel_alloc (bel_alloc (bel_refl W) _) _))⟩
    case rest=>
     obtain⟨b9,b10,rfl,rfl,F9,F10,FB⟩:=hcut
     rename_i wx
     have hdec:decide (0<ori A C p)=decide (0<(ori A C p).sign):=by rw[Bool.eq_iff_iff];simp
     have hr2:=HRES.out;rw[hdec]at hr2;have HR2:=Hd hr2;clear hdec hr2 HRES c0 cx0 cx1 cy0 cy1 n0 n1 n2 y0 y1 y2;obtain⟨f90,f91,_,_⟩:=F9.out.two;obtain⟨f100,f101,_,_⟩:=F10.out.two;obtain⟨f50,f51,_,_⟩:=(P0.out.later FB.out).two;generalize (ori A C p).sign=s at hO HR2;by_cases hs:0<s
     ·go_wp2_with ((go_at_call 16;refine(hO.out _).mono ?_;rintro e w1 ⟨rfl,hb1⟩;have HB1:=Hd hb1;clear hb1))
      go_ret
      refine⟨congrArg (fun x=>Ending.returned (Value.bool x)) ?_,bel_step (bel_step HBW.out FB.out) HB1.out⟩;have:=HR2.out;rw[decide_eq_true hs]at this;exact this
     ·go_wp2_with (first
       | (go_at_call 16;refine(hO.out _).mono ?_;rintro e w1 ⟨rfl,hb1⟩;have g90:=cell_later f90 hb1;have g91:=cell_later f91 hb1;have g100:=cell_later f100 hb1;have g101:=cell_later f101 hb1;have g50:=cell_later f50 hb1;have g51:=cell_later f51 hb1;have HB1:=Hd hb1;clear hb1)
       | (go_at_call 43;refine(hBt.out _).mono ?_;rintro e w2 ⟨rfl,hb2⟩;have HB2:=Hd hb2;clear hb2))
      go_ret
      refine⟨congrArg (fun x=>Ending.returned (Value.bool x)) ?_,bel_step (bel_step (bel_step HBW.out FB.out) HB1.out) HB2.out⟩;have:=HR2.out;rw[decide_eq_false (show ¬0<s by omega),Bool.false_or]at this ⊢;exact this
   ·have hq:(T.v1 != -1)=true:=by simpa using hg
    have HQ:=Hd hg;clear hg;go_wp2;go_roundw
    case rel=>exact⟨2,by go_num,by omega,fun j hj=>by rcases Nat.lt_succ_iff_lt_or_eq.1 hj with h|h;exact HE.out j h;exact h▸HQ.out,trivial⟩
    case measure=>simp[intOf]
  ·by_cases hg:T.v2=-1
   ·have hx:T.v0≠-1:=HE.out 0 (by omega)
    have hy:T.v1≠-1:=HE.out 1 (by omega);have hxr:=HV.out 0 (by omega) hx;have hyr:=HV.out 1 (by omega) hy;obtain⟨nx,hnx⟩:∃n:Nat,T.v0=n:=⟨T.v0.toNat,by have:=hxr.1;simp only[Tri.v]at this;omega⟩;obtain⟨ny,hny⟩:∃n:Nat,T.v1=n:=⟨T.v1.toNat,by have:=hyr.1;simp only[Tri.v]at this;omega⟩
    have hres:conflict M T p=(decide (0<ori (pat M.pts nx) (pat M.pts ny) p)||Pr.betB p (pat M.pts nx) (pat M.pts ny)):=by
     unfold conflict;rw[if_neg (show ¬T.v0=-1 from HE.out 0 (by omega)),if_neg (show ¬T.v1=-1 from HE.out 1 (by omega)),if_pos hg];unfold ghostIn;rw[hnx,hny];rfl
    have HRES:=Hd (hres.symm.trans HR.out);have nxl:nx<M.pts.length:=by have:=hxr.2;simp only[Tri.v]at this;omega
    have nyl:ny<M.pts.length:=by have:=hyr.2;simp only[Tri.v]at this;omega
    have hMW:=(H.out).later HL.out.bel;have c0:=hMW.head.cell 0 (.slice (some ⟨gp,0,none⟩) M.pts.length cp) rfl;obtain⟨cx0,cx1⟩:=hMW.pts nx nxl;obtain⟨cy0,cy1⟩:=hMW.pts ny nyl;rw[hg]at y2;rw[hnx]at y0;rw[hny]at y1;have n0:=World.new_ne _ _ c0;have n1:=World.new_ne _ _ cx0;have n2:=World.new_ne _ _ y0;have xi:(0:Int)≤(nx:Int):=by omega
    have xi1:(nx:Int)<(M.pts.length:Int):=by omega
    have yi:(0:Int)≤(ny:Int):=by omega
    have yi1:(ny:Int)<(M.pts.length:Int):=by omega
    have hO:=Hd (fun w=>orient_any (pat M.pts nx) (pat M.pts ny) p w (HO.out.near nx) (HO.out.near ny) HP.out);have hBt:=Hd (fun w=>between_any p (pat M.pts nx) (pat M.pts ny) w HP.out (HO.out.near nx) (HO.out.near ny));have P0:=Hd HL.out.p;have HBW:=Hd HL.out.bel;generalize pat M.pts nx=A at *;generalize pat M.pts ny=C at *;clear hx hy hxr hyr hres hMW hnx hny nxl nyl hg
    go_wp2_with fail
    go_cut [9,10] (fun v9 v10 wx=>∃b9 b10:Nat,v9=.pointer (some ⟨b9,0,none⟩)∧v10=.pointer (some ⟨b10,0,none⟩)∧Hid (Blk wx b9 24 #[.int .i64 A.x,.int .i64 A.y])∧Hid (Blk wx b10 24 #[.int .i64 C.x,.int .i64 C.y])∧Hid (Below W.heap.size W wx))
    case first=>
     have w0:IntKind.i64.wrap 0=0:=by decide
     have w1:IntKind.i64.wrap 1=1:=by decide
     have w2:IntKind.i64.wrap 2=2:=by decide
     have w3:IntKind.i64.wrap 3=3:=by decide
     have w4:IntKind.i64.wrap 4=4:=by decide
     go_region_held3 (fun w'=>w'.cell? ⟨b,0,none⟩=some (.slice (some ⟨gp,0,none⟩) M.pts.length cp)∧w'.cell? ⟨w.heap.size+1,0,none⟩=some (.int .i64 nx)∧w'.cell? ⟨w.heap.size+1,1,none⟩=some (.int .i64 ny)∧w'.cell? ⟨gp,nx*2,none⟩=some (.int .i64 A.x)∧w'.cell? ⟨gp,nx*2+1,none⟩=some (.int .i64 A.y)∧w'.cell? ⟨gp,ny*2,none⟩=some (.int .i64 C.x)∧w'.cell? ⟨gp,ny*2+1,none⟩=some (.int .i64 C.y)) (go_keep) (fail)
     ·go_wp2_with fail
      go_meet
      exact⟨_,_,rfl,rfl,Hd ((Blk.new W 24 _).alloc _).drew,Hd (Blk.new' _ 24 _ (by simp)).drew,Hd (bel_drew (bel_alloc (bel_alloc (bel_refl W) _) _))⟩
     ·go_wp2_with fail
      go_meet
      exact⟨_,_,rfl,rfl,Hd (Blk.new' _ 24 _ (by simp)).drew,Hd ((Blk.new W 24 _).alloc _).drew,Hd (bel_drew (bel_alloc (bel_alloc (bel_refl W) _) _))⟩
    case rest=>
     obtain⟨b9,b10,rfl,rfl,F9,F10,FB⟩:=hcut
     rename_i wx
     have hdec:decide (0<ori A C p)=decide (0<(ori A C p).sign):=by rw[Bool.eq_iff_iff];simp
     have hr2:=HRES.out;rw[hdec]at hr2;have HR2:=Hd hr2;clear hdec hr2 HRES c0 cx0 cx1 cy0 cy1 n0 n1 n2 y0 y1 y2;obtain⟨f90,f91,_,_⟩:=F9.out.two;obtain⟨f100,f101,_,_⟩:=F10.out.two;obtain⟨f50,f51,_,_⟩:=(P0.out.later FB.out).two;generalize (ori A C p).sign=s at hO HR2;by_cases hs:0<s
     ·go_wp2_with ((go_at_call 16;refine(hO.out _).mono ?_;rintro e w1 ⟨rfl,hb1⟩;have HB1:=Hd hb1;clear hb1))
      go_ret
      refine⟨congrArg (fun x=>Ending.returned (Value.bool x)) ?_,bel_step (bel_step HBW.out FB.out) HB1.out⟩;have:=HR2.out;rw[decide_eq_true hs]at this;exact this
     ·go_wp2_with (first
       | (go_at_call 16;refine(hO.out _).mono ?_;rintro e w1 ⟨rfl,hb1⟩;have g90:=cell_later f90 hb1;have g91:=cell_later f91 hb1;have g100:=cell_later f100 hb1;have g101:=cell_later f101 hb1;have g50:=cell_later f50 hb1;have g51:=cell_later f51 hb1;have HB1:=Hd hb1;clear hb1)
       | (go_at_call 43;refine(hBt.out _).mono ?_;rintro e w2 ⟨rfl,hb2⟩;have HB2:=Hd hb2;clear hb2))
      go_ret
      refine⟨congrArg (fun x=>Ending.returned (Value.bool x)) ?_,bel_step (bel_step (bel_step HBW.out FB.out) HB1.out) HB2.out⟩;have:=HR2.out;rw[decide_eq_false (show ¬0<s by omega),Bool.false_or]at this ⊢;exact this
   ·have hq:(T.v2 != -1)=true:=by simpa using hg
    have HQ:=Hd hg;clear hg;go_wp2;go_roundw
    case rel=>exact⟨3,by go_num,by omega,fun j hj=>by rcases Nat.lt_succ_iff_lt_or_eq.1 hj with h|h;exact HE.out j h;exact h▸HQ.out,trivial⟩
    case measure=>simp[intOf]
  ·have hx:=HE.out 0 (by omega)
   have hy:=HE.out 1 (by omega);have hz:=HE.out 2 (by omega);have hxr:=HV.out 0 (by omega) hx;have hyr:=HV.out 1 (by omega) hy;have hzr:=HV.out 2 (by omega) hz;simp only[Tri.v]at hx hy hz hxr hyr hzr;obtain⟨nx,hnx⟩:∃n:Nat,T.v0=n:=⟨T.v0.toNat,by omega⟩;obtain⟨ny,hny⟩:∃n:Nat,T.v1=n:=⟨T.v1.toNat,by omega⟩;obtain⟨nz,hnz⟩:∃n:Nat,T.v2=n:=⟨T.v2.toNat,by omega⟩
   have hres:conflict M T p=decide (0<inc (pat M.pts nx) (pat M.pts ny) (pat M.pts nz) p):=by
    unfold conflict;rw[if_neg hx,if_neg hy,if_neg hz,hnx,hny,hnz];rfl
   have hC:CircOk (pat M.pts nx) (pat M.pts ny) (pat M.pts nz) p:=by
    have:=HC.out;rw[hnx,hny,hnz]at this;exact this
   have hdec:decide (0<inc (pat M.pts nx) (pat M.pts ny) (pat M.pts nz) p)=decide (0<(inc (pat M.pts nx) (pat M.pts ny) (pat M.pts nz) p).sign):=by rw[Bool.eq_iff_iff];simp
   have HRES:=Hd (hdec.symm.trans (hres.symm.trans HR.out));have nxl:nx<M.pts.length:=by omega
   have nyl:ny<M.pts.length:=by omega
   have nzl:nz<M.pts.length:=by omega
   unfold CircOk at hC;have hMW:=(H.out).later HL.out.bel;have lx:=Gq.Later.cell (hMW.head.cell 0 (.slice (some ⟨gp,0,none⟩) M.pts.length cp) rfl);have px0:=Gq.Later.cell (hMW.pts nx nxl).1;have px1:=Gq.Later.cell (hMW.pts nx nxl).2;have py0:=Gq.Later.cell (hMW.pts ny nyl).1;have py1:=Gq.Later.cell (hMW.pts ny nyl).2;have pz0:=Gq.Later.cell (hMW.pts nz nzl).1;have pz1:=Gq.Later.cell (hMW.pts nz nzl).2;have q0:=HL.out.p.cells 0 (.int .i64 p.x) rfl;have q1:=HL.out.p.cells 1 (.int .i64 p.y) rfl;have r0:∀u:Gq.Later W,u.w.cell? ⟨w.heap.size+1,0,none⟩=some (.int .i64 nx):=hnx▸HL.out.v.cells 0 (.int .i64 T.v0) rfl;have r1:∀u:Gq.Later W,u.w.cell? ⟨w.heap.size+1,1,none⟩=some (.int .i64 ny):=hny▸HL.out.v.cells 1 (.int .i64 T.v1) rfl;have r2:∀u:Gq.Later W,u.w.cell? ⟨w.heap.size+1,2,none⟩=some (.int .i64 nz):=hnz▸HL.out.v.cells 2 (.int .i64 T.v2) rfl;have xi:(0:Int)≤(nx:Int):=by omega
   have xi1:(nx:Int)<(M.pts.length:Int):=by omega
   have yi:(0:Int)≤(ny:Int):=by omega
   have yi1:(ny:Int)<(M.pts.length:Int):=by omega
   have zi:(0:Int)≤(nz:Int):=by omega
   have zi1:(nz:Int)<(M.pts.length:Int):=by omega
   have HBW:=Hd HL.out.bel;generalize (inc (pat M.pts nx) (pat M.pts ny) (pat M.pts nz) p).sign=s at hC HRES;have HC2:=Hd hC;generalize pat M.pts nx=A at *;generalize pat M.pts ny=C at *;generalize pat M.pts nz=D at *;clear hx hy hz hxr hyr hzr hres hMW hnx hny hnz nxl nyl nzl hdec hC y0 y1 y2 HC HE
   go_upto_region 9 with(fail)
   by_cases hs:0<s
   ·refine Go.Gq.region (by kernel_rfl) (by kernel_rfl) ?_
    repeat (go_big_quiet_step ((go_at_call 44;exact Gq.call (HC2.out _))))
    refine wpQuiet_nil ?_;intro wx hw';have HX:=Hd (Go.Gq.later_bel hw');clear hw' lx px0 px1 py0 py1 pz0 pz1 q0 q1 r0 r1 r2;go_wp2
    go_ret
    refine⟨congrArg (fun x=>Ending.returned (Value.bool x)) ?_,bel_step HBW.out HX.out⟩;have:=HRES.out;rw[decide_eq_true hs]at this;exact this
   ·refine Go.Gq.region (by kernel_rfl) (by kernel_rfl) ?_
    repeat (go_big_quiet_step ((go_at_call 44;exact Gq.call (HC2.out _))))
    refine wpQuiet_nil ?_;intro wx hw';have HX:=Hd (Go.Gq.later_bel hw');clear hw' lx px0 px1 py0 py1 pz0 pz1 q0 q1 r0 r1 r2;go_wp2
    go_ret
    refine⟨congrArg (fun x=>Ending.returned (Value.bool x)) ?_,bel_step HBW.out HX.out⟩;have:=HRES.out;rw[decide_eq_false (show ¬0<s by omega)]at this;exact this
end Cf
end Go.Proofs.YtdihefgleefhmaaGreat
