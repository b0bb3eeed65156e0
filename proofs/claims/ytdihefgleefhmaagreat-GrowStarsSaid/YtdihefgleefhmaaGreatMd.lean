import Derived.Test.YtdihefgleefhmaaGreatMs
namespace Go.Proofs.YtdihefgleefhmaaGreat
open Go.RowKit
def cntV(T:Tri)(x:Int):Nat→Nat
 | 0=>0
 | k+1=>cntV T x k+if T.v k=x then 1 else 0
def madeB(M:Mesh)(T:Tri):Bool:=
 if 0<cntV T (-2) 3 then ((cntV T (-2) 3:Nat):Int)==3
 else if 0<cntV T (-1) 3 then ((cntV T (-1) 3:Nat):Int)==1
 else decide (0<(ori (pat M.pts T.v0.toNat) (pat M.pts T.v1.toNat) (pat M.pts T.v2.toNat)).sign)
namespace Md
open Wd Pr
theorem cnt_le(T:Tri)(x:Int):∀k,cntV T x k≤k
 | 0=>Nat.le_refl _
 | k+1=>by have:=cnt_le T x k;unfold cntV;split<;>omega
theorem cnt_zero(T:Tri)(x:Int):∀k,cntV T x k=0→∀j,j<k→T.v j≠x
 | 0,_,j,hj=>absurd hj (by omega)
 | k+1,h,j,hj=>by
  unfold cntV at h;have h1:cntV T x k=0:=by omega
  rcases Nat.lt_succ_iff_lt_or_eq.1 hj with h2|h2
  ·exact cnt_zero T x k h1 j h2
  ·subst h2
   intro e;rw[if_pos e]at h;omega
set_option maxHeartbeats 2000000 in
set_option maxRecDepth 100000 in
theorem made_any(M:Mesh)(b:Nat)(T:Tri)(w:World)(h:MeshR w b M)(ho:M.ok)(hv:∀j,j<3→T.v j=-1∨T.v j=-2∨(0≤T.v j∧T.v j<M.pts.length)) :
  Calls Tryz.prog 59 #[.pointer (some ⟨b,0,none⟩),tv T] w fun e w'=>e=.returned (.bool (madeB M T))∧Below w.heap.size w w':=by
 obtain⟨gp,cp,gt,ct,ga,ca,fV,h⟩:=h;have hB:=Blk.new w 43 #[.int .i64 T.v0,.int .i64 T.v1,.int .i64 T.v2,.int .i64 T.n0,.int .i64 T.n1,.int .i64 T.n2,.bool T.f0,.bool T.f1,.bool T.f2];have hb:=bel_alloc (bel_refl w) (.cells #[.int .i64 T.v0,.int .i64 T.v1,.int .i64 T.v2,.int .i64 T.n0,.int .i64 T.n1,.int .i64 T.n2,.bool T.f0,.bool T.f1,.bool T.f2] 43);have hM:=h.later hb;obtain⟨r,hr⟩:∃r,madeB M T=r:=⟨_,rfl⟩;rw[hr];have HR:=Hd hr;have HO:=Hd ho;have HV:=Hd hv;clear hr h ho hv
 go_enter Tryz.func59,Tryz.ntmps59
 go_upto_region 2 with(fail)
 generalize (w.alloc (.cells #[.int .i64 T.v0,.int .i64 T.v1,.int .i64 T.v2,.int .i64 T.n0,.int .i64 T.n1,.int .i64 T.n2,.bool T.f0,.bool T.f1,.bool T.f2] 43))=W at *;have HBb0:=Hd hb;obtain⟨tb,htb⟩:∃tb,w.heap.size=tb:=⟨_,rfl⟩;rw[htb]at hB ⊢;clear htb;obtain⟨x0,x1,x2⟩:W.cell? ⟨tb,0,none⟩=some (.int .i64 T.v0)∧W.cell? ⟨tb,1,none⟩=some (.int .i64 T.v1)∧W.cell? ⟨tb,2,none⟩=some (.int .i64 T.v2):=⟨hB.cell 0 _ rfl,hB.cell 1 _ rfl,hB.cell 2 _ rfl⟩;have HB:=Hd hB;have HM:=Hd hM;have HBb:=HBb0;clear hB hM hb HBb0;go_wp2
 go_loopw [5,6,11] (fun g d q wr=>∃k:Nat,q=.int .i64 k∧g=.int .i64 (cntV T (-1) k:Nat)∧d=.int .i64 (cntV T (-2) k:Nat)∧k≤3∧Hid (W=wr)) (fun _ _ q _=>3-(intOf q).toNat)
 case atStart=>exact⟨0,rfl,rfl,rfl,by omega,rfl⟩
 case round=>
  obtain⟨k,rfl,rfl,rfl,hk,HU⟩:=hrel;have hUe:=HU.out;subst hUe;clear HU;rcases(show k=0∨k=1∨k=2∨k=3 by omega)with rfl|rfl|rfl|rfl
  ·have hl1:=cnt_le T (-1) 0
   have hl2:=cnt_le T (-2) 0;have ix:∀w,(Instr.index 40 (.agg #[.int .i64 T.v0,.int .i64 T.v1,.int .i64 T.v2]) (.int .i64 0)).run Tryz.prog w=.ok (.int .i64 T.v0) w:=fun _=>by kernel_rfl
   have e1:cntV T (-1) 1=cntV T (-1) 0+if T.v0=-1 then 1 else 0:=rfl
   have e2:cntV T (-2) 1=cntV T (-2) 0+if T.v0=-2 then 1 else 0:=rfl
   have E1:=Hd e1;have E2:=Hd e2;clear e1 e2;generalize cntV T (-1) 0=g1 at *;generalize cntV T (-2) 0=g2 at *;by_cases h1:T.v0=-1
   ·have q1:(T.v0==-1)=true:=by simpa using h1
    have f1:cntV T (-1) 1=g1+1:=by rw[E1.out,if_pos h1]
    have f2:cntV T (-2) 1=g2:=by rw[E2.out,if_neg (by omega)];rfl
    have F1:=Hd f1;have F2:=Hd f2;clear h1 f1 f2;go_wp2;go_roundw
    case rel=>exact⟨1,by go_num,by rw[F1.out];go_num,by rw[F2.out],by omega,trivial⟩
    case measure=>simp[intOf]
   ·have q1:(T.v0==-1)=false:=by simpa using h1
    by_cases h2:T.v0=-2
    ·have q2:(T.v0==-2)=true:=by simpa using h2
     have f1:cntV T (-1) 1=g1:=by rw[E1.out,if_neg h1];rfl
     have f2:cntV T (-2) 1=g2+1:=by rw[E2.out,if_pos h2]
     have F1:=Hd f1;have F2:=Hd f2;clear h1 h2 f1 f2;go_wp2;go_roundw
     case rel=>exact⟨1,by go_num,by rw[F1.out],by rw[F2.out];go_num,by omega,trivial⟩
     case measure=>simp[intOf]
    ·have q2:(T.v0==-2)=false:=by simpa using h2
     have f1:cntV T (-1) 1=g1:=by rw[E1.out,if_neg h1];rfl
     have f2:cntV T (-2) 1=g2:=by rw[E2.out,if_neg h2];rfl
     have F1:=Hd f1;have F2:=Hd f2;clear h1 h2 f1 f2;go_wp2;go_roundw
     case rel=>exact⟨1,by go_num,by rw[F1.out],by rw[F2.out],by omega,trivial⟩
     case measure=>simp[intOf]
  ·have hl1:=cnt_le T (-1) 1
   have hl2:=cnt_le T (-2) 1;have ix:∀w,(Instr.index 40 (.agg #[.int .i64 T.v0,.int .i64 T.v1,.int .i64 T.v2]) (.int .i64 1)).run Tryz.prog w=.ok (.int .i64 T.v1) w:=fun _=>by kernel_rfl
   have e1:cntV T (-1) 2=cntV T (-1) 1+if T.v1=-1 then 1 else 0:=rfl
   have e2:cntV T (-2) 2=cntV T (-2) 1+if T.v1=-2 then 1 else 0:=rfl
   have E1:=Hd e1;have E2:=Hd e2;clear e1 e2;generalize cntV T (-1) 1=g1 at *;generalize cntV T (-2) 1=g2 at *;by_cases h1:T.v1=-1
   ·have q1:(T.v1==-1)=true:=by simpa using h1
    have f1:cntV T (-1) 2=g1+1:=by rw[E1.out,if_pos h1]
    have f2:cntV T (-2) 2=g2:=by rw[E2.out,if_neg (by omega)];rfl
    have F1:=Hd f1;have F2:=Hd f2;clear h1 f1 f2;go_wp2;go_roundw
    case rel=>exact⟨2,by go_num,by rw[F1.out];go_num,by rw[F2.out],by omega,trivial⟩
    case measure=>simp[intOf]
   ·have q1:(T.v1==-1)=false:=by simpa using h1
    by_cases h2:T.v1=-2
    ·have q2:(T.v1==-2)=true:=by simpa using h2
     have f1:cntV T (-1) 2=g1:=by rw[E1.out,if_neg h1];rfl
     have f2:cntV T (-2) 2=g2+1:=by rw[E2.out,if_pos h2]
     have F1:=Hd f1;have F2:=Hd f2;clear h1 h2 f1 f2;go_wp2;go_roundw
     case rel=>exact⟨2,by go_num,by rw[F1.out],by rw[F2.out];go_num,by omega,trivial⟩
     case measure=>simp[intOf]
    ·have q2:(T.v1==-2)=false:=by simpa using h2
     have f1:cntV T (-1) 2=g1:=by rw[E1.out,if_neg h1];rfl
     have f2:cntV T (-2) 2=g2:=by rw[E2.out,if_neg h2];rfl
     have F1:=Hd f1;have F2:=Hd f2;clear h1 h2 f1 f2;go_wp2;go_roundw
     case rel=>exact⟨2,by go_num,by rw[F1.out],by rw[F2.out],by omega,trivial⟩
     case measure=>simp[intOf]
  ·have hl1:=cnt_le T (-1) 2
   have hl2:=cnt_le T (-2) 2;have ix:∀w,(Instr.index 40 (.agg #[.int .i64 T.v0,.int .i64 T.v1,.int .i64 T.v2]) (.int .i64 2)).run Tryz.prog w=.ok (.int .i64 T.v2) w:=fun _=>by kernel_rfl
   have e1:cntV T (-1) 3=cntV T (-1) 2+if T.v2=-1 then 1 else 0:=rfl
   have e2:cntV T (-2) 3=cntV T (-2) 2+if T.v2=-2 then 1 else 0:=rfl
   have E1:=Hd e1;have E2:=Hd e2;clear e1 e2;generalize cntV T (-1) 2=g1 at *;generalize cntV T (-2) 2=g2 at *;by_cases h1:T.v2=-1
   ·have q1:(T.v2==-1)=true:=by simpa using h1
    have f1:cntV T (-1) 3=g1+1:=by rw[E1.out,if_pos h1]
    have f2:cntV T (-2) 3=g2:=by rw[E2.out,if_neg (by omega)];rfl
    have F1:=Hd f1;have F2:=Hd f2;clear h1 f1 f2;go_wp2;go_roundw
    case rel=>exact⟨3,by go_num,by rw[F1.out];go_num,by rw[F2.out],by omega,trivial⟩
    case measure=>simp[intOf]
   ·have q1:(T.v2==-1)=false:=by simpa using h1
    by_cases h2:T.v2=-2
    ·have q2:(T.v2==-2)=true:=by simpa using h2
     have f1:cntV T (-1) 3=g1:=by rw[E1.out,if_neg h1];rfl
     have f2:cntV T (-2) 3=g2+1:=by rw[E2.out,if_pos h2]
     have F1:=Hd f1;have F2:=Hd f2;clear h1 h2 f1 f2;go_wp2;go_roundw
     case rel=>exact⟨3,by go_num,by rw[F1.out],by rw[F2.out];go_num,by omega,trivial⟩
     case measure=>simp[intOf]
    ·have q2:(T.v2==-2)=false:=by simpa using h2
     have f1:cntV T (-1) 3=g1:=by rw[E1.out,if_neg h1];rfl
     have f2:cntV T (-2) 3=g2:=by rw[E2.out,if_neg h2];rfl
     have F1:=Hd f1;have F2:=Hd f2;clear h1 h2 f1 f2;go_wp2;go_roundw
     case rel=>exact⟨3,by go_num,by rw[F1.out],by rw[F2.out],by omega,trivial⟩
     case measure=>simp[intOf]
  ·obtain⟨g3,hg3⟩:∃g,cntV T (-1) 3=g:=⟨_,rfl⟩
   obtain⟨d3,hd3⟩:∃g,cntV T (-2) 3=g:=⟨_,rfl⟩;have G3:=Hd hg3;have D3:=Hd hd3;rw[hg3,hd3];clear hg3 hd3;by_cases h1:0<d3
   ·have hres:((d3:Int)==3)=r:=by
     rw[←HR.out];unfold madeB;rw[D3.out,if_pos h1]
    have HRES:=Hd hres;have i1:(0:Int)<(d3:Int):=by omega
    clear hres h1;go_wp2
    go_ret
    exact⟨congrArg (fun x=>Ending.returned (Value.bool x)) HRES.out,HBb.out⟩
   ·have hd0:d3=0:=by omega
    subst hd0;clear h1;by_cases h2:0<g3
    ·have hres:((g3:Int)==1)=r:=by
      rw[←HR.out];unfold madeB;rw[D3.out,if_neg (by omega),G3.out,if_pos h2]
     have HRES:=Hd hres;have i1:(0:Int)<(g3:Int):=by omega
     clear hres h2;go_wp2
     go_ret
     exact⟨congrArg (fun x=>Ending.returned (Value.bool x)) HRES.out,HBb.out⟩
    ·have hg0:g3=0:=by omega
     subst hg0;clear h2
     have hreal:∀j,j<3→0≤T.v j∧T.v j<M.pts.length:=fun j hj=>by
      have a1:=cnt_zero T (-1) 3 G3.out j hj;have a2:=cnt_zero T (-2) 3 D3.out j hj;rcases HV.out j hj with h|h|h
      ·exact absurd h a1
      ·exact absurd h a2
      ·exact h
     have r0:=hreal 0 (by omega);have r1:=hreal 1 (by omega);have r2:=hreal 2 (by omega);simp only[Tri.v]at r0 r1 r2;obtain⟨nx,hnx⟩:∃n:Nat,T.v0=n:=⟨T.v0.toNat,by omega⟩;obtain⟨ny,hny⟩:∃n:Nat,T.v1=n:=⟨T.v1.toNat,by omega⟩;obtain⟨nz,hnz⟩:∃n:Nat,T.v2=n:=⟨T.v2.toNat,by omega⟩;have nxl:nx<M.pts.length:=by omega
     have nyl:ny<M.pts.length:=by omega
     have nzl:nz<M.pts.length:=by omega
     have hO:=fun u=>orient_any (pat M.pts nx) (pat M.pts ny) (pat M.pts nz) u (HO.out.near nx) (HO.out.near ny) (HO.out.near nz)
     have hres:decide (0<(ori (pat M.pts nx) (pat M.pts ny) (pat M.pts nz)).sign)=r:=by
      rw[←HR.out];unfold madeB;rw[D3.out,if_neg (by omega),G3.out,if_neg (by omega),hnx,hny,hnz];rfl
     have lx:=Gq.Later.cell (HM.out.head.cell 0 (.slice (some ⟨gp,0,none⟩) M.pts.length cp) rfl);have px0:=Gq.Later.cell (HM.out.pts nx nxl).1;have px1:=Gq.Later.cell (HM.out.pts nx nxl).2;have py0:=Gq.Later.cell (HM.out.pts ny nyl).1;have py1:=Gq.Later.cell (HM.out.pts ny nyl).2;have pz0:=Gq.Later.cell (HM.out.pts nz nzl).1;have pz1:=Gq.Later.cell (HM.out.pts nz nzl).2;have y0:∀u:Gq.Later W,u.w.cell? ⟨tb,0,none⟩=some (.int .i64 nx):=hnx▸HB.out.cells 0 (.int .i64 T.v0) rfl;have y1:∀u:Gq.Later W,u.w.cell? ⟨tb,1,none⟩=some (.int .i64 ny):=hny▸HB.out.cells 1 (.int .i64 T.v1) rfl;have y2:∀u:Gq.Later W,u.w.cell? ⟨tb,2,none⟩=some (.int .i64 nz):=hnz▸HB.out.cells 2 (.int .i64 T.v2) rfl;have xi:(0:Int)≤(nx:Int):=by omega
     have xi1:(nx:Int)<(M.pts.length:Int):=by omega
     have yi:(0:Int)≤(ny:Int):=by omega
     have yi1:(ny:Int)<(M.pts.length:Int):=by omega
     have zi:(0:Int)≤(nz:Int):=by omega
     have zi1:(nz:Int)<(M.pts.length:Int):=by omega
     generalize (ori (pat M.pts nx) (pat M.pts ny) (pat M.pts nz)).sign=sg at *;have HOC:=Hd hO;have HRES:=Hd hres;generalize pat M.pts nx=A at *;generalize pat M.pts ny=C at *;generalize pat M.pts nz=D at *;clear hreal r0 r1 r2 hnx hny hnz hO hres x0 x1 x2
     go_upto_region 15 with(fail)
     by_cases hs:0<sg
     ·refine Go.Gq.region (by kernel_rfl) (by kernel_rfl) ?_
      repeat (go_big_quiet_step ((go_at_call 16;exact Gq.call (HOC.out _))))
      refine wpQuiet_nil ?_;intro wx hw';have HX:=Hd (Go.Gq.later_bel hw');clear hw' lx px0 px1 py0 py1 pz0 pz1 y0 y1 y2;go_wp2
      go_ret
      refine⟨congrArg (fun x=>Ending.returned (Value.bool x)) ?_,bel_step HBb.out HX.out⟩;rw[←HRES.out,decide_eq_true hs]
     ·refine Go.Gq.region (by kernel_rfl) (by kernel_rfl) ?_
      repeat (go_big_quiet_step ((go_at_call 16;exact Gq.call (HOC.out _))))
      refine wpQuiet_nil ?_;intro wx hw';have HX:=Hd (Go.Gq.later_bel hw');clear hw' lx px0 px1 py0 py1 pz0 pz1 y0 y1 y2;go_wp2
      go_ret
      refine⟨congrArg (fun x=>Ending.returned (Value.bool x)) ?_,bel_step HBb.out HX.out⟩;rw[←HRES.out,decide_eq_false (show ¬0<sg by omega)]
end Md
end Go.Proofs.YtdihefgleefhmaaGreat
