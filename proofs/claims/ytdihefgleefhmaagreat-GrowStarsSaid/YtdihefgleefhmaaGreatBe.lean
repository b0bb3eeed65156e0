import Derived.Test.YtdihefgleefhmaaGreatMs
import Derived.Test.YtdihefgleefhmaaGreatIt
namespace Go.Proofs.YtdihefgleefhmaaGreat
open Go.RowKit
def foundN(o:Tri)(a b n:Int)(f:Bool):Nat→Bool
 | 0=>false
 | j+1=>if (o.v ((j+1)%3)==b&&o.v ((j+2)%3)==a)=true then (o.n j==n&&o.f j==f) else foundN o a b n f j
def besideOk(M:Mesh)(n:Nat):Prop:=∀i,i<3→∃u:Nat,(tat M.tris n).n i=u∧u<M.tris.length∧((tat M.tris n).f i=true→0≤(tat M.tris n).v ((i+1)%3)∧0≤(tat M.tris n).v ((i+2)%3))∧
 foundN (tat M.tris u) ((tat M.tris n).v ((i+1)%3)) ((tat M.tris n).v ((i+2)%3)) n ((tat M.tris n).f i) 3=true
namespace Be
set_option maxHeartbeats 4000000 in
set_option maxRecDepth 100000 in
theorem beside_any(M:Mesh)(b n:Nat)(w:World)(h:MeshR w b M)(hn:n<M.tris.length)(hk:besideOk M n) :
  Calls Tryz.prog 60 #[.pointer (some ⟨b,0,none⟩),.int .i64 n] w fun e w'=>e=.returned (.bool true)∧Below w.heap.size w w':=by
 obtain⟨gp,cp,gt,ct,ga,ca,fV,h⟩:=h;have hh:=h.head.cell 1 (.slice (some ⟨gt,0,none⟩) M.tris.length ct) rfl;obtain⟨t0,t1,t2,t3,t4,t5,t6,t7,t8⟩:=h.tris n hn;have n0:(0:Int)≤(n:Int):=by omega
 have n1:(n:Int)<(M.tris.length:Int):=by omega
 have HK:=Hd hk;have H:=Hd h;generalize hT:tat M.tris n=T at *;have HT:=Hd hT;clear hk h hT
 go_enter Tryz.func60,Tryz.ntmps60
 go_upto_region 2 with(fail)
 have hB:=Blk.new w 43 #[.int .i64 T.v0,.int .i64 T.v1,.int .i64 T.v2,.int .i64 T.n0,.int .i64 T.n1,.int .i64 T.n2,.bool T.f0,.bool T.f1,.bool T.f2];have hb:=bel_alloc (bel_refl w) (.cells #[.int .i64 T.v0,.int .i64 T.v1,.int .i64 T.v2,.int .i64 T.n0,.int .i64 T.n1,.int .i64 T.n2,.bool T.f0,.bool T.f1,.bool T.f2] 43);have HBb:=Hd hb;obtain⟨tb,htb⟩:∃tb,w.heap.size=tb:=⟨_,rfl⟩;rw[htb]at hB ⊢;clear htb t0 t1 t2 t3 t4 t5 t6 t7 t8 hh hb;generalize (w.alloc (.cells #[.int .i64 T.v0,.int .i64 T.v1,.int .i64 T.v2,.int .i64 T.n0,.int .i64 T.n1,.int .i64 T.n2,.bool T.f0,.bool T.f1,.bool T.f2] 43))=W at *;obtain⟨x0,x1,x2⟩:W.cell? ⟨tb,3,none⟩=some (.int .i64 T.n0)∧W.cell? ⟨tb,4,none⟩=some (.int .i64 T.n1)∧W.cell? ⟨tb,5,none⟩=some (.int .i64 T.n2):=⟨hB.cell 3 _ rfl,hB.cell 4 _ rfl,hB.cell 5 _ rfl⟩;have HB:=Hd hB;clear hB;go_wp2
 go_loopw [22] (fun q wr=>∃i:Nat,q=.int .i64 i∧i≤3∧Hid (Blk wr tb 43 #[.int .i64 T.v0,.int .i64 T.v1,.int .i64 T.v2,.int .i64 T.n0,.int .i64 T.n1,.int .i64 T.n2,.bool T.f0,.bool T.f1,.bool T.f2])∧Hid (Below w.heap.size w wr)) (fun q _=>3-(intOf q).toNat)
 case atStart=>exact⟨0,rfl,by omega,HB,HBb⟩
 case round=>
  obtain⟨i,rfl,hi,HBx,HBw⟩:=hrel;rcases(show i=0∨i=1∨i=2∨i=3 by omega)with rfl|rfl|rfl|rfl
  ·obtain⟨u,hu,hul,huf,hfo⟩:=HK.out 0 (by omega)
   rw[HT.out]at hu huf hfo;simp only[Tri.n,Tri.v,Tri.f,Nat.reduceAdd,Nat.reduceMod]at hu huf hfo;have ix:∀w,(Instr.index 40 (.agg #[.int .i64 T.n0,.int .i64 T.n1,.int .i64 T.n2]) (.int .i64 0)).run Tryz.prog w=.ok (.int .i64 (u:Int)) w:=fun _=>by rw[←hu];kernel_rfl
   have y1:=HBx.out.cells 1 (.int .i64 T.v1) rfl;have y2:=HBx.out.cells 2 (.int .i64 T.v2) rfl;have y3:=HBx.out.cells 6 (.bool T.f0) rfl;have u0:¬(u:Int)<0:=by omega
   have u00:(0:Int)≤(u:Int):=by omega
   have u1:(u:Int)<(M.tris.length:Int):=by omega
   have u2:¬(M.tris.length:Int)≤(u:Int):=by omega
   have HUF:=Hd huf;have HFO:=Hd hfo;have hM:=H.out.later HBw.out;have lx:=Gq.Later.cell (hM.head.cell 1 (.slice (some ⟨gt,0,none⟩) M.tris.length ct) rfl);have HM:=Hd hM;have HUL:=Hd hul;clear hu huf hfo hM hul
   go_upto_region 5 with(fail)
   refine Go.Gq.region (by kernel_rfl) (by kernel_rfl) ?_
   repeat (go_big_quiet_step (fail))
   refine wpQuiet_nil ?_;intro wx hw';have hbx:=Go.Gq.later_bel hw';have hBx2:=HBx.out.later hbx;have hMx:=HM.out.later hbx;have hbw2:=bel_step HBw.out hbx;have hf:=hBx2.cell 6 (.bool T.f0) rfl;have hh:=hMx.head.cell 1 (.slice (some ⟨gt,0,none⟩) M.tris.length ct) rfl;obtain⟨e0,e1,e2,e3,e4,e5,e6,e7,e8⟩:=hMx.tris u HUL.out;obtain⟨O,hO⟩:∃O,tat M.tris u=O:=⟨_,rfl⟩;rw[hO]at e0 e1 e2 e3 e4 e5 e6 e7 e8;have hfo2:=HFO.out;rw[hO]at hfo2;have HFO2:=Hd hfo2;clear hw' y1 y2 y3 lx hO hfo2;have HBw2:=Hd hbw2;have HBx2:=Hd hBx2;clear hbw2 hBx2 hMx hbx;obtain⟨f,hfe⟩:∃f,T.f0=f:=⟨_,rfl⟩;have HFE:=Hd hfe;rw[hfe]at hf;have huf2:=HUF.out;rw[hfe]at huf2;clear hfe;have huf3:f=true→¬T.v1<0∧¬T.v2<0:=fun h=>by have:=huf2 h;omega
   have HUF3:=Hd huf3;clear huf2 huf3;have hf1:=HUF3.out;cases f
   all_goals
    try (have hf2:=hf1 rfl;obtain⟨hfa,hfb⟩:=hf2)
    clear hf1
    go_upto_region 9 with(fail)
    have hbz:=bel_alloc (bel_refl wx) (.cells #[.int .i64 O.v0,.int .i64 O.v1,.int .i64 O.v2,.int .i64 O.n0,.int .i64 O.n1,.int .i64 O.n2,.bool O.f0,.bool O.f1,.bool O.f2] 43);have hob:=Blk.new wx 43 #[.int .i64 O.v0,.int .i64 O.v1,.int .i64 O.v2,.int .i64 O.n0,.int .i64 O.n1,.int .i64 O.n2,.bool O.f0,.bool O.f1,.bool O.f2];have htz:=HBx2.out.later hbz;have hwz:=bel_step HBw2.out hbz;obtain⟨ob,hoq⟩:∃ob,wx.heap.size=ob:=⟨_,rfl⟩;rw[hoq]at hob ⊢;clear hoq hbz hf hh e0 e1 e2 e3 e4 e5 e6 e7 e8;generalize wx.alloc (.cells #[.int .i64 O.v0,.int .i64 O.v1,.int .i64 O.v2,.int .i64 O.n0,.int .i64 O.n1,.int .i64 O.n2,.bool O.f0,.bool O.f1,.bool O.f2] 43)=wz at *;have HOB:=Hd hob;have HTZ:=Hd htz;have HWZ:=Hd hwz;clear hob htz hwz;go_wp2
    go_loopw [11,70] (fun z q wq=>∃j:Nat,q=.int .i64 j∧z=.bool (foundN O T.v1 T.v2 n T.f0 j)∧j≤3∧Hid (Blk wq ob 43 #[.int .i64 O.v0,.int .i64 O.v1,.int .i64 O.v2,.int .i64 O.n0,.int .i64 O.n1,.int .i64 O.n2,.bool O.f0,.bool O.f1,.bool O.f2])∧Hid (Blk wq tb 43 #[.int .i64 T.v0,.int .i64 T.v1,.int .i64 T.v2,.int .i64 T.n0,.int .i64 T.n1,.int .i64 T.n2,.bool T.f0,.bool T.f1,.bool T.f2])∧Hid (Below w.heap.size w wq)) (fun _ q _=>3-(intOf q).toNat)
    case atStart=>exact⟨0,rfl,rfl,by omega,HOB,HTZ,HWZ⟩
    case round=>
     obtain⟨j,rfl,rfl,hj,HO,HTq,HWq⟩:=hrel;rcases(show j=0∨j=1∨j=2∨j=3 by omega)with rfl|rfl|rfl|rfl
     ·have hst:foundN O T.v1 T.v2 n T.f0 1=if (O.v1==T.v2&&O.v2==T.v1)=true then (O.n0==(n:Int)&&O.f0==T.f0) else foundN O T.v1 T.v2 n T.f0 0:=rfl
      rw[HFE.out]at hst;have c1:=HO.out.cell 1 (.int .i64 O.v1) rfl;have c2:=HO.out.cell 2 (.int .i64 O.v2) rfl;obtain⟨q1,hq1⟩:∃q,(O.v1==T.v2)=q:=⟨_,rfl⟩;obtain⟨q2,hq2⟩:∃q,(O.v2==T.v1)=q:=⟨_,rfl⟩;rw[hq1,hq2]at hst;obtain⟨F0,hF0⟩:∃F,foundN O T.v1 T.v2 n T.f0 0=F:=⟨_,rfl⟩;rw[hF0];have HF0:=Hd hF0;have HST:=Hd hst;clear hst hF0;cases q1
      ·go_wp2
       go_roundw
       case rel=>exact⟨1,by go_num,congrArg Value.bool ((HF0.out.symm.trans (by rw[HFE.out,HST.out];simp))),by omega,HO,HTq,HWq⟩
       case measure=>simp[intOf]
      ·cases q2
       ·go_wp2
        go_roundw
        case rel=>exact⟨1,by go_num,congrArg Value.bool ((HF0.out.symm.trans (by rw[HFE.out,HST.out];simp))),by omega,HO,HTq,HWq⟩
        case measure=>simp[intOf]
       ·obtain⟨q3,hq3⟩:∃q,(O.n0==(n:Int))=q:=⟨_,rfl⟩
        go_upto_region 13 with(fail)
        have d1:=HO.out.cells 3 (.int .i64 O.n0) rfl;have d2:=HO.out.cells 6 (.bool O.f0) rfl;have d3:∀u:Gq.Later wr,u.w.cell? ⟨tb,6,none⟩=_:=HFE.out▸HTq.out.cells 6 (.bool T.f0) rfl;cases q3
        ·refine Go.Gq.region (by kernel_rfl) (by kernel_rfl) ?_
         repeat (go_big_quiet_step (fail))
         refine wpQuiet_nil ?_;intro wx5 hw5;have HX5:=Hd (Go.Gq.later_bel hw5);clear hw5 d1 d2 d3 c1 c2;have HQ3:=Hd hq3;clear hq3;go_wp2;go_roundw
         case rel=>exact⟨1,by go_num,congrArg Value.bool (by rw[HFE.out,HST.out,HQ3.out];simp),by omega,Hd (HO.out.later HX5.out),Hd (HTq.out.later HX5.out),Hd (bel_step HWq.out HX5.out)⟩
         case measure=>simp[intOf]
        ·refine Go.Gq.region (by kernel_rfl) (by kernel_rfl) ?_
         repeat (go_big_quiet_step (fail))
         refine wpQuiet_nil ?_;intro wx5 hw5;have HX5:=Hd (Go.Gq.later_bel hw5);clear hw5 d1 d2 d3 c1 c2;have HQ3:=Hd hq3;clear hq3;go_wp2;go_roundw
         case rel=>exact⟨1,by go_num,congrArg Value.bool (by rw[HFE.out,HST.out,HQ3.out];simp),by omega,Hd (HO.out.later HX5.out),Hd (HTq.out.later HX5.out),Hd (bel_step HWq.out HX5.out)⟩
         case measure=>simp[intOf]
     ·have hst:foundN O T.v1 T.v2 n T.f0 2=if (O.v2==T.v2&&O.v0==T.v1)=true then (O.n1==(n:Int)&&O.f1==T.f0) else foundN O T.v1 T.v2 n T.f0 1:=rfl
      rw[HFE.out]at hst;have c1:=HO.out.cell 2 (.int .i64 O.v2) rfl;have c2:=HO.out.cell 0 (.int .i64 O.v0) rfl;obtain⟨q1,hq1⟩:∃q,(O.v2==T.v2)=q:=⟨_,rfl⟩;obtain⟨q2,hq2⟩:∃q,(O.v0==T.v1)=q:=⟨_,rfl⟩;rw[hq1,hq2]at hst;obtain⟨F0,hF0⟩:∃F,foundN O T.v1 T.v2 n T.f0 1=F:=⟨_,rfl⟩;rw[hF0];have HF0:=Hd hF0;have HST:=Hd hst;clear hst hF0;cases q1
      ·go_wp2
       go_roundw
       case rel=>exact⟨2,by go_num,congrArg Value.bool ((HF0.out.symm.trans (by rw[HFE.out,HST.out];simp))),by omega,HO,HTq,HWq⟩
       case measure=>simp[intOf]
      ·cases q2
       ·go_wp2
        go_roundw
        case rel=>exact⟨2,by go_num,congrArg Value.bool ((HF0.out.symm.trans (by rw[HFE.out,HST.out];simp))),by omega,HO,HTq,HWq⟩
        case measure=>simp[intOf]
       ·obtain⟨q3,hq3⟩:∃q,(O.n1==(n:Int))=q:=⟨_,rfl⟩
        go_upto_region 13 with(fail)
        have d1:=HO.out.cells 4 (.int .i64 O.n1) rfl;have d2:=HO.out.cells 7 (.bool O.f1) rfl;have d3:∀u:Gq.Later wr,u.w.cell? ⟨tb,6,none⟩=_:=HFE.out▸HTq.out.cells 6 (.bool T.f0) rfl;cases q3
        ·refine Go.Gq.region (by kernel_rfl) (by kernel_rfl) ?_
         repeat (go_big_quiet_step (fail))
         refine wpQuiet_nil ?_;intro wx5 hw5;have HX5:=Hd (Go.Gq.later_bel hw5);clear hw5 d1 d2 d3 c1 c2;have HQ3:=Hd hq3;clear hq3;go_wp2;go_roundw
         case rel=>exact⟨2,by go_num,congrArg Value.bool (by rw[HFE.out,HST.out,HQ3.out];simp),by omega,Hd (HO.out.later HX5.out),Hd (HTq.out.later HX5.out),Hd (bel_step HWq.out HX5.out)⟩
         case measure=>simp[intOf]
        ·refine Go.Gq.region (by kernel_rfl) (by kernel_rfl) ?_
         repeat (go_big_quiet_step (fail))
         refine wpQuiet_nil ?_;intro wx5 hw5;have HX5:=Hd (Go.Gq.later_bel hw5);clear hw5 d1 d2 d3 c1 c2;have HQ3:=Hd hq3;clear hq3;go_wp2;go_roundw
         case rel=>exact⟨2,by go_num,congrArg Value.bool (by rw[HFE.out,HST.out,HQ3.out];simp),by omega,Hd (HO.out.later HX5.out),Hd (HTq.out.later HX5.out),Hd (bel_step HWq.out HX5.out)⟩
         case measure=>simp[intOf]
     ·have hst:foundN O T.v1 T.v2 n T.f0 3=if (O.v0==T.v2&&O.v1==T.v1)=true then (O.n2==(n:Int)&&O.f2==T.f0) else foundN O T.v1 T.v2 n T.f0 2:=rfl
      rw[HFE.out]at hst;have c1:=HO.out.cell 0 (.int .i64 O.v0) rfl;have c2:=HO.out.cell 1 (.int .i64 O.v1) rfl;obtain⟨q1,hq1⟩:∃q,(O.v0==T.v2)=q:=⟨_,rfl⟩;obtain⟨q2,hq2⟩:∃q,(O.v1==T.v1)=q:=⟨_,rfl⟩;rw[hq1,hq2]at hst;obtain⟨F0,hF0⟩:∃F,foundN O T.v1 T.v2 n T.f0 2=F:=⟨_,rfl⟩;rw[hF0];have HF0:=Hd hF0;have HST:=Hd hst;clear hst hF0;cases q1
      ·go_wp2
       go_roundw
       case rel=>exact⟨3,by go_num,congrArg Value.bool ((HF0.out.symm.trans (by rw[HFE.out,HST.out];simp))),by omega,HO,HTq,HWq⟩
       case measure=>simp[intOf]
      ·cases q2
       ·go_wp2
        go_roundw
        case rel=>exact⟨3,by go_num,congrArg Value.bool ((HF0.out.symm.trans (by rw[HFE.out,HST.out];simp))),by omega,HO,HTq,HWq⟩
        case measure=>simp[intOf]
       ·obtain⟨q3,hq3⟩:∃q,(O.n2==(n:Int))=q:=⟨_,rfl⟩
        go_upto_region 13 with(fail)
        have d1:=HO.out.cells 5 (.int .i64 O.n2) rfl;have d2:=HO.out.cells 8 (.bool O.f2) rfl;have d3:∀u:Gq.Later wr,u.w.cell? ⟨tb,6,none⟩=_:=HFE.out▸HTq.out.cells 6 (.bool T.f0) rfl;cases q3
        ·refine Go.Gq.region (by kernel_rfl) (by kernel_rfl) ?_
         repeat (go_big_quiet_step (fail))
         refine wpQuiet_nil ?_;intro wx5 hw5;have HX5:=Hd (Go.Gq.later_bel hw5);clear hw5 d1 d2 d3 c1 c2;have HQ3:=Hd hq3;clear hq3;go_wp2;go_roundw
         case rel=>exact⟨3,by go_num,congrArg Value.bool (by rw[HFE.out,HST.out,HQ3.out];simp),by omega,Hd (HO.out.later HX5.out),Hd (HTq.out.later HX5.out),Hd (bel_step HWq.out HX5.out)⟩
         case measure=>simp[intOf]
        ·refine Go.Gq.region (by kernel_rfl) (by kernel_rfl) ?_
         repeat (go_big_quiet_step (fail))
         refine wpQuiet_nil ?_;intro wx5 hw5;have HX5:=Hd (Go.Gq.later_bel hw5);clear hw5 d1 d2 d3 c1 c2;have HQ3:=Hd hq3;clear hq3;go_wp2;go_roundw
         case rel=>exact⟨3,by go_num,congrArg Value.bool (by rw[HFE.out,HST.out,HQ3.out];simp),by omega,Hd (HO.out.later HX5.out),Hd (HTq.out.later HX5.out),Hd (bel_step HWq.out HX5.out)⟩
         case measure=>simp[intOf]
     ·rw[HFO2.out]
      go_wp2;go_roundw
      case rel=>exact⟨1,by go_num,by omega,HTq,HWq⟩
      case measure=>simp[intOf]
  ·obtain⟨u,hu,hul,huf,hfo⟩:=HK.out 1 (by omega)
   rw[HT.out]at hu huf hfo;simp only[Tri.n,Tri.v,Tri.f,Nat.reduceAdd,Nat.reduceMod]at hu huf hfo;have ix:∀w,(Instr.index 40 (.agg #[.int .i64 T.n0,.int .i64 T.n1,.int .i64 T.n2]) (.int .i64 1)).run Tryz.prog w=.ok (.int .i64 (u:Int)) w:=fun _=>by rw[←hu];kernel_rfl
   have y1:=HBx.out.cells 2 (.int .i64 T.v2) rfl;have y2:=HBx.out.cells 0 (.int .i64 T.v0) rfl;have y3:=HBx.out.cells 7 (.bool T.f1) rfl;have u0:¬(u:Int)<0:=by omega
   have u00:(0:Int)≤(u:Int):=by omega
   have u1:(u:Int)<(M.tris.length:Int):=by omega
   have u2:¬(M.tris.length:Int)≤(u:Int):=by omega
   have HUF:=Hd huf;have HFO:=Hd hfo;have hM:=H.out.later HBw.out;have lx:=Gq.Later.cell (hM.head.cell 1 (.slice (some ⟨gt,0,none⟩) M.tris.length ct) rfl);have HM:=Hd hM;have HUL:=Hd hul;clear hu huf hfo hM hul
   go_upto_region 5 with(fail)
   refine Go.Gq.region (by kernel_rfl) (by kernel_rfl) ?_
   repeat (go_big_quiet_step (fail))
   refine wpQuiet_nil ?_;intro wx hw';have hbx:=Go.Gq.later_bel hw';have hBx2:=HBx.out.later hbx;have hMx:=HM.out.later hbx;have hbw2:=bel_step HBw.out hbx;have hf:=hBx2.cell 7 (.bool T.f1) rfl;have hh:=hMx.head.cell 1 (.slice (some ⟨gt,0,none⟩) M.tris.length ct) rfl;obtain⟨e0,e1,e2,e3,e4,e5,e6,e7,e8⟩:=hMx.tris u HUL.out;obtain⟨O,hO⟩:∃O,tat M.tris u=O:=⟨_,rfl⟩;rw[hO]at e0 e1 e2 e3 e4 e5 e6 e7 e8;have hfo2:=HFO.out;rw[hO]at hfo2;have HFO2:=Hd hfo2;clear hw' y1 y2 y3 lx hO hfo2;have HBw2:=Hd hbw2;have HBx2:=Hd hBx2;clear hbw2 hBx2 hMx hbx;obtain⟨f,hfe⟩:∃f,T.f1=f:=⟨_,rfl⟩;have HFE:=Hd hfe;rw[hfe]at hf;have huf2:=HUF.out;rw[hfe]at huf2;clear hfe;have huf3:f=true→¬T.v2<0∧¬T.v0<0:=fun h=>by have:=huf2 h;omega
   have HUF3:=Hd huf3;clear huf2 huf3;have hf1:=HUF3.out;cases f
   all_goals
    try (have hf2:=hf1 rfl;obtain⟨hfa,hfb⟩:=hf2)
    clear hf1
    go_upto_region 9 with(fail)
    have hbz:=bel_alloc (bel_refl wx) (.cells #[.int .i64 O.v0,.int .i64 O.v1,.int .i64 O.v2,.int .i64 O.n0,.int .i64 O.n1,.int .i64 O.n2,.bool O.f0,.bool O.f1,.bool O.f2] 43);have hob:=Blk.new wx 43 #[.int .i64 O.v0,.int .i64 O.v1,.int .i64 O.v2,.int .i64 O.n0,.int .i64 O.n1,.int .i64 O.n2,.bool O.f0,.bool O.f1,.bool O.f2];have htz:=HBx2.out.later hbz;have hwz:=bel_step HBw2.out hbz;obtain⟨ob,hoq⟩:∃ob,wx.heap.size=ob:=⟨_,rfl⟩;rw[hoq]at hob ⊢;clear hoq hbz hf hh e0 e1 e2 e3 e4 e5 e6 e7 e8;generalize wx.alloc (.cells #[.int .i64 O.v0,.int .i64 O.v1,.int .i64 O.v2,.int .i64 O.n0,.int .i64 O.n1,.int .i64 O.n2,.bool O.f0,.bool O.f1,.bool O.f2] 43)=wz at *;have HOB:=Hd hob;have HTZ:=Hd htz;have HWZ:=Hd hwz;clear hob htz hwz;go_wp2
    go_loopw [11,70] (fun z q wq=>∃j:Nat,q=.int .i64 j∧z=.bool (foundN O T.v2 T.v0 n T.f1 j)∧j≤3∧Hid (Blk wq ob 43 #[.int .i64 O.v0,.int .i64 O.v1,.int .i64 O.v2,.int .i64 O.n0,.int .i64 O.n1,.int .i64 O.n2,.bool O.f0,.bool O.f1,.bool O.f2])∧Hid (Blk wq tb 43 #[.int .i64 T.v0,.int .i64 T.v1,.int .i64 T.v2,.int .i64 T.n0,.int .i64 T.n1,.int .i64 T.n2,.bool T.f0,.bool T.f1,.bool T.f2])∧Hid (Below w.heap.size w wq)) (fun _ q _=>3-(intOf q).toNat)
    case atStart=>exact⟨0,rfl,rfl,by omega,HOB,HTZ,HWZ⟩
    case round=>
     obtain⟨j,rfl,rfl,hj,HO,HTq,HWq⟩:=hrel;rcases(show j=0∨j=1∨j=2∨j=3 by omega)with rfl|rfl|rfl|rfl
     ·have hst:foundN O T.v2 T.v0 n T.f1 1=if (O.v1==T.v0&&O.v2==T.v2)=true then (O.n0==(n:Int)&&O.f0==T.f1) else foundN O T.v2 T.v0 n T.f1 0:=rfl
      rw[HFE.out]at hst;have c1:=HO.out.cell 1 (.int .i64 O.v1) rfl;have c2:=HO.out.cell 2 (.int .i64 O.v2) rfl;obtain⟨q1,hq1⟩:∃q,(O.v1==T.v0)=q:=⟨_,rfl⟩;obtain⟨q2,hq2⟩:∃q,(O.v2==T.v2)=q:=⟨_,rfl⟩;rw[hq1,hq2]at hst;obtain⟨F0,hF0⟩:∃F,foundN O T.v2 T.v0 n T.f1 0=F:=⟨_,rfl⟩;rw[hF0];have HF0:=Hd hF0;have HST:=Hd hst;clear hst hF0;cases q1
      ·go_wp2
       go_roundw
       case rel=>exact⟨1,by go_num,congrArg Value.bool ((HF0.out.symm.trans (by rw[HFE.out,HST.out];simp))),by omega,HO,HTq,HWq⟩
       case measure=>simp[intOf]
      ·cases q2
       ·go_wp2
        go_roundw
        case rel=>exact⟨1,by go_num,congrArg Value.bool ((HF0.out.symm.trans (by rw[HFE.out,HST.out];simp))),by omega,HO,HTq,HWq⟩
        case measure=>simp[intOf]
       ·obtain⟨q3,hq3⟩:∃q,(O.n0==(n:Int))=q:=⟨_,rfl⟩
        go_upto_region 13 with(fail)
        have d1:=HO.out.cells 3 (.int .i64 O.n0) rfl;have d2:=HO.out.cells 6 (.bool O.f0) rfl;have d3:∀u:Gq.Later wr,u.w.cell? ⟨tb,7,none⟩=_:=HFE.out▸HTq.out.cells 7 (.bool T.f1) rfl;cases q3
        ·refine Go.Gq.region (by kernel_rfl) (by kernel_rfl) ?_
         repeat (go_big_quiet_step (fail))
         refine wpQuiet_nil ?_;intro wx5 hw5;have HX5:=Hd (Go.Gq.later_bel hw5);clear hw5 d1 d2 d3 c1 c2;have HQ3:=Hd hq3;clear hq3;go_wp2;go_roundw
         case rel=>exact⟨1,by go_num,congrArg Value.bool (by rw[HFE.out,HST.out,HQ3.out];simp),by omega,Hd (HO.out.later HX5.out),Hd (HTq.out.later HX5.out),Hd (bel_step HWq.out HX5.out)⟩
         case measure=>simp[intOf]
        ·refine Go.Gq.region (by kernel_rfl) (by kernel_rfl) ?_
         repeat (go_big_quiet_step (fail))
         refine wpQuiet_nil ?_;intro wx5 hw5;have HX5:=Hd (Go.Gq.later_bel hw5);clear hw5 d1 d2 d3 c1 c2;have HQ3:=Hd hq3;clear hq3;go_wp2;go_roundw
         case rel=>exact⟨1,by go_num,congrArg Value.bool (by rw[HFE.out,HST.out,HQ3.out];simp),by omega,Hd (HO.out.later HX5.out),Hd (HTq.out.later HX5.out),Hd (bel_step HWq.out HX5.out)⟩
         case measure=>simp[intOf]
     ·have hst:foundN O T.v2 T.v0 n T.f1 2=if (O.v2==T.v0&&O.v0==T.v2)=true then (O.n1==(n:Int)&&O.f1==T.f1) else foundN O T.v2 T.v0 n T.f1 1:=rfl
      rw[HFE.out]at hst;have c1:=HO.out.cell 2 (.int .i64 O.v2) rfl;have c2:=HO.out.cell 0 (.int .i64 O.v0) rfl;obtain⟨q1,hq1⟩:∃q,(O.v2==T.v0)=q:=⟨_,rfl⟩;obtain⟨q2,hq2⟩:∃q,(O.v0==T.v2)=q:=⟨_,rfl⟩;rw[hq1,hq2]at hst;obtain⟨F0,hF0⟩:∃F,foundN O T.v2 T.v0 n T.f1 1=F:=⟨_,rfl⟩;rw[hF0];have HF0:=Hd hF0;have HST:=Hd hst;clear hst hF0;cases q1
      ·go_wp2
       go_roundw
       case rel=>exact⟨2,by go_num,congrArg Value.bool ((HF0.out.symm.trans (by rw[HFE.out,HST.out];simp))),by omega,HO,HTq,HWq⟩
       case measure=>simp[intOf]
      ·cases q2
       ·go_wp2
        go_roundw
        case rel=>exact⟨2,by go_num,congrArg Value.bool ((HF0.out.symm.trans (by rw[HFE.out,HST.out];simp))),by omega,HO,HTq,HWq⟩
        case measure=>simp[intOf]
       ·obtain⟨q3,hq3⟩:∃q,(O.n1==(n:Int))=q:=⟨_,rfl⟩
        go_upto_region 13 with(fail)
        have d1:=HO.out.cells 4 (.int .i64 O.n1) rfl;have d2:=HO.out.cells 7 (.bool O.f1) rfl;have d3:∀u:Gq.Later wr,u.w.cell? ⟨tb,7,none⟩=_:=HFE.out▸HTq.out.cells 7 (.bool T.f1) rfl;cases q3
        ·refine Go.Gq.region (by kernel_rfl) (by kernel_rfl) ?_
         repeat (go_big_quiet_step (fail))
         refine wpQuiet_nil ?_;intro wx5 hw5;have HX5:=Hd (Go.Gq.later_bel hw5);clear hw5 d1 d2 d3 c1 c2;have HQ3:=Hd hq3;clear hq3;go_wp2;go_roundw
         case rel=>exact⟨2,by go_num,congrArg Value.bool (by rw[HFE.out,HST.out,HQ3.out];simp),by omega,Hd (HO.out.later HX5.out),Hd (HTq.out.later HX5.out),Hd (bel_step HWq.out HX5.out)⟩
         case measure=>simp[intOf]
        ·refine Go.Gq.region (by kernel_rfl) (by kernel_rfl) ?_
         repeat (go_big_quiet_step (fail))
         refine wpQuiet_nil ?_;intro wx5 hw5;have HX5:=Hd (Go.Gq.later_bel hw5);clear hw5 d1 d2 d3 c1 c2;have HQ3:=Hd hq3;clear hq3;go_wp2;go_roundw
         case rel=>exact⟨2,by go_num,congrArg Value.bool (by rw[HFE.out,HST.out,HQ3.out];simp),by omega,Hd (HO.out.later HX5.out),Hd (HTq.out.later HX5.out),Hd (bel_step HWq.out HX5.out)⟩
         case measure=>simp[intOf]
     ·have hst:foundN O T.v2 T.v0 n T.f1 3=if (O.v0==T.v0&&O.v1==T.v2)=true then (O.n2==(n:Int)&&O.f2==T.f1) else foundN O T.v2 T.v0 n T.f1 2:=rfl
      rw[HFE.out]at hst;have c1:=HO.out.cell 0 (.int .i64 O.v0) rfl;have c2:=HO.out.cell 1 (.int .i64 O.v1) rfl;obtain⟨q1,hq1⟩:∃q,(O.v0==T.v0)=q:=⟨_,rfl⟩;obtain⟨q2,hq2⟩:∃q,(O.v1==T.v2)=q:=⟨_,rfl⟩;rw[hq1,hq2]at hst;obtain⟨F0,hF0⟩:∃F,foundN O T.v2 T.v0 n T.f1 2=F:=⟨_,rfl⟩;rw[hF0];have HF0:=Hd hF0;have HST:=Hd hst;clear hst hF0;cases q1
      ·go_wp2
       go_roundw
       case rel=>exact⟨3,by go_num,congrArg Value.bool ((HF0.out.symm.trans (by rw[HFE.out,HST.out];simp))),by omega,HO,HTq,HWq⟩
       case measure=>simp[intOf]
      ·cases q2
       ·go_wp2
        go_roundw
        case rel=>exact⟨3,by go_num,congrArg Value.bool ((HF0.out.symm.trans (by rw[HFE.out,HST.out];simp))),by omega,HO,HTq,HWq⟩
        case measure=>simp[intOf]
       ·obtain⟨q3,hq3⟩:∃q,(O.n2==(n:Int))=q:=⟨_,rfl⟩
        go_upto_region 13 with(fail)
        have d1:=HO.out.cells 5 (.int .i64 O.n2) rfl;have d2:=HO.out.cells 8 (.bool O.f2) rfl;have d3:∀u:Gq.Later wr,u.w.cell? ⟨tb,7,none⟩=_:=HFE.out▸HTq.out.cells 7 (.bool T.f1) rfl;cases q3
        ·refine Go.Gq.region (by kernel_rfl) (by kernel_rfl) ?_
         repeat (go_big_quiet_step (fail))
         refine wpQuiet_nil ?_;intro wx5 hw5;have HX5:=Hd (Go.Gq.later_bel hw5);clear hw5 d1 d2 d3 c1 c2;have HQ3:=Hd hq3;clear hq3;go_wp2;go_roundw
         case rel=>exact⟨3,by go_num,congrArg Value.bool (by rw[HFE.out,HST.out,HQ3.out];simp),by omega,Hd (HO.out.later HX5.out),Hd (HTq.out.later HX5.out),Hd (bel_step HWq.out HX5.out)⟩
         case measure=>simp[intOf]
        ·refine Go.Gq.region (by kernel_rfl) (by kernel_rfl) ?_
         repeat (go_big_quiet_step (fail))
         refine wpQuiet_nil ?_;intro wx5 hw5;have HX5:=Hd (Go.Gq.later_bel hw5);clear hw5 d1 d2 d3 c1 c2;have HQ3:=Hd hq3;clear hq3;go_wp2;go_roundw
         case rel=>exact⟨3,by go_num,congrArg Value.bool (by rw[HFE.out,HST.out,HQ3.out];simp),by omega,Hd (HO.out.later HX5.out),Hd (HTq.out.later HX5.out),Hd (bel_step HWq.out HX5.out)⟩
         case measure=>simp[intOf]
     ·rw[HFO2.out]
      go_wp2;go_roundw
      case rel=>exact⟨2,by go_num,by omega,HTq,HWq⟩
      case measure=>simp[intOf]
  ·obtain⟨u,hu,hul,huf,hfo⟩:=HK.out 2 (by omega)
   rw[HT.out]at hu huf hfo;simp only[Tri.n,Tri.v,Tri.f,Nat.reduceAdd,Nat.reduceMod]at hu huf hfo;have ix:∀w,(Instr.index 40 (.agg #[.int .i64 T.n0,.int .i64 T.n1,.int .i64 T.n2]) (.int .i64 2)).run Tryz.prog w=.ok (.int .i64 (u:Int)) w:=fun _=>by rw[←hu];kernel_rfl
   have y1:=HBx.out.cells 0 (.int .i64 T.v0) rfl;have y2:=HBx.out.cells 1 (.int .i64 T.v1) rfl;have y3:=HBx.out.cells 8 (.bool T.f2) rfl;have u0:¬(u:Int)<0:=by omega
   have u00:(0:Int)≤(u:Int):=by omega
   have u1:(u:Int)<(M.tris.length:Int):=by omega
   have u2:¬(M.tris.length:Int)≤(u:Int):=by omega
   have HUF:=Hd huf;have HFO:=Hd hfo;have hM:=H.out.later HBw.out;have lx:=Gq.Later.cell (hM.head.cell 1 (.slice (some ⟨gt,0,none⟩) M.tris.length ct) rfl);have HM:=Hd hM;have HUL:=Hd hul;clear hu huf hfo hM hul
   go_upto_region 5 with(fail)
   refine Go.Gq.region (by kernel_rfl) (by kernel_rfl) ?_
   repeat (go_big_quiet_step (fail))
   refine wpQuiet_nil ?_;intro wx hw';have hbx:=Go.Gq.later_bel hw';have hBx2:=HBx.out.later hbx;have hMx:=HM.out.later hbx;have hbw2:=bel_step HBw.out hbx;have hf:=hBx2.cell 8 (.bool T.f2) rfl;have hh:=hMx.head.cell 1 (.slice (some ⟨gt,0,none⟩) M.tris.length ct) rfl;obtain⟨e0,e1,e2,e3,e4,e5,e6,e7,e8⟩:=hMx.tris u HUL.out;obtain⟨O,hO⟩:∃O,tat M.tris u=O:=⟨_,rfl⟩;rw[hO]at e0 e1 e2 e3 e4 e5 e6 e7 e8;have hfo2:=HFO.out;rw[hO]at hfo2;have HFO2:=Hd hfo2;clear hw' y1 y2 y3 lx hO hfo2;have HBw2:=Hd hbw2;have HBx2:=Hd hBx2;clear hbw2 hBx2 hMx hbx;obtain⟨f,hfe⟩:∃f,T.f2=f:=⟨_,rfl⟩;have HFE:=Hd hfe;rw[hfe]at hf;have huf2:=HUF.out;rw[hfe]at huf2;clear hfe;have huf3:f=true→¬T.v0<0∧¬T.v1<0:=fun h=>by have:=huf2 h;omega
   have HUF3:=Hd huf3;clear huf2 huf3;have hf1:=HUF3.out;cases f
   all_goals
    try (have hf2:=hf1 rfl;obtain⟨hfa,hfb⟩:=hf2)
    clear hf1
    go_upto_region 9 with(fail)
    have hbz:=bel_alloc (bel_refl wx) (.cells #[.int .i64 O.v0,.int .i64 O.v1,.int .i64 O.v2,.int .i64 O.n0,.int .i64 O.n1,.int .i64 O.n2,.bool O.f0,.bool O.f1,.bool O.f2] 43);have hob:=Blk.new wx 43 #[.int .i64 O.v0,.int .i64 O.v1,.int .i64 O.v2,.int .i64 O.n0,.int .i64 O.n1,.int .i64 O.n2,.bool O.f0,.bool O.f1,.bool O.f2];have htz:=HBx2.out.later hbz;have hwz:=bel_step HBw2.out hbz;obtain⟨ob,hoq⟩:∃ob,wx.heap.size=ob:=⟨_,rfl⟩;rw[hoq]at hob ⊢;clear hoq hbz hf hh e0 e1 e2 e3 e4 e5 e6 e7 e8;generalize wx.alloc (.cells #[.int .i64 O.v0,.int .i64 O.v1,.int .i64 O.v2,.int .i64 O.n0,.int .i64 O.n1,.int .i64 O.n2,.bool O.f0,.bool O.f1,.bool O.f2] 43)=wz at *;have HOB:=Hd hob;have HTZ:=Hd htz;have HWZ:=Hd hwz;clear hob htz hwz;go_wp2
    go_loopw [11,70] (fun z q wq=>∃j:Nat,q=.int .i64 j∧z=.bool (foundN O T.v0 T.v1 n T.f2 j)∧j≤3∧Hid (Blk wq ob 43 #[.int .i64 O.v0,.int .i64 O.v1,.int .i64 O.v2,.int .i64 O.n0,.int .i64 O.n1,.int .i64 O.n2,.bool O.f0,.bool O.f1,.bool O.f2])∧Hid (Blk wq tb 43 #[.int .i64 T.v0,.int .i64 T.v1,.int .i64 T.v2,.int .i64 T.n0,.int .i64 T.n1,.int .i64 T.n2,.bool T.f0,.bool T.f1,.bool T.f2])∧Hid (Below w.heap.size w wq)) (fun _ q _=>3-(intOf q).toNat)
    case atStart=>exact⟨0,rfl,rfl,by omega,HOB,HTZ,HWZ⟩
    case round=>
     obtain⟨j,rfl,rfl,hj,HO,HTq,HWq⟩:=hrel;rcases(show j=0∨j=1∨j=2∨j=3 by omega)with rfl|rfl|rfl|rfl
     ·have hst:foundN O T.v0 T.v1 n T.f2 1=if (O.v1==T.v1&&O.v2==T.v0)=true then (O.n0==(n:Int)&&O.f0==T.f2) else foundN O T.v0 T.v1 n T.f2 0:=rfl
      rw[HFE.out]at hst;have c1:=HO.out.cell 1 (.int .i64 O.v1) rfl;have c2:=HO.out.cell 2 (.int .i64 O.v2) rfl;obtain⟨q1,hq1⟩:∃q,(O.v1==T.v1)=q:=⟨_,rfl⟩;obtain⟨q2,hq2⟩:∃q,(O.v2==T.v0)=q:=⟨_,rfl⟩;rw[hq1,hq2]at hst;obtain⟨F0,hF0⟩:∃F,foundN O T.v0 T.v1 n T.f2 0=F:=⟨_,rfl⟩;rw[hF0];have HF0:=Hd hF0;have HST:=Hd hst;clear hst hF0;cases q1
      ·go_wp2
       go_roundw
       case rel=>exact⟨1,by go_num,congrArg Value.bool ((HF0.out.symm.trans (by rw[HFE.out,HST.out];simp))),by omega,HO,HTq,HWq⟩
       case measure=>simp[intOf]
      ·cases q2
       ·go_wp2
        go_roundw
        case rel=>exact⟨1,by go_num,congrArg Value.bool ((HF0.out.symm.trans (by rw[HFE.out,HST.out];simp))),by omega,HO,HTq,HWq⟩
        case measure=>simp[intOf]
       ·obtain⟨q3,hq3⟩:∃q,(O.n0==(n:Int))=q:=⟨_,rfl⟩
        go_upto_region 13 with(fail)
        have d1:=HO.out.cells 3 (.int .i64 O.n0) rfl;have d2:=HO.out.cells 6 (.bool O.f0) rfl;have d3:∀u:Gq.Later wr,u.w.cell? ⟨tb,8,none⟩=_:=HFE.out▸HTq.out.cells 8 (.bool T.f2) rfl;cases q3
        ·refine Go.Gq.region (by kernel_rfl) (by kernel_rfl) ?_
         repeat (go_big_quiet_step (fail))
         refine wpQuiet_nil ?_;intro wx5 hw5;have HX5:=Hd (Go.Gq.later_bel hw5);clear hw5 d1 d2 d3 c1 c2;have HQ3:=Hd hq3;clear hq3;go_wp2;go_roundw
         case rel=>exact⟨1,by go_num,congrArg Value.bool (by rw[HFE.out,HST.out,HQ3.out];simp),by omega,Hd (HO.out.later HX5.out),Hd (HTq.out.later HX5.out),Hd (bel_step HWq.out HX5.out)⟩
         case measure=>simp[intOf]
        ·refine Go.Gq.region (by kernel_rfl) (by kernel_rfl) ?_
         repeat (go_big_quiet_step (fail))
         refine wpQuiet_nil ?_;intro wx5 hw5;have HX5:=Hd (Go.Gq.later_bel hw5);clear hw5 d1 d2 d3 c1 c2;have HQ3:=Hd hq3;clear hq3;go_wp2;go_roundw
         case rel=>exact⟨1,by go_num,congrArg Value.bool (by rw[HFE.out,HST.out,HQ3.out];simp),by omega,Hd (HO.out.later HX5.out),Hd (HTq.out.later HX5.out),Hd (bel_step HWq.out HX5.out)⟩
         case measure=>simp[intOf]
     ·have hst:foundN O T.v0 T.v1 n T.f2 2=if (O.v2==T.v1&&O.v0==T.v0)=true then (O.n1==(n:Int)&&O.f1==T.f2) else foundN O T.v0 T.v1 n T.f2 1:=rfl
      rw[HFE.out]at hst;have c1:=HO.out.cell 2 (.int .i64 O.v2) rfl;have c2:=HO.out.cell 0 (.int .i64 O.v0) rfl;obtain⟨q1,hq1⟩:∃q,(O.v2==T.v1)=q:=⟨_,rfl⟩;obtain⟨q2,hq2⟩:∃q,(O.v0==T.v0)=q:=⟨_,rfl⟩;rw[hq1,hq2]at hst;obtain⟨F0,hF0⟩:∃F,foundN O T.v0 T.v1 n T.f2 1=F:=⟨_,rfl⟩;rw[hF0];have HF0:=Hd hF0;have HST:=Hd hst;clear hst hF0;cases q1
      ·go_wp2
       go_roundw
       case rel=>exact⟨2,by go_num,congrArg Value.bool ((HF0.out.symm.trans (by rw[HFE.out,HST.out];simp))),by omega,HO,HTq,HWq⟩
       case measure=>simp[intOf]
      ·cases q2
       ·go_wp2
        go_roundw
        case rel=>exact⟨2,by go_num,congrArg Value.bool ((HF0.out.symm.trans (by rw[HFE.out,HST.out];simp))),by omega,HO,HTq,HWq⟩
        case measure=>simp[intOf]
       ·obtain⟨q3,hq3⟩:∃q,(O.n1==(n:Int))=q:=⟨_,rfl⟩
        go_upto_region 13 with(fail)
        have d1:=HO.out.cells 4 (.int .i64 O.n1) rfl;have d2:=HO.out.cells 7 (.bool O.f1) rfl;have d3:∀u:Gq.Later wr,u.w.cell? ⟨tb,8,none⟩=_:=HFE.out▸HTq.out.cells 8 (.bool T.f2) rfl;cases q3
        ·refine Go.Gq.region (by kernel_rfl) (by kernel_rfl) ?_
         repeat (go_big_quiet_step (fail))
         refine wpQuiet_nil ?_;intro wx5 hw5;have HX5:=Hd (Go.Gq.later_bel hw5);clear hw5 d1 d2 d3 c1 c2;have HQ3:=Hd hq3;clear hq3;go_wp2;go_roundw
         case rel=>exact⟨2,by go_num,congrArg Value.bool (by rw[HFE.out,HST.out,HQ3.out];simp),by omega,Hd (HO.out.later HX5.out),Hd (HTq.out.later HX5.out),Hd (bel_step HWq.out HX5.out)⟩
         case measure=>simp[intOf]
        ·refine Go.Gq.region (by kernel_rfl) (by kernel_rfl) ?_
         repeat (go_big_quiet_step (fail))
         refine wpQuiet_nil ?_;intro wx5 hw5;have HX5:=Hd (Go.Gq.later_bel hw5);clear hw5 d1 d2 d3 c1 c2;have HQ3:=Hd hq3;clear hq3;go_wp2;go_roundw
         case rel=>exact⟨2,by go_num,congrArg Value.bool (by rw[HFE.out,HST.out,HQ3.out];simp),by omega,Hd (HO.out.later HX5.out),Hd (HTq.out.later HX5.out),Hd (bel_step HWq.out HX5.out)⟩
         case measure=>simp[intOf]
     ·have hst:foundN O T.v0 T.v1 n T.f2 3=if (O.v0==T.v1&&O.v1==T.v0)=true then (O.n2==(n:Int)&&O.f2==T.f2) else foundN O T.v0 T.v1 n T.f2 2:=rfl
      rw[HFE.out]at hst;have c1:=HO.out.cell 0 (.int .i64 O.v0) rfl;have c2:=HO.out.cell 1 (.int .i64 O.v1) rfl;obtain⟨q1,hq1⟩:∃q,(O.v0==T.v1)=q:=⟨_,rfl⟩;obtain⟨q2,hq2⟩:∃q,(O.v1==T.v0)=q:=⟨_,rfl⟩;rw[hq1,hq2]at hst;obtain⟨F0,hF0⟩:∃F,foundN O T.v0 T.v1 n T.f2 2=F:=⟨_,rfl⟩;rw[hF0];have HF0:=Hd hF0;have HST:=Hd hst;clear hst hF0;cases q1
      ·go_wp2
       go_roundw
       case rel=>exact⟨3,by go_num,congrArg Value.bool ((HF0.out.symm.trans (by rw[HFE.out,HST.out];simp))),by omega,HO,HTq,HWq⟩
       case measure=>simp[intOf]
      ·cases q2
       ·go_wp2
        go_roundw
        case rel=>exact⟨3,by go_num,congrArg Value.bool ((HF0.out.symm.trans (by rw[HFE.out,HST.out];simp))),by omega,HO,HTq,HWq⟩
        case measure=>simp[intOf]
       ·obtain⟨q3,hq3⟩:∃q,(O.n2==(n:Int))=q:=⟨_,rfl⟩
        go_upto_region 13 with(fail)
        have d1:=HO.out.cells 5 (.int .i64 O.n2) rfl;have d2:=HO.out.cells 8 (.bool O.f2) rfl;have d3:∀u:Gq.Later wr,u.w.cell? ⟨tb,8,none⟩=_:=HFE.out▸HTq.out.cells 8 (.bool T.f2) rfl;cases q3
        ·refine Go.Gq.region (by kernel_rfl) (by kernel_rfl) ?_
         repeat (go_big_quiet_step (fail))
         refine wpQuiet_nil ?_;intro wx5 hw5;have HX5:=Hd (Go.Gq.later_bel hw5);clear hw5 d1 d2 d3 c1 c2;have HQ3:=Hd hq3;clear hq3;go_wp2;go_roundw
         case rel=>exact⟨3,by go_num,congrArg Value.bool (by rw[HFE.out,HST.out,HQ3.out];simp),by omega,Hd (HO.out.later HX5.out),Hd (HTq.out.later HX5.out),Hd (bel_step HWq.out HX5.out)⟩
         case measure=>simp[intOf]
        ·refine Go.Gq.region (by kernel_rfl) (by kernel_rfl) ?_
         repeat (go_big_quiet_step (fail))
         refine wpQuiet_nil ?_;intro wx5 hw5;have HX5:=Hd (Go.Gq.later_bel hw5);clear hw5 d1 d2 d3 c1 c2;have HQ3:=Hd hq3;clear hq3;go_wp2;go_roundw
         case rel=>exact⟨3,by go_num,congrArg Value.bool (by rw[HFE.out,HST.out,HQ3.out];simp),by omega,Hd (HO.out.later HX5.out),Hd (HTq.out.later HX5.out),Hd (bel_step HWq.out HX5.out)⟩
         case measure=>simp[intOf]
     ·rw[HFO2.out]
      go_wp2;go_roundw
      case rel=>exact⟨3,by go_num,by omega,HTq,HWq⟩
      case measure=>simp[intOf]
  ·go_wp2
   go_ret
   exact⟨rfl,HBw.out⟩
end Be
end Go.Proofs.YtdihefgleefhmaaGreat
