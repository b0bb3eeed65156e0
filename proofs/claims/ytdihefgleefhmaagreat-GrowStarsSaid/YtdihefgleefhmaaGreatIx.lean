import Derived.Test.YtdihefgleefhmaaGreatPd
namespace Go.Proofs.YtdihefgleefhmaaGreat
open Go.RowKit
namespace Ix
open Wd Pr Dg Iq
set_option maxHeartbeats 4000000 in
set_option maxRecDepth 100000 in
theorem insert_any(ea eb:Int)(fl:Bool)(sp:Side→Bool)(hsp:∀s,sp s=(fl&&(s.b==ea||s.b==eb)))(F0:Nat→Prop)(B b v:Nat)(M:Mesh)(fr:Int)(t0 k:Nat)(q:Place)(w:World)(h:MeshF F0 B w b M)(hF0:∀k,F0 k→k<w.heap.size)(hB:B≤w.heap.size)(ho:M.ok)(hw:M.wf)(hv:v<M.pts.length)(htl:0<M.tris.length)
  (hfr:(if Mr.realB M fr=true then fr else Fi.firstReal M)=t0) (hr0:Mr.realB M t0=true) (hg:findGo M (pat M.pts v) (M.tris.length+1) t0 0=some (q,k)) (hpt0:∀u,MeshR u b M→Calls Tryz.prog 36 #[.pointer (some ⟨b,0,none⟩),plv q] u fun e w'=>e=.returned (partV ea eb fl)∧Below u.heap.size u w')
  (hdg0:∀u,MeshR u b M→Calls Tryz.prog 37 #[.pointer (some ⟨b,0,none⟩),pv (pat M.pts v),plv q] u fun e w'=>∃vt vr,e=.returned (.agg #[vt,vr,.bool (dig M (pat M.pts v) q).cut])∧w'.ownsRow u.heap.size 3 1 vt (dig M (pat M.pts v) q).tris.length (nv (dig M (pat M.pts v) q).tris)∧w'.ownsRow u.heap.size 89 5 vr (dig M (pat M.pts v) q).rim.length ((dig M (pat M.pts v) q).rim.flatMap Side.cs)∧Below u.heap.size u w') (hq2:q.kind≠2) (hfill:FillOk M v (dig M (pat M.pts v) q) sp) :
  Calls Tryz.prog 11 #[.pointer (some ⟨b,0,none⟩),.int .i64 v,.int .i64 fr] w fun e w'=>e=.returned (.bool true)∧MeshF F0 B w' b (insertIn M v q sp)∧Below B w w'∧Same F0 w w':=by
 obtain⟨p,hp⟩:∃p,pat M.pts v=p:=⟨_,rfl⟩;have hpn:p.near:=hp▸ho.near v;have hpl:0<M.pts.length:=by omega
 have hal:0<M.at_.length:=by rw[ho.at_];omega
 have hfd:∀u,MeshF F0 B u b M→Calls Tryz.prog 35 #[.pointer (some ⟨b,0,none⟩),pv p,.int .i64 fr,.int .i64 ((M.tris.length:Int)+1)] u fun e w'=>e=.returned (.tuple #[plv q,.int .i64 k])∧Below u.heap.size u w':=fun u hu=>by
  have:=Fn.find_any M b p fr (M.tris.length+1) u (hu.at_.read hpl htl hal) ho hw hpn hpl htl t0 q k hfr hr0 (hp▸hg) (by have:=ho.tris;omega)
  exact_mod_cast this
 have hdg:∀u,MeshF F0 B u b M→Calls Tryz.prog 37 #[.pointer (some ⟨b,0,none⟩),pv p,plv q] u fun e w'=>∃vt vr,e=.returned (.agg #[vt,vr,.bool (dig M p q).cut])∧
   w'.ownsRow u.heap.size 3 1 vt (dig M p q).tris.length (nv (dig M p q).tris)∧w'.ownsRow u.heap.size 89 5 vr (dig M p q).rim.length ((dig M p q).rim.flatMap Side.cs)∧Below u.heap.size u w':=fun u hu=>
  hp▸hdg0 u (hu.at_.read hpl htl hal)
 have hpt:=fun u (hu:MeshF F0 B u b M)=>hpt0 u (hu.at_.read hpl htl hal)
 obtain⟨gp,cp,gt,ct,ga,ca,fV,hR⟩:=h.at_.read hpl htl hal;have c0:=hR.head.cell 0 (.slice (some ⟨gp,0,none⟩) M.pts.length cp) rfl;obtain⟨p0,p1⟩:=hR.pts v hv;rw[hp]at p0 p1;have v0:(0:Int)≤(v:Int):=by omega
 have v1:(v:Int)<(M.pts.length:Int):=by omega
 have hk2:(q.kind==2)=false:=by simpa using hq2
 have HFD:=Hd hfd;have HDG:=Hd hdg;have HPT:=Hd hpt;have HM:=Hd h;have HF0:=Hd hF0;have HO:=Hd ho;have HFI:=Hd hfill;have HP:=Hd hp;have HR0:=Hd hR;have T9:=ho.tris;obtain⟨kd,tr,qa,qb⟩:=q;simp only at hk2;clear hfd hdg hpt h hF0 ho hw hfr hr0 hg hpt0 hdg0 hq2 hfill hpn hp
 go_enter Tryz.func11,Tryz.ntmps11
 go_upto_region 2 with(fail)
 have b0:=(Blk.new w 24 #[.int .i64 p.x,.int .i64 p.y]);have hM1:=HM.out.later (bel_alloc (bel_refl w) (.cells #[.int .i64 p.x,.int .i64 p.y] 24));have hR1:=HR0.out.later (bel_alloc (bel_refl w) (.cells #[.int .i64 p.x,.int .i64 p.y] 24));have hb1:=bel_alloc (bel_refl w) (.cells #[.int .i64 p.x,.int .i64 p.y] 24);clear c0 p0 p1;generalize w.alloc (.cells #[.int .i64 p.x,.int .i64 p.y] 24)=W at *;obtain⟨x0,x1,_,_⟩:=b0.two;have x2:=hR1.head.cell 1 (.slice (some ⟨gt,0,none⟩) M.tris.length ct) rfl;have wr1:IntKind.i64.wrap ((M.tris.length:Int)+1)=(M.tris.length:Int)+1:=IntWalk.i64_in _ (by omega);have HM1:=Hd hM1;have HR1:=Hd hR1;have HB1:=Hd hb1;have HB0:=Hd b0;clear hM1 hR1 hb1 b0
 go_cut [8,9] (fun v8 v9 wx=>∃tb:Nat,v8=.pointer (some ⟨tb,0,none⟩)∧v9=.int .i64 k∧Hid (Blk wx tb 78 #[.int .i64 kd,.int .i64 tr,.int .i64 qa,.int .i64 qb])∧Hid (Below W.heap.size W wx))
 case first=>
  have l0:∀u,Below W.heap.size W u→u.cell? ⟨w.heap.size,0,none⟩=some (.int .i64 p.x):=fun u hu=>cell_later x0 hu
  have l1:∀u,Below W.heap.size W u→u.cell? ⟨w.heap.size,1,none⟩=some (.int .i64 p.y):=fun u hu=>cell_later x1 hu
  have l2:∀u,Below W.heap.size W u→u.cell? ⟨b,1,none⟩=some (.slice (some ⟨gt,0,none⟩) M.tris.length ct):=fun u hu=>cell_later x2 hu
  clear x0 x1 x2
  go_region_held3 (fun w'=>Below W.heap.size W w') (first| exact bel_drew (bel_refl _)|exact bel_alloc (by assumption) _|exact bel_alloc (bel_step (bel_drew (bel_refl _)) (by assumption)) _|exact bel_step (by assumption) (by assumption)|(repeat (first| assumption|refine bel_drew ?_|refine bel_alloc ?_ _|refine bel_set ?_ (Nat.le_refl _) _ _))) ((go_at_call 35;refine(HFD.out _ (HM1.out.later (by assumption))).mono ?_;rintro e w2 ⟨rfl,hb2⟩;try (have ty:=Blk.later (Blk.new' (n:=W.heap.size) W.drew 78 #[.int .i64 0,.int .i64 0,.int .i64 0,.int .i64 0] rfl) hb2;have tz0:=ty.cell 0 _ rfl;have tz1:=ty.cell 1 _ rfl;have tz2:=ty.cell 2 _ rfl;have tz3:=ty.cell 3 _ rfl;have tf0:=ty.frozen 0;have tf1:=ty.frozen 1;have tf2:=ty.frozen 2;have tf3:=ty.frozen 3;have TY:=Hd ty;clear ty)))
  ·go_wp2_with fail
   go_meet
   exact⟨_,rfl,rfl,Hd (Blk.new w2 78 _),Hd (by assumption)⟩
  ·go_wp2_with fail
   go_meet
   exact⟨_,rfl,rfl,Hd ((((TY.out.set 0 _).set 1 _).set 2 _).set 3 _),Hd (by assumption)⟩
 case rest=>
  obtain⟨tb,rfl,rfl,HTB,HBX⟩:=hcut;have HB0x:=Hd (HB0.out.later HBX.out);have HMx:=Hd (HM1.out.later HBX.out);have HBx:=Hd (bel_step HB1.out HBX.out);obtain⟨z0,z1,z2,z3⟩:wc.cell? ⟨tb,0,none⟩=some (.int .i64 kd)∧wc.cell? ⟨tb,1,none⟩=some (.int .i64 tr)∧wc.cell? ⟨tb,2,none⟩=some (.int .i64 qa)∧wc.cell? ⟨tb,3,none⟩=some (.int .i64 qb):=⟨HTB.out.cell 0 _ rfl,HTB.out.cell 1 _ rfl,HTB.out.cell 2 _ rfl,HTB.out.cell 3 _ rfl⟩;clear HM1 HB1 HB0 HR1 HR0 wr1 x0 x1 x2 HBX;clear v0 v1
  go_upto_region 6 with(go_at_call 36;refine(HPT.out _ HMx.out).mono ?_;rintro e w3 ⟨rfl,hb3⟩;have HB3:=Hd hb3;clear hb3)
  have hb4:=bel_alloc HB3.out (.cells #[.int .i64 ea,.int .i64 eb] 54);have hE:=Blk.new w3 54 #[.int .i64 ea,.int .i64 eb];have hT4:=HTB.out.later hb4;have hP4:=HB0x.out.later hb4;have hM4:=HMx.out.later hb4;have hB4:=bel_step HBx.out hb4;have hew:w.heap.size≤w3.heap.size:=Nat.le_trans HBx.out.size HB3.out.size;obtain⟨e,he⟩:∃e,w3.heap.size=e:=⟨_,rfl⟩;rw[he]at hE hew ⊢;have HEW:=Hd hew;clear hew;clear he z0 z1 z2 z3 HTB HB0x HMx HBx HB3 hb4;generalize w3.alloc (.cells #[.int .i64 ea,.int .i64 eb] 54)=w4 at *;obtain⟨z0,z1,z2,z3⟩:w4.cell? ⟨tb,0,none⟩=some (.int .i64 kd)∧w4.cell? ⟨tb,1,none⟩=some (.int .i64 tr)∧w4.cell? ⟨tb,2,none⟩=some (.int .i64 qa)∧w4.cell? ⟨tb,3,none⟩=some (.int .i64 qb):=⟨hT4.cell 0 _ rfl,hT4.cell 1 _ rfl,hT4.cell 2 _ rfl,hT4.cell 3 _ rfl⟩;obtain⟨y0,y1,_,_⟩:=hP4.two;have HDG4:=Hd (HDG.out _ hM4);have HE:=Hd hE;have HM4:=Hd hM4;have HB4:=Hd hB4;clear hE hM4 hB4 hT4 hP4 HDG HFD HPT
  go_upto_region 7 with(go_at_call 37;refine HDG4.out.mono ?_;rintro e' w5 ⟨vt,vr,rfl,hvt,hvr,hb5⟩;obtain⟨A1,c1,rfl⟩:=own_slice hvt;obtain⟨A2,c2,rfl⟩:=own_slice hvr;have HVT:=Hd hvt;have HVR:=Hd hvr;have HB5:=Hd hb5;clear hvt hvr hb5)
  obtain⟨C,hC⟩:∃C,dig M p ⟨kd,tr,qa,qb⟩=C:=⟨_,rfl⟩;rw[hC]at HVT HVR ⊢;have hb6:=bel_alloc HB5.out (.cells #[.slice A1 C.tris.length c1,.slice A2 C.rim.length c2,.bool C.cut] 85);have hb60:=bel_alloc (bel_refl w5) (.cells #[.slice A1 C.tris.length c1,.slice A2 C.rim.length c2,.bool C.cut] 85);have w4s:=HB4.out.size;have hVT:=own_later (own_base HVT.out w4s) hb60;have hI:=InS.start HM.out HF0.out hB (bel_step HB4.out hb6) (Blk.new w5 85 #[.slice A1 C.tris.length c1,.slice A2 C.rim.length c2,.bool C.cut]) (HE.out.later hb6) (Nat.le_trans w4s HB5.out.size) (by have:=HE.out.lt;have:=HEW.out;omega) hVT (own_later (own_base HVR.out w4s) hb60)
  have hfil:FillOk M v C sp:=by
   have:=HFI.out;rw[HP.out,hC]at this;exact this
  have hins:insertIn M v ⟨kd,tr,qa,qb⟩ sp=linkN (makeN v (dropN M C.tris C.tris.length) C.rim C.rim.length).2 sp C.rim (makeN v (dropN M C.tris C.tris.length) C.rim C.rim.length).1 C.rim.length:=by
   unfold insertIn;rw[HP.out,hC]
  have HFL:=Hd hfil;have HINS:=Hd hins;have HI:=Hd hI;have HVT6:=Hd hVT;have hcc:=hI.cV.cell 0 (.slice A1 C.tris.length c1) rfl;clear hC hb6 hb60 hVT hI hfil hins HB4 HB5 HE HEW HVT HVR HDG4 HFI HP HM HM4 HF0 y0 y1 z0 z1 z2 z3 w4s;generalize w5.alloc (.cells #[.slice A1 C.tris.length c1,.slice A2 C.rim.length c2,.bool C.cut] 85)=w6 at *;generalize w5.heap.size=c at *;have hft:∀g,(Value.slice A1 C.tris.length c1).ownBlock=some g→(fun k=>F0 k∨k=c∨k=e∨(Value.slice A1 C.tris.length c1).ownBlock=some k∨(Value.slice A2 C.rim.length c2).ownBlock=some k) g:=fun g hg=>.inr (.inr (.inr (.inl hg)))
  generalize (fun k=>F0 k∨k=c∨k=e∨(Value.slice A1 C.tris.length c1).ownBlock=some k∨(Value.slice A2 C.rim.length c2).ownBlock=some k)=F at *;have HFT:=Hd hft;obtain⟨n,hn⟩:∃n,C.tris.length=n:=⟨_,rfl⟩;have hnm:n≤1000000000:=by have:=HFL.out.free;omega
  have hn0:=hn;rw[hn]at HI HVT6 hcc HFT ⊢;have HN:=Hd hn0;clear hft hn hn0;go_wp2
  go_loopw [58] (fun a wr=>∃j:Nat,a=.int .i64 j∧j≤n∧Hid (InS F0 F B w wr b (dropN M C.tris j) c e (.slice A1 n c1) (.slice A2 C.rim.length c2) C.rim C.cut ea eb (.slice none 0 0) [])∧Hid (wr.ownsRow w.heap.size 3 1 (.slice A1 n c1) n (nv C.tris))) (fun a _=>n-(intOf a).toNat)
  case atStart=>exact⟨0,rfl,Nat.zero_le _,HI,HVT6⟩
  case round=>
   obtain⟨j,rfl,hj,HIj,HVj⟩:=hrel;by_cases hlt:j<n
   ·obtain⟨t,ht⟩:∃t,C.tris[j]? =some t:=⟨C.tris[j]'(by have:=HN.out;omega),List.getElem?_eq_getElem _⟩
    have htl2:t<M.tris.length:=HFL.out.drop t (List.mem_of_getElem? ht);obtain⟨g1,cc1,hA,_⟩:=own_shape HVj.out (by omega);obtain rfl:A1=some ⟨g1,0,none⟩:=by injection hA
    have hx1:wr.cell? ⟨g1,j,none⟩=some (.int .i64 t):=by
     rw[HVj.out.cellAt j (by omega),List.getElem?_map,ht];rfl
    have hdl:=dropN_len M C.tris j;have hdr:=Dp.drop_any F B b t (dropN M C.tris j) wr HIj.out.mesh HIj.out.fs (by rw[hdl.1];exact htl2) (by rw[hdl.1];exact T9) (by rw[hdl.2];have:=HFL.out.free;have:=HN.out;omega) (Nat.le_trans hB HIj.out.size)
    have hnext:(dropN M C.tris j).drop t=dropN M C.tris (j+1):=by
     show _=(dropN M C.tris j).drop (C.tris.getD j 0)
     rw[List.getD_eq_getElem?_getD,ht];rfl
    rw[hnext]at hdr;have HDR:=Hd hdr;have j0:(0:Int)≤(j:Int):=by omega
    have j1:(j:Int)<(n:Int):=by omega
    clear ht hdr hnext hdl hA
    go_wp2_with (go_at_call 38;refine HDR.out.mono ?_;rintro e' w7 ⟨rfl,hm7,hb7,hs7⟩;have HI7:=Hd (HIj.out.call hm7 hb7 hs7);have HV7:=Hd (own_same HVj.out fun g hg=>hs7 g (HFT.out g hg));clear hm7 hb7 hs7)
    go_roundw
    case rel=>exact⟨j+1,by go_num,by omega,HI7,HV7⟩
    case measure=>simp[intOf];omega
   ·have hjn:n=j:=by omega
    subst hjn
    go_upto_region 13 with(fail)
    obtain⟨m,hm⟩:∃m,C.rim.length=m:=⟨_,rfl⟩;have hm0:=hm;have hmm9:m≤1000000000:=by have:=HFL.out.few;omega
    have hIJ:=HIj.out;rw[←HN.out]at hIJ;generalize hM1:dropN M C.tris C.tris.length=M1 at *;have HM1:=Hd hM1;rw[HN.out]at hIJ;have hk1:=hIJ.cV.cell 1 (.slice A2 C.rim.length c2) rfl;rw[hm]at hk1;have HIJ:=Hd hIJ;have HMM:=Hd hm0;clear hIJ hM1 hm hm0 HIj HVj HVT6 HI;go_wp2
    go_loopw [15,69] (fun vm a wr=>∃(j:Nat) (G:Nat→Prop),a=.int .i64 j∧j≤m∧Hid (InS F0 G B w wr b (makeN v M1 C.rim j).1 c e (.slice A1 n c1) (.slice A2 C.rim.length c2) C.rim C.cut ea eb vm (makeN v M1 C.rim j).2)) (fun _ a _=>m-(intOf a).toNat)
    case atStart=>exact⟨0,F,rfl,Nat.zero_le _,HIJ⟩
    case round=>
     obtain⟨j,G,rfl,hj,HG⟩:=hrel;by_cases hlt:j<m
     ·have hjl:j<C.rim.length:=by have:=HMM.out;omega
      obtain⟨s,hs⟩:∃s,C.rim[j]? =some s:=⟨C.rim[j],List.getElem?_eq_getElem hjl⟩;have hsd:C.rim.getD j Side.zero=s:=by rw[List.getD_eq_getElem?_getD,hs];rfl
      obtain⟨A,hA⟩:∃A,makeN v M1 C.rim j=A:=⟨_,rfl⟩;have hok:=HFL.out.make j hjl;rw[HM1.out,hA,hsd]at hok;obtain⟨⟨o1,o2,o3⟩,⟨o4,o5,o6⟩,o7,o8,o9,o10,o11,o12⟩:=hok
      have hsucc:makeN v M1 C.rim (j+1)=rimStep v A s:=by
       show rimStep v (makeN v M1 C.rim j) (C.rim.getD j Side.zero)=_
       rw[hA,hsd]
      rw[hA]at HG;obtain⟨g2,cc2,hA2,_⟩:=own_shape HG.out.rO (by omega);obtain rfl:A2=some ⟨g2,0,none⟩:=by injection hA2
      have hcell:∀i,i<5→wr.cell? ⟨g2,j*5+i,none⟩=s.cs[i]?:=fun i hi=>by
       rw[HG.out.rO.cellAt (j*5+i) (by omega),flat_get Side.cs 5 (fun _=>rfl) C.rim j i hi,hs];rfl
      have e0:wr.cell? ⟨g2,j*5,none⟩=some (.int .i64 s.a):=hcell 0 (by omega);have e1:wr.cell? ⟨g2,j*5+1,none⟩=some (.int .i64 s.b):=hcell 1 (by omega);have e2:wr.cell? ⟨g2,j*5+2,none⟩=some (.int .i64 s.out):=hcell 2 (by omega);have e3:wr.cell? ⟨g2,j*5+3,none⟩=some (.int .i64 s.i):=hcell 3 (by omega);have e4:wr.cell? ⟨g2,j*5+4,none⟩=some (.bool s.fault):=hcell 4 (by omega);obtain⟨A3,c3,hA3⟩:=own_slice HG.out.mO;subst hA3;have j0:(0:Int)≤(j:Int):=by omega
      have j1:(j:Int)<(m:Int):=by omega
      obtain⟨G1,hG1⟩:∃G1:Nat→Prop,G1=fun k=>G k∨k=wr.heap.size:=⟨_,rfl⟩
      have hfb:G1 wr.heap.size:=by rw[hG1];exact .inr rfl
      have hIA:=HG.out.alloc hB (.cells #[.int .i64 s.a,.int .i64 s.b,.int .i64 s.out,.int .i64 s.i,.bool s.fault] 89);rw[←hG1]at hIA;have HFB:=Hd hfb;clear hG1 hfb;have hS0:=Blk.new wr 89 #[.int .i64 s.a,.int .i64 s.b,.int .i64 s.out,.int .i64 s.i,.bool s.fault];have hmk:=Mk.make_any G1 B b s.a s.b v A.1 _ hIA.mesh hIA.fs o1 o2 (Nat.le_trans hB hIA.size) o3 o4 o5 (by exact_mod_cast o6);have hml:A.2.length≤1000000000:=by rw[←hA,make_len];omega
      have HMK:=Hd hmk;have HIA:=Hd hIA;have HS0:=Hd hS0;have HSU:=Hd hsucc;have HO7:=Hd o7;have HO8:=Hd o8;have HO9:=Hd o9;have HO10:=Hd o10;have HO11:=Hd o11;have HO12:=Hd o12;clear hs hsd hA o1 o2 o3 o4 o5 o6 o7 o8 o9 o10 o11 o12 hsucc hA2 hcell hmk hIA hS0 hjl
      go_upto_region 16 with(fail)
      obtain⟨k0,k1,k2,k3,k4⟩:(wr.alloc (.cells #[.int .i64 s.a,.int .i64 s.b,.int .i64 s.out,.int .i64 s.i,.bool s.fault] 89)).cell? ⟨wr.heap.size,0,none⟩=some (.int .i64 s.a)∧(wr.alloc (.cells #[.int .i64 s.a,.int .i64 s.b,.int .i64 s.out,.int .i64 s.i,.bool s.fault] 89)).cell? ⟨wr.heap.size,1,none⟩=some (.int .i64 s.b)∧(wr.alloc (.cells #[.int .i64 s.a,.int .i64 s.b,.int .i64 s.out,.int .i64 s.i,.bool s.fault] 89)).cell? ⟨wr.heap.size,2,none⟩=some (.int .i64 s.out)∧(wr.alloc (.cells #[.int .i64 s.a,.int .i64 s.b,.int .i64 s.out,.int .i64 s.i,.bool s.fault] 89)).cell? ⟨wr.heap.size,3,none⟩=some (.int .i64 s.i)∧(wr.alloc (.cells #[.int .i64 s.a,.int .i64 s.b,.int .i64 s.out,.int .i64 s.i,.bool s.fault] 89)).cell? ⟨wr.heap.size,4,none⟩=some (.bool s.fault):=⟨HS0.out.cell 0 _ rfl,HS0.out.cell 1 _ rfl,HS0.out.cell 2 _ rfl,HS0.out.cell 3 _ rfl,HS0.out.cell 4 _ rfl⟩;generalize wr.alloc (.cells #[.int .i64 s.a,.int .i64 s.b,.int .i64 s.out,.int .i64 s.i,.bool s.fault] 89)=W1 at *;generalize wr.heap.size=sb at *;clear e0 e1 e2 e3 e4 hk1;obtain⟨r1,hr1⟩:∃r1,(A.1.make s.a s.b v).1=r1:=⟨_,rfl⟩;obtain⟨r2,hr2⟩:∃r2,(A.1.make s.a s.b v).2=r2:=⟨_,rfl⟩;rw[hr1,hr2]at HMK;rw[hr1]at HO8 HO10;rw[hr1,hr2]at HO7
      have hsu:makeN v M1 C.rim (j+1)=(r1.link r2 2 s.out.toNat s.i.toNat s.fault,A.2++[r2]):=by
       rw[HSU.out];unfold rimStep;simp only[hr1,hr2]
      have HSU2:=Hd hsu;clear hr1 hr2 hsu HSU
      go_upto_region 17 with(go_at_call 39;refine HMK.out.mono ?_;rintro e' w7 ⟨rfl,hm7,hb7,hs7⟩;have HI7:=Hd (HIA.out.call hm7 hb7 hs7);have HS7:=Hd (show Blk w7 sb 89 _ from(hs7 sb HFB.out).trans HS0.out);clear hm7 hb7 hs7)
      obtain⟨q0,q1,q2,q3,q4⟩:w7.cell? ⟨sb,0,none⟩=some (.int .i64 s.a)∧w7.cell? ⟨sb,1,none⟩=some (.int .i64 s.b)∧w7.cell? ⟨sb,2,none⟩=some (.int .i64 s.out)∧w7.cell? ⟨sb,3,none⟩=some (.int .i64 s.i)∧w7.cell? ⟨sb,4,none⟩=some (.bool s.fault):=⟨HS7.out.cell 0 _ rfl,HS7.out.cell 1 _ rfl,HS7.out.cell 2 _ rfl,HS7.out.cell 3 _ rfl,HS7.out.cell 4 _ rfl⟩;have hlk:=Lk.link_any G1 B b r2 2 s.out.toNat s.i.toNat s.fault r1 w7 HI7.out.mesh HO7.out HO10.out (by omega) HO12.out HO8.out;rw[Int.toNat_of_nonneg HO9.out,Int.toNat_of_nonneg HO11.out]at hlk;have HLK:=Hd hlk;clear hlk k0 k1 k2 k3 k4;obtain⟨i0,hi',hz0,hz1,hz2⟩:=info_parts Tryz.info3'
      go_wp2_with (first
       | (go_at_call 40;refine HLK.out.mono ?_;rintro e' w8 ⟨rfl,hm8,hb8,hs8⟩;have HI8:=Hd (HI7.out.call hm8 hb8 hs8);clear hm8 hb8 hs8)
       | (at_builtin;refine wpList_append_own_at _ rfl _ _ 37 rfl w.heap.size 3 i0 (.int .i64 0) 1 8 Tryz.underlying37 hi' hz0 hz1 hz2 rfl (by decide) (.slice A3 A.2.length c3) A.2.length (nv A.2) rfl (HI8.out.mO.alloc _) ⟨w8.heap.size,0,none⟩ 1 1 [.int .i64 r2] rfl rfl (cell_one_new _ _ _) (by simp[Value.oneCell']) (by show A.2.length+1≤_;unfold maxLen;omega) (by show(A.2.length+1)*8≤_;omega) (by have:=HI8.out.size;simp;omega) ?_;intro v3 w9 hown3 hgrow _ hat3;have HG9:=Hd (HI8.out.grow hB hown3 hgrow hat3 (fun g hg=>(hown3.lt g hg).2));clear hown3 hgrow hat3))
      go_roundw
      case rel=>
       have hg9:=HG9.out;rw[show A.2++[r2]=(makeN v M1 C.rim (j+1)).2 by rw[HSU2.out],show r1.link r2 2 s.out.toNat s.i.toNat s.fault=(makeN v M1 C.rim (j+1)).1 by rw[HSU2.out]]at hg9;exact⟨j+1,_,by go_num,by omega,Hd hg9⟩
      case measure=>simp[intOf];omega
     ·have hjm:m=j:=by omega
      subst hjm;obtain⟨ms,hms⟩:∃ms,(makeN v M1 C.rim m).2=ms:=⟨_,rfl⟩;obtain⟨A0,hA0⟩:∃A0,(makeN v M1 C.rim m).1=A0:=⟨_,rfl⟩;rw[hms,hA0]at HG;have hml:ms.length=m:=by rw[←hms,make_len]
      have hmp:0<m:=by have:=HFL.out.some;have:=HMM.out;omega
      obtain⟨g3,c3,rfl,_⟩:=own_shape HG.out.mO (by omega);have hk1:=HG.out.cV.cell 1 (.slice A2 C.rim.length c2) rfl;rw[HMM.out]at hk1;have HML:=Hd hml;have HMS:=Hd hms;have HA0:=Hd hA0;rw[hml]at HG ⊢;clear hml hms hA0 HIJ;go_wp2
      go_loopw [97] (fun a wr=>∃(j:Nat) (G:Nat→Prop),a=.int .i64 j∧j≤m∧Hid (InS F0 G B w wr b (linkN ms sp C.rim A0 j) c e (.slice A1 n c1) (.slice A2 C.rim.length c2) C.rim C.cut ea eb (.slice (some ⟨g3,0,none⟩) m c3) ms)) (fun a _=>m-(intOf a).toNat)
      case atStart=>exact⟨0,G,rfl,Nat.zero_le _,HG⟩
      case round=>
       obtain⟨j,G,rfl,hj,HG⟩:=hrel;by_cases hlt:j<m
       ·have hjl:j<C.rim.length:=by have:=HMM.out;omega
        obtain⟨s,hs⟩:∃s,C.rim[j]? =some s:=⟨C.rim[j],List.getElem?_eq_getElem hjl⟩
        have hok:LinkOk (linkN ms sp C.rim A0 j) (ms.getD j 0) (ms.getD ((j+1)%m) 0):=by
         have h1:=HFL.out.link j hjl;rw[HM1.out,HMM.out]at h1;simp only[HMS.out,HA0.out,HML.out]at h1;exact h1
        obtain⟨x,hx⟩:∃x,ms.getD j 0=x:=⟨_,rfl⟩;obtain⟨jn,hjn⟩:∃jn,(j+1)%m=jn:=⟨_,rfl⟩;have hjnm:jn<m:=hjn▸Nat.mod_lt _ hmp;obtain⟨y,hy⟩:∃y,ms.getD jn 0=y:=⟨_,rfl⟩;rw[hjn,hx,hy]at hok;obtain⟨o1,o2,o3⟩:=hok;have hsd:C.rim.getD j Side.zero=s:=by rw[List.getD_eq_getElem?_getD,hs];rfl
        obtain⟨r,hr⟩:∃r,sp s=r:=⟨_,rfl⟩;have hr2:=hsp s;rw[hr]at hr2
        have hsucc:linkN ms sp C.rim A0 (j+1)=(linkN ms sp C.rim A0 j).link x 0 y 1 r:=by
         show(linkN ms sp C.rim A0 j).link (ms.getD j 0) 0 (ms.getD ((j+1)%ms.length) 0) 1 (sp (C.rim.getD j Side.zero))=_
         rw[HML.out,hjn,hx,hy,hsd,hr]
        have hxc:ms[j]? =some x:=by rw[←hx,List.getD_eq_getElem?_getD,List.getElem?_eq_getElem (by have:=HML.out;omega)];rfl
        have hyc:ms[jn]? =some y:=by rw[←hy,List.getD_eq_getElem?_getD,List.getElem?_eq_getElem (by have:=HML.out;omega)];rfl
        obtain⟨g2,cc2,hA2,_⟩:=own_shape HG.out.rO (by omega);obtain rfl:A2=some ⟨g2,0,none⟩:=by injection hA2
        have hcell:∀i,i<5→wr.cell? ⟨g2,j*5+i,none⟩=s.cs[i]?:=fun i hi=>by
         rw[HG.out.rO.cellAt (j*5+i) (by omega),flat_get Side.cs 5 (fun _=>rfl) C.rim j i hi,hs];rfl
        have e0:wr.cell? ⟨g2,j*5,none⟩=some (.int .i64 s.a):=hcell 0 (by omega);have e1:wr.cell? ⟨g2,j*5+1,none⟩=some (.int .i64 s.b):=hcell 1 (by omega);have e2:wr.cell? ⟨g2,j*5+2,none⟩=some (.int .i64 s.out):=hcell 2 (by omega);have e3:wr.cell? ⟨g2,j*5+3,none⟩=some (.int .i64 s.i):=hcell 3 (by omega);have e4:wr.cell? ⟨g2,j*5+4,none⟩=some (.bool s.fault):=hcell 4 (by omega)
        have hmO:wr.ownsRow w.heap.size 3 1 (.slice (some ⟨g3,0,none⟩) m c3) m (nv ms):=by
         have:=HG.out.mO;rw[HML.out]at this;exact this
        have f0:wr.cell? ⟨g3,j,none⟩=some (.int .i64 x):=by
         rw[hmO.cellAt j (by omega),List.getElem?_map,hxc];rfl
        have f1:wr.cell? ⟨g3,jn,none⟩=some (.int .i64 y):=by
         rw[hmO.cellAt jn (by omega),List.getElem?_map,hyc];rfl
        have j0:(0:Int)≤(j:Int):=by omega
        have j1:(j:Int)<(m:Int):=by omega
        have jn0:(0:Int)≤(jn:Int):=by omega
        have jn1:(jn:Int)<(m:Int):=by omega
        have hb1:=bel_alloc (bel_refl wr) (.cells #[.int .i64 s.a,.int .i64 s.b,.int .i64 s.out,.int .i64 s.i,.bool s.fault] 89);have hIA:=HG.out.later hb1 hB;have hlk:=fun u (hu:MeshF G B u b (linkN ms sp C.rim A0 j))=>Lk.link_any G B b x 0 y 1 r _ u hu o1 o2 (by omega) (by omega) o3
        have F0':=cell_later f0 hb1;have F1':=cell_later f1 hb1;have HLK:=Hd hlk;have HIA:=Hd hIA;have HSU:=Hd hsucc;have HJN:=Hd hjn;have hE1:=HG.out.eV.later hb1;have hS1:=Blk.new wr 89 #[.int .i64 s.a,.int .i64 s.b,.int .i64 s.out,.int .i64 s.i,.bool s.fault];have HR2:=Hd hr2;clear hs hx hy hjn hsucc hxc hyc hA2 hcell hb1 hIA hlk hmO hjl o1 o2 o3 hsd hr hr2
        go_upto_region 23 with(fail)
        generalize wr.alloc (.cells #[.int .i64 s.a,.int .i64 s.b,.int .i64 s.out,.int .i64 s.i,.bool s.fault] 89)=W1 at *;generalize wr.heap.size=sb at *;clear e0 e1 e2 e3 e4 f0 f1;have z0:=hE1.cell 0 (.int .i64 ea) rfl;have z1:=hE1.cell 1 (.int .i64 eb) rfl;have z2:=hS1.cell 1 (.int .i64 s.b) rfl;clear hE1 hS1
        go_cut [21] (fun v21 wx=>v21=.bool r∧wx=W1)
        case first=>
          have hr3:=HR2.out;clear HR2 HSU HLK HIA HJN;obtain⟨q1,hq1⟩:∃q1,(s.b==ea)=q1:=⟨_,rfl⟩;obtain⟨q2,hq2⟩:∃q2,(s.b==eb)=q2:=⟨_,rfl⟩;rw[hq1,hq2]at hr3;cases fl<;>cases q1<;>cases q2<;>(simp only[Bool.false_and,Bool.true_and,Bool.or_false,Bool.or_self,Bool.or_true]at hr3;subst hr3;go_wp2_with fail;go_meet;exact⟨rfl,rfl⟩)
        case rest=>
        obtain⟨rfl,rfl⟩:=hcut;clear z0 z1 z2
        go_upto_region 24 with(fail)
        have l0:=Gq.Later.cell F0';have l1:=Gq.Later.cell F1';have wj:IntKind.i64.wrap ((j:Int)+1)=(j:Int)+1:=IntWalk.i64_in _ (by omega)
        have mj:Int.tmod ((j:Int)+1) (m:Int)=(jn:Int):=by
         rw[←HJN.out,Int.tmod_eq_emod_of_nonneg (by omega)];simp
        have wm:IntKind.i64.wrap (jn:Int)=(jn:Int):=IntWalk.i64_in _ (by omega);have m0:¬(m:Int)=0:=by omega
        have m00:((m:Int)==0)=false:=by simpa using m0
        clear F0' F1';refine Go.Gq.region_tail 14 (by kernel_rfl) (by kernel_rfl) ?_;simp only[List.take_succ_cons,List.take_zero,List.drop_succ_cons,List.drop_zero]
        repeat (go_big_quiet_step (fail))
        refine wpQuiet_nil ?_;intro wx hw';have HX:=Hd (Go.Gq.later_bel hw');clear hw' l0 l1 wj mj wm m0 m00;have hIX:=HIA.out.later HX.out hB;have hlx:=HLK.out wx hIX.mesh;have HIX:=Hd hIX;have HLX:=Hd hlx;clear hIX hlx
        go_wp2_with (go_at_call 40;refine HLX.out.mono ?_;rintro e' w8 ⟨rfl,hm8,hb8,hs8⟩;have HI8:=Hd (HIX.out.call hm8 hb8 hs8);clear hm8 hb8 hs8)
        go_roundw
        case rel=>
         have hi8:=HI8.out;rw[←HSU.out]at hi8;exact⟨j+1,_,by go_num,by omega,Hd hi8⟩
        case measure=>simp[intOf];omega
       ·have hjm:m=j:=by omega
        subst hjm
        have hins:insertIn M v ⟨kd,tr,qa,qb⟩ sp=linkN ms sp C.rim A0 m:=by
         rw[HINS.out,HMM.out,HMS.out,HA0.out]
        have HI2:=Hd hins;clear hins;go_wp2
        go_ret
        rw[HI2.out];refine⟨rfl,?_,HG.out.bel,HG.out.same⟩;obtain⟨pV,tV,fV,aV,hM,hf⟩:=HG.out.mesh;exact⟨pV,tV,fV,aV,hM,fun hb=>hf.1 (HG.out.f0 b hb),fun g hg hg0=>hf.2 g hg (HG.out.f0 g hg0)⟩
end Ix
end Go.Proofs.YtdihefgleefhmaaGreat
