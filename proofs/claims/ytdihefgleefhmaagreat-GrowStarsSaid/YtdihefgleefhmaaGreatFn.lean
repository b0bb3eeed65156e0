import Derived.Test.YtdihefgleefhmaaGreatIt
import Derived.Test.YtdihefgleefhmaaGreatWi
import Derived.WalkMore
import Derived.Deep.DeepCutAuto
import Derived.Deep.LoopGhost
namespace Go.Proofs.YtdihefgleefhmaaGreat
open Go.RowKit
def firstBeyond(M:Mesh)(t:Tri)(p:Pt):Option Nat:=if beyond M t 0 p=true then some 0 else if beyond M t 1 p=true then some 1 else if beyond M t 2 p=true then some 2 else none
def findGo(M:Mesh)(p:Pt):Nat→Nat→Nat→Option (Place×Nat)
 | 0,_,_=>none
 | f+1,t,s=>match firstBeyond M (tat M.tris t) p with
  | none=>some (within M t p,s+1)
  | some i=>if Mr.realB M ((tat M.tris t).n i)=true then findGo M p f ((tat M.tris t).n i).toNat (s+1) else some (⟨3,(tat M.tris t).n i,0,0⟩,s+1)
def Mesh.wf(M:Mesh):Prop:=∀i,i<M.tris.length→∀j,(tat M.tris i).v j<M.pts.length
theorem real_v(M:Mesh)(hw:M.wf)(t:Nat)(hr:Mr.realB M t=true):t<M.tris.length∧∃x0 x1 x2:Nat,(tat M.tris t).v0=x0∧(tat M.tris t).v1=x1∧(tat M.tris t).v2=x2∧x0<M.pts.length∧x1<M.pts.length∧x2<M.pts.length:=by
 unfold Mr.realB at hr;simp only[Bool.and_eq_true,decide_eq_true_eq,Int.toNat_natCast]at hr;obtain⟨⟨_,h1⟩,⟨h2,h3⟩,h4⟩:=hr;have hl:t<M.tris.length:=by omega
 have k0:(tat M.tris t).v0<M.pts.length:=hw t hl 0;have k1:(tat M.tris t).v1<M.pts.length:=hw t hl 1;have k2:(tat M.tris t).v2<M.pts.length:=hw t hl 2;exact⟨hl,(tat M.tris t).v0.toNat,(tat M.tris t).v1.toNat,(tat M.tris t).v2.toNat,by omega,by omega,by omega,by omega,by omega,by omega⟩
namespace Fn
open Wd Pr
theorem fb_some{M:Mesh}{T:Tri}{p:Pt}(i:Nat)(hi:i<3)(h:beyond M T i p=true)(hb:∀j,j<i→beyond M T j p=false):firstBeyond M T p=some i:=by
 unfold firstBeyond;rcases(show i=0∨i=1∨i=2 by omega)with rfl|rfl|rfl
 ·rw[if_pos h]
 ·rw[if_neg (by rw[hb 0 (by omega)];simp),if_pos h]
 ·rw[if_neg (by rw[hb 0 (by omega)];simp),if_neg (by rw[hb 1 (by omega)];simp),if_pos h]
theorem fb_none{M:Mesh}{T:Tri}{p:Pt}(hb:∀j,j<3→beyond M T j p=false):firstBeyond M T p=none:=by
 unfold firstBeyond;rw[if_neg (by rw[hb 0 (by omega)];simp),if_neg (by rw[hb 1 (by omega)];simp),if_neg (by rw[hb 2 (by omega)];simp)]
theorem go_real{M:Mesh}{p:Pt}{f t s i k:Nat}{r:Place}{T:Tri}(hT:tat M.tris t=T)(h:findGo M p (f+1) t s=some (r,k))(hf:firstBeyond M T p=some i)(hr:Mr.realB M (T.n i)=true) :
  T.n i=((T.n i).toNat:Int)∧Mr.realB M ((T.n i).toNat:Nat)=true∧findGo M p f (T.n i).toNat (s+1)=some (r,k):=by
 subst hT
 have hn:(tat M.tris t).n i=(((tat M.tris t).n i).toNat:Int):=by
  unfold Mr.realB at hr;simp only[Bool.and_eq_true,decide_eq_true_eq]at hr;omega
 refine⟨hn,by rw[←hn];exact hr,?_⟩;unfold findGo at h;rw[hf]at h;simp only[hr,if_true]at h;exact h
theorem go_off{M:Mesh}{p:Pt}{f t s i k:Nat}{r:Place}{T:Tri}(hT:tat M.tris t=T)(h:findGo M p (f+1) t s=some (r,k))(hf:firstBeyond M T p=some i)(hr:Mr.realB M (T.n i)=false) :
  r=⟨3,T.n i,0,0⟩∧k=s+1:=by
 subst hT;unfold findGo at h;rw[hf]at h;simp only[hr]at h;simp at h;exact⟨h.1.symm,h.2.symm⟩
theorem go_in{M:Mesh}{p:Pt}{f t s k:Nat}{r:Place}{T:Tri}(hT:tat M.tris t=T)(h:findGo M p (f+1) t s=some (r,k))(hf:firstBeyond M T p=none) :
  r=within M t p∧k=s+1:=by
 subst hT;unfold findGo at h;rw[hf]at h;simp at h;exact⟨h.1.symm,h.2.symm⟩
structure Laid(w W:World)(p:Pt):Prop where
 pt:Blk W w.heap.size 24 #[.int .i64 p.x,.int .i64 p.y]
 res:Blk W (w.heap.size+1) 78 #[.int .i64 0,.int .i64 0,.int .i64 0,.int .i64 0]
 bel:Below w.heap.size w W
theorem Laid.later{w W W':World}{p:Pt}(h:Laid w W p)(hb:Below W.heap.size W W'):Laid w W' p:=⟨h.pt.later hb,h.res.later hb,bel_step h.bel hb⟩
theorem set4{w W:World}{p:Pt}(h:Laid w W p)(a b c d:Value):Below w.heap.size w ((((W.setCell ⟨w.heap.size+1,0,none⟩ a).setCell ⟨w.heap.size+1,1,none⟩ b).setCell ⟨w.heap.size+1,2,none⟩ c).setCell ⟨w.heap.size+1,3,none⟩ d):=
 bel_set (bel_set (bel_set (bel_set h.bel (by omega) _ _) (by omega) _ _) (by omega) _ _) (by omega) _ _
set_option maxRecDepth 100000 in
set_option maxHeartbeats 4000000 in
theorem find_any(M:Mesh)(b:Nat)(p:Pt)(fr:Int)(bud:Nat)(w:World)(h:MeshR w b M)(ho:M.ok)(hw:M.wf)(hp:p.near)(hpl:0<M.pts.length)(htl:0<M.tris.length)(t0:Nat)(r:Place)(k:Nat)
  (hfr:(if Mr.realB M fr=true then fr else Fi.firstReal M)=t0) (hr0:Mr.realB M t0=true) (hg:findGo M p bud t0 0=some (r,k)) (hbud:bud≤1000000001) :
  Calls Tryz.prog 35 #[.pointer (some ⟨b,0,none⟩),pv p,.int .i64 fr,.int .i64 bud] w fun e w'=>e=.returned (.tuple #[plv r,.int .i64 k])∧Below w.heap.size w w':=by
 have H:=Hd h;have HO:=Hd ho;have HWF:=Hd hw;have HG:=Hd hg;have HPN:=Hd hp;have hL0:Below w.heap.size w ((w.alloc (.cells #[.int .i64 p.x,.int .i64 p.y] 24)).alloc (.cells #[.int .i64 0,.int .i64 0,.int .i64 0,.int .i64 0] 78)):=bel_alloc (bel_alloc (bel_refl w) _) _;have hRA:=Mr.real_any M b fr _ (h.later hL0);obtain⟨q,hq⟩:∃q,Mr.realB M fr=q:=⟨_,rfl⟩;rw[hq]at hRA hfr;have HRA:=Hd hRA;have HL0:=Hd hL0;clear h ho hw hg hRA hL0 hq hp;have hLd:Laid w ((w.alloc (.cells #[.int .i64 p.x,.int .i64 p.y] 24)).alloc (.cells #[.int .i64 0,.int .i64 0,.int .i64 0,.int .i64 0] 78)) p:=⟨(Blk.new _ _ _).alloc _,Blk.new' _ _ _ (by simp),HL0.out⟩;have HLd:=Hd hLd;clear hLd
 go_enter Tryz.func35,Tryz.ntmps35
 go_upto_region 4 with(fail)
 go_step3
 go_upto_if 19 with(go_at_call 56;refine HRA.out.mono ?_;rintro e w1 ⟨rfl,hb⟩;have HL1:=Hd (HLd.out.later hb);clear hb)
 go_cut [10] (fun v w'=>v=.int .i64 t0∧Hid (Laid w w' p))
 case first=>
  cases q
  ·have HF:=Hd (Fi.first_any M b _ (H.out.later HL1.out.bel) HO.out hpl htl)
   have HFR:Hid (Fi.firstReal M=t0):=Hd hfr;clear hfr
   go_wp2_with (go_at_call 64;refine HF.out.mono ?_;rintro e w2 ⟨rfl,hb⟩;have HL2:=Hd (HL1.out.later hb);clear hb)
   go_meet
   exact⟨by rw[HFR.out],HL2⟩
  ·have HFR:Hid (fr=t0):=Hd hfr
   clear hfr
   go_wp2_with fail
   go_meet
   exact⟨by rw[HFR.out],HL1⟩
 case rest=>
  rename_i wz
  obtain⟨rfl,HLz⟩:=hcut;go_wp2
  go_step3
  go_wp2;have HS:Hid (Mr.realB M t0=true∧findGo M p bud t0 0=some (r,k)):=⟨hr0,HG.out⟩;clear hr0 HG
  go_loopg [10,11] bud (fun f s10 s11 wr=>∃t s:Nat,s10=.int .i64 t∧s11=.int .i64 s∧s+f=bud∧Hid (Mr.realB M t=true∧findGo M p f t s=some (r,k))∧Hid (Laid w wr p))
  case atStart=>exact⟨t0,0,rfl,rfl,by omega,HS,HLz⟩
  case round=>
   obtain⟨t,s,rfl,rfl,hsf,HSt,HLw⟩:=hrel;clear HS HLz;cases gk with
   | zero=>have:=HSt.out.2;simp[findGo]at this
   | succ f=>
    have hsb:(s:Int)<(bud:Int):=by omega
    have ht0:(0:Int)≤(t:Int):=by omega
    have hs9:(s:Int)≤1000000001:=by omega
    obtain⟨hreal,hgo⟩:=HSt.out;obtain⟨htl',x0,x1,x2,e0,e1,e2,l0,l1,l2⟩:=real_v M HWF.out t hreal;have HGO:=Hd hgo;have HE:=Hd (And.intro e0 (And.intro e1 e2));clear hreal hgo e0 e1 e2 HSt;have HM:=Hd (H.out.later HLw.out.bel);obtain⟨gp,cp,gt,ct,ga,ca,fV,hM⟩:=HM.out;obtain⟨t0',t1,t2,t3,t4,t5,t6,t7,t8⟩:=hM.tris t htl';have k1:=hM.head.cell 1 (.slice (some ⟨gt,0,none⟩) M.tris.length ct) rfl;clear hM;obtain⟨T,hT⟩:∃T,tat M.tris t=T:=⟨_,rfl⟩;rw[hT]at t0' t1 t2 t3 t4 t5 t6 t7 t8 HE;have HT:=Hd hT;clear hT;have y:=(Blk.new wr 43 #[.int .i64 T.v0,.int .i64 T.v1,.int .i64 T.v2,.int .i64 T.n0,.int .i64 T.n1,.int .i64 T.n2,.bool T.f0,.bool T.f1,.bool T.f2]).cell;have y3:=y 3 (.int .i64 T.n0) rfl;have y4:=y 4 (.int .i64 T.n1) rfl;have y5:=y 5 (.int .i64 T.n2) rfl;clear y
    go_upto_region 8 with(fail)
    go_wp2;have HL1:=Hd (HLw.out.later (bel_alloc (bel_refl wr) (.cells #[.int .i64 T.v0,.int .i64 T.v1,.int .i64 T.v2,.int .i64 T.n0,.int .i64 T.n1,.int .i64 T.n2,.bool T.f0,.bool T.f1,.bool T.f2] 43)));have HB1:=Hd (Blk.new wr 43 #[.int .i64 T.v0,.int .i64 T.v1,.int .i64 T.v2,.int .i64 T.n0,.int .i64 T.n1,.int .i64 T.n2,.bool T.f0,.bool T.f1,.bool T.f2]);obtain⟨W1,hW1⟩:∃W1,wr.alloc (.cells #[.int .i64 T.v0,.int .i64 T.v1,.int .i64 T.v2,.int .i64 T.n0,.int .i64 T.n1,.int .i64 T.n2,.bool T.f0,.bool T.f1,.bool T.f2] 43)=W1:=⟨_,rfl⟩;obtain⟨B1,hB1⟩:∃B1,wr.heap.size=B1:=⟨_,rfl⟩;rw[hW1]at HL1 HB1 y3 y4 y5 ⊢;rw[hB1]at HB1 y3 y4 y5 ⊢;clear hW1 hB1 t0' t1 t2 t3 t4 t5 t6 t7 t8 k1 y3 y4 y5 HM;have HG0:Hid (∀j,j<0→beyond M T j p=false):=fun j hj=>absurd hj (by omega)
    go_loopg [40,10] 3 (fun g s40 s10 wq=>∃j:Nat,s40=.int .i64 j∧s10=.int .i64 t∧j+g=3∧Hid (∀j',j'<j→beyond M T j' p=false)∧Hid (Laid w wq p)∧Hid (Blk wq B1 43 #[.int .i64 T.v0,.int .i64 T.v1,.int .i64 T.v2,.int .i64 T.n0,.int .i64 T.n1,.int .i64 T.n2,.bool T.f0,.bool T.f1,.bool T.f2]))
    case atStart=>exact⟨0,rfl,rfl,rfl,HG0,HL1,HB1⟩
    case round=>
     clear HG0 HL1 HB1 HLw;obtain⟨j,rfl,rfl,hjg,HBe,HLq,HBq⟩:=hrel;rcases(show j=0∨j=1∨j=2∨j=3 by omega)with rfl|rfl|rfl|rfl
     ·have ix:∀w,(Instr.index 40 (.agg #[.int .i64 T.n0,.int .i64 T.n1,.int .i64 T.n2]) (.int .i64 0)).run Tryz.prog w=.ok (.int .i64 T.n0) w:=fun _=>by kernel_rfl
      have HBY:=Hd (fun W h=>By.beyond_any M b T 0 p W h HO.out (by omega) HPN.out x1 x2 HE.out.2.1 HE.out.2.2 l1 l2);obtain⟨q,hq⟩:∃q,beyond M T 0 p=q:=⟨_,rfl⟩;have HQ:=Hd hq;rw[hq]at HBY;clear hq
      go_upto_region 11 with(fail)
      obtain⟨y0,y1,y2,y3,y4,y5,y6,y7,y8⟩:=Blk.all9 HBq.out;have z0:=HLq.out.pt.cell 0 (.int .i64 p.x) rfl;have z1:=HLq.out.pt.cell 1 (.int .i64 p.y) rfl
      go_upto_if 49 with(go_at_call 65;refine(HBY.out _ (H.out.later HLq.out.bel)).mono ?_;rintro e w2 ⟨rfl,hb⟩;have HL2:=Hd (HLq.out.later hb);have HB2:=Hd (HBq.out.later hb);clear hb y0 y1 y2 y3 y4 y5 y6 y7 y8 z0 z1)
      cases q
      ·go_wp2
       go_roundg (3-1)
       case measure=>omega
       case rel=>exact⟨1,rfl,rfl,by omega,Hd (fun j' hj'=>by rcases Nat.lt_succ_iff_lt_or_eq.1 hj' with h|h;exact HBe.out j' h;exact h▸HQ.out),HL2,HB2⟩
      ·have HRN:=Hd (fun W h=>Mr.real_any M b T.n0 W h)
       obtain⟨q2,hq2⟩:∃q2,Mr.realB M T.n0=q2:=⟨_,rfl⟩;have HQ2:=Hd hq2;rw[hq2]at HRN;clear hq2;have HFB:=Hd (fb_some 0 (by omega) HQ.out HBe.out)
       go_upto_if 53 with(go_at_call 56;refine(HRN.out _ (H.out.later HL2.out.bel)).mono ?_;rintro e w3 ⟨rfl,hb⟩;have HL3:=Hd (HL2.out.later hb);clear hb)
       cases q2
       ·obtain⟨c0,c1,c2,c3,f0,f1,f2,f3⟩:=Wi.Blk.four HL3.out.res
        obtain⟨n0,n1,n2,n3⟩:=Wi.Blk.four_set (x':=.int .i64 3) (y':=.int .i64 T.n0) (z':=.int .i64 0) (u':=.int .i64 0) HL3.out.res;go_wp2;obtain⟨hr1,hk1⟩:=go_off HT.out HGO.out HFB.out HQ2.out;subst hr1 hk1
        try rw[Exit.noGoto_ret]
        exact bodyPost_ret (v:=.tuple #[plv ⟨3,T.n0,0,0⟩,.int .i64 ((s+1:Nat):Int)]) (by simp[results,Tryz.results35,go_sem,n0,n1,n2,n3,plv]) rfl ⟨rfl,set4 HL3.out _ _ _ _⟩
       ·obtain⟨hn,hr',hg'⟩:=go_real HT.out HGO.out HFB.out HQ2.out
        have HN:=Hd hn;have HR':=Hd hr';have HG':=Hd hg';clear hn hr' hg';go_wp2
        go_roundg f
        case measure=>omega
        case rel=>exact⟨T.n0.toNat,s+1,congrArg (Value.int .i64) HN.out,rfl,by omega,⟨HR'.out,HG'.out⟩,HL3⟩
     ·have ix:∀w,(Instr.index 40 (.agg #[.int .i64 T.n0,.int .i64 T.n1,.int .i64 T.n2]) (.int .i64 1)).run Tryz.prog w=.ok (.int .i64 T.n1) w:=fun _=>by kernel_rfl
      have HBY:=Hd (fun W h=>By.beyond_any M b T 1 p W h HO.out (by omega) HPN.out x2 x0 HE.out.2.2 HE.out.1 l2 l0);obtain⟨q,hq⟩:∃q,beyond M T 1 p=q:=⟨_,rfl⟩;have HQ:=Hd hq;rw[hq]at HBY;clear hq
      go_upto_region 11 with(fail)
      obtain⟨y0,y1,y2,y3,y4,y5,y6,y7,y8⟩:=Blk.all9 HBq.out;have z0:=HLq.out.pt.cell 0 (.int .i64 p.x) rfl;have z1:=HLq.out.pt.cell 1 (.int .i64 p.y) rfl
      go_upto_if 49 with(go_at_call 65;refine(HBY.out _ (H.out.later HLq.out.bel)).mono ?_;rintro e w2 ⟨rfl,hb⟩;have HL2:=Hd (HLq.out.later hb);have HB2:=Hd (HBq.out.later hb);clear hb y0 y1 y2 y3 y4 y5 y6 y7 y8 z0 z1)
      cases q
      ·go_wp2
       go_roundg (3-2)
       case measure=>omega
       case rel=>exact⟨2,rfl,rfl,by omega,Hd (fun j' hj'=>by rcases Nat.lt_succ_iff_lt_or_eq.1 hj' with h|h;exact HBe.out j' h;exact h▸HQ.out),HL2,HB2⟩
      ·have HRN:=Hd (fun W h=>Mr.real_any M b T.n1 W h)
       obtain⟨q2,hq2⟩:∃q2,Mr.realB M T.n1=q2:=⟨_,rfl⟩;have HQ2:=Hd hq2;rw[hq2]at HRN;clear hq2;have HFB:=Hd (fb_some 1 (by omega) HQ.out HBe.out)
       go_upto_if 53 with(go_at_call 56;refine(HRN.out _ (H.out.later HL2.out.bel)).mono ?_;rintro e w3 ⟨rfl,hb⟩;have HL3:=Hd (HL2.out.later hb);clear hb)
       cases q2
       ·obtain⟨c0,c1,c2,c3,f0,f1,f2,f3⟩:=Wi.Blk.four HL3.out.res
        obtain⟨n0,n1,n2,n3⟩:=Wi.Blk.four_set (x':=.int .i64 3) (y':=.int .i64 T.n1) (z':=.int .i64 0) (u':=.int .i64 0) HL3.out.res;go_wp2;obtain⟨hr1,hk1⟩:=go_off HT.out HGO.out HFB.out HQ2.out;subst hr1 hk1
        try rw[Exit.noGoto_ret]
        exact bodyPost_ret (v:=.tuple #[plv ⟨3,T.n1,0,0⟩,.int .i64 ((s+1:Nat):Int)]) (by simp[results,Tryz.results35,go_sem,n0,n1,n2,n3,plv]) rfl ⟨rfl,set4 HL3.out _ _ _ _⟩
       ·obtain⟨hn,hr',hg'⟩:=go_real HT.out HGO.out HFB.out HQ2.out
        have HN:=Hd hn;have HR':=Hd hr';have HG':=Hd hg';clear hn hr' hg';go_wp2
        go_roundg f
        case measure=>omega
        case rel=>exact⟨T.n1.toNat,s+1,congrArg (Value.int .i64) HN.out,rfl,by omega,⟨HR'.out,HG'.out⟩,HL3⟩
     ·have ix:∀w,(Instr.index 40 (.agg #[.int .i64 T.n0,.int .i64 T.n1,.int .i64 T.n2]) (.int .i64 2)).run Tryz.prog w=.ok (.int .i64 T.n2) w:=fun _=>by kernel_rfl
      have HBY:=Hd (fun W h=>By.beyond_any M b T 2 p W h HO.out (by omega) HPN.out x0 x1 HE.out.1 HE.out.2.1 l0 l1);obtain⟨q,hq⟩:∃q,beyond M T 2 p=q:=⟨_,rfl⟩;have HQ:=Hd hq;rw[hq]at HBY;clear hq
      go_upto_region 11 with(fail)
      obtain⟨y0,y1,y2,y3,y4,y5,y6,y7,y8⟩:=Blk.all9 HBq.out;have z0:=HLq.out.pt.cell 0 (.int .i64 p.x) rfl;have z1:=HLq.out.pt.cell 1 (.int .i64 p.y) rfl
      go_upto_if 49 with(go_at_call 65;refine(HBY.out _ (H.out.later HLq.out.bel)).mono ?_;rintro e w2 ⟨rfl,hb⟩;have HL2:=Hd (HLq.out.later hb);have HB2:=Hd (HBq.out.later hb);clear hb y0 y1 y2 y3 y4 y5 y6 y7 y8 z0 z1)
      cases q
      ·go_wp2
       go_roundg (3-3)
       case measure=>omega
       case rel=>exact⟨3,rfl,rfl,by omega,Hd (fun j' hj'=>by rcases Nat.lt_succ_iff_lt_or_eq.1 hj' with h|h;exact HBe.out j' h;exact h▸HQ.out),HL2,HB2⟩
      ·have HRN:=Hd (fun W h=>Mr.real_any M b T.n2 W h)
       obtain⟨q2,hq2⟩:∃q2,Mr.realB M T.n2=q2:=⟨_,rfl⟩;have HQ2:=Hd hq2;rw[hq2]at HRN;clear hq2;have HFB:=Hd (fb_some 2 (by omega) HQ.out HBe.out)
       go_upto_if 53 with(go_at_call 56;refine(HRN.out _ (H.out.later HL2.out.bel)).mono ?_;rintro e w3 ⟨rfl,hb⟩;have HL3:=Hd (HL2.out.later hb);clear hb)
       cases q2
       ·obtain⟨c0,c1,c2,c3,f0,f1,f2,f3⟩:=Wi.Blk.four HL3.out.res
        obtain⟨n0,n1,n2,n3⟩:=Wi.Blk.four_set (x':=.int .i64 3) (y':=.int .i64 T.n2) (z':=.int .i64 0) (u':=.int .i64 0) HL3.out.res;go_wp2;obtain⟨hr1,hk1⟩:=go_off HT.out HGO.out HFB.out HQ2.out;subst hr1 hk1
        try rw[Exit.noGoto_ret]
        exact bodyPost_ret (v:=.tuple #[plv ⟨3,T.n2,0,0⟩,.int .i64 ((s+1:Nat):Int)]) (by simp[results,Tryz.results35,go_sem,n0,n1,n2,n3,plv]) rfl ⟨rfl,set4 HL3.out _ _ _ _⟩
       ·obtain⟨hn,hr',hg'⟩:=go_real HT.out HGO.out HFB.out HQ2.out
        have HN:=Hd hn;have HR':=Hd hr';have HG':=Hd hg';clear hn hr' hg';go_wp2
        go_roundg f
        case measure=>omega
        case rel=>exact⟨T.n2.toNat,s+1,congrArg (Value.int .i64) HN.out,rfl,by omega,⟨HR'.out,HG'.out⟩,HL3⟩
     ·have HFB:=Hd (fb_none HBe.out)
      have HWI:=Hd (fun W h=>Wi.within_any M b t p W h HO.out htl' HPN.out x0 x1 x2 (HT.out▸HE.out.1) (HT.out▸HE.out.2.1) (HT.out▸HE.out.2.2) l0 l1 l2);obtain⟨c,hc⟩:∃c,within M t p=c:=⟨_,rfl⟩;have HC:=Hd hc;rw[hc]at HWI;clear hc;obtain⟨ck,ct',ca',cb⟩:=c;have z0:=HLq.out.pt.cell 0 (.int .i64 p.x) rfl;have z1:=HLq.out.pt.cell 1 (.int .i64 p.y) rfl
      go_wp2_with (go_at_call 66;refine(HWI.out _ (H.out.later HLq.out.bel)).mono ?_;rintro e w2 ⟨rfl,hb⟩;have HL2:=Hd (HLq.out.later hb);clear hb z0 z1;obtain⟨c0,c1,c2,c3,f0,f1,f2,f3⟩:=Wi.Blk.four HL2.out.res;obtain⟨n0,n1,n2,n3⟩:=Wi.Blk.four_set (x':=.int .i64 ck) (y':=.int .i64 ct') (z':=.int .i64 ca') (u':=.int .i64 cb) HL2.out.res;unfold plv)
      obtain⟨hr1,hk1⟩:=go_in HT.out HGO.out HFB.out;rw[HC.out]at hr1;subst hr1 hk1
      try rw[Exit.noGoto_ret]
      exact bodyPost_ret (v:=.tuple #[plv ⟨ck,ct',ca',cb⟩,.int .i64 ((s+1:Nat):Int)]) (by simp[results,Tryz.results35,go_sem,n0,n1,n2,n3,plv]) rfl ⟨rfl,set4 HL2.out _ _ _ _⟩
end Fn
end Go.Proofs.YtdihefgleefhmaaGreat
