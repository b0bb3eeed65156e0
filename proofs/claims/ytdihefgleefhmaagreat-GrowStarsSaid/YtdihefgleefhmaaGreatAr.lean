import Derived.Test.YtdihefgleefhmaaGreatIt
import Derived.Deep.LoopGhost
namespace Go.Proofs.YtdihefgleefhmaaGreat
open Go.RowKit Go.Shelf
attribute [local go_sem] Oper.semAt_some
def aroundGo(M:Mesh)(v first: Nat):Nat→Nat→Option (List (Nat×Nat))
 | 0,_=>none
 | f+1,t=>if t<M.tris.length∧0≤Mr.place (tat M.tris t) v then
   (if (tat M.tris t).n (((Mr.place (tat M.tris t) v).toNat+1)%3)<0∨(tat M.tris t).n (((Mr.place (tat M.tris t) v).toNat+1)%3)=first then some [(t,(Mr.place (tat M.tris t) v).toNat)]
    else (aroundGo M v first f ((tat M.tris t).n (((Mr.place (tat M.tris t) v).toNat+1)%3)).toNat).map ((t,(Mr.place (tat M.tris t) v).toNat)::·))
  else none
def around(M:Mesh)(f v:Nat):Option (List (Nat×Nat)):=if iat M.at_ v<0 then some [] else aroundGo M v (iat M.at_ v).toNat f (iat M.at_ v).toNat
theorem place_lt(t:Tri)(v:Int):Mr.place t v=0∨Mr.place t v=1∨Mr.place t v=2∨Mr.place t v=-1:=by
 unfold Mr.place
 repeat' split
 all_goals simp
namespace Ar
open It
attribute [local go_sem] It.wide_fn It.wide_depth
def encP(x:Nat×Nat):Array Value:=#[.int .i64 x.1,.int .i64 x.2]
set_option maxRecDepth 100000 in
set_option maxHeartbeats 1000000 in
theorem around1(M:Mesh)(b bm bv gp cp gt ct ga ca:Nat)(fV:Value)(n l v f:Nat)(xs:List (Nat×Nat))(L:List Nat)(J Jx:List (Nat×Nat)→World→Prop)(hL:bm∈L∧bv∈L∧b∈L∧gp∈L∧gt∈L∧ga∈L)
  (hv:v<M.at_.length) (hx:around M f v=some xs)
  (hY:∀pre x W,pre++[x] <+: xs→J pre W→YieldAt Fence.wide (n-1) Tryz.prog l (encP x) W fun e W'=>
   (e=.returned (.bool true)∧J (pre++[x]) W'∧Keep L W W')∨(e=.returned (.bool false)∧Jx (pre++[x]) W'))
  (W:World) (hJ:AbidesFrom W.heap.size J) (hB:Blk W bm 26 #[.pointer (some ⟨b,0,none⟩)]) (hV:Blk W bv 3 #[.int .i64 v]) (hR:MR W b M gp cp gt ct ga ca fV) (h0:J [] W) :
  CallsIn Fence.wide n Tryz.prog 41 #[.func (.yield l) #[] #[],.pointer (some ⟨bm,0,none⟩),.pointer (some ⟨bv,0,none⟩)] W fun e W'=>(∃v,e=.returned v)∧
   (J xs W'∨∃pre,pre <+: xs∧Jx pre W'):=by
 have HY:=Hd hY;have HJ:=Hd hJ;have HR:=Hd hR;have HB:=Hd hB;have HV:=Hd hV;have HL:=Hd hL;have HX:=Hd hx;have k0:=hB.cells 0 (.pointer (some ⟨b,0,none⟩)) rfl;have k1:=hR.head.cells 3 (.slice (some ⟨ga,0,none⟩) M.at_.length ca) rfl;have k2:=hV.cells 0 (.int .i64 v) rfl;have k3:=Gq.Later.cell (hR.at_ v hv);clear hY hJ hR hB hL hx hV;have v0:(0:Int)≤(v:Int):=by omega
 have v1:(v:Int)<(M.at_.length:Int):=by omega
 refine callsIn_of_wp Tryz.func41 rfl trivial (wpIn_wide.2 ?_) rfl;simp only[Tryz.ntmps41,List.size_toArray,List.length_cons,List.length_nil,Nat.reduceAdd,Nat.reduceSub,Array.replicate_succ,Array.replicate_zero,List.push_toArray,List.append_toArray,List.nil_append,List.cons_append]
 go_upto_region 0 with(fail)
 refine Go.Gq.region (by kernel_rfl) (by kernel_rfl) ?_
 repeat (go_big_quiet_step ((fail)))
 refine wpQuiet_nil ?_;intro wx hw';have HW:=Hd (Go.Gq.later_bel hw');clear hw' k0 k1 k2 k3;have HBx:=Hd (HB.out.later HW.out);have HVx:=Hd (HV.out.later HW.out);have HRx:=Hd (HR.out.later HW.out);have hJx':=abides_later (J:=J []) (B:=W.heap.size) (fun _ A B row=>HJ.out _ A B row) h0 HW.out;have HJx:=Hd hJx';clear hJx' h0
 have HS:Hid (([]:List (Nat×Nat))++xs=xs∧((iat M.at_ v<0∧xs=[])∨(0≤iat M.at_ v∧0≤iat M.at_ v∧aroundGo M v (iat M.at_ v).toNat f (iat M.at_ v).toNat=some xs))):=by
  refine⟨rfl,?_⟩;have h:=HX.out;unfold around at h
  split at h
  ·cases h;exact .inl ⟨by assumption,rfl⟩
  ·exact .inr ⟨by omega,by omega,h⟩
 obtain⟨first,hfirst⟩:∃first,iat M.at_ v=first:= ⟨_,rfl⟩;rw[hfirst]at HS ⊢;clear hfirst HB HV HR HW HX;go_wp2
 go_loopg [5] f (fun g s5 wr=>∃(t:Int) (pre rest:List (Nat×Nat)),s5=.int .i64 t∧Hid (pre++rest=xs∧((t<0∧rest=[])∨(0≤t∧0≤first∧ aroundGo M v first.toNat g t.toNat=some rest)))∧Hid (Blk wr bm 26 #[.pointer (some ⟨b,0,none⟩)])∧Hid (Blk wr bv 3 #[.int .i64 v])∧Hid (MR wr b M gp cp gt ct ga ca fV)∧Hid (Below W.heap.size W W)∧Hid (J pre wr))
 case atStart=>exact⟨first,[],xs,rfl,HS,HBx,HVx,HRx,Hd (bel_refl _),HJx⟩
 case round=>
  obtain⟨t,pre,rest,rfl,HSr,HBr,HVr,HRr,_,HJr⟩:=hrel;clear HS HBx HVx HRx HJx;by_cases ht:t<0
  ·have ht2:¬(0≤t):=by omega
   have hend:pre=xs:=by
    obtain⟨h1,h2|h2⟩:=HSr.out
    ·rw[h2.2,List.append_nil]at h1;exact h1
    ·omega
   subst hend;go_wp2
   try rw[Exit.noGoto_ret]
   go_end0
   exact⟨⟨_,rfl⟩,.inl HJr.out⟩
  ·obtain⟨tn,rfl⟩:∃tn:Nat,t=tn:=⟨t.toNat,by omega⟩
   cases gk with
   | zero=>
    obtain⟨h1,h2|h2⟩:=HSr.out
    ·omega
    ·have:=h2.2.2;simp[aroundGo]at this
   | succ g=>
    obtain⟨hgo,hf0⟩:aroundGo M v first.toNat (g+1) tn=some rest∧0≤first:= by
     obtain⟨h1,h2|h2⟩:=HSr.out
     ·omega
     ·exact⟨h2.2.2,h2.2.1⟩
    obtain⟨T,hT⟩:∃T,tat M.tris tn=T:=⟨_,rfl⟩;unfold aroundGo at hgo;rw[hT]at hgo;have hc:tn<M.tris.length∧0≤Mr.place T v:=Classical.byContradiction fun hc=>by rw[if_neg hc]at hgo;cases hgo
    rw[if_pos hc]at hgo;obtain⟨htl,hpl⟩:=hc;have HGO:=Hd hgo;have HT:=Hd hT;have tt0:(0:Int)≤(tn:Int):=by omega
    have tt1:(tn:Int)<(M.tris.length:Int):=by omega
    have k0:=HBr.out.cells 0 (.pointer (some ⟨b,0,none⟩)) rfl;have k1:=HRr.out.head.cells 1 (.slice (some ⟨gt,0,none⟩) M.tris.length ct) rfl;have k2:=HVr.out.cells 0 (.int .i64 v) rfl;obtain⟨t0,t1,t2,t3,t4,t5,t6,t7,t8⟩:=HRr.out.tris tn htl;rw[hT]at t0 t1 t2 t3 t4 t5 t6 t7 t8
    replace t0:=Gq.Later.cell t0
    replace t1:=Gq.Later.cell t1
    replace t2:=Gq.Later.cell t2
    replace t3:=Gq.Later.cell t3
    replace t4:=Gq.Later.cell t4
    replace t5:=Gq.Later.cell t5
    replace t6:=Gq.Later.cell t6
    replace t7:=Gq.Later.cell t7
    replace t8:=Gq.Later.cell t8
    have HPL:=Hd (fun W=>Mr.place_any T v W);clear hgo hT
    go_upto_region 3 with(fail)
    rcases place_lt T v with h|h|h|h
    ·have hpl':=HPL.out
     rw[h]at hpl';have HPC:=Hd hpl';clear hpl'
     have hsplit:∃rest',rest=(tn,0)::rest'∧((T.n1<0∨T.n1=first.toNat)∧rest'=[]∨(0≤T.n1∧T.n1≠first.toNat∧aroundGo M v first.toNat g T.n1.toNat=some rest')):=by
      have hg':=HGO.out;rw[h]at hg';simp only[show(((0:Int).toNat+1)%3)=1 from rfl]at hg';have e:T.n 1=T.n1:=rfl;rw[e]at hg'
      split at hg'
      ·cases hg';exact⟨[],rfl,.inl ⟨by assumption,rfl⟩⟩
      ·rename_i hno
       obtain⟨r',h1,h2⟩:=Option.map_eq_some_iff.1 hg';exact⟨r',h2.symm,.inr ⟨by omega,by omega,h1⟩⟩
     obtain⟨rest',hr1,hr2⟩:=hsplit;have HR1:=Hd hr1;have HR2:=Hd hr2;clear hr1 hr2 h;refine Go.Gq.region (by kernel_rfl) (by kernel_rfl) ?_
     repeat (go_big_quiet_step ((go_at_call 42;exact Gq.call (HPC.out _))))
     refine wpQuiet_nil ?_;intro wx hw';have HW:=Hd (Go.Gq.later_bel hw');clear hw' k0 k1 k2 t0 t1 t2 t3 t4 t5 t6 t7 t8;have HB2:=Hd (HBr.out.later HW.out);have HRd2:=Hd (HRr.out.later HW.out);have HV2:=Hd (HVr.out.later HW.out);have hJ2:=abides_later (J:=J pre) (B:=W.heap.size) (fun _ A B row=>HJ.out _ A B row) HJr.out HW.out;have hpre:pre++[(tn,0)] <+: xs:=⟨rest',by rw[List.append_assoc,List.singleton_append,←HR1.out];exact HSr.out.1⟩;obtain⟨fn,tmps,assign,body,hy,hR⟩:YieldAt Fence.wide (n-1) Tryz.prog l #[.int .i64 (tn:Int),.int .i64 0] wx _:=HY.out pre (tn,0) wx hpre hJ2;have HRD:=Hd hR;have HPRE:=Hd hpre;clear hR hJ2 hpre
     go_upto_region 4 with(fail)
     refine(wpIn_wide (n:=n)).1 ?_
     gi_wp2
     refine HRD.out.mono ?_;rintro e W3 (⟨rfl,hJ3,hk3⟩|⟨rfl,hJx3⟩)
     ·have HB3:=Hd (hk3.blk HL.out.1 HB2.out)
      have HV3:=Hd (hk3.blk HL.out.2.1 HV2.out);have HR3:=Hd (HRd2.out.keep hk3 HL.out.2.2.1 HL.out.2.2.2.1 HL.out.2.2.2.2.1 HL.out.2.2.2.2.2);have HJ3:=Hd hJ3;clear hJ3 hk3;have k0:=HB3.out.cell 0 (.pointer (some ⟨b,0,none⟩)) rfl;have k1:=HR3.out.head.cell 1 (.slice (some ⟨gt,0,none⟩) M.tris.length ct) rfl
      have t3:W3.cell? ⟨gt,tn*9+4,none⟩=some (.int .i64 T.n1):=by
       obtain⟨_,_,_,t3,t4,t5,_,_,_⟩:=HR3.out.tris tn htl;rw[HT.out]at t3 t4 t5;exact t4
      gi_wp2
      go_upto_region 6 with(fail)
      clear k0 k1 t3;obtain⟨q,hq⟩:∃q,(T.n1==first)=q:=⟨_,rfl⟩;cases q
      ·have HQ:=Hd hq
       go_wp2
       go_roundg g
       case measure=>omega
       case rel=>
        refine⟨T.n1,pre++[(tn,0)],rest',rfl,?_,HB3,HV3,HR3,Hd (bel_refl _),HJ3⟩;have hq':=HQ.out;simp at hq';refine⟨by rw[List.append_assoc,List.singleton_append,←HR1.out];exact HSr.out.1,?_⟩;rcases HR2.out with⟨h1,h2⟩|⟨h1,h2,h3⟩
        ·exact .inl ⟨by omega,h2⟩
        ·exact .inr ⟨h1,hf0,h3⟩
      ·have HQ:=Hd hq
       go_wp2
       try rw[Exit.noGoto_ret]
       refine bodyPost_ret (results_none rfl _ _ _) rfl ?_;refine⟨⟨_,rfl⟩,.inl ?_⟩;have hq':=HQ.out;simp at hq'
       have hz:xs=pre++[(tn,0)]:=by
        rw[←HSr.out.1,HR1.out];rcases HR2.out with⟨h1,h2⟩|⟨h1,h2,h3⟩
        ·rw[h2]
        ·omega
       rw[hz];exact HJ3.out
     ·have HJ3:=Hd hJx3
      clear hJx3
      gi_wp2
      go_wp2
      try rw[Exit.noGoto_ret]
      refine bodyPost_ret (results_none rfl _ _ _) rfl ?_;exact⟨⟨_,rfl⟩,.inr ⟨_,HPRE.out,HJ3.out⟩⟩
    ·have hpl':=HPL.out
     rw[h]at hpl';have HPC:=Hd hpl';clear hpl'
     have hsplit:∃rest',rest=(tn,1)::rest'∧((T.n2<0∨T.n2=first.toNat)∧rest'=[]∨(0≤T.n2∧T.n2≠first.toNat∧aroundGo M v first.toNat g T.n2.toNat=some rest')):=by
      have hg':=HGO.out;rw[h]at hg';simp only[show(((1:Int).toNat+1)%3)=2 from rfl]at hg';have e:T.n 2=T.n2:=rfl;rw[e]at hg'
      split at hg'
      ·cases hg';exact⟨[],rfl,.inl ⟨by assumption,rfl⟩⟩
      ·rename_i hno
       obtain⟨r',h1,h2⟩:=Option.map_eq_some_iff.1 hg';exact⟨r',h2.symm,.inr ⟨by omega,by omega,h1⟩⟩
     obtain⟨rest',hr1,hr2⟩:=hsplit;have HR1:=Hd hr1;have HR2:=Hd hr2;clear hr1 hr2 h;refine Go.Gq.region (by kernel_rfl) (by kernel_rfl) ?_
     repeat (go_big_quiet_step ((go_at_call 42;exact Gq.call (HPC.out _))))
     refine wpQuiet_nil ?_;intro wx hw';have HW:=Hd (Go.Gq.later_bel hw');clear hw' k0 k1 k2 t0 t1 t2 t3 t4 t5 t6 t7 t8;have HB2:=Hd (HBr.out.later HW.out);have HRd2:=Hd (HRr.out.later HW.out);have HV2:=Hd (HVr.out.later HW.out);have hJ2:=abides_later (J:=J pre) (B:=W.heap.size) (fun _ A B row=>HJ.out _ A B row) HJr.out HW.out;have hpre:pre++[(tn,1)] <+: xs:=⟨rest',by rw[List.append_assoc,List.singleton_append,←HR1.out];exact HSr.out.1⟩;obtain⟨fn,tmps,assign,body,hy,hR⟩:YieldAt Fence.wide (n-1) Tryz.prog l #[.int .i64 (tn:Int),.int .i64 1] wx _:=HY.out pre (tn,1) wx hpre hJ2;have HRD:=Hd hR;have HPRE:=Hd hpre;clear hR hJ2 hpre
     go_upto_region 4 with(fail)
     refine(wpIn_wide (n:=n)).1 ?_
     gi_wp2
     refine HRD.out.mono ?_;rintro e W3 (⟨rfl,hJ3,hk3⟩|⟨rfl,hJx3⟩)
     ·have HB3:=Hd (hk3.blk HL.out.1 HB2.out)
      have HV3:=Hd (hk3.blk HL.out.2.1 HV2.out);have HR3:=Hd (HRd2.out.keep hk3 HL.out.2.2.1 HL.out.2.2.2.1 HL.out.2.2.2.2.1 HL.out.2.2.2.2.2);have HJ3:=Hd hJ3;clear hJ3 hk3;have k0:=HB3.out.cell 0 (.pointer (some ⟨b,0,none⟩)) rfl;have k1:=HR3.out.head.cell 1 (.slice (some ⟨gt,0,none⟩) M.tris.length ct) rfl
      have t3:W3.cell? ⟨gt,tn*9+5,none⟩=some (.int .i64 T.n2):=by
       obtain⟨_,_,_,t3,t4,t5,_,_,_⟩:=HR3.out.tris tn htl;rw[HT.out]at t3 t4 t5;exact t5
      gi_wp2
      go_upto_region 6 with(fail)
      clear k0 k1 t3;obtain⟨q,hq⟩:∃q,(T.n2==first)=q:=⟨_,rfl⟩;cases q
      ·have HQ:=Hd hq
       go_wp2
       go_roundg g
       case measure=>omega
       case rel=>
        refine⟨T.n2,pre++[(tn,1)],rest',rfl,?_,HB3,HV3,HR3,Hd (bel_refl _),HJ3⟩;have hq':=HQ.out;simp at hq';refine⟨by rw[List.append_assoc,List.singleton_append,←HR1.out];exact HSr.out.1,?_⟩;rcases HR2.out with⟨h1,h2⟩|⟨h1,h2,h3⟩
        ·exact .inl ⟨by omega,h2⟩
        ·exact .inr ⟨h1,hf0,h3⟩
      ·have HQ:=Hd hq
       go_wp2
       try rw[Exit.noGoto_ret]
       refine bodyPost_ret (results_none rfl _ _ _) rfl ?_;refine⟨⟨_,rfl⟩,.inl ?_⟩;have hq':=HQ.out;simp at hq'
       have hz:xs=pre++[(tn,1)]:=by
        rw[←HSr.out.1,HR1.out];rcases HR2.out with⟨h1,h2⟩|⟨h1,h2,h3⟩
        ·rw[h2]
        ·omega
       rw[hz];exact HJ3.out
     ·have HJ3:=Hd hJx3
      clear hJx3
      gi_wp2
      go_wp2
      try rw[Exit.noGoto_ret]
      refine bodyPost_ret (results_none rfl _ _ _) rfl ?_;exact⟨⟨_,rfl⟩,.inr ⟨_,HPRE.out,HJ3.out⟩⟩
    ·have hpl':=HPL.out
     rw[h]at hpl';have HPC:=Hd hpl';clear hpl'
     have hsplit:∃rest',rest=(tn,2)::rest'∧((T.n0<0∨T.n0=first.toNat)∧rest'=[]∨(0≤T.n0∧T.n0≠first.toNat∧aroundGo M v first.toNat g T.n0.toNat=some rest')):=by
      have hg':=HGO.out;rw[h]at hg';simp only[show(((2:Int).toNat+1)%3)=0 from rfl]at hg';have e:T.n 0=T.n0:=rfl;rw[e]at hg'
      split at hg'
      ·cases hg';exact⟨[],rfl,.inl ⟨by assumption,rfl⟩⟩
      ·rename_i hno
       obtain⟨r',h1,h2⟩:=Option.map_eq_some_iff.1 hg';exact⟨r',h2.symm,.inr ⟨by omega,by omega,h1⟩⟩
     obtain⟨rest',hr1,hr2⟩:=hsplit;have HR1:=Hd hr1;have HR2:=Hd hr2;clear hr1 hr2 h;refine Go.Gq.region (by kernel_rfl) (by kernel_rfl) ?_
     repeat (go_big_quiet_step ((go_at_call 42;exact Gq.call (HPC.out _))))
     refine wpQuiet_nil ?_;intro wx hw';have HW:=Hd (Go.Gq.later_bel hw');clear hw' k0 k1 k2 t0 t1 t2 t3 t4 t5 t6 t7 t8;have HB2:=Hd (HBr.out.later HW.out);have HRd2:=Hd (HRr.out.later HW.out);have HV2:=Hd (HVr.out.later HW.out);have hJ2:=abides_later (J:=J pre) (B:=W.heap.size) (fun _ A B row=>HJ.out _ A B row) HJr.out HW.out;have hpre:pre++[(tn,2)] <+: xs:=⟨rest',by rw[List.append_assoc,List.singleton_append,←HR1.out];exact HSr.out.1⟩;obtain⟨fn,tmps,assign,body,hy,hR⟩:YieldAt Fence.wide (n-1) Tryz.prog l #[.int .i64 (tn:Int),.int .i64 2] wx _:=HY.out pre (tn,2) wx hpre hJ2;have HRD:=Hd hR;have HPRE:=Hd hpre;clear hR hJ2 hpre
     go_upto_region 4 with(fail)
     refine(wpIn_wide (n:=n)).1 ?_
     gi_wp2
     refine HRD.out.mono ?_;rintro e W3 (⟨rfl,hJ3,hk3⟩|⟨rfl,hJx3⟩)
     ·have HB3:=Hd (hk3.blk HL.out.1 HB2.out)
      have HV3:=Hd (hk3.blk HL.out.2.1 HV2.out);have HR3:=Hd (HRd2.out.keep hk3 HL.out.2.2.1 HL.out.2.2.2.1 HL.out.2.2.2.2.1 HL.out.2.2.2.2.2);have HJ3:=Hd hJ3;clear hJ3 hk3;have k0:=HB3.out.cell 0 (.pointer (some ⟨b,0,none⟩)) rfl;have k1:=HR3.out.head.cell 1 (.slice (some ⟨gt,0,none⟩) M.tris.length ct) rfl
      have t3:W3.cell? ⟨gt,tn*9+3,none⟩=some (.int .i64 T.n0):=by
       obtain⟨_,_,_,t3,t4,t5,_,_,_⟩:=HR3.out.tris tn htl;rw[HT.out]at t3 t4 t5;exact t3
      gi_wp2
      go_upto_region 6 with(fail)
      clear k0 k1 t3;obtain⟨q,hq⟩:∃q,(T.n0==first)=q:=⟨_,rfl⟩;cases q
      ·have HQ:=Hd hq
       go_wp2
       go_roundg g
       case measure=>omega
       case rel=>
        refine⟨T.n0,pre++[(tn,2)],rest',rfl,?_,HB3,HV3,HR3,Hd (bel_refl _),HJ3⟩;have hq':=HQ.out;simp at hq';refine⟨by rw[List.append_assoc,List.singleton_append,←HR1.out];exact HSr.out.1,?_⟩;rcases HR2.out with⟨h1,h2⟩|⟨h1,h2,h3⟩
        ·exact .inl ⟨by omega,h2⟩
        ·exact .inr ⟨h1,hf0,h3⟩
      ·have HQ:=Hd hq
       go_wp2
       try rw[Exit.noGoto_ret]
       refine bodyPost_ret (results_none rfl _ _ _) rfl ?_;refine⟨⟨_,rfl⟩,.inl ?_⟩;have hq':=HQ.out;simp at hq'
       have hz:xs=pre++[(tn,2)]:=by
        rw[←HSr.out.1,HR1.out];rcases HR2.out with⟨h1,h2⟩|⟨h1,h2,h3⟩
        ·rw[h2]
        ·omega
       rw[hz];exact HJ3.out
     ·have HJ3:=Hd hJx3
      clear hJx3
      gi_wp2
      go_wp2
      try rw[Exit.noGoto_ret]
      refine bodyPost_ret (results_none rfl _ _ _) rfl ?_;exact⟨⟨_,rfl⟩,.inr ⟨_,HPRE.out,HJ3.out⟩⟩
    ·omega
theorem around_in(b n v:Nat)(w:World) :
  CallsIn Fence.wide n Tryz.prog 13 #[.pointer (some ⟨b,0,none⟩),.int .i64 v] w fun e w'=>e=.returned (.func (.func 41) #[] #[.pointer (some ⟨w.heap.size,0,none⟩),.pointer (some ⟨w.heap.size+1,0,none⟩)])∧w'=(w.alloc (.cells #[.pointer (some ⟨b,0,none⟩)] 26)).alloc (.cells #[.int .i64 v] 3):=by
 refine callsIn_of_wp Tryz.func13 rfl trivial ?_ rfl;simp only[Tryz.ntmps13,List.size_toArray,List.length_cons,List.length_nil,Nat.reduceAdd,Nat.reduceSub,Array.replicate_succ,Array.replicate_zero,List.push_toArray,List.append_toArray,List.nil_append,List.cons_append]
 gi_wp2
 go_ret
 exact⟨rfl,rfl⟩
abbrev Rim(M:Mesh)(v:Nat):={x:Nat×Nat // x.1<M.tris.length∧Mr.place (tat M.tris x.1) v=x.2 }
theorem Rim.lt{M:Mesh}{v:Nat}(x:Rim M v):x.1.2<3:=by
 have h:=x.2.2;rcases place_lt (tat M.tris x.1.1) v with e|e|e|e<;>omega
theorem aroundGo_mem{M:Mesh}{v first: Nat} : ∀{f t:Nat} {xs:List (Nat×Nat)},aroundGo M v first f t=some xs→∀x∈xs,x.1<M.tris.length∧Mr.place (tat M.tris x.1) v=x.2
 | 0,t,xs,h=>by simp[aroundGo]at h
 | f+1,t,xs,h=>by
  unfold aroundGo at h
  split at h
  ·rename_i hc
   have e:Mr.place (tat M.tris t) v=((Mr.place (tat M.tris t) v).toNat:Int):=by omega
   split at h
   ·cases h
    intro x hx;rw[List.mem_singleton]at hx;subst hx;exact⟨hc.1,e⟩
   ·obtain⟨r,hr,rfl⟩:=Option.map_eq_some_iff.1 h
    intro x hx;rcases List.mem_cons.1 hx with rfl|hx
    ·exact⟨hc.1,e⟩
    ·exact aroundGo_mem hr x hx
  ·cases h
theorem around_mem{M:Mesh}{v f:Nat}{xs:List (Nat×Nat)}(h:around M f v=some xs):∀x∈xs,x.1<M.tris.length∧Mr.place (tat M.tris x.1) v=x.2:=by
 unfold around at h
 split at h
 ·cases h;simp
 ·exact aroundGo_mem h
def encR(M:Mesh)(v:Nat)(x:Rim M v):Array Value:=#[.int .i64 x.1.1,.int .i64 x.1.2]
theorem around_pos(M:Mesh)(b bm bv gp cp gt ct ga ca:Nat)(fV:Value)(n v f:Nat)(xs:List (Nat×Nat))(L:List Nat)(w:World)(hL:bm∈L∧bv∈L∧b∈L∧gp∈L∧gt∈L∧ga∈L)
  (hv:v<M.at_.length) (hx:around M f v=some xs)
  (hB:Blk w bm 26 #[.pointer (some ⟨b,0,none⟩)]) (hV:Blk w bv 3 #[.int .i64 v]) (hR:MR w b M gp cp gt ct ga ca fV) :
  SeqStopsK Fence.wide n Tryz.prog 41 #[.pointer (some ⟨bm,0,none⟩),.pointer (some ⟨bv,0,none⟩)] (encR M v) (Keep L) (fun ys=>ys.map (·.1)=xs) (fun pre=>pre.map (·.1) <+: xs) xs.length w:=by
 intro l J Jx W hW hJ hJx hY h0;refine(around1 M b bm bv gp cp gt ct ga ca fV n l v f xs L (fun pre W=>∃ys:List (Rim M v),ys.map (·.1)=pre∧J ys W) (fun pre W=>∃ys:List (Rim M v),ys.map (·.1)=pre∧Jx ys W) hL hv hx ?_ W ?_ (hB.later hW) (hV.later hW) (hR.later hW) ⟨[],rfl,h0⟩).mono ?_
 ·rintro pre x W1 hp ⟨ys,hys,hj⟩
  have hl:ys.length<xs.length:=by
   have h1:=congrArg List.length hys;have h2:=hp.length_le;simp at h1 h2;omega
  have hm:=around_mem hx x (hp.subset (by simp));refine YieldAt.mono (hY ys ⟨x,hm⟩ W1 hj hl) ?_;rintro e W' (⟨he,h1,h2⟩|⟨he,h1⟩)
  ·exact .inl ⟨he,⟨_,by simp[hys],h1⟩,h2⟩
  ·exact .inr ⟨he,_,by simp[hys],h1⟩
 ·rintro pre A B row ⟨ys,hys,hj⟩ hg' hr
  exact⟨ys,hys,hJ ys A B row hj hg' hr⟩
 ·rintro e W' ⟨he,⟨ys,hys,hj⟩|⟨pre,hp,ys,hys,hj⟩⟩
  ·exact⟨he,.inl ⟨ys,hys,hj⟩⟩
  ·exact⟨he,.inr ⟨ys,by show ys.map (·.1) <+: xs;rw[hys];exact hp,hj⟩⟩
end Ar
end Go.Proofs.YtdihefgleefhmaaGreat
