import Derived.Test.YtdihefgleefhmaaGreatBd
namespace Go.Proofs.YtdihefgleefhmaaGreat
open Go.RowKit
def jnN(fa:Int→Int→Bool)(t:Nat)(v:Nat→Int)(A:Mesh×Open):Nat→Mesh×Open
 | 0=>A
 | i+1=>joinSide fa t v (jnN fa t v A i) i
def OpenOk(A:Mesh×Open):Prop:=∀x∈A.2,x.2.1<A.1.tris.length∧x.2.2<3
namespace Jw
open Jo
theorem mem_put'{α β:Type}[DecidableEq α]{k:α}{u:β} : ∀{l:List (α×β)} {x:α×β},x∈mput k u l→x∈l∨x=(k,u)
 | [],x,h=>by
  unfold mput at h;rw[List.mem_singleton]at h;exact .inr h
 | y::l,x,h=>by
  unfold mput at h
  split at h
  ·rcases List.mem_cons.1 h with h|h
   ·exact .inr h
   ·exact .inl (List.mem_cons_of_mem _ h)
  ·rcases List.mem_cons.1 h with h|h
   ·exact .inl (by rw[h];exact List.mem_cons_self)
   ·rcases mem_put' h with h|h
    ·exact .inl (List.mem_cons_of_mem _ h)
    ·exact .inr h
theorem side_ok{fa:Int→Int→Bool}{t:Nat}{v:Nat→Int}{A:Mesh×Open}{i:Nat}(h:OpenOk A)(ht:t<A.1.tris.length)(hi:i<3):OpenOk (joinSide fa t v A i)∧(joinSide fa t v A i).1.tris.length=A.1.tris.length:=by
 unfold joinSide
 split
 ·rename_i o ho
  refine⟨fun x hx=>?_,Kp.link_len _ _ _ _ _ _⟩;have:=h x ((De.del_sub _).subset hx);dsimp only at this ⊢;rw[Kp.link_len];exact this
 ·refine⟨fun x hx=>?_,rfl⟩
  rcases mem_put' hx with hx|rfl
  ·exact h x hx
  ·exact⟨ht,hi⟩
theorem jn_ok{fa:Int→Int→Bool}{t:Nat}{v:Nat→Int}{A:Mesh×Open}(h:OpenOk A)(ht:t<A.1.tris.length):∀i,i≤3→OpenOk (jnN fa t v A i)∧(jnN fa t v A i).1.tris.length=A.1.tris.length
 | 0,_=>⟨h,rfl⟩
 | i+1,hi=>by
  obtain⟨h1,h2⟩:=jn_ok (fa:=fa) (v:=v) h ht i (by omega);obtain⟨h3,h4⟩:=side_ok (fa:=fa) (t:=t) (v:=v) (i:=i) h1 (by rw[h2];exact ht) (by omega);exact⟨h3,h4.trans h2⟩
theorem look_ok{A:Mesh×Open}(h:OpenOk A){k:Int×Int}{o:Nat×Nat}(hk:mlook k A.2=some o):o.1<A.1.tris.length∧o.2<3:=by
 have:∀l:Open,mlook k l=some o→(k,o)∈l:=by
  intro l
  induction l with
  | nil=>intro h;cases h
  | cons x l ih=>
   intro h;unfold mlook at h
   split at h
   ·rename_i e
    cases h;rw[←e];exact List.mem_cons_self
   ·exact List.mem_cons_of_mem _ (ih h)
 exact h _ (this _ hk)
theorem int_wf'(n:Int)(h0:-2147483648≤n)(h1:n≤2147483648):(Lit.int .i64 n).wf=true:=by
 simp[Lit.wf,IntKind.min,IntKind.max,IntKind.signed,IntKind.bits];omega
attribute [local go_sem high] Pr.run_minI Pr.run_maxI
set_option maxHeartbeats 4000000 in
set_option maxRecDepth 100000 in
theorem join_any(F:Nat→Prop)(B:Nat)(w:World)(b ob mb fb om fm:Nat)(fl:List (Way×Int))(A:Mesh×Open)(t:Nat)(v:Nat→Int)(h:JoinS F B w w b ob mb fb om fm fl A)(hB:B≤w.heap.size)(hok:OpenOk A)(ht:t<A.1.tris.length)(hl:A.1.tris.length≤1000000000)(hv:∀j,-2≤v j∧v j≤1000000000) :
 Calls Tryz.prog 63 #[.int .i64 t,.agg #[.int .i64 (v 0),.int .i64 (v 1),.int .i64 (v 2)],.pointer (some ⟨ob,0,none⟩),.pointer (some ⟨mb,0,none⟩),.pointer (some ⟨fb,0,none⟩)] w fun e w'=>e=.returned (.tuple #[])∧JoinS F B w w' b ob mb fb om fm fl (joinTri (faOf fl) t v A):=by
 obtain⟨fa,hfa⟩:∃fa,faOf fl=fa:=⟨_,rfl⟩;rw[hfa];have HFA:=Hd hfa;have HH:=Hd h;have HOK:=Hd hok;have HV:=Hd hv;clear h hok hv hfa
 go_enter Tryz.func63,Tryz.ntmps63
 go_upto_region 1 with(fail)
 have hvb:=Blk.new w 40 #[.int .i64 (v 0),.int .i64 (v 1),.int .i64 (v 2)];have hJ:=HH.out.alloc hB (.cells #[.int .i64 (v 0),.int .i64 (v 1),.int .i64 (v 2)] 40);have hbw:=bel_alloc (bel_refl w) (.cells #[.int .i64 (v 0),.int .i64 (v 1),.int .i64 (v 2)] 40);obtain⟨vb,hvbe⟩:∃vb,w.heap.size=vb:=⟨_,rfl⟩;rw[hvbe]at hJ hvb ⊢;generalize w.alloc (.cells #[.int .i64 (v 0),.int .i64 (v 1),.int .i64 (v 2)] 40)=w1 at *;have HJ:=Hd hJ;have HVB:=Hd hvb;have HBW:=Hd hbw;have hob0:vb≠om:=by have:=HH.out.fs om HH.out.fo.2.2.2.1;omega
 have HOB:=Hd hob0;clear hJ hvb hbw hob0;go_wp2
 go_loopw [12] (fun a wr=>∃i:Nat,a=.int .i64 i∧i≤3∧Hid (JoinS (fun k=>F k∨k=vb) B w1 wr b ob mb fb om fm fl (jnN fa t v A i))) (fun a _=>3-(intOf a).toNat)
 case atStart=>exact⟨0,rfl,Nat.zero_le _,HJ⟩
 case round=>
  obtain⟨i,rfl,hi,HI⟩:=hrel;by_cases hlt:i<3
  ·have vk:=Hd (show Blk wr vb 40 _ from(HI.out.same vb (.inr rfl) HOB.out).trans HVB.out)
   obtain⟨j1,hj1⟩:∃j1,(i+1)%3=j1:=⟨_,rfl⟩;obtain⟨j2,hj2⟩:∃j2,(i+2)%3=j2:=⟨_,rfl⟩;have j1l:j1<3:=by omega
   have j2l:j2<3:=by omega
   have hc:∀j,j<3→wr.cell? ⟨vb,j,none⟩=some (.int .i64 (v j)):=fun j hj=>by
    rcases(show j=0∨j=1∨j=2 by omega)with rfl|rfl|rfl
    ·exact vk.out.cell 0 _ rfl
    ·exact vk.out.cell 1 _ rfl
    ·exact vk.out.cell 2 _ rfl
   have c1:=hc j1 j1l;have c2:=hc j2 j2l;have w1':IntKind.i64.wrap ((i:Int)+1)=(i:Int)+1:=IntWalk.i64_in _ (by omega);have w2':IntKind.i64.wrap ((i:Int)+2)=(i:Int)+2:=IntWalk.i64_in _ (by omega);have m1:Int.tmod ((i:Int)+1) 3=(j1:Int):=by rw[←hj1,Int.tmod_eq_emod_of_nonneg (by omega)];simp
   have m2:Int.tmod ((i:Int)+2) 3=(j2:Int):=by rw[←hj2,Int.tmod_eq_emod_of_nonneg (by omega)];simp
   have x1:IntKind.i64.wrap (j1:Int)=(j1:Int):=IntWalk.i64_in _ (by omega);have x2:IntKind.i64.wrap (j2:Int)=(j2:Int):=IntWalk.i64_in _ (by omega);have i0:(0:Int)≤(i:Int):=by omega
   have i3:(i:Int)<3:=by omega
   have p1:(0:Int)≤(j1:Int):=by omega
   have p2:(j1:Int)<3:=by omega
   have p3:(0:Int)≤(j2:Int):=by omega
   have p4:(j2:Int)<3:=by omega
   have wi:IntKind.i64.wrap ((i:Int)+1)=((i+1:Nat):Int):=by rw[IntWalk.i64_in _ (by omega)];omega
   have WI:=Hd wi;clear wi;have HJ1:=Hd hj1;have HJ2:=Hd hj2;clear hj1 hj2 hc
   go_upto_region 4 with(fail)
   go_cut [8,9] (fun v8 v9 wx=>v8=.int .i64 (v j1)∧v9=.int .i64 (v j2)∧Hid (Below wr.heap.size wr wx))
   case first=>
    go_quiet (fail)
    go_wp2_with fail
    go_meet
    exact⟨rfl,rfl,Hd ((bel_refl wr).trans ⟨rfl,rfl,rfl,Nat.le_refl _,fun _ _=>rfl⟩)⟩
   case rest=>
    obtain⟨rfl,rfl,HBX⟩:=hcut;clear c1 c2 w1' w2' m1 m2 x1 x2 p1 p2 p3 p4 vk;have hIx:=HI.out.later HBX.out (Nat.le_trans hB (Nat.le_trans HBW.out.size (by have:=HI.out.bel.size;have:=HBW.out.size;omega)));obtain⟨Ai,hAi⟩:∃Ai,jnN fa t v A i=Ai:=⟨_,rfl⟩;have hoki:=jn_ok (fa:=fa) (v:=v) HOK.out ht i (by omega);rw[hAi]at hIx hoki;obtain⟨ok1,ok2⟩:=hoki;have hnext:jnN fa t v A (i+1)=joinSide fa t v Ai i:=by rw[←hAi];rfl
    obtain⟨l,hl1,hl2⟩:=hIx.op;have ha:=HV.out j1;have hb':=HV.out j2;obtain⟨p,hp⟩:∃p,v j1=p:=⟨_,rfl⟩;obtain⟨q,hq⟩:∃q,v j2=q:=⟨_,rfl⟩
    have hjs:joinSide fa t v Ai i=match mlook (q,p) Ai.2 with
     | some o=>(Ai.1.link t i o.1 o.2 (fa p q),mdel (q,p) Ai.2)
     | none=>(Ai.1,mput (p,q) (t,i) Ai.2):=by
     unfold joinSide;rw[HJ1.out,HJ2.out,hp,hq];rfl
    rw[hp]at ha ⊢;rw[hq]at hb' ⊢;obtain⟨kq,hkq⟩:∃kq:Way,kq=⟨(q,p),int_wf' q (by omega) (by omega),int_wf' p (by omega) (by omega)⟩:=⟨_,rfl⟩;obtain⟨kp,hkp⟩:∃kp:Way,kp=⟨(p,q),int_wf' p (by omega) (by omega),int_wf' q (by omega) (by omega)⟩:=⟨_,rfl⟩;have hlk:=hl2.plain.look2 (P:=Tryz.prog) (t:=125) Tryz.underlying125 pr_ok (z:=((0,0):Nat×Nat)) (by rfl) kq;have hkq1:kq.1=(q,p):=by rw[hkq]
    have hkp1:kp.1=(p,q):=by rw[hkp]
    have hlo:mlook (q,p) Ai.2=mlook kq l:=by rw[←hl1,←hkq1];exact strip_look kq l
    have hde:mdel (q,p) Ai.2=strip (mdel kq l):=by rw[←hl1,←hkq1];exact strip_del kq l
    have hpu:mput (p,q) (t,i) Ai.2=strip (mput kp (t,i) l):=by rw[←hl1,←hkp1];exact strip_put kp _ l
    rw[hlo,hde,hpu]at hjs;simp only[hkq1,wayV]at hlk;cases hcase:mlook kq l with
    | none=>
     rw[hcase]at hlk hjs;simp only[Option.getD_none,Option.isSome_none,sideV]at hlk;simp only at hjs;have HJS:=Hd (hnext.trans hjs);have HIX:=Hd hIx;have HL2:=Hd hl2;have hobc:=hIx.hob.cell 0 (.map (some om)) rfl;have HKP:=Hd hkp1;have hBc:B≤wc.heap.size:=Nat.le_trans hB (Nat.le_trans HBW.out.size (by have:=HI.out.bel.size;have:=HBX.out.size;omega));have hbA:=bel_alloc (bel_refl wc) (.cells #[.int .i64 0,.int .i64 0] 127);have hI2:=hIx.later hbA hBc;have hM2:=hl2.later hbA;have HI2:=Hd hI2;have HM2:=Hd hM2;clear hnext hjs hlo hde hpu hIx hl1 hl2 hcase ok1 hkq hkp hkq1 hkp1 ha hb' hp hq HI HVB hbA hI2 hM2 hBc HIX HL2
     go_upto_region 9 with(fail)
     clear hlk hobc;generalize wc.alloc (.cells #[.int .i64 0,.int .i64 0] 127)=W2 at *;have hobc:=HI2.out.hob.cell 0 (.map (some om)) rfl;have wi:=WI.out
     go_wp2_with (at_mapUpdate;refine wpList_map_putS _ rfl _ _ _ 125 rfl Tryz.underlying125 pr_ok om rfl HM2.out kp ((t,i):Nat×Nat) (by show _=wayV kp.1;rw[HKP.out];rfl) rfl ?_;intro w5 hm5 hg5;have HI5:=Hd (HI2.out.grown hm5 hg5);clear hm5 hg5)
     go_roundw
     case rel=>exact⟨i+1,by go_num,by omega,Hd (by rw[HJS.out];exact HI5.out)⟩
     case measure=>simp[intOf];omega
    | some o=>
     rw[hcase]at hlk hjs;simp only[Option.getD_some,Option.isSome_some,sideV]at hlk;simp only at hjs;have hlook:=look_ok ok1 (show mlook (q,p) Ai.2=some o by rw[hlo];exact hcase);obtain⟨o1,o2⟩:=o;simp only at hlook hlk hjs;rw[←hde]at hjs;have HJS:=Hd (hnext.trans hjs);have hobc:=hIx.hob.cell 0 (.map (some om)) rfl;have HKQ:=Hd hkq1;have hBc:B≤wc.heap.size:=Nat.le_trans hB (Nat.le_trans HBW.out.size (by have:=HI.out.bel.size;have:=HBX.out.size;omega));have hbA:=bel_alloc (bel_refl wc) (.cells #[.int .i64 o1,.int .i64 o2] 127);have hT2:=Blk.new wc 127 #[.int .i64 o1,.int .i64 o2];have hI2:=hIx.later hbA hBc;have hM2:=hl2.later hbA;have hlen:=ok2;obtain⟨kf,hkf⟩:∃kf:Way,kf=⟨(min p q,max p q),int_wf' _ (by omega) (by omega),int_wf' _ (by omega) (by omega)⟩:=⟨_,rfl⟩;have hkf1:kf.1=(min p q,max p q):=by rw[hkf]
     have hfv:fa p q=(decide (0≤p)&&(decide (0≤q)&&decide (0<mget 0 kf fl))):=by
      rw[←HFA.out,←strip_get,hkf1];rfl
     have HI2:=Hd hI2;have HM2:=Hd hM2;have HT2:=Hd hT2;have HFV:=Hd hfv;have HKF:=Hd hkf1;obtain⟨lo1,lo2⟩:=hlook;have HLO:=Hd lo2;have HL1:=Hd lo1;have HLEN:=Hd hlen;clear hnext hjs hlo hde hpu hIx hl1 hl2 hcase ok1 hkq hkp hkq1 hkp1 ha hb' hp hq HI HVB hbA hI2 hM2 hBc hT2 hkf hkf1 hfv lo1 lo2 hlen ok2
     go_upto_region 7 with(fail)
     clear hlk hobc;generalize wc.alloc (.cells #[.int .i64 o1,.int .i64 o2] 127)=W2 at *;generalize wc.heap.size=tb at *;have l1:=Gq.Later.cell (HI2.out.hmb.cell 0 _ rfl);have l2:=Gq.Later.cell (HI2.out.hfb.cell 0 _ rfl);have l3:=Gq.Later.cell (HT2.out.cell 0 _ rfl);have l4:=Gq.Later.cell (HT2.out.cell 1 _ rfl)
     have lk:∀u:Gq.Later W2,(Instr.lookup 63 (.map (some fm)) (.agg #[.int .i64 (min p q),.int .i64 (max p q)]) false).run Tryz.prog u.w=.ok (.int .i64 (mget 0 kf fl)) u.w:=fun u=>by
      have:=(HI2.out.fmap.later u.bel).look (P:=Tryz.prog) (t:=63) Tryz.underlying63 pr_ok (z:=(0:Int)) (by rfl) kf;simp only[HKF.out,wayV]at this;exact this
     obtain⟨r,hr⟩:∃r,fa p q=r:=⟨_,rfl⟩;have HR:=Hd hr;clear hr
     go_cut [59] (fun _ wx=>Hid (JoinS (fun k=>F k∨k=vb) B w1 wx b ob mb fb om fm fl (Ai.1.link t i o1 o2 r,Ai.2)))
     case first=>
      obtain⟨g,hg⟩:∃g,mget 0 kf fl=g:=⟨_,rfl⟩;rw[hg]at HFV lk;have hlk2:=fun u (hu:MeshF (fun k=>F k∨k=vb) B u b Ai.1)=>Lk.link_any (fun k=>F k∨k=vb) B b t i o1 o2 r Ai.1 u hu (by have:=HLEN.out;omega) HL1.out (by omega) HLO.out (by have:=HLEN.out;omega)
      have HLK:=Hd hlk2;have hBw:B≤W2.heap.size:=by have:=HI2.out.bel.size;have:=HBW.out.size;omega
      have HBW2:=Hd hBw;have hfr:=HFV.out;rw[HR.out]at hfr;clear hlk2 hBw HFV HJS HKQ HKF HJ1 HJ2 HM2 HOK HV HH HFA HJ WI HLO HL1 HLEN HT2 HBX hAi
      have fin:∀wx,(∃u:Gq.Later W2,wx=u.w)→Hid (Calls Tryz.prog 40 #[.pointer (some ⟨b,0,none⟩),.int .i64 t,.int .i64 i,.int .i64 o1,.int .i64 o2,.bool r] wx fun e w'=>e=.returned (.tuple #[])∧Hid (JoinS (fun k=>F k∨k=vb) B w1 w' b ob mb fb om fm fl (Ai.1.link t i o1 o2 r,Ai.2))):=fun wx hx=>Hd (by
       have hI:=HI2.out.later (Go.Gq.later_bel hx) HBW2.out;exact(HLK.out wx hI.mesh).mono fun e w' ⟨a1,a2,a3,a4⟩=>⟨a1,Hd (hI.call a2 a3 a4)⟩)
      clear HR;by_cases c1:(0:Int)≤p
      ·by_cases c2:(0:Int)≤q
       ·by_cases c3:(0:Int)<g
        ·skip
         have er:r=true:=by rw[hfr];simp[c1,c2,c3]
         subst er;clear hfr;refine Go.Gq.region_tail 25 (by kernel_rfl) (by kernel_rfl) ?_;simp only[List.take_succ_cons,List.take_zero,List.drop_succ_cons,List.drop_zero]
         repeat (go_big_quiet_step (fail))
         refine wpQuiet_nil ?_;intro wx hw';have HF:=fin wx hw';clear fin hw' l1 l2 l3 l4 lk
         go_wp2_with (go_at_call 40;refine HF.out.mono ?_;rintro e' w8 ⟨rfl,hj8⟩)
         go_meet
         exact hj8
        ·skip
         have er:r=false:=by rw[hfr];simp[c1,c2,c3]
         subst er;clear hfr;refine Go.Gq.region_tail 25 (by kernel_rfl) (by kernel_rfl) ?_;simp only[List.take_succ_cons,List.take_zero,List.drop_succ_cons,List.drop_zero]
         repeat (go_big_quiet_step (fail))
         refine wpQuiet_nil ?_;intro wx hw';have HF:=fin wx hw';clear fin hw' l1 l2 l3 l4 lk
         go_wp2_with (go_at_call 40;refine HF.out.mono ?_;rintro e' w8 ⟨rfl,hj8⟩)
         go_meet
         exact hj8
       ·skip
        have er:r=false:=by rw[hfr];simp[c1,c2]
        subst er;clear hfr;refine Go.Gq.region_tail 25 (by kernel_rfl) (by kernel_rfl) ?_;simp only[List.take_succ_cons,List.take_zero,List.drop_succ_cons,List.drop_zero]
        repeat (go_big_quiet_step (fail))
        refine wpQuiet_nil ?_;intro wx hw';have HF:=fin wx hw';clear fin hw' l1 l2 l3 l4 lk
        go_wp2_with (go_at_call 40;refine HF.out.mono ?_;rintro e' w8 ⟨rfl,hj8⟩)
        go_meet
        exact hj8
      ·skip
       have er:r=false:=by rw[hfr];simp[c1]
       subst er;clear hfr;refine Go.Gq.region_tail 25 (by kernel_rfl) (by kernel_rfl) ?_;simp only[List.take_succ_cons,List.take_zero,List.drop_succ_cons,List.drop_zero]
       repeat (go_big_quiet_step (fail))
       refine wpQuiet_nil ?_;intro wx hw';have HF:=fin wx hw';clear fin hw' l1 l2 l3 l4 lk
       go_wp2_with (go_at_call 40;refine HF.out.mono ?_;rintro e' w8 ⟨rfl,hj8⟩)
       go_meet
       exact hj8
     case rest=>
      have HJ:=hcut;have hobc:=HJ.out.hob.cell 0 (.map (some om)) rfl;clear l1 l2 l3 l4 lk hcut;obtain⟨l5,e5,hm5⟩:=HJ.out.op;simp only at e5;have hjs:=HJS.out;rw[←HKQ.out,←e5,strip_del kq l5,HR.out]at hjs;obtain⟨w6,hrun,hm6,hg6⟩:=hm5.del (P:=Tryz.prog) (t:=125) Tryz.underlying125 pr_ok kq 54 0;have HI6:=Hd (HJ.out.grown hm6 hg6);have HJS2:=Hd hjs;have wi:=WI.out;simp only[HKQ.out,wayV]at hrun;clear hjs hm5 hm6 hg6 e5 HJS HKQ HKF HFV HLO HL1 HLEN HT2 HM2 HI2 HR HJ1 HJ2 HBX hAi;go_wp2;go_roundw
      case rel=>exact⟨i+1,by go_num,by omega,Hd (by rw[HJS2.out];exact HI6.out)⟩
      case measure=>simp[intOf];omega
  ·have hi3:i=3:=by omega
   subst hi3;have h3:jnN fa t v A 3=joinTri fa t v A:=rfl;rw[h3]at HI;go_wp2
   go_end0
   refine⟨rfl,?_⟩;have hm:=HI.out.mesh;obtain⟨pV,tV,fV,aV,hM,hF⟩:=hm;have hs:=HBW.out.size;exact⟨⟨pV,tV,fV,aV,hM,fun hb=>hF.1 (.inl hb),fun g hg hg0=>hF.2 g hg (.inl hg0)⟩,fun k hk=>HI.out.fs k (.inl hk),(HBW.out.mono hB).trans HI.out.bel,HI.out.hob,HI.out.hmb,HI.out.hfb,HI.out.op,HI.out.fmap,HH.out.fo,HH.out.ne,HH.out.ge,fun k hk hn=>(HI.out.same k (.inl hk) hn).trans (HBW.out.block k (HH.out.fs k hk))⟩
end Jw
end Go.Proofs.YtdihefgleefhmaaGreat
namespace Go.Proofs.YtdihefgleefhmaaGreat
structure Tidy(A:Mesh×Open)(N K:Nat):Prop where
 op:OpenOk A
 free:∀n∈A.1.free,n<A.1.tris.length
 fnod:A.1.free.Nodup
 few:A.1.free.length≤4
 len:A.1.tris.length≤N
 atl:A.1.at_.length=K
namespace Tidy
theorem made{A:Mesh×Open}{N K:Nat}(h:Tidy A N K)(a b c:Int):Tidy ((A.1.make a b c).1,A.2) (N+1) K∧(A.1.make a b c).2<(A.1.make a b c).1.tris.length:=by
 obtain⟨m1,m2,m3,m4,m5,m6,m7,m8,m9,m10⟩:=Kp.made_at A.1 (Tri.new a b c) h.free h.fnod;obtain⟨f1,f2⟩:=De.made_free A.1 (Tri.new a b c)
 have hBl:(A.1.made (Tri.new a b c)).1.tris.length≤A.1.tris.length+1:=by
  rcases Nat.lt_or_ge (A.1.tris.length+1) (A.1.made (Tri.new a b c)).1.tris.length with h'|h'
  ·have x1:=m8 A.1.tris.length (Nat.le_refl _) (by omega)
   have x2:=m8 (A.1.tris.length+1) (by omega) h';omega
  ·exact h'
 have hl:=h.len;have hf:=h.few;unfold Mesh.make;refine⟨⟨fun x hx=>?_,fun n hn=>?_,m6,?_,?_,?_⟩,m1⟩
 ·have:=h.op x hx
  exact⟨Nat.lt_of_lt_of_le this.1 m7,this.2⟩
 ·have:=h.free n (m5 n hn).1
  exact Nat.lt_of_lt_of_le this m7
 ·show(A.1.made (Tri.new a b c)).1.free.length≤4
  omega
 ·show(A.1.made (Tri.new a b c)).1.tris.length≤N+1
  omega
 ·show(setAt (setAt (setAt (A.1.made (Tri.new a b c)).1.at_ a _) b _) c _).length=K
  simp only[Kp.setAt_len];rw[m9];exact h.atl
theorem joined{fa:Int→Int→Bool}{A:Mesh×Open}{N K:Nat}(h:Tidy A N K){t:Nat}(ht:t<A.1.tris.length)(v:Nat→Int):Tidy (joinTri fa t v A) N K:=by
 obtain⟨a1,a2⟩:=Jw.jn_ok (fa:=fa) (v:=v) h.op ht 3 (Nat.le_refl _);have e:jnN fa t v A 3=joinTri fa t v A:=rfl;rw[e]at a1 a2;obtain⟨r1,r2,r3⟩:=De.tri_rest (fa:=fa) t v A;exact⟨a1,fun n hn=>by rw[a2];exact h.free n (r1▸hn),r1▸h.fnod,r1▸h.few,by rw[a2];exact h.len,by rw[r2];exact h.atl⟩
theorem one{fa:Int→Int→Bool}{A:Mesh×Open}{N K:Nat}(h:Tidy A N K)(v:T3):Tidy (joinOne fa A v) (N+1) K:=by
 obtain⟨h1,h2⟩:=made h v.1 v.2.1 v.2.2;exact joined h1 h2 _
theorem all{fa:Int→Int→Bool}{K:Nat} : ∀(L:List T3) {A:Mesh×Open} {N:Nat},Tidy A N K→Tidy (joinAll fa A L) (N+L.length) K
 | [],_,_,h=>h
 | v::L,A,N,h=>by
  have:=all (fa:=fa) L (one (fa:=fa) h v);rw[show N+(v::L).length=N+1+L.length by simp;omega];exact this
end Tidy
end Go.Proofs.YtdihefgleefhmaaGreat
