import Derived.Test.YtdihefgleefhmaaGreatJw
import Derived.Test.YtdihefgleefhmaaGreatCl
namespace Go.Proofs.YtdihefgleefhmaaGreat
open Go.RowKit
namespace Bl
open Jo Jw
def TrisAt(W:World)(g:Nat)(R:List T3):Prop:=∀l,l<R.length→∀j,j<3→W.cell? ⟨g,l*3+j,none⟩=some (.int .i64 (De.tr R l j))
theorem TrisAt.later{W W':World}{g:Nat}{R:List T3}(h:TrisAt W g R)(hb:Below W.heap.size W W'):TrisAt W' g R:=fun l hl j hj=>cell_later (h l hl j hj) hb
theorem here{F:Nat→Prop}{B:Nat}{w W:World}{b ob mb fb om fm:Nat}{fl:List (Way×Int)}{A:Mesh×Open}(h:JoinS F B w W b ob mb fb om fm fl A):JoinS F B W W b ob mb fb om fm fl A:=
 ⟨h.mesh,h.fs,Below.refl _ _,h.hob,h.hmb,h.hfb,h.op,h.fmap,h.fo,h.ne,h.ge,fun _ _ _=>rfl⟩
theorem back{F F':Nat→Prop}{B:Nat}{w W W1 W2:World}{b ob mb fb om fm:Nat}{fl:List (Way×Int)}{A A2:Mesh×Open}(h:JoinS F B w W b ob mb fb om fm fl A)(h2:JoinS F' B W1 W2 b ob mb fb om fm fl A2)(hF:∀k,F k→F' k)(hb:Below B W W1)(hs:∀k,F k→W1.heap[k]? =W.heap[k]?):JoinS F B w W2 b ob mb fb om fm fl A2:=by
 obtain⟨pV,tV,fV,aV,hM,hf⟩:=h2.mesh;exact⟨⟨pV,tV,fV,aV,hM,fun hb=>hf.1 (hF _ hb),fun g hg hg0=>hf.2 g hg (hF _ hg0)⟩,fun k hk=>h2.fs k (hF k hk),(h.bel.trans hb).trans h2.bel,h2.hob,h2.hmb,h2.hfb,h2.op,h2.fmap,h.fo,h.ne,h.ge,fun k hk hn=>((h2.same k (hF k hk) hn).trans (hs k hk)).trans (h.same k hk hn)⟩
structure DropS(G:Nat→Prop)(W1 W:World)(b mb:Nat)(M:Mesh):Prop where
 mesh:MeshF G W1.heap.size W b M
 fs:∀k,G k→k<W.heap.size
 hmb:Blk W mb 26 #[.pointer (some ⟨b,0,none⟩)]
 gm:G mb
 bel:Below W1.heap.size W1 W
 same:∀k,k<W1.heap.size→W.heap[k]? =W1.heap[k]?
 gl:∀k,k<W1.heap.size→G k
theorem DropS.call{G:Nat→Prop}{W1 W W':World}{b mb:Nat}{M M':Mesh}(h:DropS G W1 W b mb M)(hm:MeshF G W1.heap.size W' b M')(hb:Below W1.heap.size W W')(hs:Same G W W'):DropS G W1 W' b mb M':=
 ⟨hm,fun k hk=>Nat.lt_of_lt_of_le (h.fs k hk) hb.size,(hs mb h.gm).trans h.hmb,h.gm,h.bel.trans hb,fun k hk=>(hs k (h.gl k hk)).trans (h.same k hk),h.gl⟩
theorem set_grown(W:World)(c i:Nat)(v:Value):W.grownBy (W.setCell ⟨c,i,none⟩ v) (some c):=
 have hb:=Below.setCell (Below.refl 0 W) (p:=(⟨c,i,none⟩:Addr)) (Nat.zero_le _) v
 ⟨hb.os,hb.tape,hb.output,hb.size,fun k _ hn=>heap_setCell_other W ⟨c,i,none⟩ k v (fun e=>hn (congrArg some e))⟩
theorem put_len{α β:Type}[DecidableEq α](k:α)(u:β):∀l:List (α×β),(mput k u l).length≤l.length+1
 | []=>by simp[mput]
 | x::l=>by
  unfold mput
  split
  ·simp
  ·have:=put_len k u l
   simp only[List.length_cons];omega
theorem side_open{fa:Int→Int→Bool}{t:Nat}{v:Nat→Int}{A:Mesh×Open}{P:Int×Int→Prop}(i:Nat)(hi:P (v ((i+1)%3),v ((i+2)%3)))(h:∀x∈A.2,P x.1):(joinSide fa t v A i).2.length≤A.2.length+1∧∀x∈(joinSide fa t v A i).2,P x.1:=by
 unfold joinSide
 split
 ·exact⟨Nat.le_succ_of_le (De.del_sub _).length_le,fun x hx=>h x ((De.del_sub _).subset hx)⟩
 ·refine⟨put_len _ _ _,fun x hx=>?_⟩
  rcases mem_put' hx with hx|rfl
  ·exact h x hx
  ·exact hi
theorem one_open{fa:Int→Int→Bool}{A:Mesh×Open}{P:Int×Int→Prop}(v:T3)(hv:∀i,i<3→P (tri3 v.1 v.2.1 v.2.2 ((i+1)%3),tri3 v.1 v.2.1 v.2.2 ((i+2)%3)))(h:∀x∈A.2,P x.1):(joinOne fa A v).2.length≤A.2.length+3∧∀x∈(joinOne fa A v).2,P x.1:=by
 unfold joinOne joinTri;dsimp only;obtain⟨a1,a2⟩:=side_open (fa:=fa) (t:=(A.1.make v.1 v.2.1 v.2.2).2) (A:=((A.1.make v.1 v.2.1 v.2.2).1,A.2)) (P:=P) 0 (hv 0 (by omega)) h;obtain⟨b1,b2⟩:=side_open (fa:=fa) (t:=(A.1.make v.1 v.2.1 v.2.2).2) 1 (hv 1 (by omega)) a2;obtain⟨c1,c2⟩:=side_open (fa:=fa) (t:=(A.1.make v.1 v.2.1 v.2.2).2) 2 (hv 2 (by omega)) b2;dsimp only at a1;exact⟨by omega,c2⟩
theorem all_open{fa:Int→Int→Bool}{P:Int×Int→Prop} : ∀(L:List T3) {A:Mesh×Open},(∀v∈L,∀i,i<3→P (tri3 v.1 v.2.1 v.2.2 ((i+1)%3),tri3 v.1 v.2.1 v.2.2 ((i+2)%3)))→(∀x∈A.2,P x.1)→(joinAll fa A L).2.length≤A.2.length+3*L.length∧∀x∈(joinAll fa A L).2,P x.1
 | [],_,_,h=>⟨by simp[joinAll],h⟩
 | v::L,A,hv,h=>by
  obtain⟨a1,a2⟩:=one_open (fa:=fa) v (hv v (by simp)) h;obtain⟨b1,b2⟩:=all_open (fa:=fa) L (fun u hu=>hv u (by simp[hu])) a2;refine⟨?_,b2⟩;simp only[List.length_cons];have e:joinAll fa A (v::L)=joinAll fa (joinOne fa A v) L:=rfl;rw[e];omega
theorem grown_bel{w W W':World}{B e s n:Nat}{v:Value}{xs:List Value}{o:Obj}(h:Below w.heap.size w W)(hg:(W.alloc o).grownBy W' v.ownBlock)(ho:W.ownsRow B e s v n xs)(hB:w.heap.size≤B):Below w.heap.size w W':=
 have hA:=bel_alloc h o
 ⟨hg.os.trans hA.os,hg.tape.trans hA.tape,hg.output.trans hA.output,Nat.le_trans hA.size hg.size,fun k hk=>(hg.block k (Nat.lt_of_lt_of_le hk hA.size) fun e=>by
  have:=(ho.lt k e.symm).1;omega).trans (hA.block k hk)⟩
theorem sub_len{α:Type}[DecidableEq α]:∀(l k:List α),l.Nodup→(∀x∈l,x∈k)→l.length≤k.length
 | [],_,_,_=>Nat.zero_le _
 | x::l,k,hn,h=>by
  have hx:=h x (by simp);have:=sub_len l (k.erase x) (List.nodup_cons.1 hn).2 fun y hy=>(List.mem_erase_of_ne (fun e=>(List.nodup_cons.1 hn).1 (by rw[←e];exact hy))).2 (h y (by simp[hy]))
  rw[List.length_erase_of_mem hx]at this;have h0:0<k.length:=List.length_pos_of_mem hx;simp only[List.length_cons];omega
abbrev wayCs(p:Way):List Value:=[.int .i64 p.1.1,.int .i64 p.1.2]
theorem MAt.down{B B':Nat}{W:World}{b:Nat}{M:Mesh}{pV tV fV aV:Value}(h:MAt B W b M pV tV fV aV)(hb:B'≤B):MAt B' W b M pV tV fV aV:=
 ⟨h.head,Nat.le_trans hb h.le,Cl.own_down h.pts hb,Cl.own_down h.tris hb,Cl.own_down h.free hb,Cl.own_down h.at_ hb,h.apart⟩
theorem info54':(Tryz.prog.info? 54).map (fun i=>(i.zero,i.size,i.bytes))=some (some (.agg #[.int .i64 0,.int .i64 0]),2,16):=by kernel_rfl
theorem widen{F:Nat→Prop}{B:Nat}{w W W':World}{b ob mb fb om fm:Nat}{fl:List (Way×Int)}{A:Mesh×Open}(h:JoinS F B w W b ob mb fb om fm fl A)(hB:B≤W.heap.size)(hb:Below W.heap.size W W') :
 JoinS (fun k=>F k∨(W.heap.size≤k∧k<W'.heap.size)) B W' W' b ob mb fb om fm fl A:=
 have hA:=h.later hb hB
 {mesh:=(h.mesh.wider _ fun _ hk=>hk.elim .inl fun hk=>.inr hk.1).later hb
  fs:=fun _ hk=>hk.elim (hA.fs _) fun hk=>hk.2
  bel:=Below.refl _ _
  hob:=hA.hob,hmb:=hA.hmb,hfb:=hA.hfb,op:=hA.op,fmap:=hA.fmap
  fo:=⟨.inl h.fo.1,.inl h.fo.2.1,.inl h.fo.2.2.1,.inl h.fo.2.2.2.1,.inl h.fo.2.2.2.2⟩
  ne:=h.ne,ge:=h.ge
  same:=fun _ _ _=>rfl }
set_option maxHeartbeats 40000000 in
set_option maxRecDepth 100000 in
theorem build_any(gp cp gt ct fm:Nat)(l:List Pt)(R:List T3)(fl:List (Way×Int))(a b c:Nat)(w:World)(hP:PtsAt w gp l)(hn:nearAll l)(hT:TrisAt w gt R)(hF:MapAt (fun p:Way=>wayV p.1) (Value.int .i64) w fm fl)
 (h0:0<R.length) (h1:R.length≤1000) (hl9:l.length≤1000) (ha:a<l.length) (hb:b<l.length) (hc:c<l.length) (ho:0<ori (pat l a) (pat l b) (pat l c)) (e0:De.tr R 0 0=a) (e1:De.tr R 0 1=b) (e2:De.tr R 0 2=c)
 (hv:∀x,x<R.length→∀j,j<3→0≤De.tr R x j∧De.tr R x j<l.length) (A0:Mesh×Open) (hA0:A0=(dropN (newOf l a b c) [0,1,2,3] 4,[])) (A1:Mesh×Open) (hA1:A1=joinAll (faOf fl) A0 R) :
 Calls Tryz.prog 31 #[.slice (some ⟨gp,0,none⟩) l.length cp,.slice (some ⟨gt,0,none⟩) R.length ct,.map (some fm)] w fun e w'=>∃(mb:Nat) (D:List (Int×Int)),e=.returned (.pointer (some ⟨mb,0,none⟩))∧D.Perm (A1.2.map (·.1))∧MeshAt w.heap.size w' mb (joinAll (faOf fl) A1 (D.map ghost3)).1∧Below w.heap.size w w':=by
 have hnw:=fun u (hu:Below w.heap.size w u)=>Nw.new_any gp cp l a b c u (hP.later hu) hn ha hb hc (by omega) (by omega)
 rw[show newMesh l a b c=newOf l a b c by unfold newMesh;rw[if_neg (by omega)]]at hnw;have HNW:=Hd hnw;have t0:=hT 0 h0 0 (by omega);have t1:=hT 0 h0 1 (by omega);have t2:=hT 0 h0 2 (by omega);rw[e0]at t0;rw[e1]at t1;rw[e2]at t2;have HT:=Hd hT;have HF:=Hd hF;have HV:=Hd hv
 have htid:Tidy A0 4 l.length:=by
  rw[hA0,Jb.new_eq];refine⟨fun x hx=>(by cases hx),fun y hy=>?_,(by decide:([0,1,2,3]:List Nat).Nodup),Nat.le_refl 4,Nat.le_refl 4,?_⟩
  ·have hy':y∈[0,1,2,3]:=hy
   show y<4
   simp only[List.mem_cons,List.not_mem_nil,or_false]at hy';omega
  ·show(Jb.at0 l a b c).length=_
   unfold Jb.at0;simp only[Kp.setAt_len];unfold Mesh.empty;simp
 have HA0:=Hd hA0;have HA1:=Hd hA1;have hml:fm<w.heap.size:=hF.lt;obtain⟨n,hn'⟩:∃n,l.length=n:=⟨_,rfl⟩;obtain⟨m,hm'⟩:∃m,R.length=m:=⟨_,rfl⟩;rw[hn']at HNW ha hb hc hl9 htid ⊢;have AT:=Hd htid;clear htid;rw[hm']at h0 h1 ⊢;have HN:=Hd hn';have HM:=Hd hm';have i0:(0:Int)<(m:Int):=by omega
 have hgt:gt<w.heap.size:=World.block_lt_of_cell? _ _ t0;have HGT:=Hd hgt;clear hgt;clear hnw hP hn hT hF hv hA0 hA1 ho e0 e1 e2 hn' hm';have hmm:=@run_makeMap Tryz.prog
 go_enter Tryz.func31,Tryz.ntmps31
 go_upto_region 1 with(fail)
 have hfb:=Blk.new w 63 #[.map (some fm)];have hb1:=bel_alloc (bel_refl w) (.cells #[.map (some fm)] 63);have t0':=cell_later t0 hb1;have t1':=cell_later t1 hb1;have t2':=cell_later t2 hb1;obtain⟨fb,hfe⟩:∃fb,w.heap.size=fb:=⟨_,rfl⟩;have HFE:=Hd hfe;rw[hfe]at hfb ⊢;clear t0 t1 t2 hfe;generalize w.alloc (.cells #[.map (some fm)] 63)=W1 at *;have HFB:=Hd hfb;have HB1:=Hd hb1;clear hfb hb1
 go_cut [7,8] (fun v7 v8 wx=>∃(mb bb:Nat),v7=.pointer (some ⟨mb,0,none⟩)∧v8=.bool true∧W1.heap.size≤mb∧Hid (MeshF (fun k=>k<W1.heap.size∨k=mb) W1.heap.size wx bb (newOf l a b c))∧Hid (Blk wx mb 26 #[.pointer (some ⟨bb,0,none⟩)])∧Hid (Below W1.heap.size W1 wx))
 case first=>
  have l0:∀u,Below W1.heap.size W1 u→u.cell? ⟨gt,0,none⟩=some (.int .i64 a):=fun u hu=>cell_later t0' hu
  have l1:∀u,Below W1.heap.size W1 u→u.cell? ⟨gt,1,none⟩=some (.int .i64 b):=fun u hu=>cell_later t1' hu
  have l2:∀u,Below W1.heap.size W1 u→u.cell? ⟨gt,2,none⟩=some (.int .i64 c):=fun u hu=>cell_later t2' hu
  clear t0' t1' t2'
  go_region_held3 (fun w'=>Below W1.heap.size W1 w') (first| exact bel_drew (bel_refl _)|exact bel_alloc (by assumption) _|exact bel_alloc (bel_step (bel_drew (bel_refl _)) (by assumption)) _|exact bel_step (by assumption) (by assumption)|(repeat (first| assumption|refine bel_drew ?_|refine bel_alloc ?_ _|refine bel_set ?_ (Nat.le_refl _) _ _))) ((go_at_call 48;refine(HNW.out _ (bel_step HB1.out (by assumption))).mono ?_;rintro e w2 ⟨bb,rfl,hm2,hb2⟩;have HM2:=Hd hm2;clear hm2;try (have ty:=Blk.later (Blk.new' (n:=W1.heap.size) W1.drew 26 #[.pointer none] rfl) hb2;have tz0:=ty.cell 0 _ rfl;have tf0:=ty.frozen 0;have TY:=Hd ty;clear ty)))
  ·go_wp2_with fail
   go_meet
   exact⟨_,bb,rfl,rfl,hb2.size,Hd (((Bd.far_of (F:=fun k=>k<W1.heap.size) HM2.out (fun k hk=>hk) (Nat.le_refl _)).wider _ (fun k hk=>hk.elim .inl fun hk=>.inr (Nat.le_of_eq hk.symm))).later (bel_alloc (bel_refl w2) _)),Hd (Blk.new w2 26 _),Hd (by first| assumption|exact bel_alloc (bel_step (bel_drew (bel_refl _)) hb2) _)⟩
  ·go_wp2_with fail
   go_meet
   exact⟨_,bb,rfl,rfl,Nat.le_refl _,Hd (Iq.MeshF.grown (Bd.far_of (F:=fun k=>k<W1.heap.size∨k=W1.heap.size) HM2.out (fun k hk=>by simp;omega) (by simp)) (set_grown w2 W1.heap.size 0 _) fun g e=>.inr (Option.some.inj e).symm),Hd (TY.out.set 0 _),Hd (by first| assumption|exact bel_set (bel_step (bel_drew (bel_alloc (bel_refl _) _)) hb2) (Nat.le_refl _) _ _|exact bel_set (bel_step (bel_alloc (bel_drew (bel_refl _)) _) hb2) (Nat.le_refl _) _ _)⟩
 case rest=>
  obtain⟨mb,bb,rfl,rfl,hmb,HM2,HMB,HB2⟩:=hcut;have hm2:=HM2.out;have e4:(newOf l a b c).tris.length=4:=by rw[Jb.new_eq];rfl
  have ha2:(newOf l a b c).at_.length=n:=by
   rw[Jb.new_eq];show(Jb.at0 l a b c).length=n
   unfold Jb.at0;simp only[Kp.setAt_len];unfold Mesh.empty;simp[HN.out]
  obtain⟨gp2,cp2,gt2,ct2,ga2,ca2,fV2,hR⟩:=hm2.at_.read (by rw[Jb.new_eq];show 0<l.length;rw[HN.out];omega) (by omega) (by omega);have k1:=hR.head.cell 1 (.slice (some ⟨gt2,0,none⟩) (newOf l a b c).tris.length ct2) rfl;rw[e4]at k1;have c7:=HMB.out.cell 0 (.pointer (some ⟨bb,0,none⟩)) rfl;have hfb2:=HFB.out.later HB2.out;have HFB2:=Hd hfb2;have HB3:=Hd (bel_step HB1.out HB2.out);have HT2:=Hd (HT.out.later HB3.out);have HF2:=Hd (HF.out.later HB3.out);have hfr0:(newOf l a b c).free.length=0:=by rw[Jb.new_eq];rfl
  obtain⟨M0,hM0⟩:∃M0,newOf l a b c=M0:=⟨_,rfl⟩;rw[hM0]at hfr0;have HFR:=Hd hfr0;rw[hM0]at HM2 e4 ha2;have HA0':=HA0.out;rw[hM0]at HA0';have HAD:=Hd HA0';have HE4:=Hd e4;have HAL:=Hd ha2;have hsz:w.heap.size<W1.heap.size:=by have:=HFB.out.lt;have:=HFE.out;omega
  have HSZ:=Hd hsz;have HFB1:=Hd HFB.out;have HFM1:=Hd (HF.out.later HB1.out);clear hfr0 hfb2 HA0' HA0 e4 ha2 hm2 hR hM0 HNW t0' t1' t2' hsz HF HFB;obtain⟨G,hG⟩:∃G:Nat→Prop,G=fun k=>k<W1.heap.size∨k=mb:=⟨_,rfl⟩
  rw[←hG]at HM2
  have hD0:DropS G W1 wc bb mb M0:=⟨HM2.out,fun k hk=>by
   rw[hG]at hk;rcases hk with hk|hk
   ·exact Nat.lt_of_lt_of_le hk HB2.out.size
   ·rw[hk];exact HMB.out.lt,HMB.out,by rw[hG];exact .inr rfl,HB2.out,fun k hk=>HB2.out.block k hk,fun k hk=>by rw[hG];exact .inl hk⟩
  have HD0:=Hd hD0;have HGG:=Hd hG;clear hD0 hG;go_wp2
  go_loopw [43] (fun a wr=>∃j:Nat,a=.int .i64 j∧j≤4∧Hid (DropS G W1 wr bb mb (dropN M0 [0,1,2,3] j))) (fun a _=>4-(intOf a).toNat)
  case atStart=>exact⟨0,rfl,Nat.zero_le _,HD0⟩
  case round=>
   obtain⟨j,rfl,hj,HD⟩:=hrel;by_cases hlt:j<4
   ·have hl4:=(dropN_len M0 [0,1,2,3] j)
    have hjj:([0,1,2,3]:List Nat).getD j 0=j:=by
     rcases(show j=0∨j=1∨j=2∨j=3 by omega)with rfl|rfl|rfl|rfl<;>rfl
    have hnext:dropN M0 [0,1,2,3] (j+1)=(dropN M0 [0,1,2,3] j).drop j:=by
     show(dropN M0 [0,1,2,3] j).drop (([0,1,2,3]:List Nat).getD j 0)=_
     rw[hjj]
    have hfr:M0.free.length=0:=by
     have:=HFR.out;exact this
    have hdr:=Dp.drop_any G W1.heap.size bb j (dropN M0 [0,1,2,3] j) wr HD.out.mesh HD.out.fs (by rw[hl4.1,HE4.out];exact hlt) (by rw[hl4.1,HE4.out];omega) (by rw[hl4.2,hfr];omega) HD.out.bel.size;rw[←hnext]at hdr;have c7:=HD.out.hmb.cell 0 (.pointer (some ⟨bb,0,none⟩)) rfl;have HDR:=Hd hdr;have wj:IntKind.i64.wrap ((j:Int)+1)=((j+1:Nat):Int):=by rw[IntWalk.i64_in _ (by omega)];omega
    have j1:(j:Int)<4:=by omega
    clear hdr hnext hl4 hjj hfr
    go_wp2_with (go_at_call 38;refine HDR.out.mono ?_;rintro e' w7 ⟨rfl,hm7,hb7,hs7⟩;have HD7:=Hd (HD.out.call hm7 hb7 hs7);clear hm7 hb7 hs7)
    go_roundw
    case rel=>exact⟨j+1,by go_num,by omega,HD7⟩
    case measure=>simp[intOf];omega
   ·have hj4:j=4:=by omega
    subst hj4;obtain⟨q4,hq4,hq5⟩:∃q:Int,((4:Nat):Int)=q∧¬q<4:=⟨_,rfl,by omega⟩;rw[hq4];clear hq4;have c7:=HD.out.hmb.cell 0 (.pointer (some ⟨bb,0,none⟩)) rfl
    go_upto_region 11 with(fail)
    clear hmm c7;have hA1:=bel_alloc (bel_refl wr) (.map #[] 0);have hA2:=bel_alloc hA1 (.cells #[.map (some wr.heap.size)] 125)
    have hJ:JoinS (fun k=>G k∨k=wr.heap.size∨k=wr.heap.size+1) W1.heap.size ((wr.alloc (.map #[] 0)).alloc (.cells #[.map (some wr.heap.size)] 125)) ((wr.alloc (.map #[] 0)).alloc (.cells #[.map (some wr.heap.size)] 125)) bb (wr.heap.size+1) mb fb wr.heap.size fm fl A0:=by
     have hw1:=HD.out.bel.size;have hmap:MapS (fun p:Way=>wayV p.1) sideV ((wr.alloc (.map #[] 0)).alloc (.cells #[.map (some wr.heap.size)] 125)) wr.heap.size ([]:List (Way×(Nat×Nat))):=(MapS.new _ _ wr).later (bel_alloc (bel_refl _) _)
     have hfmW:MapAt (fun p:Way=>wayV p.1) (Value.int .i64) ((wr.alloc (.map #[] 0)).alloc (.cells #[.map (some wr.heap.size)] 125)) fm fl:=by
      obtain⟨es,ck,g1,g2⟩:=HFM1.out;have hlt:fm<W1.heap.size:=(Array.getElem?_eq_some_iff.1 g1).1;exact⟨es,ck,(hA2.block fm (by omega)).trans ((HD.out.same fm hlt).trans g1),g2⟩
     have hfbW:Blk ((wr.alloc (.map #[] 0)).alloc (.cells #[.map (some wr.heap.size)] 125)) fb 63 #[.map (some fm)]:=(hA2.block fb (by have:=HFB1.out.lt;omega)).trans ((HD.out.same fb HFB1.out.lt).trans HFB1.out);refine⟨?_,fun k hk=>?_,Below.refl _ _,?_,HD.out.hmb.later hA2,hfbW,⟨[],by rw[HAD.out];rfl,hmap⟩,hfmW,⟨.inr (.inr rfl),.inl HD.out.gm,.inl (HD.out.gl fb HFB1.out.lt),.inr (.inl rfl),.inl (HD.out.gl fm (Nat.lt_trans hml HSZ.out))⟩,fun e=>?_,hw1,fun _ _ _=>rfl⟩
     ·rw[HAD.out]
      exact(HD.out.mesh.wider _ (fun k hk=>hk.elim .inl fun hk=>.inr (by omega))).later hA2
     ·simp only[World.alloc,Array.size_push]
      rcases hk with hk|hk|hk
      ·have:=HD.out.fs k hk;omega
      ·omega
      ·omega
     ·exact Blk.new' (n:=wr.heap.size+1) (wr.alloc (.map #[] 0)) 125 #[.map (some wr.heap.size)] (by simp)
     ·have:=HSZ.out;omega
    have HJ:=Hd hJ;have HB4:=Hd (bel_step (bel_step HB1.out HD.out.bel) hA2);have HT4:=Hd (HT.out.later HB4.out);obtain⟨B,hBe⟩:∃B,W1.heap.size=B:=⟨_,rfl⟩;have hBle:B≤((wr.alloc (.map #[] 0)).alloc (.cells #[.map (some wr.heap.size)] 125)).heap.size:=by rw[←hBe];have:=HD.out.bel.size;have:=hA2.size;omega
    have hwB:w.heap.size≤B:=by have:=HSZ.out;omega
    rw[hBe]at HJ;clear hJ hA1 hA2 HD0 HD HGG HM2 HMB HB2 HB3 HT2 HF2 HFB1 HFM1 HT HB1 k1 hBe HFB2 HSZ HAL HE4 HFR;obtain⟨om,home⟩:∃om,wr.heap.size=om:=⟨_,rfl⟩;obtain⟨ob,hobe⟩:∃ob,om+1=ob:=⟨_,rfl⟩;rw[home]at HJ HT4 hBle HB4 ⊢;rw[hobe]at HJ ⊢;generalize (wr.alloc (.map #[] 0)).alloc (.cells #[.map (some om)] 125)=W3 at *;generalize (fun k=>G k∨k=om∨k=ob)=FF at *
    have htid:Tidy A0 4 n:=by
     have:=AT.out;exact this
    have HTD:=Hd htid;clear home hobe htid c7 hj hlt;go_wp2
    go_loopw [54] (fun a wq=>∃x:Nat,a=.int .i64 x∧x≤m∧Hid (JoinS FF B W3 wq bb ob mb fb om fm fl (joinAll (faOf fl) A0 (R.take x)))) (fun a _=>m-(intOf a).toNat)
    case atStart=>exact⟨0,rfl,Nat.zero_le _,HJ⟩
    case round=>
     obtain⟨x,rfl,hx,HX⟩:=hrel;by_cases hlt:x<m
     ·have hxR:x<R.length:=by have:=HM.out;omega
      have hbx:=HX.out.bel
      have hcx:∀j,j<3→wr.cell? ⟨gt,x*3+j,none⟩=some (.int .i64 (De.tr R x j)):=fun j hj=>by
       exact(hbx.cell (show(⟨gt,x*3+j,none⟩:Addr).block<B by have:=HGT.out;show gt<B;omega)).trans (HT4.out x hxR j hj)
      have c0:wr.cell? ⟨gt,x*3,none⟩=some (.int .i64 (De.tr R x 0)):=hcx 0 (by omega);have c1:wr.cell? ⟨gt,x*3+1,none⟩=some (.int .i64 (De.tr R x 1)):=hcx 1 (by omega);have c2:wr.cell? ⟨gt,x*3+2,none⟩=some (.int .i64 (De.tr R x 2)):=hcx 2 (by omega);obtain⟨v,hv⟩:∃v,R.getD x (0,0,0)=v:=⟨_,rfl⟩
      have hRx:R.take (x+1)=R.take x++[v]:=by
       rw[List.take_add_one,←hv,List.getD_eq_getElem?_getD,List.getElem?_eq_getElem hxR];rfl
      have hstep:joinAll (faOf fl) A0 (R.take (x+1))=joinOne (faOf fl) (joinAll (faOf fl) A0 (R.take x)) v:=by
       rw[hRx];unfold joinAll;rw[List.foldl_append];rfl
      have hbd:=HV.out x hxR;have htr:De.tr R x=tri3 v.1 v.2.1 v.2.2:=by unfold De.tr;rw[hv]
      rw[htr]at c0 c1 c2 hbd;have htx:=Tidy.all (fa:=faOf fl) (R.take x) HTD.out;obtain⟨Ax,hAx⟩:∃Ax,joinAll (faOf fl) A0 (R.take x)=Ax:=⟨_,rfl⟩;rw[hAx]at HX hstep htx;obtain⟨v0,v1,v2⟩:=v;have c0':wr.cell? ⟨gt,x*3,none⟩=some (.int .i64 v0):=c0;have c1':wr.cell? ⟨gt,x*3+1,none⟩=some (.int .i64 v1):=c1;have c2':wr.cell? ⟨gt,x*3+2,none⟩=some (.int .i64 v2):=c2;have hlx:(R.take x).length≤1000:=by rw[List.length_take];omega
      have x0:(0:Int)≤(x:Int):=by omega
      have x1:(x:Int)<(m:Int):=by omega
      have b0:=hbd 0 (by omega);have b1:=hbd 1 (by omega);have b2:=hbd 2 (by omega);rw[HN.out]at b0 b1 b2;have b0':0≤v0∧v0<n:=b0;have b1':0≤v1∧v1<n:=b1;have b2':0≤v2∧v2<n:=b2;clear b0 b1 b2;have HST:=Hd hstep;have HTX:=Hd htx;have HLX:=Hd hlx;have hBq:B≤wr.heap.size:=Nat.le_trans hBle HX.out.bel.size;clear c0 c1 c2 hcx hbx hv hRx hstep hbd htr htx hAx hlx
      go_upto_region 14 with(fail)
      clear c0' c1' c2';have hJ5:=(here HX.out).alloc hBq (.cells #[.int .i64 v0,.int .i64 v1,.int .i64 v2] 40);have hA5:=bel_alloc (bel_refl wr) (.cells #[.int .i64 v0,.int .i64 v1,.int .i64 v2] 40);have hV5:=Blk.new wr 40 #[.int .i64 v0,.int .i64 v1,.int .i64 v2];obtain⟨vb,hvb⟩:∃vb,wr.heap.size=vb:=⟨_,rfl⟩;obtain⟨F5,hF5⟩:∃F5:Nat→Prop,F5=fun k=>FF k∨k=vb:=⟨_,rfl⟩
      rw[hvb]at hJ5 hV5 ⊢;rw[←hF5]at hJ5;have hf5:F5 vb:=by rw[hF5];exact .inr rfl
      have hff:∀k,FF k→F5 k:=fun k hk=>by rw[hF5];exact .inl hk
      have hom5:vb≠om:=by have:=HX.out.fs om HX.out.fo.2.2.2.1;omega
      generalize wr.alloc (.cells #[.int .i64 v0,.int .i64 v1,.int .i64 v2] 40)=W5 at *;have hJ5':=hJ5;obtain⟨ta,tb⟩:=HTX.out.made v0 v1 v2;have hB5:B≤W5.heap.size:=Nat.le_trans hBq hA5.size;have hmk:=fun(u:World) (hu:JoinS F5 B W5 u bb ob mb fb om fm fl Ax) (hBu:B≤u.heap.size)=>Mk.make_any F5 B bb v0 v1 v2 Ax.1 u hu.mesh hu.fs (by have:=HTX.out.len;have:=HLX.out;omega) (by have:=HTX.out.few;omega) hBu HTX.out.free (by rw[HTX.out.atl];omega) (by rw[HTX.out.atl];omega) (by rw[HTX.out.atl];omega)
      have HMK:=Hd hmk;have HJ5:=Hd hJ5;have HV5:=Hd hV5;have HF5:=Hd hf5;have HFF:=Hd hff;have HO5:=Hd hom5;have HA5:=Hd hA5;have HTA:=Hd ta;have HTB:=Hd tb;have HB5:=Hd hB5;clear hvb hF5 hJ5 hJ5' hA5 hV5 hf5 hff hom5 ta tb hmk hB5;obtain⟨q0,q1,q2,_,_,_⟩:=HV5.out.three;have q3:=HJ5.out.hmb.cell 0 (.pointer (some ⟨bb,0,none⟩)) rfl
      have hbd3:∀j,-2≤tri3 v0 v1 v2 j∧tri3 v0 v1 v2 j≤1000000000:=fun j=>by
       match j with
       | 0=>show -2≤v0∧v0≤1000000000;omega
       | 1=>show -2≤v1∧v1≤1000000000;omega
       | j+2=>show -2≤v2∧v2≤1000000000;omega
      have HBD:=Hd hbd3;clear hbd3;have hj0:=HJ5.out.later (bel_drew (bel_refl W5)) HB5.out;have hmk0:=HMK.out W5.drew hj0 HB5.out;have HMK0:=Hd hmk0;have HJ0:=Hd hj0;have hkk:∀k,FF k→W5.heap[k]? =wr.heap[k]?:=fun k hk=>HA5.out.block k (HX.out.fs k hk)
      have HKK:=Hd hkk
      have hjn:∀w7,JoinS F5 B W5 w7 bb ob mb fb om fm fl ((Ax.1.make v0 v1 v2).1,Ax.2)→Calls Tryz.prog 63 #[.int .i64 ((Ax.1.make v0 v1 v2).2:Nat),.agg #[.int .i64 v0,.int .i64 v1,.int .i64 v2],.pointer (some ⟨ob,0,none⟩),.pointer (some ⟨mb,0,none⟩),.pointer (some ⟨fb,0,none⟩)] w7 fun e w'=>e=.returned (.tuple #[])∧JoinS F5 B w7 w' bb ob mb fb om fm fl (joinTri (faOf fl) (Ax.1.make v0 v1 v2).2 (tri3 v0 v1 v2) ((Ax.1.make v0 v1 v2).1,Ax.2)):=fun w7 h7=>
       Jw.join_any F5 B w7 bb ob mb fb om fm fl ((Ax.1.make v0 v1 v2).1,Ax.2) (Ax.1.make v0 v1 v2).2 (tri3 v0 v1 v2) (here h7) (Nat.le_trans HB5.out h7.bel.size) HTA.out.op HTB.out (by have:=HTA.out.len;have:=HLX.out;omega) HBD.out
      have HJN:=Hd hjn;clear hj0 hmk0 hjn HMK hkk
      go_region_held3 (fun w'=>w'.cell? ⟨mb,0,none⟩=some (.pointer (some ⟨bb,0,none⟩))∧w'.cell? ⟨vb,0,none⟩=some (.int .i64 v0)∧w'.cell? ⟨vb,1,none⟩=some (.int .i64 v1)∧w'.cell? ⟨vb,2,none⟩=some (.int .i64 v2)) (exact⟨by assumption,by assumption,by assumption,by assumption⟩) (first
       | (go_at_call 39;refine HMK0.out.mono ?_;rintro e' w7 ⟨rfl,hm7,hb7,hs7⟩;have HJ7:=Hd (HJ0.out.call hm7 hb7 hs7);have HV7:=Hd (show Blk w7 vb 40 #[.int .i64 v0,.int .i64 v1,.int .i64 v2]from(hs7 vb HF5.out).trans HV5.out);obtain⟨r0,r1,r2,_,_,_⟩:=HV7.out.three;have r3:=HJ7.out.hmb.cell 0 (.pointer (some ⟨bb,0,none⟩)) rfl;have HS7:=Hd (fun k (hk:FF k)=>(hs7 k (HFF.out k hk)).trans (HKK.out k hk));have HB7:=Hd ((HA5.out.mono (Nat.le_trans hBle HX.out.bel.size)).trans ((bel_drew (bel_refl W5)).mono HB5.out |>.trans hb7));clear hm7 hb7 hs7)
       | (go_at_call 63;have hj7:=HJ7.out;refine(HJN.out w7 hj7).mono ?_;rintro e' w9 ⟨rfl,hj9⟩;have HV9:=Hd (show Blk w9 vb 40 #[.int .i64 v0,.int .i64 v1,.int .i64 v2]from(hj9.same vb HF5.out HO5.out).trans HV7.out);obtain⟨s0,s1,s2,_,_,_⟩:=HV9.out.three;have s3:=hj9.hmb.cell 0 (.pointer (some ⟨bb,0,none⟩)) rfl;have HJ9:=Hd hj9;clear hj9 hj7))
      go_wp2_with fail
      go_roundw
      case rel=>exact⟨x+1,by go_num,by omega,Hd (by rw[HST.out];exact back HX.out HJ9.out HFF.out HB7.out HS7.out)⟩
      case measure=>simp[intOf];omega
     ·have hxm:m=x:=by omega
      subst hxm;have hJ1:=HX.out;rw[List.take_of_length_le (by rw[HM.out];exact Nat.le_refl _),←HA1.out]at hJ1
      have hop:A1.2.length≤3*m∧∀y∈A1.2,(0≤y.1.1∧y.1.1<n)∧(0≤y.1.2∧y.1.2<n):=by
       obtain⟨q1,q2⟩:=all_open (fa:=faOf fl) (A:=A0) (P:=fun e=>(0≤e.1∧e.1<n)∧(0≤e.2∧e.2<n)) R (fun v hv i hi=>by
        obtain⟨k,hk,rfl⟩:=Dj.mem_get hv;have hb1:=HV.out k hk ((i+1)%3) (by omega);have hb2:=HV.out k hk ((i+2)%3) (by omega);rw[HN.out]at hb1 hb2;exact⟨hb1,hb2⟩) (fun y hy=>by rw[HAD.out]at hy;cases hy)
       rw[←HA1.out,HM.out]at q1;rw[←HA1.out]at q2;refine⟨?_,q2⟩;rw[HAD.out]at q1
       simpa using q1
      obtain⟨l1,hl1,hl2⟩:=hJ1.op;have hll:l1.length=A1.2.length:=by rw[←hl1];simp[strip]
      have hlb:l1.length≤3000:=by omega
      obtain⟨D,hown,hD1,hD2⟩:=Mw.owns hl2 (by unfold maxLen;omega);have hnd:=hl2.plain.nodup;have hoc:=hJ1.hob.cell 0 (.map (some om)) rfl;obtain⟨nn,hnn⟩:∃nn,l1.length=nn:=⟨_,rfl⟩;rw[hnn]at hown hlb;obtain⟨ks,hks⟩:∃ks,l1.map (·.1)=ks:=⟨_,rfl⟩;rw[hks]at hD1 hD2 hnd
      have hkb:∀p∈ks,(0≤p.1.1∧p.1.1<n)∧(0≤p.1.2∧p.1.2<n):=fun p hp=>by
       rw[←hks]at hp;obtain⟨y,hy,rfl⟩:=List.mem_map.1 hp;refine hop.2 (y.1.1,y.2) ?_;rw[←hl1];exact List.mem_map.2 ⟨y,hy,rfl⟩
      have hkp:ks.map (·.1)=A1.2.map (·.1):=by rw[←hks,←hl1];simp[strip]
      have hkl:ks.length=nn:=by rw[←hks,←hnn];simp
      have HJ1:=Hd hJ1;have HD1:=Hd hD1;have HD2:=Hd hD2;have HND:=Hd hnd;have HKB:=Hd hkb;have HKP:=Hd hkp;have HKL:=Hd hkl;have HTA1:=Hd (show Tidy A1 (4+m) n by have:=Tidy.all (fa:=faOf fl) R HTD.out;rw[←HA1.out,HM.out]at this;exact this);clear hJ1 hop hl1 hl2 hll hnn hks hD1 hD2 hnd hkb hkp hkl HX HJ hlt hx
      go_wp2_with (first| (at_range;refine wpList_range_own _ rfl _ 125 rfl 54 127 pr_law Tryz.underlying125 R0 om nn D rfl hown ?_;intro w0 hrg0 hg0 hs0))
      go_frame
      have hbe0:Below wr.heap.size wr w0:=⟨hg0.os,hg0.tape,hg0.output,hg0.size,fun k hk=>hg0.block k hk (by simp)⟩;have hBr:B≤wr.heap.size:=Nat.le_trans hBle HJ1.out.bel.size;obtain⟨wb,rfl⟩:∃wb,wb=wr:=⟨_,rfl⟩;have HB0:=Hd hbe0;have hG0:=Mw.start hrg0 HD1.out HD2.out;obtain⟨ri,hri⟩:∃r,wb.heap.size=r:=⟨_,rfl⟩;rw[hri]at hG0 hs0 hBr ⊢;have HG0:=Hd hG0
      have homr:om<ri:=by
       have:=HJ1.out.fs om HJ1.out.fo.2.2.2.1;omega
      have HRI:=Hd hri;clear hG0 hbe0 hrg0 hg0 hri hown hoc HD1 HD2
      go_loopw [14] (fun v wq=>∃(d:List Way) (left:Lit→Bool) (cnt:Nat),Hid (wq.ownsRow (ri+1) 54 2 v d.length (d.flatMap wayCs))∧Hid (Gone wq om ri nn ks d left cnt D)∧Hid (Below wb.heap.size wb wq)) (fun _ wq=>wq.rangeLeft om ri)
      case atStart=>exact⟨[],_,_,Hd ⟨rfl,.inl ⟨rfl,rfl⟩⟩,HG0,HB0⟩
      case round=>
       obtain⟨d,left,cnt,HO,HGo,HB⟩:=hrel;obtain⟨gA,gc,rfl⟩:=own_slice HO.out
       go_wp2_with (first| (at_next;refine wpList_next_gone _ rfl _ rfl om ri _ _ d left cnt D rfl HGo.out ?_ ?_))
       ·intro hdone
        have hperm:=Mw.done HGo.out HND.out hdone;have hKd:d.length=nn:=by rw[hperm.length_eq,HKL.out]
        obtain⟨wq,rfl⟩:∃wq,wq=wr:=⟨_,rfl⟩;have hri:=HRI.out;have hJ6:=widen HJ1.out (by omega) HB.out;rw[hri]at hJ6;obtain⟨F6,hF6⟩:∃F:Nat→Prop,F=fun k=>FF k∨(ri≤k∧k<wq.heap.size):=⟨_,rfl⟩
        rw[←hF6]at hJ6;have HF6:=Hd hF6;have HJ6:=Hd hJ6
        have hcell:∀x,x<d.length→∃g,gA=some ⟨g,0,none⟩∧F6 g∧g≠om∧∃e:Int×Int,(d.map (·.1))[x]? =some e∧((0≤e.1∧e.1<n)∧(0≤e.2∧e.2<n))∧wq.cell? ⟨g,x*2,none⟩=some (.int .i64 e.1)∧wq.cell? ⟨g,x*2+1,none⟩=some (.int .i64 e.2):=fun x hx=>by
         have hO:=HO.out;obtain⟨q1,⟨q2,q3⟩|⟨g,c',cur,q2,q3,q4'⟩⟩:=hO
         ·omega
         ·simp only[Value.slice.injEq,true_and]at q2
          obtain⟨rfl,rfl⟩:=q2;have hO2:=HO.out;refine⟨g,rfl,?_,by omega,(d[x]'hx).1,?_,?_,?_,?_⟩
          ·rw[HF6.out]
           exact .inr ⟨by omega,(HO.out.lt g rfl).2⟩
          ·rw[List.getElem?_map,List.getElem?_eq_getElem hx]
           rfl
          ·exact HKB.out _ (hperm.subset (List.getElem_mem hx))
          ·have:=(hO2.cellAt (x*2+0) (by omega)).trans (flat_get wayCs 2 (fun _=>rfl) d x 0 (by omega))
           rw[List.getElem?_eq_getElem hx]at this;exact this
          ·have:=(hO2.cellAt (x*2+1) (by omega)).trans (flat_get wayCs 2 (fun _=>rfl) d x 1 (by omega))
           rw[List.getElem?_eq_getElem hx]at this;exact this
        have hpm:(d.map (·.1)).Perm (A1.2.map (·.1)):=by rw[←HKP.out];exact hperm.map _
        have hcap:d.length≤gc:=by
         obtain⟨q1,⟨q2,q3⟩|⟨g,c',cur,q2,q3,_,q4',_⟩⟩:=HO.out
         ·omega
         ·simp only[Value.slice.injEq,true_and]at q2
          omega
        have HPM:=Hd hpm;have HCE:=Hd hcell;obtain⟨DL,hDL⟩:∃DL,d.map (·.1)=DL:=⟨_,rfl⟩;rw[hDL]at HPM HCE;obtain⟨K,hK⟩:∃K,d.length=K:=⟨_,rfl⟩;have hKL:DL.length=K:=by rw[←hDL,←hK];simp
        rw[hK]at HCE hKd hcap ⊢;have HDL:=Hd hKL;have hK3:K≤3000:=by omega
        clear hJ6 hF6 hperm hdone hpm hcell hDL hK HO HGo hKL hKd;go_wp2
        go_loopw [82] (fun a wz=>∃x:Nat,a=.int .i64 x∧x≤K∧Hid (JoinS F6 B wq wz bb ob mb fb om fm fl (joinAll (faOf fl) A1 ((DL.take x).map ghost3)))) (fun a _=>K-(intOf a).toNat)
        case atStart=>exact⟨0,rfl,Nat.zero_le _,HJ6⟩
        case round=>
         obtain⟨x,rfl,hx,HX⟩:=hrel;by_cases hlt:x<K
         ·obtain⟨g,rfl,hg6,hgom,e,he,⟨⟨e1,e2⟩,e3,e4⟩,hc0,hc1⟩:=HCE.out x hlt
          have c0:wr.cell? ⟨g,x*2,none⟩=some (.int .i64 e.1):=(World.cell?_of_block (a:=⟨g,x*2,none⟩) (HX.out.same g hg6 hgom)).trans hc0;have c1:wr.cell? ⟨g,x*2+1,none⟩=some (.int .i64 e.2):=(World.cell?_of_block (a:=⟨g,x*2+1,none⟩) (HX.out.same g hg6 hgom)).trans hc1
          have hRx:(DL.take (x+1)).map ghost3=(DL.take x).map ghost3++[ghost3 e]:=by
           rw[List.take_add_one,he];simp
          have hstep:joinAll (faOf fl) A1 ((DL.take (x+1)).map ghost3)=joinOne (faOf fl) (joinAll (faOf fl) A1 ((DL.take x).map ghost3)) (ghost3 e):=by
           rw[hRx];unfold joinAll;rw[List.foldl_append];rfl
          have htx:=Tidy.all (fa:=faOf fl) ((DL.take x).map ghost3) HTA1.out;have hlx:((DL.take x).map ghost3).length≤3000:=by rw[List.length_map,List.length_take];omega
          obtain⟨Ax,hAx⟩:∃Ax,joinAll (faOf fl) A1 ((DL.take x).map ghost3)=Ax:=⟨_,rfl⟩;rw[hAx]at HX hstep htx;obtain⟨v1,v0⟩:=e;dsimp only at e1 e2 e3 e4 c0 c1;have x0:(0:Int)≤(x:Int):=by omega
          have x1:(x:Int)<(K:Int):=by omega
          have HST:=Hd hstep;have HTX:=Hd htx;have HLX:=Hd hlx;have hBw:B≤wq.heap.size:=by have:=HB.out.size;omega
          have hBq:B≤wr.heap.size:=Nat.le_trans hBw HX.out.bel.size;clear hc0 hc1 he hRx hstep htx hlx hAx
          go_upto_region 25 with(fail)
          clear c0 c1;obtain⟨wm,hwm⟩:∃W,wr.alloc (.cells #[.int .i64 v1,.int .i64 v0] 54)=W:=⟨_,rfl⟩;have hAm:=bel_alloc (bel_refl wr) (.cells #[.int .i64 v1,.int .i64 v0] 54);have hsz:wr.heap.size+1=wm.heap.size:=by rw[←hwm];simp
          rw[hwm]at hAm ⊢;rw[hsz];have hJm:=here (HX.out.later hAm hBq);have hBm:B≤wm.heap.size:=Nat.le_trans hBq hAm.size;have hJ5:=hJm.alloc hBm (.cells #[.int .i64 v0,.int .i64 v1,.int .i64 (-1)] 40);have hA5:=bel_step hAm (bel_alloc (bel_refl wm) (.cells #[.int .i64 v0,.int .i64 v1,.int .i64 (-1)] 40));have hV5:=Blk.new wm 40 #[.int .i64 v0,.int .i64 v1,.int .i64 (-1)];obtain⟨vb,hvb⟩:∃vb,wm.heap.size=vb:=⟨_,rfl⟩;obtain⟨F5,hF5⟩:∃F5:Nat→Prop,F5=fun k=>F6 k∨k=vb:=⟨_,rfl⟩
          rw[hvb]at hJ5 hV5 ⊢;rw[←hF5]at hJ5;have hf5:F5 vb:=by rw[hF5];exact .inr rfl
          have hff:∀k,F6 k→F5 k:=fun k hk=>by rw[hF5];exact .inl hk
          have hom5:vb≠om:=by have:=HX.out.fs om HX.out.fo.2.2.2.1;omega
          generalize wm.alloc (.cells #[.int .i64 v0,.int .i64 v1,.int .i64 (-1)] 40)=W5 at *;obtain⟨ta,tb⟩:=HTX.out.made v0 v1 (-1);have hB5:B≤W5.heap.size:=Nat.le_trans hBq hA5.size;have hmk:=fun(u:World) (hu:JoinS F5 B W5 u bb ob mb fb om fm fl Ax) (hBu:B≤u.heap.size)=>Mk.make_any F5 B bb v0 v1 (-1) Ax.1 u hu.mesh hu.fs (by have:=HTX.out.len;have:=HLX.out;omega) (by have:=HTX.out.few;omega) hBu HTX.out.free (by rw[HTX.out.atl];omega) (by rw[HTX.out.atl];omega) (by rw[HTX.out.atl];omega)
          have HMK:=Hd hmk;have HJ5:=Hd hJ5;have HV5:=Hd hV5;have HF5:=Hd hf5;have HFF:=Hd hff;have HO5:=Hd hom5;have HA5:=Hd hA5;have HTA:=Hd ta;have HTB:=Hd tb;have HB5:=Hd hB5;clear hvb hF5 hJ5 hA5 hV5 hf5 hff hom5 ta tb hmk hB5 hJm hwm hAm hsz hBm;obtain⟨q0,q1,q2,_,_,_⟩:=HV5.out.three;have q3:=HJ5.out.hmb.cell 0 (.pointer (some ⟨bb,0,none⟩)) rfl
          have hbd3:∀j,-2≤tri3 v0 v1 (-1) j∧tri3 v0 v1 (-1) j≤1000000000:=fun j=>by
           match j with
           | 0=>show -2≤v0∧v0≤1000000000;omega
           | 1=>show -2≤v1∧v1≤1000000000;omega
           | j+2=>show(-2:Int)≤-1∧(-1:Int)≤1000000000;omega
          have HBD:=Hd hbd3;clear hbd3;have hj0:=HJ5.out.later (bel_drew (bel_refl W5)) HB5.out;have hmk0:=HMK.out W5.drew hj0 HB5.out;have HMK0:=Hd hmk0;have HJ0:=Hd hj0;have hkk:∀k,F6 k→W5.heap[k]? =wr.heap[k]?:=fun k hk=>HA5.out.block k (HX.out.fs k hk)
          have HKK:=Hd hkk
          have hjn:∀w7,JoinS F5 B W5 w7 bb ob mb fb om fm fl ((Ax.1.make v0 v1 (-1)).1,Ax.2)→Calls Tryz.prog 63 #[.int .i64 ((Ax.1.make v0 v1 (-1)).2:Nat),.agg #[.int .i64 v0,.int .i64 v1,.int .i64 (-1)],.pointer (some ⟨ob,0,none⟩),.pointer (some ⟨mb,0,none⟩),.pointer (some ⟨fb,0,none⟩)] w7 fun e w'=>e=.returned (.tuple #[])∧JoinS F5 B w7 w' bb ob mb fb om fm fl (joinTri (faOf fl) (Ax.1.make v0 v1 (-1)).2 (tri3 v0 v1 (-1)) ((Ax.1.make v0 v1 (-1)).1,Ax.2)):=fun w7 h7=>
           Jw.join_any F5 B w7 bb ob mb fb om fm fl ((Ax.1.make v0 v1 (-1)).1,Ax.2) (Ax.1.make v0 v1 (-1)).2 (tri3 v0 v1 (-1)) (here h7) (Nat.le_trans HB5.out h7.bel.size) HTA.out.op HTB.out (by have:=HTA.out.len;have:=HLX.out;omega) HBD.out
          have HJN:=Hd hjn;clear hj0 hmk0 hjn HMK hkk
          go_region_held3 (fun w'=>w'.cell? ⟨mb,0,none⟩=some (.pointer (some ⟨bb,0,none⟩))∧w'.cell? ⟨vb,0,none⟩=some (.int .i64 v0)∧w'.cell? ⟨vb,1,none⟩=some (.int .i64 v1)∧w'.cell? ⟨vb,2,none⟩=some (.int .i64 (-1))) (exact⟨by assumption,by assumption,by assumption,by assumption⟩) (first
           | (go_at_call 39;refine HMK0.out.mono ?_;rintro e' w7 ⟨rfl,hm7,hb7,hs7⟩;have HJ7:=Hd (HJ0.out.call hm7 hb7 hs7);have HV7:=Hd (show Blk w7 vb 40 #[.int .i64 v0,.int .i64 v1,.int .i64 (-1)]from(hs7 vb HF5.out).trans HV5.out);obtain⟨r0,r1,r2,_,_,_⟩:=HV7.out.three;have r3:=HJ7.out.hmb.cell 0 (.pointer (some ⟨bb,0,none⟩)) rfl;have HS7:=Hd (fun k (hk:F6 k)=>(hs7 k (HFF.out k hk)).trans (HKK.out k hk));have HB7:=Hd ((HA5.out.mono hBq).trans ((bel_drew (bel_refl W5)).mono HB5.out |>.trans hb7));clear hm7 hb7 hs7)
           | (go_at_call 63;have hj7:=HJ7.out;refine(HJN.out w7 hj7).mono ?_;rintro e' w9 ⟨rfl,hj9⟩;have HV9:=Hd (show Blk w9 vb 40 #[.int .i64 v0,.int .i64 v1,.int .i64 (-1)]from(hj9.same vb HF5.out HO5.out).trans HV7.out);obtain⟨s0,s1,s2,_,_,_⟩:=HV9.out.three;have s3:=hj9.hmb.cell 0 (.pointer (some ⟨bb,0,none⟩)) rfl;have HJ9:=Hd hj9;clear hj9 hj7))
          go_wp2_with fail
          go_roundw
          case rel=>exact⟨x+1,by go_num,by omega,Hd (by rw[HST.out];exact back HX.out HJ9.out HFF.out HB7.out HS7.out)⟩
          case measure=>simp[intOf];omega
         ·have hxK:K=x:=by omega
          subst hxK;have c7:=HX.out.hmb.cell 0 (.pointer (some ⟨bb,0,none⟩)) rfl;have hJ:=HX.out;rw[List.take_of_length_le (by rw[HDL.out];exact Nat.le_refl _)]at hJ;have HJ:=Hd hJ;have hwB2:w.heap.size≤wb.heap.size:=by have:=HRI.out;omega
          have hbel:Below w.heap.size w wr:=(HB4.out.trans ((HJ1.out.bel.mono hwB).trans ((HB.out.mono hwB2).trans (hJ.bel.mono hwB))));have HBL:=Hd hbel;clear hJ HX hbel;go_wp2
          go_ret
          refine⟨bb,DL,rfl,HPM.out,?_,HBL.out⟩;obtain⟨pV,tV,fV,aV,hM,_⟩:=HJ.out.mesh;exact⟨pV,tV,fV,aV,MAt.down hM hwB⟩
       ·intro pa pb hpw v5 w5 left5 cnt5 hp hgo hlt5 hgr hsz hent
        obtain⟨p,hpe⟩:∃p:Way,(⟨(pa,pb),hpw⟩:Way)=p:=⟨_,rfl⟩;have hq1:p.1.1=pa:=by rw[←hpe]
        have hq2:p.1.2=pb:=by rw[←hpe]
        rw[hpe]at hp hgo
        have hdl:(d++[p]).length≤nn:=by
         rw[←HKL.out];exact sub_len _ _ hgo.nod fun q hq=>(hgo.sub q hq).1
        simp only[List.length_append,List.length_cons,List.length_nil]at hdl;have hB5:Below wb.heap.size wb w5:=Sq.bel_grown HB.out hgr (by have:=HRI.out;omega)
        have hO5:=HO.out.kept hgr (.inr (fun e=>by
         have:=(HO.out.lt _ e).1;omega))
        have hpc:wayCs p=[.int .i64 pa,.int .i64 pb]:=by show [_,_]=_;rw[hq1,hq2]
        have HPC:=Hd hpc;have HG5:=Hd hgo;have HO5:=Hd hO5;have HB5:=Hd hB5;have HLT:=Hd (show cnt5<cnt from hlt5);have HLF:=Hd HGo.out.ran.left_eq;have hw5:ri+1≤w5.heap.size:=by have:=HG5.out.ran.lt;omega
        clear hpc hq1 hq2 hgo hlt5 hgr hp hO5 hB5 HO HGo HB hpe hsz;simp only[wayV]at hent ⊢
        go_upto_region 20 with(fail)
        obtain⟨W5,hW5⟩:∃W,w5.alloc (.cells #[.int .i64 pa,.int .i64 pb] 54)=W:=⟨_,rfl⟩;have hk5:=Blk.new w5 54 #[.int .i64 pa,.int .i64 pb];have hA5:=bel_alloc (bel_refl w5) (.cells #[.int .i64 pa,.int .i64 pb] 54);rw[hW5]at hk5 hA5 ⊢;obtain⟨z0,z1,_,_⟩:=hk5.two;have HO6:=Hd (own_later HO5.out hA5);have HA5:=Hd hA5;have HG6:=Hd (Mw.kept HG5.out (row:=none) (grown_later hA5) (by simp) (by simp));have hW5s:ri+1≤W5.heap.size:=Nat.le_trans hw5 hA5.size;obtain⟨j0,hj',y0,y1,y2⟩:=info_parts info54';clear hk5 hA5 hW5 HG5 HO5
        go_wp2_with (at_builtin;refine wpList_append_own_at _ rfl _ _ 53 rfl (ri+1) 54 j0 (.agg #[.int .i64 0,.int .i64 0]) 2 16 Tryz.underlying53 hj' y0 y1 y2 rfl (by decide) (.slice gA d.length gc) d.length (d.flatMap wayCs) rfl (HO6.out.alloc _) ⟨W5.heap.size,0,none⟩ 1 1 [.int .i64 pa,.int .i64 pb] rfl rfl (World.news_of_block (cs:=#[.int .i64 pa,.int .i64 pb]) (heap_alloc_new _ _)) (by simp[Value.oneCell']) (by unfold maxLen;omega) (by omega) (by simp;omega) ?_;intro v7 w7 hown7 hgrow _ hat7;have HO7:=Hd hown7;have HGR:=Hd hgrow;clear hown7 hgrow hat7)
        refine⟨⟨d++[p],left5,cnt5,Hd ?_,Hd ?_,Hd ?_⟩,?_⟩
        ·rw[List.flatMap_append,List.flatMap_singleton,HPC.out,List.length_append]
         exact HO7.out
        ·exact Mw.kept (Mw.alloc HG6.out _) HGR.out (fun e=>by have:=(HO6.out.lt _ e.symm).1;omega) (fun e=>by have:=(HO6.out.lt _ e.symm).1;omega)
        ·exact grown_bel (bel_step HB5.out HA5.out) HGR.out HO6.out (by have:=HRI.out;omega)
        ·rw[(Mw.kept (Mw.alloc HG6.out _) HGR.out (fun e=>by have:=(HO6.out.lt _ e.symm).1;omega) (fun e=>by have:=(HO6.out.lt _ e.symm).1;omega)).ran.left_eq,HLF.out]
         exact HLT.out
end Bl
end Go.Proofs.YtdihefgleefhmaaGreat
