import Derived.Test.YtdihefgleefhmaaGreatMk
import Derived.Deep.DeepCutAuto
namespace Go.Proofs.YtdihefgleefhmaaGreat
open Go.RowKit
def Mesh.empty(l:List Pt):Mesh:=⟨l,[],[],l.map fun _=>-1⟩
def ghostN(M:Mesh)(t:Nat)(v:Nat→Int):Nat→Mesh×(Nat→Nat)
 | 0=>(M,fun _=>0)
 | i+1=>
  let A:=ghostN M t v i
  let r:=A.1.make (v ((i+2)%3)) (v ((i+1)%3)) (-1)
  (r.1.link t i r.2 2 false,fun j=>if j=i then r.2 else A.2 j)
def ringN(M:Mesh)(g:Nat→Nat):Nat→Mesh
 | 0=>M
 | i+1=>(ringN M g i).link (g i) 1 (g ((i+1)%3)) 0 false
def tri3(a b c:Int):Nat→Int
 | 0=>a
 | 1=>b
 | _=>c
def newOf(l:List Pt)(a b c:Nat):Mesh:=
 let r:=(Mesh.empty l).make a b c
 let A:=ghostN r.1 r.2 (tri3 a b c) 3
 ringN A.1 A.2 3
def newMesh(l:List Pt)(a b c:Nat):Mesh:=if ori (pat l a) (pat l b) (pat l c)<0 then newOf l a c b else newOf l a b c
namespace Nw
open Wd Pr
structure EmptyS(w W:World)(mb:Nat)(l:List Pt)(pV aV:Value)(k:Nat):Prop where
 head:Blk W mb 39 #[pV,.slice none 0 0,.slice none 0 0,aV]
 le:w.heap.size≤mb
 pts:W.ownsRow w.heap.size 24 2 pV l.length (l.flatMap Pt.cs)
 at_:W.ownsRow w.heap.size 3 1 aV k (List.replicate k (.int .i64 (-1)))
 bel:Below w.heap.size w W
theorem EmptyS.later{w W W':World}{mb:Nat}{l:List Pt}{pV aV:Value}{k:Nat}(h:EmptyS w W mb l pV aV k)(hb:Below W.heap.size W W'):EmptyS w W' mb l pV aV k:=
 ⟨h.head.later hb,h.le,own_later h.pts hb,own_later h.at_ hb,bel_step h.bel hb⟩
theorem EmptyS.grow{w W W1:World}{mb:Nat}{l:List Pt}{pV aV v':Value}{k:Nat}(h:EmptyS w W mb l pV aV k){o:Obj}(h1:W1.ownsRow w.heap.size 3 1 v' (k+1) (List.replicate k (.int .i64 (-1))++[.int .i64 (-1)]))(h2:(W.alloc o).grownBy W1 aV.ownBlock) :
  EmptyS w (W1.setCell ⟨mb,3,none⟩ v') mb l pV v' (k+1)∧W1.cell? ⟨mb,3,none⟩=some aV∧W1.frozen? ⟨mb,3,none⟩=false:=by
 have hA:=h.later (bel_alloc (bel_refl W) o);have kh:Blk W1 mb 39 #[pV,.slice none 0 0,.slice none 0 0,aV]:=blk_grown h.head h2 (fun e=>blk_ne hA.head hA.at_ (by decide) e.symm rfl)
 have kp:W1.ownsRow w.heap.size 24 2 pV l.length (l.flatMap Pt.cs):=by
  refine hA.pts.kept h2 ?_;cases ho:aV.ownBlock with
  | none=>cases hv':pV.ownBlock with
   | none=>exact .inl rfl
   | some g=>exact .inr (by simp)
  | some g=>exact .inr (own_ne hA.pts hA.at_ (by decide) ho)
 refine⟨⟨kh.set 3 v',h.le,ownsRow_setCell_other (a:=⟨mb,3,none⟩) kp (fun e=>blk_ne kh kp (by decide) e rfl) _,?_,?_⟩,kh.cell 3 aV rfl,kh.frozen 3⟩
 ·rw[List.replicate_succ']
  exact ownsRow_setCell_other (a:=⟨mb,3,none⟩) h1 (fun e=>blk_ne kh h1 (by decide) e rfl) _
 ·refine Below.setCell (p:=⟨mb,3,none⟩) ⟨h2.os.trans hA.bel.os,h2.tape.trans hA.bel.tape,h2.output.trans hA.bel.output,Nat.le_trans hA.bel.size h2.size,fun i hi=>?_⟩ h.le _
  refine(h2.block i (Nat.lt_of_lt_of_le hi hA.bel.size) (fun e=>?_)).trans (hA.bel.block i hi);have:=(hA.at_.lt i e.symm).1;omega
theorem EmptyS.mesh{w W:World}{mb:Nat}{l:List Pt}{pV aV:Value}{k:Nat}(h:EmptyS w W mb l pV aV k)(hk:l.length=k):MAt w.heap.size W mb (Mesh.empty l) pV (.slice none 0 0) (.slice none 0 0) aV where
 head:=h.head
 le:=h.le
 pts:=h.pts
 tris:=⟨rfl,.inl ⟨rfl,rfl⟩⟩
 free:=⟨rfl,.inl ⟨rfl,rfl⟩⟩
 at_:=by
  have e:(Mesh.empty l).at_.map (Value.int .i64)=List.replicate k (.int .i64 (-1)):=by
   rw[←hk];simp[Mesh.empty,List.map_const']
  rw[e];have e2:(Mesh.empty l).at_.length=l.length:=by simp[Mesh.empty]
  rw[e2,hk];exact h.at_
 apart:=.inl rfl
theorem make_empty(M:Mesh)(h:M.free=[])(a b c:Int):(M.make a b c).2=M.tris.length∧(M.make a b c).1.tris=M.tris++[Tri.new a b c]∧(M.make a b c).1.free=[]∧(M.make a b c).1.at_.length=M.at_.length:=by
 unfold Mesh.make;rw[Mk.made_none h];refine⟨rfl,rfl,h,?_⟩;simp only;rw[setAt_len,setAt_len,setAt_len]
theorem link_keeps(M:Mesh)(t i u j:Nat)(f:Bool):(M.link t i u j f).tris.length=M.tris.length∧(M.link t i u j f).free=M.free∧(M.link t i u j f).at_=M.at_:=by
 unfold Mesh.link Mesh.setTri;simp
theorem ghost_inv(M:Mesh)(t:Nat)(v:Nat→Int)(h:M.free=[]):∀i,(ghostN M t v i).1.tris.length=M.tris.length+i∧(ghostN M t v i).1.free=[]∧(ghostN M t v i).1.at_.length=M.at_.length∧(∀j,j<i→(ghostN M t v i).2 j=M.tris.length+j)∧∀j,i≤j→(ghostN M t v i).2 j=0
 | 0=>⟨rfl,h,rfl,fun j hj=>absurd hj (by omega),fun _ _=>rfl⟩
 | i+1=>by
  obtain⟨h1,h2,h3,h4,h5⟩:=ghost_inv M t v h i;obtain⟨m1,m2,m3,m4⟩:=make_empty (ghostN M t v i).1 h2 (v ((i+2)%3)) (v ((i+1)%3)) (-1);obtain⟨k1,k2,k3⟩:=link_keeps ((ghostN M t v i).1.make (v ((i+2)%3)) (v ((i+1)%3)) (-1)).1 t i ((ghostN M t v i).1.make (v ((i+2)%3)) (v ((i+1)%3)) (-1)).2 2 false;refine⟨?_,?_,?_,fun j hj=>?_,fun j hj=>?_⟩
  ·show(Mesh.link _ _ _ _ _ _).tris.length=_
   rw[k1,m2,List.length_append,h1];rfl
  ·exact k2.trans m3
  ·show(Mesh.link _ _ _ _ _ _).at_.length=_
   rw[k3,m4,h3]
  ·show(if j=i then _ else _)=_
   split
   ·rename_i hji
    rw[m1,h1,hji]
   ·exact h4 j (by omega)
  ·show(if j=i then _ else _)=_
   rw[if_neg (by omega)];exact h5 j (by omega)
theorem ring_inv(M:Mesh)(g:Nat→Nat):∀i,(ringN M g i).tris.length=M.tris.length
 | 0=>rfl
 | i+1=>by
  unfold ringN;rw[(link_keeps _ _ _ _ _ _).1,ring_inv M g i]
structure NewS(w W:World)(mb:Nat)(M:Mesh)(va ga:Nat)(v:Nat→Int)(g:Nat→Nat):Prop where
 mesh:MeshF (fun k=>k=va∨k=ga) w.heap.size W mb M
 vV:Blk W va 40 #[.int .i64 (v 0),.int .i64 (v 1),.int .i64 (v 2)]
 gV:Blk W ga 40 #[.int .i64 (g 0:Nat),.int .i64 (g 1:Nat),.int .i64 (g 2:Nat)]
 ne:va≠ga
 bel:Below w.heap.size w W
 gB:w.heap.size≤ga
theorem NewS.fs{w W:World}{mb va ga:Nat}{M:Mesh}{v:Nat→Int}{g:Nat→Nat}(h:NewS w W mb M va ga v g):∀k,(k=va∨k=ga)→k<W.heap.size:=fun k hk=>by
 rcases hk with rfl|rfl
 ·exact h.vV.lt
 ·exact h.gV.lt
theorem NewS.call{w W W':World}{mb va ga:Nat}{M M':Mesh}{v:Nat→Int}{g:Nat→Nat}(h:NewS w W mb M va ga v g)(hm:MeshF (fun k=>k=va∨k=ga) w.heap.size W' mb M')(hb:Below w.heap.size W W')(hs:Same (fun k=>k=va∨k=ga) W W'):NewS w W' mb M' va ga v g:=
 ⟨hm,(hs va (.inl rfl)).trans h.vV,(hs ga (.inr rfl)).trans h.gV,h.ne,h.bel.trans hb,h.gB⟩
theorem NewS.later{w W W':World}{mb va ga:Nat}{M:Mesh}{v:Nat→Int}{g:Nat→Nat}(h:NewS w W mb M va ga v g)(hb:Below W.heap.size W W'):NewS w W' mb M va ga v g:=
 h.call (h.mesh.later hb) (hb.mono h.bel.size) (Same.below h.fs hb)
theorem NewS.put{w W:World}{mb va ga:Nat}{M:Mesh}{v:Nat→Int}{g:Nat→Nat}(h:NewS w W mb M va ga v g)(i:Nat)(hi:i<3)(x:Nat):NewS w (W.setCell ⟨ga,i,none⟩ (.int .i64 x)) mb M va ga v (fun j=>if j=i then x else g j):=by
 obtain⟨pV,tV,fV,aV,hM,hf⟩:=h.mesh
 have ne:∀{v:Value},(v=pV∨v=tV∨v=fV∨v=aV)→v.ownBlock≠some (⟨ga,i,none⟩:Addr).block:=by
  intro v hv e;refine hf.2 ga ?_ (.inr rfl);rcases hv with rfl|rfl|rfl|rfl
  ·exact .inl e
  ·exact .inr (.inl e)
  ·exact .inr (.inr (.inl e))
  ·exact .inr (.inr (.inr e))
 refine⟨⟨pV,tV,fV,aV,⟨hM.head.other (fun e=>hf.1 (.inr e)) _ _,hM.le,ownsRow_setCell_other (a:=⟨ga,i,none⟩) hM.pts (ne (.inl rfl)) _,ownsRow_setCell_other (a:=⟨ga,i,none⟩) hM.tris (ne (.inr (.inl rfl))) _,ownsRow_setCell_other (a:=⟨ga,i,none⟩) hM.free (ne (.inr (.inr (.inl rfl)))) _,ownsRow_setCell_other (a:=⟨ga,i,none⟩) hM.at_ (ne (.inr (.inr (.inr rfl)))) _,hM.apart⟩,hf⟩,h.vV.other h.ne _ _,?_,h.ne,bel_set h.bel h.gB _ _,h.gB⟩;have:=h.gV.set i (.int .i64 x);rcases(show i=0∨i=1∨i=2 by omega)with rfl|rfl|rfl<;>simpa using this
theorem add0(g j:Nat):(⟨g,0,none⟩:Addr).add j=⟨g,j,none⟩:=by
 unfold Addr.add
 split
 ·rename_i h;rw[h]
 ·simp
theorem Tryz.info32':(Tryz.prog.info? 24).map (fun i=>(i.zero,i.size,i.bytes))=some (some (.agg #[.int .i64 0,.int .i64 0]),2,16):=by kernel_rfl
set_option maxHeartbeats 4000000 in
set_option maxRecDepth 100000 in
theorem new_any(g cl:Nat)(l:List Pt)(a b c:Nat)(w:World)(hP:PtsAt w g l)(hn:nearAll l)(ha:a<l.length)(hb:b<l.length)(hc:c<l.length)(hl9:l.length≤1000000000)(ho:ori (pat l a) (pat l b) (pat l c)≠0) :
  Calls Tryz.prog 48 #[.slice (some ⟨g,0,none⟩) l.length cl,.int .i64 a,.int .i64 b,.int .i64 c] w fun e w'=>∃mb:Nat,e=.returned (.tuple #[.pointer (some ⟨mb,0,none⟩),.bool true])∧MeshAt w.heap.size w' mb (newMesh l a b c)∧Below w.heap.size w w':=by
 have HP:=Hd hP;have HN:=Hd hn;have HOO:=Hd ho;have hor:=Hd (fun w=>orient_any (pat l a) (pat l b) (pat l c) w (hn a) (hn b) (hn c))
 have hnews:∀j u,(l.flatMap Pt.cs)[j]? =some u→w.cell? ((⟨g,0,none⟩:Addr).add j)=some u:=by
  intro j u hj
  have hjl:j<l.length*2:=by
   have:=(List.getElem?_eq_some_iff.1 hj).1;rw[flat_len Pt.cs 2 (fun _=>rfl)]at this;exact this
  obtain⟨h0,h1⟩:=hP.2 (j / 2) (by omega);have e:=flat_get Pt.cs 2 (fun _=>rfl) l (j / 2) (j%2) (by omega);rw[show j / 2*2+j%2=j by omega,hj,pat_get (by omega)]at e;simp only[Option.bind_some]at e;rcases(show j%2=0∨j%2=1 by omega)with hm|hm
  ·rw[hm]at e
   have:u=.int .i64 (pat l (j / 2)).x:=Option.some.inj e;rw[this,show((⟨g,0,none⟩:Addr).add j)=⟨g,j / 2*2,none⟩by rw[add0];congr 1;omega];exact h0
  ·rw[hm]at e
   have:u=.int .i64 (pat l (j / 2)).y:=Option.some.inj e;rw[this,show((⟨g,0,none⟩:Addr).add j)=⟨g,j / 2*2+1,none⟩by rw[add0];congr 1;omega];exact h1
 have HNW:=Hd hnews;obtain⟨n,hnn⟩:∃n,l.length=n:=⟨_,rfl⟩;have HL:=Hd hnn;rw[hnn]at ha hb hc hl9 ⊢;clear hP hn ho hnews hnn;obtain⟨i0,hi',hz0,hz1,hz2⟩:=info_parts Tryz.info32'
 go_enter Tryz.func48,Tryz.ntmps48
 go_upto_region 2 with(at_builtin;refine wpList_append_own_at _ rfl _ _ 35 rfl w.heap.size 24 i0 (.agg #[.int .i64 0,.int .i64 0]) 2 16 Tryz.underlying35 hi' hz0 hz1 hz2 rfl (by decide) (.slice none 0 0) 0 [] rfl ⟨rfl,.inl ⟨rfl,rfl⟩⟩ ⟨g,0,none⟩ n cl (l.flatMap Pt.cs) rfl (by rw[flat_len Pt.cs 2 (fun _=>rfl),HL.out]) HNW.out (by intro u hu;obtain⟨q,_,hq⟩:=List.mem_flatMap.1 hu;simp[Pt.cs]at hq;rcases hq with rfl|rfl<;>rfl) (by unfold maxLen;omega) (by omega) (Nat.le_refl _) ?_;intro pV w1 hown hgrow _ hat;have HOW:=Hd hown;have HGR:=Hd hgrow;obtain⟨A0,c0,rfl⟩:=own_slice hown;clear hown hgrow hat)
 have hE:EmptyS w (w1.alloc (.cells #[.slice A0 n c0,.slice none 0 0,.slice none 0 0,.slice none 0 0] 39)) w1.heap.size l (.slice A0 n c0) (.slice none 0 0) 0:=by
  have hg:=HGR.out;have hbw:Below w.heap.size w w1:=⟨hg.os,hg.tape,hg.output,hg.size,fun k hk=>hg.block k hk (by simp[Value.ownBlock])⟩;refine⟨Blk.new _ _ _,hbw.size,?_,⟨rfl,.inl ⟨rfl,rfl⟩⟩,bel_alloc hbw _⟩;have h1:=own_later HOW.out (bel_alloc (bel_refl w1) (.cells #[.slice A0 n c0,.slice none 0 0,.slice none 0 0,.slice none 0 0] 39));rw[HL.out]
  simpa using h1
 have HE:=Hd hE;clear hE HOW HGR HNW;generalize w1.alloc (.cells #[.slice A0 n c0,.slice none 0 0,.slice none 0 0,.slice none 0 0] 39)=W0 at *;generalize w1.heap.size=mb at *;go_wp2
 go_loopw [22] (fun x wr=>∃(k:Nat) (aV:Value),x=.int .i64 k∧k≤n∧Hid (EmptyS w wr mb l (.slice A0 n c0) aV k)) (fun x _=>n-(intOf x).toNat)
 case atStart=>exact⟨0,_,rfl,Nat.zero_le _,HE⟩
 case round=>
  obtain⟨k,aV,rfl,hk,HK⟩:=hrel;obtain⟨A1,c1,rfl⟩:=own_slice HK.out.at_;have c3:=HK.out.head.cell 3 (.slice A1 k c1) rfl;by_cases hlt:k<n
  ·have k1:(k:Int)<(n:Int):=by omega
   obtain⟨i0,hi',hz0,hz1,hz2⟩:=info_parts Tryz.info3'
   go_wp2_with (at_builtin;refine wpList_append_own_at _ rfl _ _ 37 rfl w.heap.size 3 i0 (.int .i64 0) 1 8 Tryz.underlying37 hi' hz0 hz1 hz2 rfl (by decide) (.slice A1 k c1) k (List.replicate k (.int .i64 (-1))) rfl (HK.out.at_.alloc _) ⟨wr.heap.size,0,none⟩ 1 1 [.int .i64 (-1)] rfl rfl (cell_one_new _ _ _) (by simp[Value.oneCell']) (by unfold maxLen;omega) (by omega) (by have:=HK.out.bel.size;simp;omega) ?_;intro v3 w9 hown3 hgrow _ hat3;obtain⟨g3,cp3,rfl⟩:=own_shape' hown3;have HG3:=Hd (HK.out.grow hown3 hgrow);have hc4:=HG3.out.2.1;have hc5:=HG3.out.2.2;clear hown3 hgrow hat3)
   go_roundw
   case rel=>exact⟨k+1,_,by go_num,by omega,Hd HG3.out.1⟩
   case measure=>simp[intOf];omega
  ·have hkn:n=k:=by omega
   subst hkn;have lx:=HP.out.later HK.out.bel;obtain⟨pa0,pa1⟩:=lx.cells a (by rw[HL.out];exact ha);obtain⟨pb0,pb1⟩:=lx.cells b (by rw[HL.out];exact hb);obtain⟨pc0,pc1⟩:=lx.cells c (by rw[HL.out];exact hc);have a0:(0:Int)≤(a:Int):=by omega
   have a1:(a:Int)<(n:Int):=by omega
   have b0:(0:Int)≤(b:Int):=by omega
   have b1:(b:Int)<(n:Int):=by omega
   have cc0:(0:Int)≤(c:Int):=by omega
   have cc1:(c:Int)<(n:Int):=by omega
   clear lx
   go_upto_region 6 with(fail)
   generalize hsg:(ori (pat l a) (pat l b) (pat l c)).sign=sg at *;have HSG:=Hd hsg;clear hsg c3;refine Go.Gq.region (by kernel_rfl) (by kernel_rfl) ?_
   repeat (go_big_quiet_step ((go_at_call 16;exact Gq.call (hor.out _))))
   refine wpQuiet_nil ?_;intro wx hw';have HX:=Hd (HK.out.later (Go.Gq.later_bel hw'));clear hw' pa0 pa1 pb0 pb1 pc0 pc1
   have hsv:sg=1∨sg=-1:=by
    rw[←HSG.out];rcases Int.lt_trichotomy (ori (pat l a) (pat l b) (pat l c)) 0 with h|h|h
    ·exact .inr (Int.sign_eq_neg_one_of_neg h)
    ·exact absurd h HOO.out
    ·exact .inl (Int.sign_eq_one_of_pos h)
   have hdef:∃b' c':Nat,b'<n∧c'<n∧newMesh l a b c=newOf l a b' c'∧((sg=1∧b'=b∧c'=c)∨(sg=-1∧b'=c∧c'=b)):=by
    rcases hsv with h|h
    ·refine⟨b,c,hb,hc,?_,.inl ⟨h,rfl,rfl⟩⟩
     unfold newMesh;rw[if_neg];intro hlt;have:=Int.sign_eq_neg_one_of_neg hlt;have:=HSG.out;omega
    ·refine⟨c,b,hc,hb,?_,.inr ⟨h,rfl,rfl⟩⟩
     unfold newMesh;rw[if_pos];rcases Int.lt_trichotomy (ori (pat l a) (pat l b) (pat l c)) 0 with h'|h'|h'
     ·exact h'
     ·exact absurd h' HOO.out
     ·have:=Int.sign_eq_one_of_pos h'
      have:=HSG.out;omega
   obtain⟨b',c',hb',hc',hnm,hbc⟩:=hdef;have HNM:=Hd hnm;clear hnm hsv;rcases hbc with⟨rfl,rfl,rfl⟩|⟨rfl,rfl,rfl⟩
   all_goals
    go_upto_region 11 with(fail)
    have hmk:=Mk.make_any (fun _=>False) w.heap.size mb a b' c' (Mesh.empty l) wx ⟨_,_,_,_,HX.out.mesh HL.out,fun h=>h.elim,fun _ _ h=>h.elim⟩ (fun _ h=>h.elim) (by show 0≤_;omega) (by show 0≤_;omega) HX.out.bel.size (fun n hn=>by cases hn) (by show(a:Int)<((l.map fun _=>(-1:Int)).length:Int);rw[List.length_map];have:=HL.out;omega) (by show(b':Int)<((l.map fun _=>(-1:Int)).length:Int);rw[List.length_map];have:=HL.out;omega) (by show(c':Int)<((l.map fun _=>(-1:Int)).length:Int);rw[List.length_map];have:=HL.out;omega);obtain⟨e1,e2,e3,e4⟩:=make_empty (Mesh.empty l) rfl (a:Int) (b':Int) (c':Int);obtain⟨M1,hM1⟩:∃M1,((Mesh.empty l).make a b' c').1=M1:=⟨_,rfl⟩;obtain⟨t1,ht1⟩:∃t1,((Mesh.empty l).make a b' c').2=t1:=⟨_,rfl⟩
    have hno:newOf l a b' c'=ringN (ghostN M1 t1 (tri3 a b' c') 3).1 (ghostN M1 t1 (tri3 a b' c') 3).2 3:=by
     show ringN (ghostN ((Mesh.empty l).make a b' c').1 ((Mesh.empty l).make a b' c').2 (tri3 a b' c') 3).1 (ghostN ((Mesh.empty l).make a b' c').1 ((Mesh.empty l).make a b' c').2 (tri3 a b' c') 3).2 3=_
     rw[hM1,ht1]
    have HNO:=Hd hno;rw[hM1,ht1]at hmk;rw[hM1]at e2 e3 e4;rw[ht1]at e1;have hml:M1.tris.length=1:=by rw[e2];rfl
    have hal:M1.at_.length=n:=by rw[e4];show(l.map fun _=>(-1:Int)).length=n;rw[List.length_map];exact HL.out
    have ht10:t1=0:=by rw[e1];rfl
    have GI:=Hd (ghost_inv M1 t1 (tri3 a b' c') e3)
    have HVV:Hid (∀i,tri3 a b' c' i<(M1.at_.length:Int)):=Hd (fun i=>by
     rw[hal];unfold tri3
     split<;>omega)
    have HML:=Hd hml;have HT1:=Hd ht10;have HAL:=Hd hal;have HMK0:=Hd hmk;have HB0:=Hd HX.out.bel;clear hmk hno e1 e2 e3 e4 hM1 ht1 hml ht10 hal HX HK HE hor HSG HOO
    go_upto_region 14 with(go_at_call 39;refine HMK0.out.mono ?_;rintro e w5 ⟨rfl,hm5,hb5,_⟩;have HM5:=Hd hm5;have HB5:=Hd hb5;clear hm5 hb5)
    have hS:NewS w ((w5.alloc (.cells #[.int .i64 a,.int .i64 b',.int .i64 c'] 40)).alloc (.cells #[.int .i64 0,.int .i64 0,.int .i64 0] 40)) mb (ghostN M1 t1 (tri3 a b' c') 0).1 w5.heap.size (w5.heap.size+1) (tri3 a b' c') (ghostN M1 t1 (tri3 a b' c') 0).2:=by
     have hb6:=bel_alloc (bel_alloc (bel_refl w5) (.cells #[.int .i64 a,.int .i64 b',.int .i64 c'] 40)) (.cells #[.int .i64 0,.int .i64 0,.int .i64 0] 40);have hbw:=HB0.out.trans HB5.out;exact⟨(HM5.out.wider _ fun k hk=>.inr (by omega)).later hb6,(Blk.new _ 40 #[.int .i64 a,.int .i64 b',.int .i64 c']).alloc _,Blk.new' _ 40 _ (by simp),by omega,bel_step hbw hb6,by have:=hbw.size;omega⟩
    have HS0:=Hd hS;clear hS HMK0 HB0 HM5 HB5;generalize (w5.alloc (.cells #[.int .i64 a,.int .i64 b',.int .i64 c'] 40)).alloc (.cells #[.int .i64 0,.int .i64 0,.int .i64 0] 40)=W6 at *;obtain⟨ga,hga⟩:∃ga,w5.heap.size+1=ga:=⟨_,rfl⟩;rw[hga]at HS0 ⊢;clear hga;generalize w5.heap.size=va at *;generalize tri3 a b' c'=vv at *;go_wp2
    go_loopw [62] (fun x wr=>∃i:Nat,x=.int .i64 i∧i≤3∧Hid (NewS w wr mb (ghostN M1 t1 vv i).1 va ga vv (ghostN M1 t1 vv i).2)) (fun x _=>3-(intOf x).toNat)
    case atStart=>exact⟨0,rfl,by omega,HS0⟩
    case round=>
     obtain⟨i,rfl,hi,HS⟩:=hrel;rcases(show i=0∨i=1∨i=2∨i=3 by omega)with rfl|rfl|rfl|rfl
     ·obtain⟨Ni,hNi⟩:∃Ni,M1.tris.length+0=Ni:=⟨_,rfl⟩
      have hml:=HML.out;have ht10:=HT1.out;have hmk:=fun u (hu:NewS w u mb (ghostN M1 t1 vv 0).1 va ga vv (ghostN M1 t1 vv 0).2)=>Mk.make_any (fun k=>k=va∨k=ga) w.heap.size mb (vv 2) (vv 1) (-1) (ghostN M1 t1 vv 0).1 u hu.mesh hu.fs (by have:=(GI.out 0).1;omega) (by rw[(GI.out 0).2.1];simp) hu.bel.size (by rw[(GI.out 0).2.1];intro n hn;cases hn) (by rw[(GI.out 0).2.2.1];exact HVV.out 2) (by rw[(GI.out 0).2.2.1];exact HVV.out 1) (by omega)
      have hr2:((ghostN M1 t1 vv 0).1.make (vv 2) (vv 1) (-1)).2=Ni:=(make_empty _ (GI.out 0).2.1 _ _ _).1.trans ((GI.out 0).1.trans hNi);have hr1:((ghostN M1 t1 vv 0).1.make (vv 2) (vv 1) (-1)).1.tris.length=Ni+1:=by rw[(make_empty _ (GI.out 0).2.1 _ _ _).2.1,List.length_append,(GI.out 0).1,hNi];rfl
      have hnx:ghostN M1 t1 vv 1=(((ghostN M1 t1 vv 0).1.make (vv 2) (vv 1) (-1)).1.link t1 0 Ni 2 false,fun j=>if j=0 then Ni else (ghostN M1 t1 vv 0).2 j):=by
       rw[←hr2];rfl
      rw[hr2]at hmk;have hlk:=fun u (hu:NewS w u mb ((ghostN M1 t1 vv 0).1.make (vv 2) (vv 1) (-1)).1 va ga vv (fun j=>if j=0 then Ni else (ghostN M1 t1 vv 0).2 j))=>Lk.link_any (fun k=>k=va∨k=ga) w.heap.size mb t1 0 Ni 2 false _ u hu.mesh (by omega) (by omega) (by omega) (by omega) (by omega)
      have HNX:=Hd hnx;have HMK:=Hd hmk;have HLK:=Hd hlk;have w0:IntKind.i64.wrap 0=0:=by decide
      have w1:IntKind.i64.wrap 1=1:=by decide
      have w2:IntKind.i64.wrap 2=2:=by decide
      have w3:IntKind.i64.wrap 3=3:=by decide
      have w4:IntKind.i64.wrap 4=4:=by decide
      clear hmk hr2 hr1 hnx hlk hNi hml ht10
      go_upto_region 17 with(fail)
      have x1:=HS.out.vV.cell 2 (.int .i64 (vv 2)) rfl;have x2:=HS.out.vV.cell 1 (.int .i64 (vv 1)) rfl;have z1:=HS.out.ne;have z2:=HS.out.ne.symm
      go_region_held3 (fun w'=>w'.cell? ⟨va,2,none⟩=some (.int .i64 (vv 2))∧w'.cell? ⟨va,1,none⟩=some (.int .i64 (vv 1))) (go_keep) ((go_at_call 39;refine(HMK.out _ (HS.out.later (bel_drew (bel_refl _)))).mono ?_;rintro e w7 ⟨rfl,hm7,hb7,hs7⟩;have hS7:=(HS.out.later (bel_drew (bel_refl _))).call hm7 hb7 hs7;have y1:=hS7.vV.cell 2 (.int .i64 (vv 2)) rfl;have y2:=hS7.vV.cell 1 (.int .i64 (vv 1)) rfl;obtain⟨y3,y4,y5,y6,y7,y8⟩:=hS7.gV.three;have HS7:=Hd hS7;clear hm7 hb7 hs7 hS7))
      have hS8:=HS7.out.put 0 (by omega) Ni;clear HS7 x1 x2 z1 z2 y1 y2 y3 y4 y5 y6 y7 y8 w0 w1 w2 w3 w4
      go_upto_region 18 with(fail)
      generalize hW8:World.setCell _ ⟨ga,0,none⟩ (.int .i64 (Ni:Int))=W8 at *;have g8:=hS8.gV.cell 0 (.int .i64 (Ni:Int)) rfl;have hlk2:=HLK.out W8 hS8;have HLK2:=Hd hlk2;have HS8:=Hd hS8;clear hlk2 hS8 hW8
      go_wp2_with (go_at_call 40;refine HLK2.out.mono ?_;rintro e w9 ⟨rfl,hm9,hb9,hs9⟩;have HS9:=Hd (HS8.out.call hm9 hb9 hs9);clear hm9 hb9 hs9)
      go_roundw
      case rel=>
       have h9:=HS9.out;refine⟨1,by go_num,by omega,Hd ?_⟩;rw[HNX.out];exact h9
      case measure=>simp[intOf]
     ·obtain⟨Ni,hNi⟩:∃Ni,M1.tris.length+1=Ni:=⟨_,rfl⟩
      have hml:=HML.out;have ht10:=HT1.out;have hmk:=fun u (hu:NewS w u mb (ghostN M1 t1 vv 1).1 va ga vv (ghostN M1 t1 vv 1).2)=>Mk.make_any (fun k=>k=va∨k=ga) w.heap.size mb (vv 0) (vv 2) (-1) (ghostN M1 t1 vv 1).1 u hu.mesh hu.fs (by have:=(GI.out 1).1;omega) (by rw[(GI.out 1).2.1];simp) hu.bel.size (by rw[(GI.out 1).2.1];intro n hn;cases hn) (by rw[(GI.out 1).2.2.1];exact HVV.out 0) (by rw[(GI.out 1).2.2.1];exact HVV.out 2) (by omega)
      have hr2:((ghostN M1 t1 vv 1).1.make (vv 0) (vv 2) (-1)).2=Ni:=(make_empty _ (GI.out 1).2.1 _ _ _).1.trans ((GI.out 1).1.trans hNi);have hr1:((ghostN M1 t1 vv 1).1.make (vv 0) (vv 2) (-1)).1.tris.length=Ni+1:=by rw[(make_empty _ (GI.out 1).2.1 _ _ _).2.1,List.length_append,(GI.out 1).1,hNi];rfl
      have hnx:ghostN M1 t1 vv 2=(((ghostN M1 t1 vv 1).1.make (vv 0) (vv 2) (-1)).1.link t1 1 Ni 2 false,fun j=>if j=1 then Ni else (ghostN M1 t1 vv 1).2 j):=by
       rw[←hr2];rfl
      rw[hr2]at hmk;have hlk:=fun u (hu:NewS w u mb ((ghostN M1 t1 vv 1).1.make (vv 0) (vv 2) (-1)).1 va ga vv (fun j=>if j=1 then Ni else (ghostN M1 t1 vv 1).2 j))=>Lk.link_any (fun k=>k=va∨k=ga) w.heap.size mb t1 1 Ni 2 false _ u hu.mesh (by omega) (by omega) (by omega) (by omega) (by omega)
      have HNX:=Hd hnx;have HMK:=Hd hmk;have HLK:=Hd hlk;have w0:IntKind.i64.wrap 0=0:=by decide
      have w1:IntKind.i64.wrap 1=1:=by decide
      have w2:IntKind.i64.wrap 2=2:=by decide
      have w3:IntKind.i64.wrap 3=3:=by decide
      have w4:IntKind.i64.wrap 4=4:=by decide
      clear hmk hr2 hr1 hnx hlk hNi hml ht10
      go_upto_region 17 with(fail)
      have x1:=HS.out.vV.cell 0 (.int .i64 (vv 0)) rfl;have x2:=HS.out.vV.cell 2 (.int .i64 (vv 2)) rfl;have z1:=HS.out.ne;have z2:=HS.out.ne.symm
      go_region_held3 (fun w'=>w'.cell? ⟨va,0,none⟩=some (.int .i64 (vv 0))∧w'.cell? ⟨va,2,none⟩=some (.int .i64 (vv 2))) (go_keep) ((go_at_call 39;refine(HMK.out _ (HS.out.later (bel_drew (bel_refl _)))).mono ?_;rintro e w7 ⟨rfl,hm7,hb7,hs7⟩;have hS7:=(HS.out.later (bel_drew (bel_refl _))).call hm7 hb7 hs7;have y1:=hS7.vV.cell 0 (.int .i64 (vv 0)) rfl;have y2:=hS7.vV.cell 2 (.int .i64 (vv 2)) rfl;obtain⟨y3,y4,y5,y6,y7,y8⟩:=hS7.gV.three;have HS7:=Hd hS7;clear hm7 hb7 hs7 hS7))
      have hS8:=HS7.out.put 1 (by omega) Ni;clear HS7 x1 x2 z1 z2 y1 y2 y3 y4 y5 y6 y7 y8 w0 w1 w2 w3 w4
      go_upto_region 18 with(fail)
      generalize hW8:World.setCell _ ⟨ga,1,none⟩ (.int .i64 (Ni:Int))=W8 at *;have g8:=hS8.gV.cell 1 (.int .i64 (Ni:Int)) rfl;have hlk2:=HLK.out W8 hS8;have HLK2:=Hd hlk2;have HS8:=Hd hS8;clear hlk2 hS8 hW8
      go_wp2_with (go_at_call 40;refine HLK2.out.mono ?_;rintro e w9 ⟨rfl,hm9,hb9,hs9⟩;have HS9:=Hd (HS8.out.call hm9 hb9 hs9);clear hm9 hb9 hs9)
      go_roundw
      case rel=>
       have h9:=HS9.out;refine⟨2,by go_num,by omega,Hd ?_⟩;rw[HNX.out];exact h9
      case measure=>simp[intOf]
     ·obtain⟨Ni,hNi⟩:∃Ni,M1.tris.length+2=Ni:=⟨_,rfl⟩
      have hml:=HML.out;have ht10:=HT1.out;have hmk:=fun u (hu:NewS w u mb (ghostN M1 t1 vv 2).1 va ga vv (ghostN M1 t1 vv 2).2)=>Mk.make_any (fun k=>k=va∨k=ga) w.heap.size mb (vv 1) (vv 0) (-1) (ghostN M1 t1 vv 2).1 u hu.mesh hu.fs (by have:=(GI.out 2).1;omega) (by rw[(GI.out 2).2.1];simp) hu.bel.size (by rw[(GI.out 2).2.1];intro n hn;cases hn) (by rw[(GI.out 2).2.2.1];exact HVV.out 1) (by rw[(GI.out 2).2.2.1];exact HVV.out 0) (by omega)
      have hr2:((ghostN M1 t1 vv 2).1.make (vv 1) (vv 0) (-1)).2=Ni:=(make_empty _ (GI.out 2).2.1 _ _ _).1.trans ((GI.out 2).1.trans hNi);have hr1:((ghostN M1 t1 vv 2).1.make (vv 1) (vv 0) (-1)).1.tris.length=Ni+1:=by rw[(make_empty _ (GI.out 2).2.1 _ _ _).2.1,List.length_append,(GI.out 2).1,hNi];rfl
      have hnx:ghostN M1 t1 vv 3=(((ghostN M1 t1 vv 2).1.make (vv 1) (vv 0) (-1)).1.link t1 2 Ni 2 false,fun j=>if j=2 then Ni else (ghostN M1 t1 vv 2).2 j):=by
       rw[←hr2];rfl
      rw[hr2]at hmk;have hlk:=fun u (hu:NewS w u mb ((ghostN M1 t1 vv 2).1.make (vv 1) (vv 0) (-1)).1 va ga vv (fun j=>if j=2 then Ni else (ghostN M1 t1 vv 2).2 j))=>Lk.link_any (fun k=>k=va∨k=ga) w.heap.size mb t1 2 Ni 2 false _ u hu.mesh (by omega) (by omega) (by omega) (by omega) (by omega)
      have HNX:=Hd hnx;have HMK:=Hd hmk;have HLK:=Hd hlk;have w0:IntKind.i64.wrap 0=0:=by decide
      have w1:IntKind.i64.wrap 1=1:=by decide
      have w2:IntKind.i64.wrap 2=2:=by decide
      have w3:IntKind.i64.wrap 3=3:=by decide
      have w4:IntKind.i64.wrap 4=4:=by decide
      clear hmk hr2 hr1 hnx hlk hNi hml ht10
      go_upto_region 17 with(fail)
      have x1:=HS.out.vV.cell 1 (.int .i64 (vv 1)) rfl;have x2:=HS.out.vV.cell 0 (.int .i64 (vv 0)) rfl;have z1:=HS.out.ne;have z2:=HS.out.ne.symm
      go_region_held3 (fun w'=>w'.cell? ⟨va,1,none⟩=some (.int .i64 (vv 1))∧w'.cell? ⟨va,0,none⟩=some (.int .i64 (vv 0))) (go_keep) ((go_at_call 39;refine(HMK.out _ (HS.out.later (bel_drew (bel_refl _)))).mono ?_;rintro e w7 ⟨rfl,hm7,hb7,hs7⟩;have hS7:=(HS.out.later (bel_drew (bel_refl _))).call hm7 hb7 hs7;have y1:=hS7.vV.cell 1 (.int .i64 (vv 1)) rfl;have y2:=hS7.vV.cell 0 (.int .i64 (vv 0)) rfl;obtain⟨y3,y4,y5,y6,y7,y8⟩:=hS7.gV.three;have HS7:=Hd hS7;clear hm7 hb7 hs7 hS7))
      have hS8:=HS7.out.put 2 (by omega) Ni;clear HS7 x1 x2 z1 z2 y1 y2 y3 y4 y5 y6 y7 y8 w0 w1 w2 w3 w4
      go_upto_region 18 with(fail)
      generalize hW8:World.setCell _ ⟨ga,2,none⟩ (.int .i64 (Ni:Int))=W8 at *;have g8:=hS8.gV.cell 2 (.int .i64 (Ni:Int)) rfl;have hlk2:=HLK.out W8 hS8;have HLK2:=Hd hlk2;have HS8:=Hd hS8;clear hlk2 hS8 hW8
      go_wp2_with (go_at_call 40;refine HLK2.out.mono ?_;rintro e w9 ⟨rfl,hm9,hb9,hs9⟩;have HS9:=Hd (HS8.out.call hm9 hb9 hs9);clear hm9 hb9 hs9)
      go_roundw
      case rel=>
       have h9:=HS9.out;refine⟨3,by go_num,by omega,Hd ?_⟩;rw[HNX.out];exact h9
      case measure=>simp[intOf]
     ·obtain⟨M3,hM3⟩:∃M3,(ghostN M1 t1 vv 3).1=M3:=⟨_,rfl⟩
      obtain⟨gg,hgg⟩:∃gg,(ghostN M1 t1 vv 3).2=gg:=⟨_,rfl⟩;rw[hM3,hgg]at HS HNO;have h3:=(GI.out 3).1;rw[hM3]at h3;have g3:=(GI.out 3).2.2.2.1;rw[hgg]at g3;have H3:=Hd h3;have GG:=Hd g3;clear hM3 hgg h3 g3 HS0;go_wp2;generalize ((3:Nat):Int)=z3
      go_loopw [87] (fun x wr=>∃i:Nat,x=.int .i64 i∧i≤3∧Hid (NewS w wr mb (ringN M3 gg i) va ga vv gg)) (fun x _=>3-(intOf x).toNat)
      case atStart=>exact⟨0,rfl,by omega,HS⟩
      case round=>
       obtain⟨i,rfl,hi,HS⟩:=hrel;rcases(show i=0∨i=1∨i=2∨i=3 by omega)with rfl|rfl|rfl|rfl
       ·have hg1:gg 0=1+0:=by rw[GG.out 0 (by omega),HML.out]
        have hg2:gg 1=1+1:=by rw[GG.out 1 (by omega),HML.out]
        have hrl:(ringN M3 gg 0).tris.length=4:=by rw[ring_inv,H3.out,HML.out]
        have hlk:=fun u (hu:NewS w u mb (ringN M3 gg 0) va ga vv gg)=>Lk.link_any (fun k=>k=va∨k=ga) w.heap.size mb (gg 0) 1 (gg 1) 0 false _ u hu.mesh (by omega) (by omega) (by omega) (by omega) (by omega)
        have x1:=HS.out.gV.cells 0 (.int .i64 (gg 0:Nat)) rfl;have x2:=HS.out.gV.cells 1 (.int .i64 (gg 1:Nat)) rfl;have HLK:=Hd hlk;clear hlk hg1 hg2 hrl
        go_upto_region 23 with(fail)
        refine Go.Gq.region_tail 9 (by kernel_rfl) (by kernel_rfl) ?_;simp only[List.take_succ_cons,List.take_zero,List.drop_succ_cons,List.drop_zero]
        repeat (go_big_quiet_step (fail))
        refine wpQuiet_nil ?_;intro wx2 hw2;have hS2:=HS.out.later (Go.Gq.later_bel hw2);clear hw2 x1 x2;have hlk2:=HLK.out wx2 hS2;have HLK2:=Hd hlk2;have HS2:=Hd hS2;clear hlk2 hS2
        go_wp2_with (go_at_call 40;refine HLK2.out.mono ?_;rintro e w9 ⟨rfl,hm9,hb9,hs9⟩;have HS9:=Hd (HS2.out.call hm9 hb9 hs9);clear hm9 hb9 hs9)
        go_roundw
        case rel=>exact⟨1,by go_num,by omega,Hd HS9.out⟩
        case measure=>simp[intOf]
       ·have hg1:gg 1=1+1:=by rw[GG.out 1 (by omega),HML.out]
        have hg2:gg 2=1+2:=by rw[GG.out 2 (by omega),HML.out]
        have hrl:(ringN M3 gg 1).tris.length=4:=by rw[ring_inv,H3.out,HML.out]
        have hlk:=fun u (hu:NewS w u mb (ringN M3 gg 1) va ga vv gg)=>Lk.link_any (fun k=>k=va∨k=ga) w.heap.size mb (gg 1) 1 (gg 2) 0 false _ u hu.mesh (by omega) (by omega) (by omega) (by omega) (by omega)
        have x1:=HS.out.gV.cells 1 (.int .i64 (gg 1:Nat)) rfl;have x2:=HS.out.gV.cells 2 (.int .i64 (gg 2:Nat)) rfl;have HLK:=Hd hlk;clear hlk hg1 hg2 hrl
        go_upto_region 23 with(fail)
        refine Go.Gq.region_tail 9 (by kernel_rfl) (by kernel_rfl) ?_;simp only[List.take_succ_cons,List.take_zero,List.drop_succ_cons,List.drop_zero]
        repeat (go_big_quiet_step (fail))
        refine wpQuiet_nil ?_;intro wx2 hw2;have hS2:=HS.out.later (Go.Gq.later_bel hw2);clear hw2 x1 x2;have hlk2:=HLK.out wx2 hS2;have HLK2:=Hd hlk2;have HS2:=Hd hS2;clear hlk2 hS2
        go_wp2_with (go_at_call 40;refine HLK2.out.mono ?_;rintro e w9 ⟨rfl,hm9,hb9,hs9⟩;have HS9:=Hd (HS2.out.call hm9 hb9 hs9);clear hm9 hb9 hs9)
        go_roundw
        case rel=>exact⟨2,by go_num,by omega,Hd HS9.out⟩
        case measure=>simp[intOf]
       ·have hg1:gg 2=1+2:=by rw[GG.out 2 (by omega),HML.out]
        have hg2:gg 0=1+0:=by rw[GG.out 0 (by omega),HML.out]
        have hrl:(ringN M3 gg 2).tris.length=4:=by rw[ring_inv,H3.out,HML.out]
        have hlk:=fun u (hu:NewS w u mb (ringN M3 gg 2) va ga vv gg)=>Lk.link_any (fun k=>k=va∨k=ga) w.heap.size mb (gg 2) 1 (gg 0) 0 false _ u hu.mesh (by omega) (by omega) (by omega) (by omega) (by omega)
        have x1:=HS.out.gV.cells 2 (.int .i64 (gg 2:Nat)) rfl;have x2:=HS.out.gV.cells 0 (.int .i64 (gg 0:Nat)) rfl;have HLK:=Hd hlk;clear hlk hg1 hg2 hrl
        go_upto_region 23 with(fail)
        refine Go.Gq.region_tail 9 (by kernel_rfl) (by kernel_rfl) ?_;simp only[List.take_succ_cons,List.take_zero,List.drop_succ_cons,List.drop_zero]
        repeat (go_big_quiet_step (fail))
        refine wpQuiet_nil ?_;intro wx2 hw2;have hS2:=HS.out.later (Go.Gq.later_bel hw2);clear hw2 x1 x2;have hlk2:=HLK.out wx2 hS2;have HLK2:=Hd hlk2;have HS2:=Hd hS2;clear hlk2 hS2
        go_wp2_with (go_at_call 40;refine HLK2.out.mono ?_;rintro e w9 ⟨rfl,hm9,hb9,hs9⟩;have HS9:=Hd (HS2.out.call hm9 hb9 hs9);clear hm9 hb9 hs9)
        go_roundw
        case rel=>exact⟨3,by go_num,by omega,Hd HS9.out⟩
        case measure=>simp[intOf]
       ·go_wp2
        refine bodyPost_ret (v:=.tuple #[.pointer (some ⟨mb,0,none⟩),.bool true]) (by simp[results,Tryz.results48,go_sem]) rfl ⟨mb,rfl,?_,HS.out.bel⟩;rw[HNM.out,HNO.out];exact HS.out.mesh.at_
end Nw
end Go.Proofs.YtdihefgleefhmaaGreat
