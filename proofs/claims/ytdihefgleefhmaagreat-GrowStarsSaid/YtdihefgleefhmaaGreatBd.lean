import Derived.Test.YtdihefgleefhmaaGreatIs
import Derived.Test.YtdihefgleefhmaaGreatIx
import Derived.Test.YtdihefgleefhmaaGreatDh
import Derived.Test.YtdihefgleefhmaaGreatNv
import Derived.Test.YtdihefgleefhmaaGreatMv
namespace Go.Proofs.YtdihefgleefhmaaGreat
open Go.RowKit
def InsGood(M:Mesh)(v:Nat)(fr:Int)(M':Mesh):Prop:=∀(F0:Nat→Prop) (B b:Nat) (w:World),MeshF F0 B w b M→(∀k,F0 k→k<w.heap.size)→B≤w.heap.size→
 Calls Tryz.prog 11 #[.pointer (some ⟨b,0,none⟩),.int .i64 v,.int .i64 fr] w fun e w'=>e=.returned (.bool true)∧MeshF F0 B w' b M'∧Below B w w'∧Same F0 w w'
structure Grown(l:List Pt)(bs cs:Nat)(Ms:Nat→Mesh)(La:Nat→Nat):Prop where
 m0:Ms 0=newMesh l 0 bs cs
 l0:La 0=0
 same:∀v,v<l.length→(v=0∨v=bs∨v=cs)→Ms (v+1)=Ms v∧La (v+1)=La v
 step:∀v,v<l.length→¬(v=0∨v=bs∨v=cs)→InsGood (Ms v) v (iat (Ms v).at_ (La v)) (Ms (v+1))∧La (v+1)=v
 read:∀v,v<l.length→0<(Ms v).pts.length∧0<(Ms v).tris.length∧La v<(Ms v).at_.length
namespace Bd
open Wd Pr
theorem far_of{F:Nat→Prop}{B B':Nat}{W:World}{b:Nat}{M:Mesh}(h:MeshAt B W b M)(hF:∀k,F k→k<B)(hB:B'≤B):MeshF F B' W b M:=by
 obtain⟨pV,tV,fV,aV,h⟩:=h;refine⟨pV,tV,fV,aV,⟨h.head,Nat.le_trans hB h.le,Iq.own_base h.pts hB,Iq.own_base h.tris hB,Iq.own_base h.free hB,Iq.own_base h.at_ hB,h.apart⟩,fun hb=>?_,fun g hg hb=>?_⟩
 ·have:=hF b hb;have:=h.le;omega
 ·have:=hF g hb
  rcases hg with hg|hg|hg|hg
  ·have:=(h.pts.lt g hg).1;omega
  ·have:=(h.tris.lt g hg).1;omega
  ·have:=(h.free.lt g hg).1;omega
  ·have:=(h.at_.lt g hg).1;omega
structure BuildS(w W:World)(lb mb:Nat)(bs cs:Nat)(M:Mesh):Prop where
 mesh:MeshF (fun k=>k=lb) w.heap.size W mb M
 lV:Blk W lb 40 #[.int .i64 0,.int .i64 bs,.int .i64 cs]
 bel:Below w.heap.size w W
theorem BuildS.call{w W W':World}{lb mb bs cs:Nat}{M M':Mesh}(h:BuildS w W lb mb bs cs M)(hm:MeshF (fun k=>k=lb) w.heap.size W' mb M')(hb:Below w.heap.size W W')(hs:Same (fun k=>k=lb) W W'):BuildS w W' lb mb bs cs M':=
 ⟨hm,(hs lb rfl).trans h.lV,h.bel.trans hb⟩
set_option maxHeartbeats 2000000 in
set_option maxRecDepth 100000 in
theorem build_some(g c:Nat)(l:List Pt)(w:World)(hP:PtsAt w g l)(hn:nearAll l)(bs cs:Nat)(hb:baseOf l=some (bs,cs))(h0:0<l.length)(hbl:bs<l.length)(hcl:cs<l.length)(hl9:l.length≤1000000000)(ho:ori (pat l 0) (pat l bs) (pat l cs)≠0)(Ms:Nat→Mesh)(La:Nat→Nat)(hG:Grown l bs cs Ms La) :
 Calls Tryz.prog 19 #[.slice (some ⟨g,0,none⟩) l.length c] w fun e w'=>∃mb:Nat,e=.returned (.tuple #[.pointer (some ⟨mb,0,none⟩),.bool true])∧MeshAt w.heap.size w' mb (Ms l.length)∧Below w.heap.size w w':=by
 have h1:=Ba.base_at g c l w hP hn;rw[hb]at h1;simp only[baseV]at h1;have hnw:=fun u (hb:Below w.heap.size w u)=>Nw.new_any g c l 0 bs cs u (hP.later hb) hn h0 hbl hcl hl9 ho
 have H1:=Hd h1;have HNW:=Hd hnw;have HG:=Hd hG;obtain⟨n,hnn⟩:∃n,l.length=n:=⟨_,rfl⟩;have HL:=Hd hnn;rw[hnn]at H1 HNW hbl hcl hl9 h0 ⊢;clear h1 hb hP hn hnw hG ho hnn
 go_enter Tryz.func19,Tryz.ntmps19
 go_upto_region 4 with(go_at_call 47;refine H1.out.mono ?_;rintro e w1 ⟨rfl,hb1⟩;have HB1:=Hd hb1;clear hb1)
 have hb2:=bel_alloc HB1.out (.cells #[.int .i64 0,.int .i64 bs,.int .i64 cs] 40);have hl2:=Blk.new w1 40 #[.int .i64 0,.int .i64 bs,.int .i64 cs];have hlt:=hl2.lt;have hsz:=HB1.out.size;clear H1 HB1;generalize w1.alloc (.cells #[.int .i64 0,.int .i64 bs,.int .i64 cs] 40)=W2 at *;generalize w1.heap.size=lb at *;have hn2:Calls Tryz.prog 48 #[.slice (some ⟨g,0,none⟩) n c,.int .i64 0,.int .i64 bs,.int .i64 cs] W2 fun e w'=>∃mb:Nat,e=.returned (.tuple #[.pointer (some ⟨mb,0,none⟩),.bool true])∧MeshAt W2.heap.size w' mb (newMesh l 0 bs cs)∧Below W2.heap.size W2 w':=HNW.out W2 hb2
 obtain⟨q0,q1,q2,_,_,_⟩:=hl2.three;have HN2:=Hd hn2;have HB2:=Hd hb2;have HL2:=Hd hl2;clear hn2 hb2 hl2 HNW
 go_upto_region 5 with(go_at_call 48;refine HN2.out.mono ?_;rintro e w3 ⟨mb,rfl,hm3,hb3⟩;have HM3:=Hd hm3;have HB3:=Hd hb3;clear hm3 hb3)
 have hS:BuildS w w3 lb mb bs cs (Ms 0):=⟨by rw[HG.out.m0];exact far_of HM3.out (fun k hk=>by rw[hk];exact hlt) HB2.out.size,HL2.out.later HB3.out,bel_step HB2.out HB3.out⟩;have HS:=Hd hS;obtain⟨r0,r1,r2,_,_,_⟩:=hS.lV.three;clear hS q0 q1 q2 HN2 HB2 HL2 HM3 HB3;go_wp2
 go_loopw [8,32] (fun x y wr=>∃v:Nat,y=.int .i64 v∧x=.int .i64 (La v:Nat)∧v≤n∧Hid (BuildS w wr lb mb bs cs (Ms v))) (fun _ y _=>n-(intOf y).toNat)
 case atStart=>exact⟨0,rfl,by rw[HG.out.l0];rfl,Nat.zero_le _,HS⟩
 case round=>
  obtain⟨v,rfl,rfl,hv,HV⟩:=hrel;obtain⟨r0,r1,r2,_,_,_⟩:=HV.out.lV.three;by_cases hlt2:v<n
  ·have v1:(v:Int)<(n:Int):=by omega
   have hvl:v<l.length:=by have:=HL.out;omega
   by_cases e0:v=0
   ·obtain⟨hs1,hs2⟩:=HG.out.same v hvl (.inl e0)
    have HS1:=Hd hs1;have HS2:=Hd hs2;have b0:((v:Int) != 0)=false:=by simp[e0]
    clear hs1 hs2 e0;go_wp2;go_roundw
    case rel=>exact⟨v+1,by go_num,by rw[HS2.out],by omega,Hd (by rw[HS1.out];exact HV.out)⟩
    case measure=>simp[intOf];omega
   ·have b0:((v:Int) != 0)=true:=by simp;omega
    by_cases e1:v=bs
    ·obtain⟨hs1,hs2⟩:=HG.out.same v hvl (.inr (.inl e1))
     have HS1:=Hd hs1;have HS2:=Hd hs2;have b1:((v:Int) != (bs:Int))=false:=by simp[e1]
     clear hs1 hs2 e0 e1;go_wp2;go_roundw
     case rel=>exact⟨v+1,by go_num,by rw[HS2.out],by omega,Hd (by rw[HS1.out];exact HV.out)⟩
     case measure=>simp[intOf];omega
    ·have b1:((v:Int) != (bs:Int))=true:=by simp;omega
     by_cases e2:v=cs
     ·obtain⟨hs1,hs2⟩:=HG.out.same v hvl (.inr (.inr e2))
      have HS1:=Hd hs1;have HS2:=Hd hs2;have b2:((v:Int) != (cs:Int))=false:=by simp[e2]
      clear hs1 hs2 e0 e1 e2;go_wp2;go_roundw
      case rel=>exact⟨v+1,by go_num,by rw[HS2.out],by omega,Hd (by rw[HS1.out];exact HV.out)⟩
      case measure=>simp[intOf];omega
     ·have b2:((v:Int) != (cs:Int))=true:=by simp;omega
      obtain⟨hs1,hs2⟩:=HG.out.step v hvl (by rintro(h|h|h)<;>contradiction);obtain⟨k1,k2,k3⟩:=HG.out.read v hvl;have hat:=Mr.at_any (Ms v) mb (La v) wr (HV.out.mesh.at_.read k1 k2 (by omega)) k3;have hin:=hs1 (fun k=>k=lb) w.heap.size mb wr HV.out.mesh (fun k hk=>by rw[hk];exact HV.out.lV.lt) HV.out.bel.size;have HAT:=Hd hat;have HIN:=Hd hin;have HS2:=Hd hs2;clear hs1 hs2 k1 k2 k3 hat hin e0 e1 e2;generalize iat (Ms v).at_ (La v)=fr at *
      go_wp2_with (first
       | (go_at_call 12;refine HAT.out.mono ?_;rintro e w4 ⟨rfl,hw4⟩;obtain rfl:=hw4)
       | (go_at_call 11;refine HIN.out.mono ?_;rintro e w5 ⟨rfl,hm5,hb5,hs5⟩;have HS5:=Hd (HV.out.call hm5 hb5 hs5);clear hm5 hb5 hs5))
      go_roundw
      case rel=>exact⟨v+1,by go_num,by rw[HS2.out],by omega,HS5⟩
      case measure=>simp[intOf];omega
  ·have hvn:n=v:=by omega
   subst hvn;go_wp2;refine bodyPost_ret (v:=.tuple #[.pointer (some ⟨mb,0,none⟩),.bool true]) (by simp[results,Tryz.results19,go_sem]) rfl ⟨mb,rfl,HV.out.mesh.at_,HV.out.bel⟩
end Bd
end Go.Proofs.YtdihefgleefhmaaGreat
namespace Go.Proofs.YtdihefgleefhmaaGreat
open Go.RowKit
structure Sizes(M M':Mesh):Prop where
 pts:M'.pts=M.pts
 atl:M'.at_.length=M.at_.length
 few:M'.tris.length≤1000000000
 some:0<M'.tris.length
namespace Iy
theorem drop_rest(M:Mesh)(ts:List Nat):∀j,(dropN M ts j).pts=M.pts∧(dropN M ts j).at_.length=M.at_.length
 | 0=>⟨rfl,rfl⟩
 | j+1=>by
  obtain⟨h1,h2⟩:=drop_rest M ts j;exact⟨h1,h2⟩
theorem link_at(M:Mesh)(t i u j:Nat)(f:Bool):(M.link t i u j f).at_=M.at_:=rfl
theorem make_rest(v:Nat)(M:Mesh)(rim:List Side):∀j,(makeN v M rim j).1.pts=M.pts∧(makeN v M rim j).1.at_.length=M.at_.length
 | 0=>⟨rfl,rfl⟩
 | j+1=>by
  obtain⟨h1,h2⟩:=make_rest v M rim j;have hp:∀(A:Mesh) (T:Tri),(A.made T).1.pts=A.pts:=fun A T=>by unfold Mesh.made;split<;>rfl
  unfold makeN rimStep;dsimp only;refine⟨?_,?_⟩
  ·show((makeN v M rim j).1.made _).1.pts=_
   exact(hp _ _).trans h1
  ·rw[link_at]
   unfold Mesh.make;dsimp only;rw[setAt_len,setAt_len,setAt_len,made_at];exact h2
theorem link_rest(ms:List Nat)(sp:Side→Bool)(rim:List Side)(M:Mesh):∀j,(linkN ms sp rim M j).pts=M.pts∧(linkN ms sp rim M j).at_.length=M.at_.length∧(linkN ms sp rim M j).tris.length=M.tris.length
 | 0=>⟨rfl,rfl,rfl⟩
 | j+1=>by
  obtain⟨h1,h2,h3⟩:=link_rest ms sp rim M j;unfold linkN;exact⟨h1,h2,(Kp.link_len _ _ _ _ _ _).trans h3⟩
theorem sizes{M:Mesh}{v:Nat}{q:Place}{sp:Side→Bool}(h:FillOk M v (dig M (pat M.pts v) q) sp):Sizes M (insertIn M v q sp):=by
 obtain⟨l1,_,l3⟩:=h.link 0 h.some;unfold insertIn;dsimp only;obtain⟨a1,a2⟩:=drop_rest M (dig M (pat M.pts v) q).tris (dig M (pat M.pts v) q).tris.length;obtain⟨b1,b2⟩:=make_rest v (dropN M (dig M (pat M.pts v) q).tris (dig M (pat M.pts v) q).tris.length) (dig M (pat M.pts v) q).rim (dig M (pat M.pts v) q).rim.length;obtain⟨c1,c2,c3⟩:=link_rest (makeN v (dropN M (dig M (pat M.pts v) q).tris (dig M (pat M.pts v) q).tris.length) (dig M (pat M.pts v) q).rim (dig M (pat M.pts v) q).rim.length).2 sp (dig M (pat M.pts v) q).rim (makeN v (dropN M (dig M (pat M.pts v) q).tris (dig M (pat M.pts v) q).tris.length) (dig M (pat M.pts v) q).rim (dig M (pat M.pts v) q).rim.length).1 (dig M (pat M.pts v) q).rim.length;exact⟨c1.trans (b1.trans a1),c2.trans (b2.trans a2),by rw[c3];exact l3,by rw[c3];exact Nat.lt_of_le_of_lt (Nat.zero_le _) l1⟩
open Po Pc Pe Kz Kw Ki Kx Ks Kt Cv Cz Db Dd
section
variable {c:Cfg} {S:Int→Prop} {M:Mesh} {v n:Nat}
theorem ok(hc:c.Ok)(g:Good c S M.bare n)(hl:c.pts.length≤1000000000)(hn:n≤1000000000):M.ok:=by
 have e:M.pts=c.pts:=g.del.pts;have f:=g.few;rw[bare_len]at f;exact⟨e▸hc.near,e▸hl,by omega,g.atl⟩
theorem wf(g:Good c S M.bare n)(hp:0<c.pts.length):M.wf:=fun i hi j=>by
 have e:M.pts=c.pts:=g.del.pts;rw[←bare_v M i j,e];by_cases hl:M.bare.live i
 ·have h3:∀j,j<3→(tat M.bare.tris i).v j<c.pts.length:=fun j hj=>by
   have hs:=g.del.poly.vs i hl j hj;show M.bare.w i j<_
   rcases g.del.nat _ hs with h|⟨m,h,hm⟩<;>omega
  match j with
  | 0=>exact h3 0 (by omega)
  | 1=>exact h3 1 (by omega)
  | 2=>exact h3 2 (by omega)
  | j+3=>exact h3 2 (by omega)
 ·have hi':i<M.bare.tris.length:=by rw[bare_len];exact hi
  have hd:(tat M.bare.tris i).v0=-2:=Classical.byContradiction fun h=>hl ⟨hi',h⟩
  rw[g.dead i hi' hd]
  have:∀j,Tri.gone.v j<0:=fun j=>by
   match j with
   | 0=>decide
   | 1=>decide
   | 2=>decide
   | j+3=>exact(by decide:Tri.gone.v 2<0)
  have:=this j;omega
theorem circ(ho:M.ok)(p:Pt)(hp:p.near):M.circ p:=fun _ _ w=>Cg.circle_any _ _ _ p w (ho.near _) (ho.near _) (ho.near _) hp
theorem across_ne(g:Good c S M.bare n){t:Nat}{f:Nat→Nat}(hr:Real c S M.bare t f){j:Nat}(hj:j<3):∃u:Nat,(tat M.bare.tris t).n j=u∧M.bare.live u∧t≠u:=by
 obtain⟨u,k,e1,e2,e3,e4,e5,e6⟩:=g.del.poly.nb t hr.live j hj;refine⟨u,e1,e2,fun e=>?_⟩;subst e;rw[hr.at_ _ (by omega),hr.at_ _ (by omega)]at e5 e6;obtain⟨n1,n2,n3⟩:=real_inj g.del hr (j:=0) (by omega);simp at n1 n2 n3;rcases(show j=0∨j=1∨j=2 by omega)with rfl|rfl|rfl<;>rcases(show k=0∨k=1∨k=2 by omega)with rfl|rfl|rfl<;>simp at e5 e6<;>omega
structure Stars(M M':Mesh)(v:Nat)(p:Pt)(cs:List Nat)(L:List (Nat×Nat))(k:Nat):Prop where
 at_:iat M'.at_ v≥0
 ar:around M' k v=some L
 len:L.length=k
 two:k=cs.length+2
 side:∀y∈L,y.2=2∧SideAt M M' p y.1
 all:(Eu.liveL M').length=(Eu.liveL M).length+2
 kept:∀x,M.live x→KeptAt M M' cs x
 sub:∀x∈cs,M.live x
 nod:cs.Nodup
theorem ins(hc:c.Ok)(g:Good c S M.bare n)(hv:New c S v)(P:List Nat)(hP:P.Nodup)(hS:∀x:Nat,S x↔x∈P)(hl:c.pts.length≤1000000)(hn:n+c.pts.length+1≤100000000)(fr:Int) :
 ∃(M':Mesh) (cs:List Nat) (L:List (Nat×Nat)) (k:Nat),InsGood M v fr M'∧Stars M M' v (pat c.pts v) cs L k∧Sizes M M':=by
 obtain⟨t0,q,i,h1,h2,h3,h4,⟨tq,h5,h6⟩,h7,h8⟩:=Dd.step hc g hv P hP hS hn fr;have hpt:M.pts=c.pts:=g.del.pts;have ho:=ok hc g (by omega) (by omega);have hvl:v<M.pts.length:=by rw[hpt];exact hv.lt
 have hw:=wf g (by have:=hv.lt;omega);have htl:0<M.tris.length:=by have:=h6.1;omega
 have hpn:(pat M.pts v).near:=ho.near v;have hs:=bare_sane (Kv.sane g.del);have hci:=circ ho (pat M.pts v) hpn
 have done:∀(sp:Side→Bool),∃(cs:List Nat) (L:List (Nat×Nat)) (k:Nat),FillOk M v (dig M (pat M.pts v) q) sp∧Stars M (insertIn M v q sp) v (pat c.pts v) cs L k:=fun sp=>by
  obtain⟨h9,h10⟩:=h8 _ rfl sp;obtain⟨L,k,a1,a2,a3,a4,a5,a6,a7,a8,a9⟩:=h10 _ rfl;exact⟨_,L,k,h9,⟨a1,a2,a3,a4,a5,a6,a7,a8,a9⟩⟩
 by_cases hk:q.kind=1
 ·obtain⟨t,f,j,hr,hj,rfl⟩:=h7 hk
  obtain⟨x,k,xs,u,e,f1,f2,f3,f4,f5,f6,f7,f8⟩:=Ao.find_edge g hr hj;rw[bare_around]at f3;rw[bare_eof]at f4;rw[bare_len]at f5;obtain⟨u9,a1,a2,a3⟩:=across_ne g hr hj;have hac:=across_at g.del hr hj;rw[a1,bare_across]at hac;have htl':=(bare_live M t).1 hr.live;obtain⟨fl,hfl⟩:∃fl,(tat M.tris u).f e=fl:=⟨_,rfl⟩;obtain⟨cs,L,kk,h9,h10⟩:=done fun s=>(fl&&(s.b==min (f ((j+1)%3):Int) (f ((j+2)%3))||s.b==max (f ((j+1)%3):Int) (f ((j+2)%3))))
  refine⟨_,cs,L,kk,fun F0 B b w hM hF hB=>?_,h10,sizes h9⟩;refine Ix.insert_any (min (f ((j+1)%3):Int) (f ((j+2)%3))) (max (f ((j+1)%3):Int) (f ((j+2)%3))) fl _ (fun _=>rfl) F0 B b v M fr t0 i _ w hM hF hB ho hw hvl htl h1 h2 h3 (fun u' hu'=>?_) (fun u' hu'=>?_) h4 h9
  ·have:=Pd.parted_on M b k ⟨1,t,min (f ((j+1)%3):Int) (f ((j+2)%3)),max (f ((j+1)%3):Int) (f ((j+2)%3))⟩ xs u e u' hu' ho (by omega) x rfl (by show max (min (f ((j+1)%3):Int) (f ((j+2)%3))) (max (f ((j+1)%3):Int) (f ((j+2)%3)))=x;omega) f8 f2 f3 f4 f5 f6
   rw[hfl]at this;exact this
  ·exact Dg.dig_on M b _ _ u' hu' ho hpn hs hci t u9 rfl rfl htl' hac ((bare_live M u9).1 a2) a3
 ·obtain⟨cs,L,kk,h9,h10⟩:=done fun _=>false
  refine⟨_,cs,L,kk,fun F0 B b w hM hF hB=>?_,h10,sizes h9⟩;exact Ix.insert_any 0 0 false _ (fun _=>rfl) F0 B b v M fr t0 i q w hM hF hB ho hw hvl htl h1 h2 h3 (fun u _=>Pd.parted_off b q u hk) (fun u hu=>Dg.dig_off M b _ q u hu ho hpn hs hci tq hk h5 h6) h4 h9
end
end Iy
end Go.Proofs.YtdihefgleefhmaaGreat
namespace Go.Proofs.YtdihefgleefhmaaGreat
open Go.RowKit
namespace Iz
open Wd Pr Dg Iq
set_option maxHeartbeats 4000000 in
set_option maxRecDepth 100000 in
theorem insert_at(b v:Nat)(M:Mesh)(fr:Int)(t0 k:Nat)(q:Place)(w:World)(h:MeshR w b M)(ho:M.ok)(hw:M.wf)(hv:v<M.pts.length)(htl:0<M.tris.length)
 (hfr:(if Mr.realB M fr=true then fr else Fi.firstReal M)=t0) (hr0:Mr.realB M t0=true) (hg:findGo M (pat M.pts v) (M.tris.length+1) t0 0=some (q,k)) (hq2:q.kind=2) :
 Calls Tryz.prog 11 #[.pointer (some ⟨b,0,none⟩),.int .i64 v,.int .i64 fr] w fun e w'=>e=.returned (.bool false)∧Below w.heap.size w w':=by
 obtain⟨p,hp⟩:∃p,pat M.pts v=p:=⟨_,rfl⟩;have hpn:p.near:=hp▸ho.near v;have hpl:0<M.pts.length:=by omega
 have hfd:∀u,MeshR u b M→Calls Tryz.prog 35 #[.pointer (some ⟨b,0,none⟩),pv p,.int .i64 fr,.int .i64 ((M.tris.length:Int)+1)] u fun e w'=>e=.returned (.tuple #[plv q,.int .i64 k])∧Below u.heap.size u w':=fun u hu=>by
  have:=Fn.find_any M b p fr (M.tris.length+1) u hu ho hw hpn hpl htl t0 q k hfr hr0 (hp▸hg) (by have:=ho.tris;omega)
  exact_mod_cast this
 obtain⟨gp,cp,gt,ct,ga,ca,fV,hR⟩:=h;have hRW:=fun u (hu:Below w.heap.size w u)=>hR.later hu
 have c0:=hR.head.cell 0 (.slice (some ⟨gp,0,none⟩) M.pts.length cp) rfl;obtain⟨p0,p1⟩:=hR.pts v hv;rw[hp]at p0 p1;have v0:(0:Int)≤(v:Int):=by omega
 have v1:(v:Int)<(M.pts.length:Int):=by omega
 have T9:=ho.tris;have HFD:=Hd hfd;have HRW:=Hd hRW;have HR0:=Hd hR;obtain⟨kd,tr,qa,qb⟩:=q;simp only at hq2;subst hq2;clear hfd ho hw hfr hr0 hg hpn hp hR hRW
 go_enter Tryz.func11,Tryz.ntmps11
 go_upto_region 2 with(fail)
 have b0:=(Blk.new w 24 #[.int .i64 p.x,.int .i64 p.y]);have hb1:=bel_alloc (bel_refl w) (.cells #[.int .i64 p.x,.int .i64 p.y] 24);have hR1:=HRW.out _ hb1;clear c0 p0 p1;generalize w.alloc (.cells #[.int .i64 p.x,.int .i64 p.y] 24)=W at *;obtain⟨x0,x1,_,_⟩:=b0.two;have x2:=hR1.head.cell 1 (.slice (some ⟨gt,0,none⟩) M.tris.length ct) rfl;have wr1:IntKind.i64.wrap ((M.tris.length:Int)+1)=(M.tris.length:Int)+1:=IntWalk.i64_in _ (by omega);have HR1:=Hd hR1;have HB1:=Hd hb1;clear hR1 hb1 b0
 go_cut [8,9] (fun v8 v9 wx=>∃tb:Nat,v8=.pointer (some ⟨tb,0,none⟩)∧v9=.int .i64 k∧Hid (Blk wx tb 78 #[.int .i64 2,.int .i64 tr,.int .i64 qa,.int .i64 qb])∧Hid (Below W.heap.size W wx))
 case first=>
  have l0:∀u,Below W.heap.size W u→u.cell? ⟨w.heap.size,0,none⟩=some (.int .i64 p.x):=fun u hu=>cell_later x0 hu
  have l1:∀u,Below W.heap.size W u→u.cell? ⟨w.heap.size,1,none⟩=some (.int .i64 p.y):=fun u hu=>cell_later x1 hu
  have l2:∀u,Below W.heap.size W u→u.cell? ⟨b,1,none⟩=some (.slice (some ⟨gt,0,none⟩) M.tris.length ct):=fun u hu=>cell_later x2 hu
  clear x0 x1 x2
  go_region_held3 (fun w'=>Below W.heap.size W w') (first| exact bel_drew (bel_refl _)|exact bel_alloc (by assumption) _|exact bel_alloc (bel_step (bel_drew (bel_refl _)) (by assumption)) _|exact bel_step (by assumption) (by assumption)|(repeat (first| assumption|refine bel_drew ?_|refine bel_alloc ?_ _|refine bel_set ?_ (Nat.le_refl _) _ _))) ((go_at_call 35;refine(HFD.out _ ⟨_,_,_,_,_,_,_,HR1.out.later (by assumption)⟩).mono ?_;rintro e w2 ⟨rfl,hb2⟩;try (have ty:=Blk.later (Blk.new' (n:=W.heap.size) W.drew 78 #[.int .i64 0,.int .i64 0,.int .i64 0,.int .i64 0] rfl) hb2;have tz0:=ty.cell 0 _ rfl;have tz1:=ty.cell 1 _ rfl;have tz2:=ty.cell 2 _ rfl;have tz3:=ty.cell 3 _ rfl;have tf0:=ty.frozen 0;have tf1:=ty.frozen 1;have tf2:=ty.frozen 2;have tf3:=ty.frozen 3;have TY:=Hd ty;clear ty)))
  ·go_wp2_with fail
   go_meet
   exact⟨_,rfl,rfl,Hd (Blk.new w2 78 _),Hd (by assumption)⟩
  ·go_wp2_with fail
   go_meet
   exact⟨_,rfl,rfl,Hd ((((TY.out.set 0 _).set 1 _).set 2 _).set 3 _),Hd (by assumption)⟩
 case rest=>
  obtain⟨tb,rfl,rfl,HTB,HBX⟩:=hcut;have z0:=HTB.out.cell 0 (.int .i64 2) rfl;go_wp2
  go_ret
  exact⟨rfl,bel_step HB1.out HBX.out⟩
end Iz
end Go.Proofs.YtdihefgleefhmaaGreat
namespace Go.Proofs.YtdihefgleefhmaaGreat
open Go.RowKit
def strip{β:Type}(l:List (Way×β)):List ((Int×Int)×β):=l.map fun x=>(x.1.1,x.2)
namespace Jo
section
variable {β:Type}
theorem strip_look(k:Way):∀l:List (Way×β),mlook k.1 (strip l)=mlook k l
 | []=>rfl
 | x::l=>by
  show(if x.1.1=k.1 then some x.2 else mlook k.1 (strip l))=if x.1=k then some x.2 else mlook k l
  rw[strip_look k l];by_cases h:x.1=k
  ·rw[if_pos h,if_pos (by rw[h])]
  ·rw[if_neg h,if_neg fun e=>h (Subtype.ext e)]
theorem strip_del(k:Way):∀l:List (Way×β),mdel k.1 (strip l)=strip (mdel k l)
 | []=>rfl
 | x::l=>by
  show(if x.1.1=k.1 then strip l else (x.1.1,x.2)::mdel k.1 (strip l))=strip (if x.1=k then l else x::mdel k l)
  rw[strip_del k l];by_cases h:x.1=k
  ·rw[if_pos h,if_pos (by rw[h])]
  ·rw[if_neg h,if_neg fun e=>h (Subtype.ext e)]
   rfl
theorem strip_put(k:Way)(u:β):∀l:List (Way×β),mput k.1 u (strip l)=strip (mput k u l)
 | []=>rfl
 | x::l=>by
  show(if x.1.1=k.1 then (k.1,u)::strip l else (x.1.1,x.2)::mput k.1 u (strip l))=strip (if x.1=k then (k,u)::l else x::mput k u l)
  rw[strip_put k u l];by_cases h:x.1=k
  ·rw[if_pos h,if_pos (by rw[h])]
   rfl
  ·rw[if_neg h,if_neg fun e=>h (Subtype.ext e)]
   rfl
theorem strip_get(z:β)(k:Way):∀l:List (Way×β),mget z k.1 (strip l)=mget z k l
 | []=>rfl
 | x::l=>by
  show(if x.1.1=k.1 then x.2 else mget z k.1 (strip l))=if x.1=k then x.2 else mget z k l
  rw[strip_get z k l];by_cases h:x.1=k
  ·rw[if_pos h,if_pos (by rw[h])]
  ·rw[if_neg h,if_neg fun e=>h (Subtype.ext e)]
end
def sideV(x:Nat×Nat):Value:=.agg #[.int .i64 x.1,.int .i64 x.2]
def OpenAt(W:World)(om:Nat)(o:Open):Prop:=∃l:List (Way×(Nat×Nat)),strip l=o∧MapS (fun p:Way=>wayV p.1) sideV W om l
def faOf(l:List (Way×Int))(a b:Int):Bool:=decide (0≤a)&&(decide (0≤b)&&decide (0<mget 0 (min a b,max a b) (strip l)))
structure JoinS(F:Nat→Prop)(B:Nat)(w W:World)(b ob mb fb om fm:Nat)(fl:List (Way×Int))(A:Mesh×Open):Prop where
 mesh:MeshF F B W b A.1
 fs:∀k,F k→k<W.heap.size
 bel:Below B w W
 hob:Blk W ob 125 #[.map (some om)]
 hmb:Blk W mb 26 #[.pointer (some ⟨b,0,none⟩)]
 hfb:Blk W fb 63 #[.map (some fm)]
 op:OpenAt W om A.2
 fmap:MapAt (fun p:Way=>wayV p.1) (Value.int .i64) W fm fl
 fo:F ob∧F mb∧F fb∧F om∧F fm
 ne:om≠fm
 ge:B≤om
 same:∀k,F k→k≠om→W.heap[k]? =w.heap[k]?
section
variable {F:Nat→Prop} {B:Nat} {w W W':World} {b ob mb fb om fm:Nat} {fl:List (Way×Int)} {A:Mesh×Open} {M':Mesh}
theorem blk_om{W:World}{om k t:Nat}{o:Open}{cs:Array Value}(h:OpenAt W om o)(hb:Blk W k t cs):k≠om:=fun e=>by
 subst e;obtain⟨l,_,es,c,h1,_⟩:=h;have:=hb.symm.trans h1;cases this
theorem JoinS.call(h:JoinS F B w W b ob mb fb om fm fl A)(hm:MeshF F B W' b M')(hb:Below B W W')(hs:Same F W W'):JoinS F B w W' b ob mb fb om fm fl (M',A.2) where
 mesh:=hm
 fs k hk:=Nat.lt_of_lt_of_le (h.fs k hk) hb.size
 bel:=h.bel.trans hb
 hob:=(hs ob h.fo.1).trans h.hob
 hmb:=(hs mb h.fo.2.1).trans h.hmb
 hfb:=(hs fb h.fo.2.2.1).trans h.hfb
 op:=by
  obtain⟨l,e,es,c,h1,h2⟩:=h.op;exact⟨l,e,es,c,(hs om h.fo.2.2.2.1).trans h1,h2⟩
 fmap:=by
  obtain⟨es,c,h1,h2⟩:=h.fmap;exact⟨es,c,(hs fm h.fo.2.2.2.2).trans h1,h2⟩
 fo:=h.fo
 ne:=h.ne
 ge:=h.ge
 same k hk hn:=(hs k hk).trans (h.same k hk hn)
theorem JoinS.later(h:JoinS F B w W b ob mb fb om fm fl A)(hb:Below W.heap.size W W')(hB:B≤W.heap.size):JoinS F B w W' b ob mb fb om fm fl A:=
 h.call (h.mesh.later hb) (hb.mono hB) (Same.below h.fs hb)
theorem JoinS.grown(h:JoinS F B w W b ob mb fb om fm fl A){l:List (Way×(Nat×Nat))}(hm:MapS (fun p:Way=>wayV p.1) sideV W' om l)(hg:W.grownBy W' (some om)):JoinS F B w W' b ob mb fb om fm fl (A.1,strip l):=
 have keep:∀k,F k→k≠om→W'.heap[k]? =W.heap[k]?:=fun k hk hn=>hg.block k (h.fs k hk) fun e=>hn (Option.some.inj e)
 {mesh:=Iq.MeshF.grown h.mesh hg fun g e=>by cases e;exact h.fo.2.2.2.1
  fs:=fun k hk=>Nat.lt_of_lt_of_le (h.fs k hk) hg.size
  bel:=⟨hg.os.trans h.bel.os,hg.tape.trans h.bel.tape,hg.output.trans h.bel.output,Nat.le_trans h.bel.size hg.size,fun i hi=>(hg.block i (by have:=h.bel.size;have:=h.ge;have:=hm.lt;have:=(show om<W.heap.size from h.fs om h.fo.2.2.2.1);omega) fun e=>by have:=Option.some.inj e;have:=h.ge;omega).trans (h.bel.block i hi)⟩
  hob:=(keep ob h.fo.1 (blk_om h.op h.hob)).trans h.hob
  hmb:=(keep mb h.fo.2.1 (blk_om h.op h.hmb)).trans h.hmb
  hfb:=(keep fb h.fo.2.2.1 (blk_om h.op h.hfb)).trans h.hfb
  op:=⟨l,rfl,hm⟩
  fmap:=by
   obtain⟨es,c,h1,h2⟩:=h.fmap;exact⟨es,c,(keep fm h.fo.2.2.2.2 (fun e=>h.ne e.symm)).trans h1,h2⟩
  fo:=h.fo
  ne:=h.ne
  ge:=h.ge
  same:=fun k hk hn=>(keep k hk hn).trans (h.same k hk hn) }
theorem JoinS.alloc(h:JoinS F B w W b ob mb fb om fm fl A)(hB:B≤W.heap.size)(o:Obj):JoinS (fun k=>F k∨k=W.heap.size) B (W.alloc o) (W.alloc o) b ob mb fb om fm fl A:=
 have hA:=h.later (bel_alloc (bel_refl W) o) hB
 {mesh:=(h.mesh.wider _ fun k hk=>hk.elim .inl fun hk=>.inr (Nat.le_of_eq hk.symm)).later (bel_alloc (bel_refl W) o)
  fs:=fun k hk=>hk.elim (hA.fs k) fun hk=>by rw[hk];simp
  bel:=bel_refl _ |>.mono (by simp;omega)
  hob:=hA.hob,hmb:=hA.hmb,hfb:=hA.hfb,op:=hA.op,fmap:=hA.fmap
  fo:=⟨.inl h.fo.1,.inl h.fo.2.1,.inl h.fo.2.2.1,.inl h.fo.2.2.2.1,.inl h.fo.2.2.2.2⟩
  ne:=h.ne,ge:=h.ge
  same:=fun _ _ _=>rfl }
end
end Jo
end Go.Proofs.YtdihefgleefhmaaGreat
