import Derived.Test.YtdihefgleefhmaaGreatKp
import Derived.Test.YtdihefgleefhmaaGreatNw
namespace Go.Proofs.YtdihefgleefhmaaGreat
namespace Ja
open Ki Po Pc Pe Ks Kt Kx Kw
section
variable {c:Cfg} {S:Int→Prop} {M M':Mesh} {v n k:Nat} {cs:List Nat} {F:Nat→Nat×Nat} {m:Nat→Nat}
theorem rim_few(h:Dug c S M v cs F k):k≤c.pts.length+1:=by
 have hs:∀i,S (st M (F i)):=fun i=>(rim_S h.del.poly h.cav (h.rim.flag i)).1
 have hb:∀i,-1≤st M (F i)∧st M (F i)<c.pts.length:=fun i=>by
  rcases h.del.nat _ (hs i)with e|⟨n,e,hn⟩
  ·show -1≤M.w (F i).1 (((F i).2+1)%3)∧M.w (F i).1 (((F i).2+1)%3)<_
   have e':M.w (F i).1 (((F i).2+1)%3)=-1:=e;rw[e'];omega
  ·have e':M.w (F i).1 (((F i).2+1)%3)=n:=e
   show -1≤M.w (F i).1 (((F i).2+1)%3)∧M.w (F i).1 (((F i).2+1)%3)<_
   rw[e'];omega
 have:=Dq.nodup_len (c.pts.length+1) ((List.range k).map fun i=>(st M (F i)+1).toNat) (by
  rw[List.nodup_iff_pairwise_ne,List.pairwise_map];refine List.pairwise_lt_range.imp_of_mem fun {a b} ha hb' hab e=>?_
  rw[List.mem_range]at hb';have h1:=hb a;have h2:=hb b;have e':st M (F a)=st M (F b):=by omega
  have:=rim_un1 h.del.poly (Kg.alt c) (apart h.ok h.del h.new) h.cav h.cav (h.rim.flag a) (h.rim.flag b) e'
  exact h.rim.inj a b hab hb' (Prod.ext this.1 this.2)) fun x hx=>by
   obtain⟨i,_,rfl⟩:=List.mem_map.1 hx;have:=hb i;omega
 simpa using this
theorem st_lt(h:Dug c S M v cs F k)(i:Nat):st M (F i)<c.pts.length∧en M (F i)<c.pts.length:=by
 obtain⟨s1,s2,_⟩:=rim_S h.del.poly h.cav (h.rim.flag i);constructor
 ·rcases h.del.nat _ s1 with e|⟨n,e,hn⟩
  ·have e':st M (F i)=-1:=e
   rw[e'];omega
  ·have e':st M (F i)=n:=e
   rw[e'];omega
 ·rcases h.del.nat _ s2 with e|⟨n,e,hn⟩
  ·have e':en M (F i)=-1:=e
   rw[e'];omega
  ·have e':en M (F i)=n:=e
   rw[e'];omega
theorem good(h:Dug c S M v cs F k)(g:Good c S M n)(hM:Made M M' cs F k v m):Good c (fun x=>S x∨x=v) M' (n+c.pts.length+1) where
 del:=Ku.del h hM
 plain t ht j hj:=by
  rcases(live_iff h hM t).1 ht with hk|⟨i,hi,rfl⟩
  ·rcases hM.oldf t hk j hj with e|e
   ·exact e
   ·rw[e];exact g.plain t hk.1 j hj
  ·rw[hM.tri i hi]
   rcases(show j=0∨j=1∨j=2 by omega)with rfl|rfl|rfl<;>rfl
 free:=hM.free
 fnod:=hM.fnod
 dead x hx he:=by
  rcases hM.rest x hx with h'|⟨i,hi,rfl⟩|h'
  ·have:(tat M'.tris x).v0=(tat M.tris x).v0:=hM.oldv x h' 0
   rw[this]at he;exact absurd he h'.1.2
  ·have:(tat M'.tris (m i)).v0=st M (F i):=(w_new hM hi).1
   rw[this]at he;exact absurd he (not_m2 h.del (rim_S h.del.poly h.cav (h.rim.flag i)).1)
  ·exact h'
 atl:=by rw[hM.atl,hM.pts];exact g.atl
 at1 x hx:=by
  by_cases ht:∃i,i<k∧touch M F v i x
  ·obtain⟨i,hi,ht⟩:=ht
   have hxl:x<M.at_.length:=by
    rw[g.atl,g.del.pts];rcases hx with hx|hx
    ·rcases g.del.nat x hx with e|⟨y,e,hy⟩<;>omega
    ·have:=h.new.lt;omega
   obtain⟨i',a1,a2,a3⟩:=hM.at2 x hxl i hi ht;obtain⟨w0,w1,w2⟩:=w_new hM a1;refine⟨m i',a3,(live_iff h hM _).2 (.inr ⟨i',a1,rfl⟩),?_⟩;rcases a2 with e|e|e
   ·exact⟨0,by omega,w0.trans e⟩
   ·exact⟨1,by omega,w1.trans e⟩
   ·exact⟨2,by omega,by rw[w2,e]⟩
  ·have hno:∀i,i<k→¬touch M F v i x:=fun i hi h'=>ht ⟨i,hi,h'⟩
   have hS:S x:=by
    rcases hx with hx|hx
    ·exact hx
    ·exact absurd (.inr (.inr (by omega))) (hno 0 h.rim.pos)
   obtain⟨t,e,hl,i,hi,hw⟩:=g.at1 x hS
   have hk:M.kept cs t:=⟨hl,fun hc=>by
    obtain⟨⟨u,j,hr,hst⟩,_⟩:=rim_at h.del.poly (Kg.alt c) (apart h.ok h.del h.new) h.cav (b:=x) ⟨hl,i,hi,hw⟩ hc;obtain⟨i',hi',hF⟩:=h.rim.all u j hr;exact hno i' hi' (.inl (by rw[hF];exact hst))⟩
   exact⟨t,by rw[hM.at1 x hno];exact e,(live_iff h hM t).2 (.inl hk),i,hi,by rw[w_old hM hk];exact hw⟩
 at0 x hx hS:=by
  rw[hM.at1 x fun i hi ht=>?_]
  ·exact g.at0 x (by rw[←hM.pts];exact hx) fun h'=>hS (.inl h')
  ·obtain⟨s1,s2,_⟩:=rim_S h.del.poly h.cav (h.rim.flag i)
   rcases ht with e|e|e
   ·exact hS (.inl (by rw[←e];exact s1))
   ·exact hS (.inl (by rw[←e];exact s2))
   ·exact hS (.inr (by omega))
 few:=by
  have:=hM.grow;have:=rim_few h;have:=g.few;omega
 gh:=by
  obtain⟨t,hl,i,hi,hw⟩:=g.gh;by_cases hc:t∈cs
  ·obtain⟨⟨u,j,hr,hst⟩,_⟩:=rim_at h.del.poly (Kg.alt c) (apart h.ok h.del h.new) h.cav (b:=-1) ⟨hl,i,hi,hw⟩ hc
   obtain⟨i',hi',hF⟩:=h.rim.all u j hr;obtain⟨w0,w1,w2⟩:=w_new hM hi';exact⟨m i',(live_iff h hM _).2 (.inr ⟨i',hi',rfl⟩),0,by omega,w0.trans (by rw[hF];exact hst)⟩
  ·have hk:M.kept cs t:=⟨hl,hc⟩
   exact⟨t,(live_iff h hM t).2 (.inl hk),i,hi,by rw[w_old hM hk];exact hw⟩
theorem fill_ok(h:Dug c S M v cs F k)(g:Good c S M n)(hn:n+c.pts.length+1≤100000000)(hcn:cs.Nodup)(cv:Cavity)(hcs:cv.tris=cs)(hlen:cv.rim.length=k)(hr:∀i,i<k→cv.rim.getD i Side.zero=sd M (F i)) :
  FillOk M v cv (fun _=>false)∧Made M (linkN (makeN v (dropN M cs cs.length) cv.rim k).2 (fun _=>false) cv.rim (makeN v (dropN M cs cs.length) cv.rim k).1 k) cs F k v (fun i=>(makeN v (dropN M cs cs.length) cv.rim k).2.getD i 0):=by
 have hin:=fillIn h hcn g.free g.fnod g.dead;have hfill:=fun j hj=>Kq.fill (v:=v) hin hr j hj
 have h2:=two h;have hk:=rim_few h;have hfew:=g.few;have hcl:cs.length≤M.tris.length:=Dq.nodup_len _ _ hcn fun t ht=>(h.cav.sub t ht).1.1
 have hfl:M.free.length≤M.tris.length:=Dq.nodup_len _ _ g.fnod fun t ht=>(g.free t ht).1
 have hpl:c.pts.length=M.at_.length:=by rw[g.atl,g.del.pts]
 have hvl:=h.new.lt;refine⟨⟨fun t ht=>(h.cav.sub t (hcs▸ht)).1.1,by rw[hcs];omega,by rw[hlen];omega,by rw[hlen];omega,fun j hj=>?_,fun j hj=>?_⟩,Kr.made h2 (hfill k (Nat.le_refl _)) hin _⟩
 ·rw[hlen]at hj
  rw[hcs,hr j hj];have hA:=hfill j (by omega);obtain⟨A,hAe⟩:∃A,makeN v (dropN M cs cs.length) cv.rim j=A:=⟨_,rfl⟩;rw[hAe]at hA ⊢;obtain⟨m1,m2,m3,m4,m5,m6,m7,m8,m9,m10⟩:=Kp.made_at A.1 (Tri.new (st M (F j)) (en M (F j)) v) (fun n hn=>(hA.free n hn).1) hA.fnod;have hfl':A.1.free.length≤A.1.tris.length:=Dq.nodup_len _ _ hA.fnod fun t ht=>(hA.free t ht).1
  have hgr:=hA.grow;have hle:=hA.len;obtain⟨l1,l2⟩:=st_lt h j;obtain⟨o1,o2,o3,o4⟩:=hin.out j hj
  have hml:(A.1.made (Tri.new (st M (F j)) (en M (F j)) v)).1.tris.length≤A.1.tris.length+1:=by
   rcases Nat.lt_or_ge (A.1.tris.length+1) (A.1.made (Tri.new (st M (F j)) (en M (F j)) v)).1.tris.length with h'|h'
   ·have x1:=m8 A.1.tris.length (Nat.le_refl _) (by omega)
    have x2:=m8 (A.1.tris.length+1) (by omega) h';omega
   ·exact h'
  have hatl:=hA.atl;have e3:(sd M (F j)).out=M.out (F j):=o1
  have e4:(sd M (F j)).i=M.ix (F j):=by
   show nidx (tat M.tris ((tat M.tris (F j).1).n (F j).2).toNat) (F j).1=_
   rw[←o3];rfl
  have hol:=o2.1.1;refine⟨⟨by omega,by omega,fun n hn=>(hA.free n hn).1⟩,⟨by show st M (F j)<_;omega,by show en M (F j)<_;omega,by omega⟩,?_,?_,?_,?_,?_,?_⟩
  ·exact m1
  ·show(A.1.made (Tri.new (st M (F j)) (en M (F j)) v)).1.tris.length≤_
   omega
  ·rw[e3];omega
  ·rw[e3]
   show M.out (F j)<(A.1.made (Tri.new (st M (F j)) (en M (F j)) v)).1.tris.length
   omega
  ·rw[e4];omega
  ·rw[e4];simpa using o4
 ·rw[hlen]at hj
  dsimp only;rw[hcs,hlen];have hA:=hfill k (Nat.le_refl _);obtain⟨A,hAe⟩:∃A,makeN v (dropN M cs cs.length) cv.rim k=A:=⟨_,rfl⟩;rw[hAe]at hA ⊢
  have hL:=Kr.linked h2 hA.msl hA.nod (fun y hy=>(hA.lt y hy).1) (fun i hi l hl=>by
   rw[hA.tri i hi];rcases(show l=0∨l=1∨l=2 by omega)with rfl|rfl|rfl<;>rfl) cv.rim j (by omega)
  have hgr:=hA.grow;have hm:∀i,i<k→A.2.getD i 0∈A.2:=fun i hi=>Kq.getD_mem (by have:=hA.msl;omega)
  unfold LinkOk;rw[hL.len,hA.msl];exact⟨(hA.lt _ (hm j hj)).1,(hA.lt _ (hm _ (Nat.mod_lt _ (by omega)))).1,by omega⟩
theorem step(hc:c.Ok)(g:Good c S M n)(hv:New c S v)(hn:n+c.pts.length+1≤100000000)(fr:Int) :
  ∃(t0:Nat) (q:Place) (i:Nat),(if Mr.realB M fr=true then fr else Fi.firstReal M)=t0∧Mr.realB M t0=true∧findGo M (pat M.pts v) (M.tris.length+1) t0 0=some (q,i)∧q.kind≠2∧(∃t:Nat,q.tri=t∧M.live t)∧
   (q.kind=1→∃(t:Nat) (f:Nat→Nat) (j:Nat),Real c S M t f∧j<3∧q=⟨1,t,min (f ((j+1)%3):Int) (f ((j+2)%3)),max (f ((j+1)%3):Int) (f ((j+2)%3))⟩)∧
   FillOk M v (dig M (pat M.pts v) q) (fun _=>false)∧Good c (fun x=>S x∨x=v) (insertIn M v q fun _=>false) (n+c.pts.length+1):=by
 have hst:∃t0:Nat,(if Mr.realB M fr=true then fr else Fi.firstReal M)=t0∧Mr.realB M t0=true:=by
  by_cases hr:Mr.realB M fr=true
  ·rw[if_pos hr]
   have:0≤fr:=by
    unfold Mr.realB at hr;simp only[Bool.and_eq_true,decide_eq_true_eq]at hr;omega
   refine⟨fr.toNat,by omega,?_⟩;rw[show((fr.toNat:Nat):Int)=fr by omega];exact hr
  ·rw[if_neg hr]
   obtain⟨z,_,_,sz,_⟩:=g.del.z;obtain⟨t,_,hl,_⟩:=g.at1 z sz;obtain⟨u,hu⟩:=Kz.ex_real g.del hl;exact Kz.first_real hu
 obtain⟨t0,e0,hr0⟩:=hst;obtain⟨q,i,hf,hfo⟩:=find_some hc g.del (v:=v) (M.tris.length+1) t0 0 [] hr0 List.nodup_nil (fun u hu=>by simp at hu) (by simp);obtain⟨s1,s2,s3,s4,s5,s6⟩:=Kz.start_ok hc g.del hv hfo;obtain⟨F,k,hD,hcn,hlen,hrim⟩:=Kv.dug hc g.del hv g.plain q s3 s4 s5;rw[←g.del.pts]at hf hD hcn hlen hrim;obtain⟨f1,f2⟩:=fill_ok hD g hn hcn (dig M (pat M.pts v) q) rfl hlen hrim;refine⟨t0,q,i,e0,hr0,hf,s1,s2,s6,f1,?_⟩;have:=good hD g f2;unfold insertIn;dsimp only;rw[hlen];exact this
end
end Ja
end Go.Proofs.YtdihefgleefhmaaGreat
namespace Go.Proofs.YtdihefgleefhmaaGreat
namespace Jb
open Ki Po
def at0(l:List Pt)(a b c:Nat):List Int:=setAt (setAt (setAt (setAt (setAt (setAt (setAt (setAt (setAt (setAt (setAt (setAt (Mesh.empty l).at_ a 0) b 0) c 0) c 1) b 1) (-1) 1) a 2) c 2) (-1) 2) b 3) a 3) (-1) 3
def N0(l:List Pt)(a b c:Nat):Mesh:=⟨l,[⟨a,b,c,1,2,3,false,false,false⟩,⟨c,b,-1,3,2,0,false,false,false⟩,⟨a,c,-1,1,3,0,false,false,false⟩,⟨b,a,-1,2,1,0,false,false,false⟩],[],at0 l a b c⟩
theorem new_eq(l:List Pt)(a b c:Nat):newOf l a b c=N0 l a b c:=by
 unfold N0 at0;simp[newOf,ghostN,ringN,Mesh.make,Mesh.made,Mesh.link,Mesh.setTri,tat,Tri.new,Tri.setN,Tri.setF,tri3,Mesh.empty]
section
variable {cf:Cfg} {a b c:Nat}
theorem w4:(∀j,(N0 cf.pts a b c).w 0 j=tri3 a b c j)∧(∀j,(N0 cf.pts a b c).w 1 j=tri3 c b (-1) j)∧(∀j,(N0 cf.pts a b c).w 2 j=tri3 a c (-1) j)∧(∀j,(N0 cf.pts a b c).w 3 j=tri3 b a (-1) j):=by
 refine⟨fun j=>?_,fun j=>?_,fun j=>?_,fun j=>?_⟩<;>rcases j with _|_|j<;>rfl
end
end Jb
end Go.Proofs.YtdihefgleefhmaaGreat
namespace Go.Proofs.YtdihefgleefhmaaGreat
structure Surf(M:Mesh):Prop where
 ne:∀t,M.live t→M.w t 0≠M.w t 1∧M.w t 1≠M.w t 2∧M.w t 2≠M.w t 0
 nb:∀t,M.live t→∀j,j<3→∃u k:Nat,(tat M.tris t).n j=u∧M.live u∧k<3∧(tat M.tris u).n k=t∧M.w u ((k+1)%3)=M.w t ((j+2)%3)∧M.w u ((k+2)%3)=M.w t ((j+1)%3)
 un:∀t u,M.live t→M.live u→∀j k,j<3→k<3→M.w t ((j+1)%3)=M.w u ((k+1)%3)→M.w t ((j+2)%3)=M.w u ((k+2)%3)→t=u∧j=k
namespace Cu
open Pe
theorem surf{D:Int→Int→Int→Int→Int}{S:Int→Prop}{M:Mesh}(h:Poly D S M):Surf M:=⟨h.ne,h.nb,h.un⟩
section
variable {M:Mesh}
theorem mod3{k:Nat}(hk:k<3):((k+1)%3+1)%3=(k+2)%3∧((k+1)%3+2)%3=k∧((k+2)%3+1)%3=k∧((k+2)%3+2)%3=(k+1)%3:=by omega
theorem w_ne(h:Surf M){t:Nat}(ht:M.live t){i j:Nat}(hi:i<3)(hj:j<3)(hij:i≠j):M.w t i≠M.w t j:=by
 obtain⟨n1,n2,n3⟩:=h.ne t ht;rcases(show i=0∨i=1∨i=2 by omega)with rfl|rfl|rfl<;>rcases(show j=0∨j=1∨j=2 by omega)with rfl|rfl|rfl
 ·exact absurd rfl hij
 ·exact n1
 ·exact n3.symm
 ·exact n1.symm
 ·exact absurd rfl hij
 ·exact n2
 ·exact n3
 ·exact n2.symm
 ·exact absurd rfl hij
theorem out_spec(h:Surf M){x:Nat×Nat}(ht:M.live x.1)(hj:x.2<3):∃k,k<3∧M.live (M.out x)∧(tat M.tris (M.out x)).n k=(x.1:Nat)∧st M (M.out x,k)=en M x∧en M (M.out x,k)=st M x:=by
 obtain⟨u,k,e1,e2,e3,e4,e5,e6⟩:=h.nb x.1 ht x.2 hj;have ho:M.out x=u:=by unfold Mesh.out;rw[e1];rfl
 rw[ho];exact⟨k,e3,e2,e4,e5,e6⟩
theorem out_ne(h:Surf M){x:Nat×Nat}(ht:M.live x.1)(hj:x.2<3):M.out x≠x.1:=fun e=>by
 obtain⟨k,hk,_,_,e1,e2⟩:=out_spec h ht hj;rw[e]at e1 e2;unfold st en at e1 e2;simp only at e1 e2;have g1:(k+1)%3=(x.2+2)%3:=Classical.byContradiction fun hne=>w_ne h ht (by omega) (by omega) hne e1
 have g2:(k+2)%3=(x.2+1)%3:=Classical.byContradiction fun hne=>w_ne h ht (by omega) (by omega) hne e2
 omega
theorem back{u k:Nat}{t:Nat}(e:(tat M.tris u).n k=(t:Nat)):M.out (u,k)=t:=by unfold Mesh.out;rw[e];rfl
def Path(M:Mesh):Int→List (Nat×Nat)→Int→Prop
 | a,[],b=>a=b
 | a,x::l,b=>st M x=a∧Path M (en M x) l b
theorem path_append:∀(l1 l2:List (Nat×Nat)) (a b:Int),Path M a (l1++l2) b↔∃c,Path M a l1 c∧Path M c l2 b
 | [],l2,a,b=>by simp[Path]
 | x::l1,l2,a,b=>by
  simp only[List.cons_append,Path,path_append l1 l2];constructor
  ·rintro⟨h1,c,h2,h3⟩
   exact⟨c,⟨h1,h2⟩,h3⟩
  ·rintro⟨c,⟨h1,h2⟩,h3⟩
   exact⟨h1,c,h2,h3⟩
structure Rimmed(M:Mesh)(X:List Nat)(L:List (Nat×Nat)):Prop where
 live:∀t∈X,M.live t
 nod:X.Nodup
 mem:∀x,x∈L↔x.1∈X∧x.2<3∧M.out x ∉ X
 cyc:∃a,Path M a L a
 nd:(L.map (st M)).Nodup
 vs:∀b,b∈L.map (st M)↔∃t∈X,∃j,j<3∧M.w t j=b
 len:L.length=X.length+2
theorem one(h:Surf M){t:Nat}(ht:M.live t):Rimmed M [t] [(t,0),(t,1),(t,2)] where
 live u hu:=by rw[List.mem_singleton]at hu;subst hu;exact ht
 nod:=by simp
 mem x:=by
  obtain⟨a,b⟩:=x;simp only[List.mem_cons,List.not_mem_nil,or_false,Prod.mk.injEq];constructor
  ·rintro(⟨rfl,rfl⟩|⟨rfl,rfl⟩|⟨rfl,rfl⟩)
   ·exact⟨rfl,by omega,out_ne h (x:=(a,0)) ht (by simp)⟩
   ·exact⟨rfl,by omega,out_ne h (x:=(a,1)) ht (by simp)⟩
   ·exact⟨rfl,by omega,out_ne h (x:=(a,2)) ht (by simp)⟩
  ·rintro⟨rfl,hb,_⟩
   omega
 cyc:=⟨M.w t 1,by simp[Path,st,en]⟩
 nd:=by
  obtain⟨n1,n2,n3⟩:=h.ne t ht;have e:[(t,0),(t,1),(t,2)].map (st M)=[M.w t 1,M.w t 2,M.w t 0]:=by simp[st]
  rw[e];simp only[List.nodup_cons,List.mem_cons,List.not_mem_nil,or_false,not_or,not_false_eq_true,List.nodup_nil,and_true];exact⟨⟨n2,n1.symm⟩,n3⟩
 vs b:=by
  have e:[(t,0),(t,1),(t,2)].map (st M)=[M.w t 1,M.w t 2,M.w t 0]:=by simp[st]
  rw[e];simp only[List.mem_cons,List.not_mem_nil,or_false,exists_eq_left];constructor
  ·rintro(rfl|rfl|rfl)
   ·exact⟨1,by omega,rfl⟩
   ·exact⟨2,by omega,rfl⟩
   ·exact⟨0,by omega,rfl⟩
  ·rintro⟨j,hj,rfl⟩
   rcases(show j=0∨j=1∨j=2 by omega)with rfl|rfl|rfl<;>simp
 len:=rfl
theorem st_in{X:List Nat}{L:List (Nat×Nat)}(r:Rimmed M X L){x:Nat×Nat}(hx:x∈L):(∃t∈X,∃j,j<3∧M.w t j=st M x)∧∃t∈X,∃j,j<3∧M.w t j=en M x:=
 ⟨⟨x.1,((r.mem x).1 hx).1,(x.2+1)%3,by omega,rfl⟩,⟨x.1,((r.mem x).1 hx).1,(x.2+2)%3,by omega,rfl⟩⟩
theorem nodup_of{L:List (Nat×Nat)}(hn:(L.map (st M)).Nodup):L.Nodup:=by
 rw[List.nodup_iff_pairwise_ne,List.pairwise_map]at hn;rw[List.nodup_iff_pairwise_ne];exact hn.imp fun h e=>h (by rw[e])
theorem st_inj{L:List (Nat×Nat)}(hn:(L.map (st M)).Nodup){x y:Nat×Nat}(hx:x∈L)(hy:y∈L)(e:st M x=st M y):x=y:=by
 rw[List.nodup_iff_pairwise_ne,List.pairwise_map]at hn;obtain⟨i,hi,rfl⟩:=List.getElem_of_mem hx;obtain⟨j,hj,rfl⟩:=List.getElem_of_mem hy;rw[List.pairwise_iff_getElem]at hn;rcases Nat.lt_trichotomy i j with h|h|h
 ·exact absurd e (hn i j hi hj h)
 ·subst h;rfl
 ·exact absurd e.symm (hn j i hj hi h)
theorem grow(h:Surf M){X:List Nat}{L:List (Nat×Nat)}(r:Rimmed M X L){x:Nat×Nat}(hx:x∈L){k:Nat}(hk:k<3)(hb:(tat M.tris (M.out x)).n k=(x.1:Nat))(hul:M.live (M.out x))(e1:st M (M.out x,k)=en M x)(e2:en M (M.out x,k)=st M x)
  (hc:¬∃t∈X,∃j,j<3∧M.w t j=M.w (M.out x) k):∃L',Rimmed M (M.out x::X) L':=by
 obtain⟨u,hu⟩:∃u,M.out x=u:=⟨_,rfl⟩;rw[hu]at hb hul e1 e2 hc ⊢;obtain⟨x1,x2,x3⟩:=(r.mem x).1 hx;rw[hu]at x3;obtain⟨l1,l2,hL⟩:=List.append_of_mem hx;obtain⟨m1,m2,m3,m4⟩:=mod3 hk;have ndL:L.Nodup:=nodup_of r.nd;have a1:st M (u,(k+1)%3)=st M x:=by rw[←e2];show M.w u (((k+1)%3+1)%3)=M.w u ((k+2)%3);rw[m1]
 have a2:en M (u,(k+1)%3)=M.w u k:=by show M.w u (((k+1)%3+2)%3)=_;rw[m2]
 have a3:st M (u,(k+2)%3)=M.w u k:=by show M.w u (((k+2)%3+1)%3)=_;rw[m3]
 have a4:en M (u,(k+2)%3)=en M x:=by rw[←e1];show M.w u (((k+2)%3+2)%3)=M.w u ((k+1)%3);rw[m4]
 have hyu:∀y∈L,M.out y=u→y=x:=fun y hy hyu=>by
  obtain⟨y1,y2,y3⟩:=(r.mem y).1 hy;obtain⟨k',hk',_,_,f1,f2⟩:=out_spec h (x:=y) (r.live _ y1) y2;rw[hyu]at f1 f2;by_cases hkk:k'=k
  ·subst hkk
   exact st_inj r.nd hy hx (by rw[←f2,e2])
  ·exfalso
   refine hc ?_;rcases(show k=(k'+1)%3∨k=(k'+2)%3 by omega)with e|e
   ·exact⟨y.1,y1,(y.2+2)%3,by omega,by rw[e];exact f1.symm⟩
   ·exact⟨y.1,y1,(y.2+1)%3,by omega,by rw[e];exact f2.symm⟩
 refine⟨l1++(u,(k+1)%3)::(u,(k+2)%3)::l2,?_,?_,?_,?_,?_,?_,?_⟩
 ·intro t ht
  rcases List.mem_cons.1 ht with rfl|ht
  ·exact hul
  ·exact r.live t ht
 ·exact List.nodup_cons.2 ⟨x3,r.nod⟩
 ·intro y
  have hmem:y∈l1++(u,(k+1)%3)::(u,(k+2)%3)::l2↔(y∈L∧y≠x)∨y=(u,(k+1)%3)∨y=(u,(k+2)%3):=by
   rw[hL]at ndL ⊢;rw[List.nodup_append]at ndL;obtain⟨_,n2,n3⟩:=ndL;have n4:=(List.nodup_cons.1 n2).1;simp only[List.mem_append,List.mem_cons];constructor
   ·rintro(hy|hy|hy|hy)
    ·exact .inl ⟨.inl hy,fun e=>n3 y hy x (by simp) e⟩
    ·exact .inr (.inl hy)
    ·exact .inr (.inr hy)
    ·exact .inl ⟨.inr (.inr hy),fun e=>n4 (e▸hy)⟩
   ·rintro(⟨hy|hy|hy,hne⟩|hy|hy)
    ·exact .inl hy
    ·exact absurd hy hne
    ·exact .inr (.inr (.inr hy))
    ·exact .inr (.inl hy)
    ·exact .inr (.inr (.inl hy))
  rw[hmem];have nin:∀s∈X,∀j,j<3→M.w s j≠M.w u k:=fun s hs j hj e=>hc ⟨s,hs,j,hj,e⟩
  constructor
  ·rintro(⟨hy,hne⟩|rfl|rfl)
   ·obtain⟨y1,y2,y3⟩:=(r.mem y).1 hy
    refine⟨List.mem_cons_of_mem _ y1,y2,fun hm=>?_⟩;rcases List.mem_cons.1 hm with e|hm
    ·exact hne (hyu y hy e)
    ·exact y3 hm
   ·refine⟨by simp,show(k+1)%3<3 by omega,fun hm=>?_⟩
    obtain⟨k',hk',_,_,f1,f2⟩:=out_spec h (x:=(u,(k+1)%3)) hul (show(k+1)%3<3 by omega);rcases List.mem_cons.1 hm with e|hm
    ·exact out_ne h (x:=(u,(k+1)%3)) hul (show(k+1)%3<3 by omega) e
    ·exact nin _ hm ((k'+1)%3) (by omega) (by rw[←a2];exact f1)
   ·refine⟨by simp,show(k+2)%3<3 by omega,fun hm=>?_⟩
    obtain⟨k',hk',_,_,f1,f2⟩:=out_spec h (x:=(u,(k+2)%3)) hul (show(k+2)%3<3 by omega);rcases List.mem_cons.1 hm with e|hm
    ·exact out_ne h (x:=(u,(k+2)%3)) hul (show(k+2)%3<3 by omega) e
    ·exact nin _ hm ((k'+2)%3) (by omega) (by rw[←a3];exact f2)
  ·rintro⟨y1,y2,y3⟩
   obtain⟨a,b⟩:=y;simp only at y1 y2;rcases List.mem_cons.1 y1 with rfl|y1
   ·rcases(show b=k∨b=(k+1)%3∨b=(k+2)%3 by omega)with rfl|rfl|rfl
    ·exfalso
     refine y3 (List.mem_cons_of_mem _ ?_);rw[back hb];exact x1
    ·exact .inr (.inl rfl)
    ·exact .inr (.inr rfl)
   ·refine .inl ⟨(r.mem _).2 ⟨y1,y2,fun hm=>y3 (List.mem_cons_of_mem _ hm)⟩,fun e=>y3 ?_⟩
    rw[e,hu];simp
 ·obtain⟨a,hp⟩:=r.cyc
  rw[hL,path_append]at hp;obtain⟨c,p1,p2,p3⟩:=hp;refine⟨a,(path_append _ _ _ _).2 ⟨c,p1,?_,?_,?_⟩⟩
  ·rw[a1];exact p2
  ·rw[a2];exact a3
  ·rw[a4];exact p3
 ·have hnd:=r.nd
  rw[hL,List.map_append,List.map_cons]at hnd;rw[List.map_append,List.map_cons,List.map_cons,a1,a3];have hcn:M.w u k ∉ (l1.map (st M))++st M x::l2.map (st M):=fun hm=>hc ((r.vs _).1 (by rw[hL,List.map_append,List.map_cons];exact hm))
  have:(l1.map (st M)++st M x::M.w u k::l2.map (st M)).Perm (M.w u k::(l1.map (st M)++st M x::l2.map (st M))):=by
   refine(List.perm_append_left_iff (l1.map (st M))).2 (List.Perm.swap _ _ _) |>.trans ?_
   exact List.perm_middle
  rw[this.nodup_iff];exact List.nodup_cons.2 ⟨hcn,hnd⟩
 ·intro b
  have hb1:b∈(l1++(u,(k+1)%3)::(u,(k+2)%3)::l2).map (st M)↔b∈L.map (st M)∨b=M.w u k:=by
   rw[hL,List.map_append,List.map_append,List.map_cons,List.map_cons,List.map_cons,a1,a3];simp only[List.mem_append,List.mem_cons];constructor
   ·rintro(h'|h'|h'|h')
    ·exact .inl (.inl h')
    ·exact .inl (.inr (.inl h'))
    ·exact .inr h'
    ·exact .inl (.inr (.inr h'))
   ·rintro((h'|h'|h')|h')
    ·exact .inl h'
    ·exact .inr (.inl h')
    ·exact .inr (.inr (.inr h'))
    ·exact .inr (.inr (.inl h'))
  rw[hb1,r.vs];constructor
  ·rintro(⟨t,ht,j,hj,e⟩|rfl)
   ·exact⟨t,List.mem_cons_of_mem _ ht,j,hj,e⟩
   ·exact⟨u,by simp,k,hk,rfl⟩
  ·rintro⟨t,ht,j,hj,e⟩
   rcases List.mem_cons.1 ht with rfl|ht
   ·obtain⟨s1,s2⟩:=st_in r hx
    rcases(show j=k∨j=(k+1)%3∨j=(k+2)%3 by omega)with rfl|rfl|rfl
    ·exact .inr e.symm
    ·left;rw[←e];rw[←e1]at s2;exact s2
    ·left;rw[←e];rw[←e2]at s1;exact s1
   ·exact .inl ⟨t,ht,j,hj,e⟩
 ·have:=r.len
  rw[hL]at this;simp only[List.length_append,List.length_cons]at this ⊢;omega
def Grown(M:Mesh)(cs:List Nat):Prop:=∀i,0<i→i<cs.length→∃i' j,i'<i∧j<3∧M.out (cs.getD i' 0,j)=cs.getD i 0
theorem getD_at{l:List Nat}{i:Nat}(h:i<l.length):l.getD i 0=l[i]:=by rw[List.getD_eq_getElem?_getD,List.getElem?_eq_getElem h];rfl
theorem cover(h:Surf M){C X:List Nat}(hg:Grown M C)(hl:∀t∈C,M.live t)(h0:0<C.length→C.getD 0 0∈X){l:List Int}(hX:∀t∈X,∀j,j<3→M.w t j∈l) :
  ∀n,n≤C.length→∃l':List Int,(∀t,t∈X∨t∈C.take n→∀j,j<3→M.w t j∈l')∧l'.length≤l.length+((C.take n).filter fun t=>decide (t ∉ X)).length
 | 0,_=>⟨l,fun t ht=>by
   rcases ht with ht|ht
   ·exact hX t ht
   ·simp at ht,by simp⟩
 | n+1,hn=>by
  obtain⟨l',k1,k2⟩:=cover h hg hl h0 hX n (by omega);have htk:C.take (n+1)=C.take n++[C[n]]:=by rw[List.take_add_one,List.getElem?_eq_getElem (by omega)];rfl
  by_cases hm:C[n]∈X
  ·refine⟨l',fun t ht=>k1 t ?_,?_⟩
   ·rcases ht with ht|ht
    ·exact .inl ht
    ·rw[htk,List.mem_append,List.mem_singleton]at ht
     rcases ht with ht|rfl
     ·exact .inr ht
     ·exact .inl hm
   ·rw[htk,List.filter_append]
    simp only[List.filter_cons,hm,not_true_eq_false,decide_false,Bool.false_eq_true,if_false,List.filter_nil,List.append_nil];exact k2
  ·have hn0:0<n:=by
    rcases Nat.eq_zero_or_pos n with rfl|h'
    ·exact absurd (by have:=h0 (by omega);rw[getD_at (by omega)]at this;exact this) hm
    ·exact h'
   obtain⟨i',j,hi,hj,ho⟩:=hg n hn0 (by omega);rw[getD_at (show i'<C.length by omega),getD_at (show n<C.length by omega)]at ho
   have hp:C[i']∈C.take n:=by
    rw[List.mem_take_iff_getElem];exact⟨i',by omega,rfl⟩
   obtain⟨k,hk,_,_,f1,f2⟩:=out_spec h (x:=(C[i'],j)) (hl _ (List.getElem_mem _)) hj;rw[ho]at f1 f2;refine⟨M.w C[n] k::l',fun t ht i hi'=>?_,?_⟩
   ·have hcase:(t∈X∨t∈C.take n)∨t=C[n]:=by
     rcases ht with ht|ht
     ·exact .inl (.inl ht)
     ·rw[htk,List.mem_append,List.mem_singleton]at ht
      rcases ht with ht|ht
      ·exact .inl (.inr ht)
      ·exact .inr ht
    rcases hcase with ht|rfl
    ·exact List.mem_cons_of_mem _ (k1 t ht i hi')
    ·rcases(show i=k∨i=(k+1)%3∨i=(k+2)%3 by omega)with rfl|rfl|rfl
     ·simp
     ·have:M.w C[n] ((k+1)%3)=M.w C[i'] ((j+2)%3):=f1
      rw[this];exact List.mem_cons_of_mem _ (k1 _ (.inr hp) _ (by omega))
     ·have:M.w C[n] ((k+2)%3)=M.w C[i'] ((j+1)%3):=f2
      rw[this];exact List.mem_cons_of_mem _ (k1 _ (.inr hp) _ (by omega))
   ·rw[htk,List.filter_append]
    simp only[List.filter_cons,hm,not_false_eq_true,decide_true,if_true,List.filter_nil,List.length_cons,List.length_append,List.length_nil];omega
theorem rest_len{C X:List Nat}(hC:C.Nodup)(hX:X.Nodup)(hs:∀t∈X,t∈C):(C.filter fun t=>decide (t ∉ X)).length+X.length=C.length:=by
 have hp:(X++C.filter fun t=>decide (t ∉ X)).Perm C:=by
  refine(List.perm_ext_iff_of_nodup ?_ hC).2 fun t=>?_
  ·rw[List.nodup_append]
   refine⟨hX,hC.filter _,fun a ha b hb e=>?_⟩;rw[List.mem_filter,decide_eq_true_eq]at hb;exact hb.2 (e▸ha)
  ·rw[List.mem_append,List.mem_filter,decide_eq_true_eq]
   constructor
   ·rintro(ht|ht)
    ·exact hs t ht
    ·exact ht.1
   ·intro ht
    by_cases hx:t∈X
    ·exact .inl hx
    ·exact .inr ⟨ht,hx⟩
 have:=hp.length_eq;rw[List.length_append]at this;omega
theorem fresh(h:Surf M){C X:List Nat}{L:List (Nat×Nat)}(hg:Grown M C)(hl:∀t∈C,M.live t)(hC:C.Nodup)(r:Rimmed M X L)(hs:∀t∈X,t∈C)(h0:C.getD 0 0∈X){V:List Int}(hV:V.Nodup)(hVm:∀b∈V,∃t∈C,∃j,j<3∧M.w t j=b)(hVl:V.length=C.length+2)
  {x:Nat×Nat} (hx:x∈L) (hu:M.out x∈C) {k:Nat} (hk:k<3) (e1:st M (M.out x,k)=en M x) (e2:en M (M.out x,k)=st M x):¬∃t∈X,∃j,j<3∧M.w t j=M.w (M.out x) k:=by
 intro hc;obtain⟨s1,s2⟩:=st_in r hx
 have hcov:∀t∈M.out x::X,∀j,j<3→M.w t j∈L.map (st M):=fun t ht j hj=>by
  rw[r.vs];rcases List.mem_cons.1 ht with rfl|ht
  ·rcases(show j=k∨j=(k+1)%3∨j=(k+2)%3 by omega)with rfl|rfl|rfl
   ·exact hc
   ·rw[←e1]at s2;exact s2
   ·rw[←e2]at s1;exact s1
  ·exact⟨t,ht,j,hj,rfl⟩
 obtain⟨l',k1,k2⟩:=cover (X:=M.out x::X) h hg hl (fun _=>List.mem_cons_of_mem _ h0) hcov C.length (Nat.le_refl _);rw[List.take_length]at k1 k2
 have hr:=rest_len (X:=M.out x::X) hC (List.nodup_cons.2 ⟨((r.mem x).1 hx).2.2,r.nod⟩) (fun t ht=>by
  rcases List.mem_cons.1 ht with rfl|ht
  ·exact hu
  ·exact hs t ht)
 have hle:=nodup_sub V l' hV (fun b hb=>by
  obtain⟨t,ht,j,hj,rfl⟩:=hVm b hb;exact k1 t (.inr ht) j hj)
 rw[List.length_map,r.len]at k2;simp only[List.length_cons]at hr;omega
theorem rim_of(h:Surf M){C X:List Nat}(hg:Grown M C)(hl:∀t∈C,M.live t)(hC:C.Nodup){V:List Int}(hV:V.Nodup)(hVm:∀b∈V,∃t∈C,∃j,j<3∧M.w t j=b)(hVl:V.length=C.length+2)
  (hgX:Grown M X) (hXn:X.Nodup) (hs:∀t∈X,t∈C) (hX0:0<X.length) (h0:C.getD 0 0=X.getD 0 0):∃L,Rimmed M X L:=by
 have go:∀n,0<n→n≤X.length→∃Y L,Rimmed M Y L∧Y.Perm (X.take n):=by
  intro n
  induction n with
  | zero=>intro h';omega
  | succ n ih=>
   intro _ hn;have htk:X.take (n+1)=X.take n++[X[n]]:=by rw[List.take_add_one,List.getElem?_eq_getElem (by omega)];rfl
   rcases Nat.eq_zero_or_pos n with rfl|hn0
   ·refine⟨[X[0]],_,one h (hl _ (hs _ (List.getElem_mem _))),?_⟩
    rw[htk];simp
   ·obtain⟨Y,L,r,hp⟩:=ih hn0 (by omega)
    obtain⟨i',j,hi,hj,ho⟩:=hgX n hn0 (by omega);rw[getD_at (show i'<X.length by omega),getD_at (show n<X.length by omega)]at ho
    have hm:X[i']∈Y:=by
     rw[hp.mem_iff,List.mem_take_iff_getElem];exact⟨i',by omega,rfl⟩
    have hnY:X[n] ∉ Y:=by
     rw[hp.mem_iff,List.mem_take_iff_getElem];rintro⟨i,hi',e⟩;rw[List.nodup_iff_pairwise_ne,List.pairwise_iff_getElem]at hXn;exact hXn i n (by omega) (by omega) (by omega) e
    have hx:((X[i'],j):Nat×Nat)∈L:=(r.mem _).2 ⟨hm,hj,by rw[ho];exact hnY⟩;obtain⟨k,hk,g1,g2,g3,g4⟩:=out_spec h (x:=(X[i'],j)) (r.live _ hm) hj;have hYs:∀t∈Y,t∈C:=fun t ht=>hs t (List.mem_of_mem_take (hp.mem_iff.1 ht))
    have hY0:C.getD 0 0∈Y:=by
     rw[h0,getD_at hX0,hp.mem_iff,List.mem_take_iff_getElem];exact⟨0,by omega,rfl⟩
    have hf:=fresh h hg hl hC r hYs hY0 hV hVm hVl hx (by rw[ho];exact hs _ (List.getElem_mem _)) hk g3 g4;obtain⟨L',r'⟩:=grow h r hx hk g2 g1 g3 g4 hf;rw[ho]at r';refine⟨_,L',r',?_⟩;rw[htk];exact((List.Perm.cons _ hp)).trans (List.perm_append_comm (l₁:=[X[n]]))
 obtain⟨Y,L,r,hp⟩:=go X.length hX0 (Nat.le_refl _);rw[List.take_length]at hp
 exact⟨L,⟨fun t ht=>r.live t (hp.mem_iff.2 ht),hXn,fun x=>by rw[r.mem,hp.mem_iff,hp.mem_iff],r.cyc,r.nd,fun b=>by
  rw[r.vs];constructor
  ·rintro⟨t,ht,hh⟩
   exact⟨t,hp.mem_iff.1 ht,hh⟩
  ·rintro⟨t,ht,hh⟩
   exact⟨t,hp.mem_iff.2 ht,hh⟩,by rw[r.len,hp.length_eq]⟩⟩
end
end Cu
end Go.Proofs.YtdihefgleefhmaaGreat
