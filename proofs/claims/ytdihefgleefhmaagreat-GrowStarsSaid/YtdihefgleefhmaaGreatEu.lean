import Derived.Test.YtdihefgleefhmaaGreatJa
namespace Go.Proofs.YtdihefgleefhmaaGreat
namespace Eu
open Ki Po Pc Pe
section
variable {D:Int→Int→Int→Int→Int} {S:Int→Prop} {M:Mesh}
def Fnl(D:Int→Int→Int→Int→Int)(b:Int)(s:Int→Int):Prop:=∀c d y p,D b d y p*s c-D b c y p*s d+D b c d p*s y-D b c d y*s p=0
theorem Fnl.neg{b:Int}{s:Int→Int}(h:Fnl D b s):Fnl D b (fun y=>- s y):=fun c d y p=>by
 have:=h c d y p;simp only[Int.mul_neg];omega
theorem nn{x y:Int}(hx:x≤0)(hy:y≤0):0≤x*y:=Int.mul_nonneg_of_nonpos_of_nonpos hx hy
theorem cone(h:Poly D S M)(hD:Alt D){b:Int}{t:Nat}(ht:M.has b t){s:Int→Int}(hl:Fnl D b s){p:Int}(hp:S p)(hpb:p≠b)(hs:0<s p):∃t,M.has b t∧0<s (M.l1 b t):=by
 refine Classical.byContradiction fun hc=>?_
 have hn:∀t,M.has b t→s (M.l1 b t)≤0:=fun t ht=>by
  rcases Int.lt_or_le 0 (s (M.l1 b t))with h'|h'
  ·exact absurd ⟨t,ht,h'⟩ hc
  ·exact h'
 obtain⟨ts,k,hst,h0⟩:=star h hD ht;have kp:=hst.round.pos;obtain⟨x,hx⟩:∃x:Nat→Int,∀i,x i=M.l1 b (ts i):=⟨fun i=>M.l1 b (ts i),fun _=>rfl⟩;have hx2:∀i,M.l2 b (ts i)=x (i+1):=fun i=>by rw[hx,hst.link]
 have hxk:x k=x 0:=by rw[hx,hx,hst.round.last]
 have hsx:∀i,s (x i)≤0:=fun i=>by rw[hx];exact hn _ (hst.has i)
 have hpx:∀i,p≠x i:=fun i e=>by have:=hsx i;rw[←e]at this;omega
 have e1:∀i,D b (x i) (x (i+1)) p<0:=fun i=>by
  have:=emp_b h hD (hst.has i) hp hpb (by rw[←hx];exact hpx i) (by rw[hx2];exact hpx (i+1))
  rwa [←hx,hx2]at this
 have q1:D b (x 0) (x 1) p<0:=e1 0
 have qk:0<D b (x 0) (x (k-1)) p:=by
  have:=e1 (k-1);rw[show k-1+1=k by omega,hxk]at this;have:=hD.s2 b (x 0) (x (k-1)) p;omega
 have hk3:2<k:=by
  rcases(show k=1∨k=2∨2<k by omega)with rfl|rfl|h'
  ·have:=hD.s2 b (x 0) (x 0) p;simp only[Nat.sub_self]at qk;omega
  ·simp only[show 2-1=1 by omega]at qk;omega
  ·exact h'
 have:∃i,0<i∧i+1<k∧D b (x 0) (x i) p<0∧0≤D b (x 0) (x (i+1)) p:=by
  have go:∀n,n+1<k→(D b (x 0) (x (n+1)) p<0)∨∃i,0<i∧i+1<k∧D b (x 0) (x i) p<0∧0≤D b (x 0) (x (i+1)) p:=by
   intro n
   induction n with
   | zero=>intro _;exact .inl q1
   | succ n ih=>
    intro hn;rcases ih (by omega)with h'|h'
    ·by_cases hg:D b (x 0) (x (n+1+1)) p<0
     ·exact .inl hg
     ·exact .inr ⟨n+1,by omega,by omega,h',by omega⟩
    ·exact .inr h'
  rcases go (k-2) (by omega)with h'|h'
  ·rw[show k-2+1=k-1 by omega]at h';omega
  ·exact h'
 obtain⟨i,i0,i1,i2,i3⟩:=this
 have d0:D b (x i) (x (i+1)) (x 0)<0:=by
  have xne:∀j,0<j→j<k→x j≠x 0:=fun j j0 jk e=>by
   rw[hx,hx]at e;exact hst.inj 0 j j0 jk (un1 h (hst.has j) (hst.has 0) e).symm
  have:=emp_b h hD (hst.has i) (x:=x 0) (by rw[hx];exact(l_S h (hst.has 0)).2.1) (by rw[hx];exact(l_S h (hst.has 0)).2.2.2.1) (by rw[←hx];exact(xne i i0 (by omega)).symm) (by rw[hx2];exact(xne (i+1) (by omega) (by omega)).symm)
  rwa [←hx,hx2]at this
 have q:=hl (x i) (x (i+1)) (x 0) p;have r1:=hD.s2 b (x 0) (x (i+1)) p;have r2:=hD.s2 b (x 0) (x i) p;have m1:0≤D b (x (i+1)) (x 0) p*s (x i):=nn (by omega) (hsx i);have m2:D b (x i) (x 0) p*s (x (i+1))≤0:=Int.mul_nonpos_of_nonneg_of_nonpos (by omega) (hsx _);have m3:0≤D b (x i) (x (i+1)) p*s (x 0):=nn (by have:=e1 i;omega) (hsx 0);have m4:D b (x i) (x (i+1)) (x 0)*s p<0:=Int.mul_neg_of_neg_of_pos d0 hs;omega
theorem down(h:Poly D S M)(hD:Alt D){b:Int}{s:Int→Int}(hz:∀t,M.has b t→s (M.l1 b t)≠0){t u:Nat}(ht:M.has b t)(h1:0<s (M.l1 b t))(hu:M.has b u)(h2:s (M.l1 b u)<0):∃t,M.has b t∧0<s (M.l1 b t)∧s (M.l2 b t)<0:=by
 obtain⟨ts,k,hst,rfl⟩:=star h hD ht;obtain⟨j,hj,rfl⟩:=hst.all u hu
 have go:∀n,(∃i,M.has b (ts i)∧0<s (M.l1 b (ts i))∧s (M.l2 b (ts i))<0)∨0<s (M.l1 b (ts n)):=by
  intro n
  induction n with
  | zero=>exact .inr h1
  | succ n ih=>
   rcases ih with h'|h'
   ·exact .inl h'
   ·have hz':=hz _ (hst.has (n+1))
    rcases Int.lt_or_le 0 (s (M.l1 b (ts (n+1))))with h3|h3
    ·exact .inr h3
    ·refine .inl ⟨n,hst.has n,h',?_⟩
     rw[←hst.link];omega
 rcases go j with⟨i,hi⟩|h'
 ·exact⟨ts i,hi⟩
 ·omega
theorem once(h:Poly D S M)(hD:Alt D){b:Int}{s:Int→Int}(hl:Fnl D b s){t u:Nat}(ht:M.has b t)(h1:0<s (M.l1 b t))(h2:s (M.l2 b t)<0)(hu:M.has b u)(h3:0<s (M.l1 b u))(h4:s (M.l2 b u)<0):t=u:=by
 refine Classical.byContradiction fun hne=>?_
 have n1:M.l1 b u≠M.l1 b t:=fun e=>hne (un1 h ht hu e.symm)
 have n2:M.l2 b u≠M.l2 b t:=fun e=>hne (un2 h ht hu e.symm)
 have n3:M.l1 b u≠M.l2 b t:=fun e=>by rw[e]at h3;omega
 have n4:M.l2 b u≠M.l1 b t:=fun e=>by rw[e]at h4;omega
 obtain⟨_,s1,s2,m1,m2,_⟩:=l_S h ht;obtain⟨_,s3,s4,m3,m4,_⟩:=l_S h hu;have a1:=emp_b h hD ht s3 m3 n1 n3;have a2:=emp_b h hD ht s4 m4 n4 n2;have a3:=emp_b h hD hu s1 m1 n1.symm n4.symm;have a4:=emp_b h hD hu s2 m2 n3.symm n2.symm;generalize M.l1 b t=A at *;generalize M.l2 b t=B at *;generalize M.l1 b u=C at *;generalize M.l2 b u=E at *;have q:=hl A B C E;have r1:D b A C E=D b C E A:=by have:=hD.s2 b C A E;have:=hD.s3 b C E A;omega
 have r2:D b B C E=D b C E B:=by have:=hD.s2 b C B E;have:=hD.s3 b C E B;omega
 rw[r1,r2]at q;have m1:D b C E B*s A<0:=Int.mul_neg_of_neg_of_pos a4 h1;have m2:0<D b C E A*s B:=Int.mul_pos_of_neg_of_neg a3 h2;have m3:D b A B E*s C<0:=Int.mul_neg_of_neg_of_pos a2 h3;have m4:0<D b A B C*s E:=Int.mul_pos_of_neg_of_neg a1 h4;omega
end
def liveL(M:Mesh):List Nat:=(List.range M.tris.length).filter fun t=>decide ((tat M.tris t).v0≠-2)
theorem mem_live{M:Mesh}(t:Nat):t∈liveL M↔M.live t:=by
 unfold liveL;rw[List.mem_filter,List.mem_range,decide_eq_true_eq];rfl
theorem count{L:List Nat}{A:List (Nat×Bool)}(hL:L.Nodup)(hA:A.Nodup)(R:Nat→Nat×Bool→Prop)(ex:∀t∈L,∃a∈A,R t a)(un:∀t a a',R t a→R t a'→a=a')(inj:∀t u a,R t a→R u a→t=u)(sur:∀a∈A,∃t∈L,R t a):L.length=A.length:=by
 have hf:∀t,∃a,t∈L→a∈A∧R t a:=fun t=>by
  by_cases ht:t∈L
  ·obtain⟨a,ha,hr⟩:=ex t ht
   exact⟨a,fun _=>⟨ha,hr⟩⟩
  ·exact⟨(0,true),fun h=>absurd h ht⟩
 have hp:(L.map fun t=>Classical.choose (hf t)).Perm A:=by
  refine(List.perm_ext_iff_of_nodup ?_ hA).2 fun a=>?_
  ·rw[List.nodup_iff_pairwise_ne,List.pairwise_map]
   rw[List.nodup_iff_pairwise_ne]at hL;refine hL.imp_of_mem fun {x y} hx hy hxy e=>hxy ?_
   have h1:=(Classical.choose_spec (hf x) hx).2;have h2:=(Classical.choose_spec (hf y) hy).2;rw[e]at h1;exact inj _ _ _ h1 h2
  ·rw[List.mem_map]
   constructor
   ·rintro⟨t,ht,rfl⟩
    exact(Classical.choose_spec (hf t) ht).1
   ·intro ha
    obtain⟨t,ht,hr⟩:=sur a ha;exact⟨t,ht,un _ _ _ (Classical.choose_spec (hf t) ht).2 hr⟩
 have:=hp.length_eq
 simpa using this
end Eu
def Cfg.F(c:Cfg)(b:Int):Int:=1099511627776*(c.vec b).x+(c.vec b).y+37778931862957161709568*(c.vec b).h
def Cfg.s(c:Cfg)(b y:Int):Int:=c.F y-c.F b*(c.vec y).w
namespace Eu
open Ki Po Pc Pe
section
variable {c:Cfg} {S:Int→Prop} {M:Mesh}
theorem fnl(c:Cfg){b:Int}(hb:(c.vec b).w=1):Fnl c.D b (c.s b):=by
 intro x d y p
 have e:∀z,c.s b z=V4.dot ⟨1099511627776,1,37778931862957161709568,- c.F b⟩ (c.vec z):=fun z=>by
  unfold Cfg.s V4.dot;generalize c.F b=f;unfold Cfg.F;simp only;rw[Int.neg_mul];omega
 have h0:V4.dot ⟨1099511627776,1,37778931862957161709568,- c.F b⟩ (c.vec b)=0:=by
  rw[←e];unfold Cfg.s;rw[hb];omega
 have:=Kh.det4_fn ⟨1099511627776,1,37778931862957161709568,- c.F b⟩ (c.vec b) (c.vec x) (c.vec d) (c.vec y) (c.vec p);rw[h0,Int.zero_mul,←e,←e,←e,←e]at this;exact this
theorem vec_real(c:Cfg)(n:Nat):(c.vec n).w=1∧(c.vec n).x=(pat c.pts n).x∧(c.vec n).y=(pat c.pts n).y∧(c.vec n).h=c.hi n:=by
 unfold Cfg.vec;rw[if_neg (by omega)];exact⟨rfl,rfl,rfl,rfl⟩
theorem vec_far(c:Cfg):(c.vec (-1)).w=-3∧(c.vec (-1)).x=-(c.z0.x+c.z1.x+c.z2.x)∧(c.vec (-1)).y=-(c.z0.y+c.z1.y+c.z2.y)∧(c.vec (-1)).h=c.N:=by
 unfold Cfg.vec;rw[if_pos (by omega)];exact⟨rfl,rfl,rfl,rfl⟩
theorem sq_nn(x:Int):0≤x*x:=by
 rcases Int.le_total 0 x with h|h
 ·exact Int.mul_nonneg h h
 ·exact Int.mul_nonneg_of_nonpos_of_nonpos h h
theorem hi_pos(hc:c.Ok)(n:Nat):0<c.hi n:=by
 have h1:=hc.pos n
 have h2:0≤c.K*ptq (pat c.pts n):=Int.mul_nonneg (Int.le_of_lt (Kg.K_pos hc)) (by
  unfold ptq;have:=sq_nn (pat c.pts n).x;have:=sq_nn (pat c.pts n).y;omega)
 unfold Cfg.hi;omega
theorem F_pos(hc:c.Ok)(n:Nat):0<c.F n:=by
 obtain⟨_,e1,e2,e3⟩:=vec_real c n;have h1:=hi_pos hc n;have h2:=hc.near n;unfold Cfg.F;rw[e1,e2,e3];unfold Pt.near at h2;omega
theorem F_far(hc:c.Ok):0<c.F (-1):=by
 obtain⟨_,e1,e2,e3⟩:=vec_far c;have h0:=Kg.K_pos hc;have h1:=hc.far;have h2:=hc.n0;have h3:=hc.n1;have h4:=hc.n2;unfold Pt.near at h2 h3 h4;unfold Cfg.F;rw[e1,e2,e3];omega
theorem s_far(hc:c.Ok)(n:Nat):0<c.s n (-1):=by
 have h1:=F_far hc;have h2:=F_pos hc n;unfold Cfg.s;rw[(vec_far c).1];omega
theorem s_real(c:Cfg)(b n:Nat):c.s b n=c.F n-c.F b:=by
 unfold Cfg.s;rw[(vec_real c n).1];omega
theorem F_inj(hc:c.Ok){i j:Nat}(h:c.F i=c.F j):pat c.pts i=pat c.pts j:=by
 obtain⟨_,e1,e2,e3⟩:=vec_real c i;obtain⟨_,f1,f2,f3⟩:=vec_real c j;have h2:=hc.near i;have h3:=hc.near j;unfold Cfg.F at h;rw[e1,e2,e3,f1,f2,f3]at h;generalize c.hi i=a at *;generalize c.hi j=b at *;generalize pat c.pts i=p at *;generalize pat c.pts j=q at *;unfold Pt.near at h2 h3;have hx:p.x=q.x:=by omega
 have hy:p.y=q.y:=by omega
 cases p;cases q;simp only at hx hy;rw[hx,hy]
def Cr(c:Cfg)(M:Mesh)(t:Nat)(a:Nat×Bool):Prop:=M.has a.1 t∧if a.2=true then 0<c.s a.1 (M.l1 a.1 t)∧c.s a.1 (M.l2 a.1 t)<0 else c.s a.1 (M.l1 a.1 t)<0∧0<c.s a.1 (M.l2 a.1 t)
theorem l_at(h:Del c S M){t:Nat}(ht:M.live t){i:Nat}(hi:i<3){b:Int}(hb:M.w t i=b):M.l1 b t=M.w t ((i+1)%3)∧M.l2 b t=M.w t ((i+2)%3):=by
 have hp:=place_at h.poly ht hi hb;unfold Mesh.l1 Mesh.l2;rw[hp];refine⟨congrArg (M.w t) ?_,congrArg (M.w t) ?_⟩<;>omega
theorem w_is(h:Del c S M){t:Nat}(ht:M.live t){i:Nat}(hi:i<3):M.w t i=-1∨∃n:Nat,M.w t i=n:=by
 rcases h.nat _ (h.poly.vs t ht i hi)with e|⟨n,e,_⟩
 ·exact .inl e
 ·exact .inr ⟨n,e⟩
theorem w_ne(h:Del c S M){t:Nat}(ht:M.live t)(i j:Nat)(hi:i<3)(hj:j<3)(hij:i≠j):M.w t i≠M.w t j:=by
 obtain⟨n1,n2,n3⟩:=h.poly.ne t ht;rcases(show i=0∨i=1∨i=2 by omega)with rfl|rfl|rfl<;>rcases(show j=0∨j=1∨j=2 by omega)with rfl|rfl|rfl
 ·exact absurd rfl hij
 ·exact n1
 ·exact n3.symm
 ·exact n1.symm
 ·exact absurd rfl hij
 ·exact n2
 ·exact n3
 ·exact n2.symm
 ·exact absurd rfl hij
theorem w_F(hc:c.Ok)(h:Del c S M){t:Nat}(ht:M.live t)(i j:Nat)(hi:i<3)(hj:j<3)(hij:i≠j)(a b:Nat)(ha:M.w t i=a)(hb:M.w t j=b):c.F a≠c.F b:=fun e=>by
 have hn:=w_ne h ht i j hi hj hij;rw[ha,hb]at hn;refine h.dist a b (ha▸h.poly.vs t ht i hi) (hb▸h.poly.vs t ht j hj) (by omega) (F_inj hc e)
theorem cr_ex(hc:c.Ok)(h:Del c S M){t:Nat}(ht:M.live t):∃a:Nat×Bool,S a.1∧Cr c M t a:=by
 refine Classical.byContradiction fun hn=>?_
 have key:∀i,i<3→∀b:Nat,M.w t i=b→¬(c.s b (M.w t ((i+1)%3))<0∧0<c.s b (M.w t ((i+2)%3)))∧¬(0<c.s b (M.w t ((i+1)%3))∧c.s b (M.w t ((i+2)%3))<0):=fun i hi b hb=>by
  obtain⟨e1,e2⟩:=l_at h ht hi hb;refine⟨fun hh=>hn ⟨(b,false),hb▸h.poly.vs t ht i hi,⟨ht,i,hi,hb⟩,?_⟩,fun hh=>hn ⟨(b,true),hb▸h.poly.vs t ht i hi,⟨ht,i,hi,hb⟩,?_⟩⟩
  ·rw[if_neg (by simp),e1,e2];exact hh
  ·rw[if_pos rfl,e1,e2];exact hh
 have hne:=w_ne h ht;have dF:=w_F hc h ht;rcases w_is h ht (i:=0) (by omega)with g0|⟨a0,g0⟩<;>rcases w_is h ht (i:=1) (by omega)with g1|⟨a1,g1⟩<;>rcases w_is h ht (i:=2) (by omega)with g2|⟨a2,g2⟩
 ·exact absurd (g0.trans g1.symm) (hne 0 1 (by omega) (by omega) (by omega))
 ·exact absurd (g0.trans g1.symm) (hne 0 1 (by omega) (by omega) (by omega))
 ·exact absurd (g0.trans g2.symm) (hne 0 2 (by omega) (by omega) (by omega))
 ·have k1:=key 1 (by omega) a1 g1
  simp only[Nat.reduceAdd,Nat.reduceMod,g0,g2,s_real]at k1;have f1:=s_far hc a1;have k2:=key 2 (by omega) a2 g2;simp only[Nat.reduceAdd,Nat.reduceMod,g0,g1,s_real]at k2;have f2:=s_far hc a2;have d12:=dF 1 2 (by omega) (by omega) (by omega) a1 a2 g1 g2;omega
 ·exact absurd (g1.trans g2.symm) (hne 1 2 (by omega) (by omega) (by omega))
 ·have k0:=key 0 (by omega) a0 g0
  simp only[Nat.reduceAdd,Nat.reduceMod,g1,g2,s_real]at k0;have f0:=s_far hc a0;have k2:=key 2 (by omega) a2 g2;simp only[Nat.reduceAdd,Nat.reduceMod,g0,g1,s_real]at k2;have f2:=s_far hc a2;have d02:=dF 0 2 (by omega) (by omega) (by omega) a0 a2 g0 g2;omega
 ·have k0:=key 0 (by omega) a0 g0
  simp only[Nat.reduceAdd,Nat.reduceMod,g1,g2,s_real]at k0;have f0:=s_far hc a0;have k1:=key 1 (by omega) a1 g1;simp only[Nat.reduceAdd,Nat.reduceMod,g0,g2,s_real]at k1;have f1:=s_far hc a1;have d01:=dF 0 1 (by omega) (by omega) (by omega) a0 a1 g0 g1;omega
 ·have k0:=key 0 (by omega) a0 g0
  simp only[Nat.reduceAdd,Nat.reduceMod,g1,g2,s_real]at k0;have k1:=key 1 (by omega) a1 g1;simp only[Nat.reduceAdd,Nat.reduceMod,g0,g2,s_real]at k1;have k2:=key 2 (by omega) a2 g2;simp only[Nat.reduceAdd,Nat.reduceMod,g0,g1,s_real]at k2;have d01:=dF 0 1 (by omega) (by omega) (by omega) a0 a1 g0 g1;have d02:=dF 0 2 (by omega) (by omega) (by omega) a0 a2 g0 g2;have d12:=dF 1 2 (by omega) (by omega) (by omega) a1 a2 g1 g2;omega
theorem cr_at(h:Del c S M){t:Nat}{a:Nat×Bool}(hr:Cr c M t a):∃i,i<3∧M.live t∧M.w t i=a.1∧(if a.2=true then 0<c.s a.1 (M.w t ((i+1)%3))∧c.s a.1 (M.w t ((i+2)%3))<0 else c.s a.1 (M.w t ((i+1)%3))<0∧0<c.s a.1 (M.w t ((i+2)%3))):=by
 obtain⟨⟨ht,i,hi,hb⟩,hs⟩:=hr;obtain⟨e1,e2⟩:=l_at h ht hi hb;rw[e1,e2]at hs;exact⟨i,hi,ht,hb,hs⟩
theorem cr_pair(h:Del c S M){t:Nat}{a:Nat×Bool}(hr:Cr c M t a):∃i,i<3∧M.live t∧M.w t i=a.1∧((0<c.s a.1 (M.w t ((i+1)%3))∧c.s a.1 (M.w t ((i+2)%3))<0)∨(c.s a.1 (M.w t ((i+1)%3))<0∧0<c.s a.1 (M.w t ((i+2)%3)))):=by
 obtain⟨i,hi,ht,hb,hs⟩:=cr_at h hr;refine⟨i,hi,ht,hb,?_⟩
 split at hs
 ·exact .inl hs
 ·exact .inr hs
theorem s_anti(c:Cfg)(a b:Nat):c.s a b=- c.s b a:=by rw[s_real,s_real];omega
theorem cr_un(hc:c.Ok)(h:Del c S M)(t:Nat)(a a':Nat×Bool)(hr:Cr c M t a)(hr':Cr c M t a'):a=a':=by
 have he:a.1=a'.1:=by
  refine Classical.byContradiction fun hab=>?_
  obtain⟨i,hi,ht,hb,hs⟩:=cr_pair h hr;obtain⟨j,hj,_,hb',hs'⟩:=cr_pair h hr';have hij:i≠j:=fun e=>by rw[e,hb']at hb;omega
  have g:=s_anti c a.1 a'.1;rcases(show(j=(i+1)%3∧i=(j+2)%3)∨(j=(i+2)%3∧i=(j+1)%3)by omega)with⟨ej,ei⟩|⟨ej,ei⟩
  ·have e3:(j+1)%3=(i+2)%3:=by omega
   rw[←ej,hb']at hs;rw[←ei,hb,e3]at hs';rcases w_is h ht (i:=(i+2)%3) (by omega)with g2|⟨k,g2⟩
   ·have f1:=s_far hc a.1
    have f2:=s_far hc a'.1;rw[g2]at hs hs';omega
   ·rw[g2]at hs hs'
    rw[s_real,s_real]at hs hs';omega
  ·have e3:(j+2)%3=(i+1)%3:=by omega
   rw[←ej,hb']at hs;rw[←ei,hb,e3]at hs';rcases w_is h ht (i:=(i+1)%3) (by omega)with g2|⟨k,g2⟩
   ·have f1:=s_far hc a.1
    have f2:=s_far hc a'.1;rw[g2]at hs hs';omega
   ·rw[g2]at hs hs'
    rw[s_real,s_real]at hs hs';omega
 obtain⟨b,d⟩:=a;obtain⟨b',d'⟩:=a';simp only at he;subst he;obtain⟨_,hs⟩:=hr;obtain⟨_,hs'⟩:=hr';cases d<;>cases d'
 ·rfl
 ·simp only[Bool.false_eq_true,if_true,if_false]at hs hs';omega
 ·simp only[Bool.false_eq_true,if_true,if_false]at hs hs';omega
 ·rfl
theorem fnl_real(c:Cfg)(b:Nat):Fnl c.D b (c.s b):=fnl c (vec_real c b).1
theorem cr_inj(h:Del c S M)(t u:Nat)(a:Nat×Bool)(hr:Cr c M t a)(hr':Cr c M u a):t=u:=by
 obtain⟨b,d⟩:=a;obtain⟨ht,hs⟩:=hr;obtain⟨hu,hs'⟩:=hr';cases d
 ·simp only[Bool.false_eq_true,if_false]at hs hs' ht hu
  exact once h.poly (Kg.alt c) (fnl_real c b).neg ht (by show 0 < - c.s b (M.l1 b t);omega) (by show-c.s b (M.l2 b t)<0;omega) hu (by show 0 < - c.s b (M.l1 b u);omega) (by show-c.s b (M.l2 b u)<0;omega)
 ·simp only[if_true]at hs hs' ht hu
  exact once h.poly (Kg.alt c) (fnl_real c b) ht hs.1 hs.2 hu hs'.1 hs'.2
theorem cr_sur(hc:c.Ok)(h:Del c S M){b y t:Nat}(ht:M.has b t)(hy:S y)(hF:c.F y<c.F b)(d:Bool):∃t,Cr c M t (b,d):=by
 have hD:=Kg.alt c;obtain⟨t1,h1,k1⟩:=cone h.poly hD ht (fnl_real c b) h.far (by omega) (s_far hc b)
 obtain⟨t2,h2,k2⟩:=cone h.poly hD ht (fnl_real c b).neg hy (by rintro e;have:y=b:=by omega
                                                               subst this;omega) (by show 0 < - c.s b y;rw[s_real];omega)
 have hz:∀t,M.has b t→c.s b (M.l1 b t)≠0:=fun t ht=>by
  obtain⟨sb,s1,_,m1,_⟩:=l_S h.poly ht;rcases h.nat _ s1 with e|⟨n,e,_⟩
  ·rw[e];have:=s_far hc b;omega
  ·rw[e]at s1 m1 ⊢
   rw[s_real];intro e;exact h.dist n b s1 sb (by omega) (F_inj hc (by omega))
 cases d
 ·obtain⟨t,k,k3,k4⟩:=down h.poly hD (s:=fun y=>- c.s b y) (fun t ht=>by have:=hz t ht;show-c.s b (M.l1 b t)≠0;omega) h2 k2 h1 (by show-c.s b (M.l1 b t1)<0;omega)
  exact⟨t,k,by simp only[Bool.false_eq_true,if_false];omega⟩
 ·obtain⟨t,k,k3,k4⟩:=down h.poly hD hz h1 k1 h2 (by omega)
  exact⟨t,k,by simp only[if_true];exact⟨k3,k4⟩⟩
theorem cr_low(h:Del c S M)(hc:c.Ok){t:Nat}{a:Nat×Bool}(hr:Cr c M t a):∃y:Nat,S y∧c.F y<c.F a.1:=by
 obtain⟨i,hi,ht,hb,hs⟩:=cr_pair h hr
 have go:∀k,k<3→c.s a.1 (M.w t k)<0→∃y:Nat,S y∧c.F y<c.F a.1:=fun k hk hs=>by
  rcases w_is h ht hk with g|⟨n,g⟩
  ·rw[g]at hs;have:=s_far hc a.1;omega
  ·have hv:=h.poly.vs t ht k hk
   rw[g]at hs hv;rw[s_real]at hs;exact⟨n,hv,by omega⟩
 rcases hs with hs|hs
 ·exact go _ (by omega) hs.2
 ·exact go _ (by omega) hs.1
theorem least_F(c:Cfg):∀P:List Nat,P≠[]→∃m∈P,∀x∈P,c.F m≤c.F x
 | [],h=>absurd rfl h
 | [a],_=>⟨a,by simp,fun x hx=>by simp at hx;subst hx;exact Int.le_refl _⟩
 | a::b::l,_=>by
  obtain⟨m,hm,hl⟩:=least_F c (b::l) (by simp);by_cases h:c.F a≤c.F m
  ·refine⟨a,by simp,fun x hx=>?_⟩
   rcases List.mem_cons.1 hx with rfl|hx
   ·exact Int.le_refl _
   ·exact Int.le_trans h (hl x hx)
  ·refine⟨m,List.mem_cons_of_mem _ hm,fun x hx=>?_⟩
   rcases List.mem_cons.1 hx with rfl|hx
   ·omega
   ·exact hl x hx
theorem lives(hc:c.Ok){n:Nat}(g:Good c S M n)(P:List Nat)(hP:P.Nodup)(hS:∀x:Nat,S x↔x∈P):(liveL M).length+2=2*P.length:=by
 have h:=g.del
 have hne:P≠[]:=by
  obtain⟨i,_,_,si,_⟩:=h.z;intro e;rw[hS,e]at si;simp at si
 obtain⟨m,hm,hl⟩:=least_F c P hne;have hE:=List.length_erase_of_mem hm;have hEn:(P.erase m).Nodup:=hP.erase m;have hEm:∀x,x∈P.erase m↔x≠m∧x∈P:=fun x=>hP.mem_erase_iff
 have hadm:∀x:Nat,x∈P.erase m↔S x∧∃y:Nat,S y∧c.F y<c.F x:=fun x=>by
  rw[hEm];constructor
  ·rintro⟨h1,h2⟩
   refine⟨(hS x).2 h2,m,(hS m).2 hm,?_⟩;have h3:=hl x h2;rcases Int.lt_or_eq_of_le h3 with h4|h4
   ·exact h4
   ·exact absurd (F_inj hc h4) (h.dist m x ((hS m).2 hm) ((hS x).2 h2) (fun e=>h1 e.symm))
  ·rintro⟨h1,y,h2,h3⟩
   refine⟨?_,(hS x).1 h1⟩;rintro rfl;have:=hl y ((hS y).1 h2);omega
 have key:=count (L:=liveL M) (A:=(P.erase m).map (fun x=>(x,true))++(P.erase m).map (fun x=>(x,false))) (List.nodup_range.filter _) ?_ (Cr c M) ?_ (cr_un hc h) (cr_inj h) ?_
 ·rw[List.length_append,List.length_map,List.length_map,hE]at key
  have:0<P.length:=List.length_pos_of_mem hm;omega
 ·rw[List.nodup_append]
  refine⟨?_,?_,?_⟩
  ·rw[List.nodup_iff_pairwise_ne,List.pairwise_map];exact(List.nodup_iff_pairwise_ne.1 hEn).imp fun hab e=>hab (by simpa using e)
  ·rw[List.nodup_iff_pairwise_ne,List.pairwise_map];exact(List.nodup_iff_pairwise_ne.1 hEn).imp fun hab e=>hab (by simpa using e)
  ·intro x hx y hy e
   rw[List.mem_map]at hx hy;obtain⟨_,_,rfl⟩:=hx;obtain⟨_,_,rfl⟩:=hy;simp at e
 ·intro t ht
  obtain⟨a,sa,hr⟩:=cr_ex hc h ((mem_live t).1 ht);refine⟨a,?_,hr⟩;have:=(hadm a.1).2 ⟨sa,cr_low h hc hr⟩;obtain⟨b,d⟩:=a;rw[List.mem_append,List.mem_map,List.mem_map];cases d
  ·exact .inr ⟨b,this,rfl⟩
  ·exact .inl ⟨b,this,rfl⟩
 ·rintro⟨b,d⟩ ha
  have hb:b∈P.erase m:=by
   rw[List.mem_append,List.mem_map,List.mem_map]at ha;rcases ha with⟨x,hx,e⟩|⟨x,hx,e⟩
   ·cases e;exact hx
   ·cases e;exact hx
  obtain⟨sb,y,sy,hy⟩:=(hadm b).1 hb;obtain⟨t,_,ht⟩:=g.at1 b sb;obtain⟨u,hu⟩:=cr_sur hc h ht sy hy d;exact⟨u,(mem_live u).2 hu.1.1,hu⟩
end
end Eu
end Go.Proofs.YtdihefgleefhmaaGreat
