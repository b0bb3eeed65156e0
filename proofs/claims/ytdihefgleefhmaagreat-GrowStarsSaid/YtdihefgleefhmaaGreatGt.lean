import Derived.Test.YtdihefgleefhmaaGreatGd
namespace Go.Proofs.YtdihefgleefhmaaGreat
structure GridOk(G:Mesh)(p:Pt)(n:Nat):Prop where
 pts:G.pts.length=n
 atl:G.at_.length=n
 few:n≤9
 tfew:G.tris.length≤1000
 ffew:G.free.length≤1000
 none:iat (G.add p).at_ n=-1
 pat:pat (G.add p).pts n=p
 ok:(G.add p).ok
 wf:(G.add p).wf
 some:0<(G.add p).tris.length
 sane:(G.add p).sane
 live:∀o,o<(G.add p).tris.length→conflict (G.add p) (tat (G.add p).tris o) p=true→(G.add p).live o
 ins:(∃(t0 k:Nat) (q:Place),(if Mr.realB (G.add p) 0=true then (0:Int) else Fi.firstReal (G.add p))=t0∧Mr.realB (G.add p) t0=true∧findGo (G.add p) p ((G.add p).tris.length+1) t0 0=Option.some (q,k)∧q.kind=2)∨
  ∃(M':Mesh) (cs:List Nat) (L:List (Nat×Nat)) (k:Nat),InsGood (G.add p) n 0 M'∧Iy.Stars (G.add p) M' n p cs L k∧Sizes (G.add p) M'
namespace Gt
open Df Db Cv Cz Da
theorem inc_same(a p:Pt):inc a a a p=0:=by unfold inc incDet;grind
theorem facts(fa:Int→Int→Bool)(w h:Nat)(hw:w=1∨w=2)(hh:h=1∨h=2)(b0 b1 b2 b3:Bool)(a b c:Nat)(p:Pt)(hp:p.near)(B:List (Int×Int))(hB:B.Perm (border3 (gridTris w h (bits4 b0 b1 b2 b3)))):GridOk (gridG fa w h (bits4 b0 b1 b2 b3) a b c B) p ((w+1)*(h+1)):=by
 have g:=Dk.good (fa:=fa) w h hw hh b0 b1 b2 b3 a b c p B hB;have hc:=Dk.ok w h hw hh (bits4 b0 b1 b2 b3) p hp;obtain⟨G,hG⟩:∃G,gridG fa w h (bits4 b0 b1 b2 b3) a b c B=G:=⟨_,rfl⟩;rw[hG]at g ⊢;have hl:=Dj.pts_len w h;have hn9:(w+1)*(h+1)≤9:=Nat.le_trans (Nat.mul_le_mul (show w+1≤3 by omega) (show h+1≤3 by omega)) (by omega);obtain⟨n,hn⟩:∃n,(w+1)*(h+1)=n:=⟨_,rfl⟩;have hnew:=fun hp=>Dk.new w h (bits4 b0 b1 b2 b3) p hp
 rw[hn]at g hl hn9 hnew ⊢;have hpts:G.pts++[p]=gridPts w h++[p]:=g.del.pts;have hgp:G.pts=gridPts w h:=List.append_cancel_right hpts;have hpl:G.pts.length=n:=by rw[hgp,hl]
 have hcl:(gridC w h (bits4 b0 b1 b2 b3) (gridPts w h++[p])).pts.length=n+1:=by
  show(gridPts w h++[p]).length=_
  rw[List.length_append,hl];rfl
 have hal:G.at_.length=n:=by
  have:=g.atl
  have e1:(G.add p).bare.at_.length=G.at_.length+1:=by
   show(G.at_++[-1]).length=_
   simp
  have e2:(G.add p).bare.pts.length=G.pts.length+1:=by
   show(G.pts++[p]).length=_
   simp
  omega
 have hlen:(gridTris w h (bits4 b0 b1 b2 b3)++B.map ghost3).length≤900:=by
  have h8:=Gd.first w h hw hh (bits4 b0 b1 b2 b3);unfold Gd.firstB at h8;simp only[Bool.and_eq_true,decide_eq_true_eq]at h8;have h8:=h8.2.1
  have hE:∀R:List T3,(R.flatMap edges3).length=3*R.length:=fun R=>by
   induction R with
   | nil=>rfl
   | cons x R ih=>rw[List.flatMap_cons,List.length_append,ih];simp[edges3];omega
  have hb:=hB.length_eq;have hf:(border3 (gridTris w h (bits4 b0 b1 b2 b3))).length≤((gridTris w h (bits4 b0 b1 b2 b3)).flatMap edges3).length:=List.length_filter_le _ _;rw[hE]at hf;rw[List.length_append,List.length_map];omega
 obtain⟨N,hN⟩:∃N,(gridTris w h (bits4 b0 b1 b2 b3)++B.map ghost3).length=N:=⟨_,rfl⟩;rw[hN]at g hlen
 have htl:G.tris.length≤N:=by
  have:=g.few;rw[bare_len]at this;exact this
 have hpn:pat (G.add p).pts n=p:=by
  show pat (G.pts++[p]) n=p
  unfold pat;rw[List.getD_eq_getElem?_getD,←hpl,List.getElem?_concat_length];rfl
 refine⟨hpl,hal,hn9,by omega,?_,?_,hpn,Iy.ok hc g (by omega) (by omega),Iy.wf g (by omega),?_,?_,?_,?_⟩
 ·have h1:=Dq.nodup_len G.tris.length G.free g.fnod (fun x hx=>by
   have:=(g.free x hx).1;rw[bare_len]at this;exact this)
  omega
 ·have:=g.at0 n (by show n<(G.pts++[p]).length;simp;omega) (by rw[Df.gS_nat];omega)
  exact this
 ·obtain⟨t,ht⟩:=g.gh
  have:=ht.1.1;rw[bare_len]at this;omega
 ·exact bare_sane (Kv.sane g.del)
 ·refine fun o ho hcf=>⟨ho,fun h0=>?_⟩
  have hd:=g.dead o (by rw[bare_len];exact ho) ((bare_v _ o 0).trans h0)
  have e1:(tat (G.add p).tris o).v1=-2:=by
   have:=bare_v (G.add p) o 1;rw[hd]at this;exact this.symm
  have e2:(tat (G.add p).tris o).v2=-2:=by
   have:=bare_v (G.add p) o 2;rw[hd]at this;exact this.symm
  unfold conflict at hcf;rw[h0,e1,e2,if_neg (by decide),if_neg (by decide),if_neg (by decide)]at hcf;rw[inc_same]at hcf;simp at hcf
 ·by_cases hin:p∈gridPts w h
  ·obtain⟨x,hx,he⟩:=List.getElem_of_mem hin
   have hxn:x<n:=by omega
   obtain⟨t0,q,k,h1,h2,h3,h4⟩:=Dd.step_at hc g (x:=x) (by rw[Df.gS_nat];omega) 0;refine .inl ⟨t0,k,q,h1,h2,?_,h4⟩
   have e:pat (gridC w h (bits4 b0 b1 b2 b3) (gridPts w h++[p])).pts x=p:=by
    show pat (gridPts w h++[p]) x=p
    rw[Dj.pat_app _ p hx];unfold pat;rw[List.getD_eq_getElem?_getD,List.getElem?_eq_getElem hx];exact he
   rw[e]at h3;exact h3
  ·obtain⟨M',cs,L,k,h1,h2,h3⟩:=Iy.ins hc g (hnew hin) (List.range n) List.nodup_range (fun x=>by rw[Df.gS_nat,List.mem_range]) (by omega) (by omega) 0
   refine .inr ⟨M',cs,L,k,h1,?_,h3⟩
   have e:pat (gridC w h (bits4 b0 b1 b2 b3) (gridPts w h++[p])).pts n=p:=by
    rw[show(gridC w h (bits4 b0 b1 b2 b3) (gridPts w h++[p])).pts=(G.add p).pts from hpts.symm];exact hpn
   rw[e]at h2;exact h2
end Gt
end Go.Proofs.YtdihefgleefhmaaGreat
