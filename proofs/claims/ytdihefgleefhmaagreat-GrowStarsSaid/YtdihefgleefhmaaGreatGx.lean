import Derived.Test.YtdihefgleefhmaaGreatRows
import Derived.Test.YtdihefgleefhmaaGreatGs
import Derived.WalkKit
import Derived.ProofKit
import Derived.OpenShut
import Derived.ShutString
import Derived.ChangeOld
import Derived.Below
namespace Go.Proofs.YtdihefgleefhmaaGreat.growStars
open Go.ChangeShapes Go.WideShapes Go.ChangeAt Go.RowKit Go.Deep
open Go.Proofs.YtdihefgleefhmaaGreat
theorem own:ownKnob Tryz.prog.godebug=none:=by kernel_rfl
theorem laidOut:laidOutB Tryz.prog=true:=by kernel_rfl
theorem cells24:Tryz.prog.cellsOf 24=2:=by kernel_rfl
theorem cells3:Tryz.prog.cellsOf 3=1:=by kernel_rfl
theorem list2{α:Type}(l:List α)(h:(⟨l⟩:Array α).size=2):∃a b,l=[a,b]:=by
 match l,h with
 | [a,b],_=>exact⟨a,b,rfl⟩
set_option maxHeartbeats 1000000 in
set_option maxRecDepth 100000 in
theorem lifted(os:Os)(started:os.Started)(H:Type)(enc:TypeId×Value→H) :
 ReturnsInHanded {} Tryz.checked os 3 .any (Rows.growStarsSpec.pre6 enc Tryz.prog Tryz.f3 Rows.growStarsRow.domain false) (Rows.growStarsSpec.post enc Tryz.prog Tryz.f3 false true false false):=by
 refine returnsInHanded_of_change (C:=Tryz.checked) own started (by kernel_rfl) Tryz.func3
  (ChangeSpec.witness6 (enc:=enc) (C:=Tryz.checked) false ⟨#[],#[.int .u32 0,.int .u32 0,.agg #[.int .i64 0,.int .i64 0]],[]⟩ 3 (by kernel_rfl) (by kernel_rfl) (by kernel_rfl) (by kernel_rfl)) ?_
 intro W base args ds gs before hval0 hW _ _;have hval:∀(j:Nat) t v,Tryz.f3.params[j]? =some t→args[j]? =some v→Value.okWide Tryz.prog W .any base t v:=hval0;have hW':=hW;obtain⟨p,q,hA0,hV,rfl,_,_⟩:=hW;have hA:DataW.TrodAll enc Tryz.prog W 0 (fun _=>true) true Tryz.f3.params.toList args.toList ds p:=hA0;rw[Tryz.params3]at hA hval;obtain⟨v0,v1,v2,d0,d1,d2,p0,p1,p2,rfl,rfl,rfl,h0,h1,h2⟩:=trodAll_three hA;obtain⟨rfl,rfl⟩:=trodVars_none hV;obtain⟨x,rfl,rfl,rfl,wx⟩:=open_int Tryz.underlying22 (hval 0 22 v0 rfl rfl) h0;obtain⟨y,rfl,rfl,rfl,wy⟩:=open_int Tryz.underlying22 (hval 1 22 v1 rfl rfl) h1
 obtain⟨cs,rfl,hsz,_⟩:∃cs,v2=.agg cs∧cs.size=Tryz.prog.cellsOf 24∧Row.okWide Tryz.prog W .any base 24 cs:=by
  have:=hval 2 24 v2 rfl rfl
  simpa [Value.okWide,Tryz.underlying24] using this
 rw[cells24]at hsz;have k2:=h2;have lt2:∀x∈p2,x.block<W.heap.size:=by obtain⟨m,hm⟩:=k2;exact DataW.trod_lt m _ _ _ hm
 obtain⟨l⟩:=cs;obtain⟨c0,c1,rfl⟩:=list2 l hsz;obtain⟨fuel,hf⟩:=h2;obtain⟨xs,m,rfl,hx,hl,hn,hi⟩:=DataW.trod_struct Tryz.underlying24 hf;have i0:=hi 0 _ rfl;have i1:=hi 1 _ rfl;simp only[List.getElem_toArray,List.getElem_cons_zero,List.getElem_cons_succ,cells3,Value.cells,List.drop,List.take]at i0 i1;obtain⟨y0,y1,rfl⟩:=list2 xs hn;obtain⟨x0,e0,_,w0⟩:=DataW.trod_int Tryz.underlying3 i0;obtain⟨x1,e1,_,w1⟩:=DataW.trod_int Tryz.underlying3 i1;simp only[List.cons.injEq,and_true]at e0 e1;subst e0 e1;clear hA0 hval0 hA hval hi i0 i1 hf;refine(Gs.law_any Fa.area1 x y ⟨x0,x1⟩ W).mono fun e W' ⟨he,bel⟩=>?_
 subst he;exact⟨_,rfl,_,_,_,[],_,[],hW',trodAll_mk1 (shut_bool Tryz.underlying4 _),trodAll_mk3 (shut_int Tryz.underlying22 wx) (shut_int Tryz.underlying22 wy) (Below.trod laidOut (by kernel_rfl) (of_decide_eq_true (by kernel_rfl)) k2 bel lt2),rfl,bel.frame _,fun h=>by cases h⟩
theorem over:Rows.growStarsRow.holds Tryz.pinned (OpenSpec.ofChange Rows.growStarsSpec):=
 OpenClaim.holds_of_wide 3 Tryz.f3 rfl rfl rfl rfl rfl rfl rfl ⟨rfl,rfl,rfl,rfl,rfl⟩ rfl rfl rfl rfl rfl (by kernel_rfl) Tryz.func3 (by kernel_rfl)
  (of_decide_eq_true (by kernel_rfl)) (by unfold Func.isWrapper;first| (rw[if_pos (by decide +kernel)];kernel_rfl)|(rw[if_neg (by decide +kernel)];exact⟨rfl,rfl⟩))
  (fun os started H enc _=>lifted os started H enc)
theorem proved:Rows.GrowStarsSaid:=over
end Go.Proofs.YtdihefgleefhmaaGreat.growStars
namespace Go.Proofs.YtdihefgleefhmaaGreat
theorem growStars_holds:Rows.GrowStarsSaid:=growStars.proved
end Go.Proofs.YtdihefgleefhmaaGreat
#print axioms Go.Proofs.YtdihefgleefhmaaGreat.growStars_holds
