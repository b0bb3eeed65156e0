import Derived.BigQuiet
import Derived.Sort.QuietThIn
import Derived.OwnWalkIn
import Derived.Below
import Derived.RangeFuncCalls
import Derived.Test.YtdihefgleefhmaaGreatProg
import Derived.WalkKit
import Derived.Outline
import Derived.Lib.Hide
import Derived.WalkSpells
import Derived.WalkLawsBesides
import Derived.Deep.Cut
import Derived.StillTailTactics
import Derived.Deep.RegionHeld
namespace Go.Gq
open Go.RowKit
section
variable {P:Program} {ops:Array Oper} {C:World→Prop}
def noDefer(l:List Oper):Bool:=l.all fun o=>match o.op with| .defer _=>false|_=>true
theorem noDefer_spec{l:List Oper}(h:noDefer l=true):∀o∈l,∀c,o.op≠.defer c:=by
 intro o ho c hc;have:=List.all_eq_true.1 h o ho;rw[hc]at this;simp at this
theorem oper_round{F:Fence}{n:Nat}{o:Oper}{a:Act}{w:World}{K:Act→World→Prop}{Q:Exit→Act→World→Prop}(l:Nat)(hro:F.round=none)(hd:∀c,o.op≠.defer c)
  (h:o.wpIn F n P a w K Q):o.wpIn (F.inRound l) n P a w K Q:=by
 unfold Oper.wpIn at *;refine⟨h.1,?_⟩;have h2:=h.2;rw[hro,Oper.semAt_none]at h2;rw[Fence.inRound_round,Oper.semAt_eq _ _ _ hd];generalize (execOp a.eval o).run P w=r at *;cases r with
 | ok x w'=>cases x<;>exact h2
 | halt x w'=>cases x<;>exact h2
theorem any_round{F:Fence}{n:Nat}{md:Region.Mode}{Q:Exit→Act→World→Prop}(l:Nat)(hro:F.round=none)(hd:∀(i:Nat) (o:Oper),ops[i]? =some o→∀c,o.op≠.defer c) :
  ∀(fuel:Nat) (L:Array Bool) (a:Act) (w:World),wpAnyIn F n P md ops Q fuel L a w→wpAnyIn (F.inRound l) n P md ops Q fuel L a w
 | 0,_,_,_,h=>h
 | fuel+1,L,a,w,h=>by
  refine⟨h.1,fun i hi=>?_⟩;have h2:=h.2 i hi;unfold wpOpIn at *
  split
  ·rename_i ho
   simp only[ho]at h2;exact any_round l hro hd fuel _ _ _ h2
  ·rename_i o ho
   simp only[ho]at h2
   split
   ·rename_i hw
    simp only[hw,if_true]at h2;exact oper_round l hro (hd i o ho) (Oper.wpIn_mono (fun a' w' h'=>any_round l hro hd fuel _ a' w' h') h2)
   ·rename_i hw
    simp only[hw]at h2;exact⟨h2.1,any_round l hro hd fuel _ _ _ h2.2⟩
theorem quiet_wide{n:Nat}{Q:Act→Prop} : ∀(l:List Oper) (a:Act),wpQuiet P ops C Q l a→wpQuietIn Fence.wide n P ops C Q l a
 | [],_,h=>h
 | o::l,a,h=>by
  unfold wpQuietIn;unfold wpQuiet at h;refine⟨fun _ _ _ _=>trivial,?_⟩
  split
  ·rename_i hw
   simp only[hw,if_true]at h;obtain⟨v,h1,h2⟩:=h;refine⟨v,fun w hC=>?_,quiet_wide l _ h2⟩;have h3:=h1 w hC;unfold Oper.quietAt at h3;unfold Oper.quietAtIn;generalize (execOp a.eval o).run P w=r at *;cases r with
   | ok x w'=>
    cases x<;>simp only[Oper.quietUpon]at h3<;>simp only[Oper.quietUponIn]
    case value u=>exact h3
    case skip=>exact h3
    case enter f args=>exact⟨h3.1,fun hs=>by simp[Fence.wide]at hs,callsIn_wide.2 h3.2⟩
   | halt x w'=>simp only[Oper.quietUpon]at h3
  ·rename_i hw
   simp only[hw]at h;exact quiet_wide l _ h
theorem region_round{id n l₀:Nat}{Q:Exit→Act→World→Prop}{a:Act}{w:World}(hm:P.follows .mixedOrders=true)(hB:Region.lexB .any ops=true)(hd:noDefer ops.toList=true)(hC:C {w with drawn:=w.drawn+1 })
  (h:wpQuiet P ops C (fun a'=>∀w',C w'→Q .normal a' w') ops.toList a):(Code.region id ops true).wpIn (Fence.wide.inRound l₀) n P Q a w:=by
 simp only[Region.lexB,Bool.and_eq_true]at hB
 have hd':∀(i:Nat) (o:Oper),ops[i]? =some o→∀c,o.op≠.defer c:=fun i o ho=>noDefer_spec hd o (by
  obtain⟨hi,rfl⟩:=Array.getElem?_eq_some_iff.1 ho;simp)
 refine wpIn_region_any hm (any_round l₀ rfl hd' _ _ _ _ (wpAnyIn_of_quiet (F:=Fence.wide) (Q:=fun a'=>∀w',C w'→Q .normal a' w') rfl (fun _ w' hw' h=>h w' hw') _ _ _ _ hC ?_));have:=wpAnyQIn_lex (F:=Fence.wide) (n:=n) (C:=C) (md:=.any) hB.1 ops.toList 0 (Array.replicate ops.size false) a (by simp) (by simpa using hB.2) (quiet_wide _ _ h)
 simpa using this
end
structure Later(W:World) where
 w:World
 bel:Below W.heap.size W w
theorem later_bel{W w':World}(h:∃u:Later W,w'=u.w):Below W.heap.size W w':=by obtain⟨u,rfl⟩:=h;exact u.bel
instance (W:World):Nonempty (Later W):=⟨⟨W,Below.refl _ _⟩⟩
theorem Later.cell{W:World}{p:Addr}{v:Value}(h:W.cell? p=some v)(u:Later W):u.w.cell? p=some v:=(u.bel.cell (World.block_lt_of_cell? _ _ h)).trans h
theorem call{P:Program}{f:FuncId}{args:Array Value}{W:World}{u:Later W}{v:Value}(h:Calls P f args u.w fun e w'=>e=.returned v∧Below u.w.heap.size u.w w') :
  Calls P f args u.w fun e w'=>e=.returned v∧∃u':Later W,w'=u'.w:=
 h.mono fun _ w' ⟨he,hb⟩=>⟨he,⟨⟨w',u.bel.trans (hb.mono u.bel.size)⟩,rfl⟩⟩
theorem region{P:Program}{id:Nat}{Q:Exit→Act→World→Prop}{a:Act}{w:World}{l:List Oper}(hm:P.follows .mixedOrders=true)(hB:Region.lexB .any l.toArray=true)
  (h:wpQuiet P l.toArray (fun w'=>∃u:Later w,w'=u.w) (fun a'=>∀w',(∃u:Later w,w'=u.w)→Q .normal a' w') l a):(Code.region id l.toArray true).wp P Q a w:=
 wp_region_quiet (C:=fun w'=>∃u:Later w,w'=u.w) hm hB ⟨⟨w.drew,(Below.refl _ w).drew⟩,rfl⟩ (by simpa using h)
theorem region_in{P:Program}{id n l₀:Nat}{Q:Exit→Act→World→Prop}{a:Act}{w:World}{l:List Oper}(hm:P.follows .mixedOrders=true)(hB:Region.lexB .any l.toArray=true)(hd:noDefer l=true)
  (h:wpQuiet P l.toArray (fun w'=>∃u:Later w,w'=u.w) (fun a'=>∀w',(∃u:Later w,w'=u.w)→Q .normal a' w') l a):(Code.region id l.toArray true).wpIn (Fence.wide.inRound l₀) n P Q a w:=
 region_round (C:=fun w'=>∃u:Later w,w'=u.w) hm hB (by simpa using hd) ⟨⟨w.drew,(Below.refl _ w).drew⟩,rfl⟩ (by simpa using h)
end Go.Gq
namespace Go.Proofs.YtdihefgleefhmaaGreat
open Go.RowKit
theorem bel_refl(w:World):Below w.heap.size w w:=Below.refl _ _
theorem bel_alloc{w0 w:World}(h:Below w0.heap.size w0 w)(o:Obj):Below w0.heap.size w0 (w.alloc o):=h.alloc h.size o
theorem bel_step{w0 w w':World}(h:Below w0.heap.size w0 w)(k:Below w.heap.size w w'):Below w0.heap.size w0 w':=h.trans (k.mono h.size)
theorem bel_drew{w0 w:World}(h:Below w0.heap.size w0 w):Below w0.heap.size w0 w.drew:=h.drew
theorem bel_set{w0 w:World}(h:Below w0.heap.size w0 w){b:Nat}(hb:w0.heap.size≤b)(i:Nat)(v:Value):Below w0.heap.size w0 (w.setCell ⟨b,i,none⟩ v):=h.setCell hb v
def Blk(W:World)(b:Nat)(t:TypeId)(cs:Array Value):Prop:=W.heap[b]? =some (.cells cs t (0,0))
section
variable {W W':World} {b:Nat} {t:TypeId} {cs:Array Value}
theorem Blk.lt(h:Blk W b t cs):b<W.heap.size:=(Array.getElem?_eq_some_iff.1 h).1
theorem Blk.new(W:World)(t:TypeId)(cs:Array Value):Blk (W.alloc (.cells cs t)) W.heap.size t cs:=World.alloc_heap_new _ _
theorem Blk.new'{n:Nat}(W:World)(t:TypeId)(cs:Array Value)(h:W.heap.size=n):Blk (W.alloc (.cells cs t)) n t cs:=h▸Blk.new W t cs
theorem Blk.later(h:Blk W b t cs)(hb:Below W.heap.size W W'):Blk W' b t cs:=(hb.block b h.lt).trans h
theorem Blk.below{B:Nat}(h:Blk W b t cs)(hb:Below B W W')(hl:b<B):Blk W' b t cs:=(hb.block b hl).trans h
theorem Blk.alloc(h:Blk W b t cs)(o:Obj):Blk (W.alloc o) b t cs:=h.later (bel_alloc (bel_refl W) o)
theorem Blk.drew(h:Blk W b t cs):Blk W.drew b t cs:=h
theorem Blk.cell(h:Blk W b t cs)(i:Nat)(v:Value)(hv:cs[i]? =some v):W.cell? ⟨b,i,none⟩=some v:=by
 unfold Blk at h;simp[World.cell?,h,hv]
theorem Blk.frozen(h:Blk W b t cs)(i:Nat):W.frozen? ⟨b,i,none⟩=false:=by
 unfold Blk at h;simp[World.frozen?,h]
theorem Blk.set(h:Blk W b t cs)(i:Nat)(v:Value):Blk (W.setCell ⟨b,i,none⟩ v) b t (cs.setIfInBounds i v):=by
 unfold Blk at h ⊢;simp[World.setCell,Array.getElem?_modify,h]
theorem Blk.other(h:Blk W b t cs){c:Nat}(hc:b≠c)(i:Nat)(v:Value):Blk (W.setCell ⟨c,i,none⟩ v) b t cs:=
 (Below.heap_setCell W ⟨c,i,none⟩ v b hc).trans h
theorem Blk.two{x y:Value}(h:Blk W b t #[x,y]):W.cell? ⟨b,0,none⟩=some x∧W.cell? ⟨b,1,none⟩=some y∧W.frozen? ⟨b,0,none⟩=false∧W.frozen? ⟨b,1,none⟩=false:=
 ⟨h.cell 0 x rfl,h.cell 1 y rfl,h.frozen 0,h.frozen 1⟩
theorem Blk.one{x:Value}(h:Blk W b t #[x]):W.cell? ⟨b,0,none⟩=some x∧W.frozen? ⟨b,0,none⟩=false:=⟨h.cell 0 x rfl,h.frozen 0⟩
theorem Blk.three{x y z:Value}(h:Blk W b t #[x,y,z]):W.cell? ⟨b,0,none⟩=some x∧W.cell? ⟨b,1,none⟩=some y∧W.cell? ⟨b,2,none⟩=some z∧W.frozen? ⟨b,0,none⟩=false∧W.frozen? ⟨b,1,none⟩=false∧W.frozen? ⟨b,2,none⟩=false:=
 ⟨h.cell 0 x rfl,h.cell 1 y rfl,h.cell 2 z rfl,h.frozen 0,h.frozen 1,h.frozen 2⟩
theorem Blk.three_set{x y z u v s:Value}(h:Blk W b t #[x,y,z]):(W.setCell ⟨b,0,none⟩ u).cell? ⟨b,0,none⟩=some u∧((W.setCell ⟨b,0,none⟩ u).setCell ⟨b,1,none⟩ v).cell? ⟨b,1,none⟩=some v∧(((W.setCell ⟨b,0,none⟩ u).setCell ⟨b,1,none⟩ v).setCell ⟨b,2,none⟩ s).cell? ⟨b,2,none⟩=some s:=
 ⟨(h.set 0 u).cell 0 u rfl,((h.set 0 u).set 1 v).cell 1 v rfl,(((h.set 0 u).set 1 v).set 2 s).cell 2 s rfl⟩
theorem Blk.two_set{x y u v:Value}(h:Blk W b t #[x,y]):(W.setCell ⟨b,0,none⟩ u).cell? ⟨b,0,none⟩=some u∧((W.setCell ⟨b,0,none⟩ u).setCell ⟨b,1,none⟩ v).cell? ⟨b,1,none⟩=some v∧((W.setCell ⟨b,0,none⟩ u).setCell ⟨b,1,none⟩ v).cell? ⟨b,0,none⟩=some u∧(W.setCell ⟨b,1,none⟩ v).cell? ⟨b,1,none⟩=some v:=
 ⟨(h.set 0 u).cell 0 u rfl,((h.set 0 u).set 1 v).cell 1 v rfl,((h.set 0 u).set 1 v).cell 0 u rfl,(h.set 1 v).cell 1 v rfl⟩
end
theorem Blk.cells{W:World}{b:Nat}{t:TypeId}{cs:Array Value}(h:Blk W b t cs)(i:Nat)(v:Value)(hv:cs[i]? =some v):∀u:Gq.Later W,u.w.cell? ⟨b,i,none⟩=some v:=Gq.Later.cell (h.cell i v hv)
end Go.Proofs.YtdihefgleefhmaaGreat
namespace Go.Gq
open Go Go.RowKit
section
variable {P:Program} {ops:Array Oper} {md:Region.Mode} {C:World→Prop}
def wpAnyQL(P:Program)(md:Region.Mode)(ops:Array Oper)(C:World→Prop)(n:Nat)(L:Array Bool→Act→Prop):Nat→Array Bool→Act→Prop
 | 0,listed,a=>L listed a
 | f+1,listed,a=>
  Region.ready md ops listed≠[]∧∀i∈Region.ready md ops listed,i<n∧qOp P ops C i (wpAnyQL P md ops C n L f (listed.setIfInBounds i true)) a
theorem wpAny_of_qhead{n g:Nat}{L:Array Bool→Act→Prop}{Q':Exit→Act→World→Prop}(hL:∀listed a w,C w→L listed a→wpAny P md ops Q' g listed a w) :
  ∀(f:Nat) (listed:Array Bool) (a:Act) (w:World),C w→wpAnyQL P md ops C n L f listed a→wpAny P md ops Q' (f+g) listed a w
 | 0,listed,a,w,hw,h=>by rw[Nat.zero_add];exact hL _ _ _ hw h
 | f+1,listed,a,w,hw,h=>by
  rw[show f+1+g=(f+g)+1 by omega];exact⟨fun h0=>absurd h0 h.1,fun i hi=>wpOp_of_qOp hw (fun a' w' hw' h'=>wpAny_of_qhead hL f _ a' w' hw' h') (h.2 i hi).2⟩
theorem wpAnyQL_first{n i:Nat}{oi:Oper}{v:Value}{L:Array Bool→Act→Prop}(hi:ops[i]? =some oi)(hsel:∀(j:Nat) (o:Oper) cs b,ops[j]? =some o→o.op≠.select cs b)
  (hs:Region.sinkB md ops n=true) (hc:Region.chainB md ops n=true) (hn:n<ops.size) (hin:i<n)
  (hdone:∀listed a,L listed a→∀j∈Region.ready md ops listed,n≤j) :
  ∀(f:Nat) (listed:Array Bool) (a:Act),HeadInv md ops n listed→
   (∀j oj,ops[j]? =some oj→j≠i→listed.getD j true=false→(∀e∈oj.after,Region.binds md e=true→e.on≠i)→oi.apart ops oj=true)→
   i∈Region.ready md ops listed→YieldsIn P ops C oi v a→
   wpAnyQL P md ops C n L f (listed.setIfInBounds i true) (a.put oi.dst v)→wpAnyQL P md ops C n L (f+1) listed a:=by
 intro f
 induction f with
 | zero=>
  intro listed a inv _ hr hy H;have hun:=(mem_ready.1 hr).1;refine⟨fun h=>(by rw[h]at hr;cases hr),fun j hj=>?_⟩
  have hjn:j<n:=by
   rcases Nat.lt_or_ge j n with h|h
   ·exact h
   ·exact absurd hj (tail_waits hs hc hn inv _ i rfl hin hun j h)
  refine⟨hjn,?_⟩;by_cases hji:j=i
  ·subst hji;exact hy.qOp hi H
  ·have:=hdone _ _ H j (ready_mono hj hji)
   omega
 | succ f ih=>
  intro listed a inv hfree hr hy H;have hun:=(mem_ready.1 hr).1;refine⟨fun h=>(by rw[h]at hr;cases hr),fun j hj=>?_⟩
  have hjn:j<n:=by
   rcases Nat.lt_or_ge j n with h|h
   ·exact h
   ·exact absurd hj (tail_waits hs hc hn inv _ i rfl hin hun j h)
  refine⟨hjn,?_⟩;by_cases hji:j=i
  ·subst hji;exact hy.qOp hi H
  ·have h1:=(H.2 j (ready_mono hj hji)).2
   obtain⟨hjun,oj,hoj,hall⟩:=mem_ready.1 hj
   have hnot:∀e∈oj.after,Region.binds md e=true→e.on≠i:=fun e he hb heq=>by
    have h1:=hall e he hb;rw[heq,getD_both hun]at h1;cases h1
   have h2:=qOp_put hoj (hfree j oj hoj hji hjun hnot) (fun cs b=>hsel i oi cs b hi) (fun cs b=>hsel j oj cs b hoj) hy h1
   have hfree':∀k ok,ops[k]? =some ok→k≠i→(listed.setIfInBounds j true).getD k true=false→
     (∀e∈ok.after,Region.binds md e=true→e.on≠i)→oi.apart ops ok=true:=fun k ok hk hki hun hno=>by
    refine hfree k ok hk hki ?_ hno;by_cases hjk:j=k
    ·subst hjk;exact hjun
    ·rw[getD_set_ne true hjk]at hun;exact hun
   refine qOp_mono (fun a' h3=>ih (listed.setIfInBounds j true) a' (inv.set hj hjn) hfree' (ready_mono hr (Ne.symm hji)) h3.1 ?_) h2;rw[Array.setIfInBounds_comm _ _ hji];exact h3.2
theorem wpAnyQL_lex{n g:Nat}{Lq:Act→Prop}(hsel:Region.noSelect ops=true)(hs:Region.sinkB md ops n=true)(hc:Region.chainB md ops n=true)(hn:n<ops.size) :
  ∀(l:List Oper) (k:Nat) (listed:Array Bool) (a:Act),(∀j,j<l.length→l[j]? =ops[k+j]?)→k+l.length=n→HeadInv md ops n listed→
  Region.lexHead md ops g l.length k listed=true→wpQuiet P ops C Lq l a→
  wpAnyQL P md ops C n (fun listed' a'=>Region.seqB md ops g n listed'=true∧Lq a') l.length listed a
 | [],k,listed,a,_,hk,_,hB,h=>by
  have:k=n:=by simpa using hk
  subst this;exact⟨by simpa [Region.lexHead] using hB,h⟩
 | o::l,k,listed,a,hl,hk,inv,hB,h=>by
  have h0:ops[k]? =some o:=by simpa using (hl 0 (by simp)).symm
  simp only[List.length_cons,Region.lexHead,Bool.and_eq_true]at hB;obtain⟨⟨hr,hf⟩,hB'⟩:=hB;have hkn:k<n:=by simp only[List.length_cons]at hk;omega
  have hr':k∈Region.ready md ops listed:=by simpa using hr
  have hst:qOp P ops C k (wpQuiet P ops C Lq l) a:=by unfold qOp;simp only[h0];exact h
  obtain⟨v,hy,hK⟩:=yieldsIn_of_qOp h0 hst
  exact wpAnyQL_first h0 (Region.noSelect_spec hsel) hs hc hn hkn (fun listed' a' hL=>seqB_ready hL.1) l.length listed a inv (Region.free_spec h0 hf) hr' hy
   (wpAnyQL_lex hsel hs hc hn l (k+1) _ _ (fun j hj=>by have:=hl (j+1) (by simp;omega);simpa [Nat.add_assoc,Nat.add_comm 1 j] using this) (by simp only[List.length_cons]at hk;omega) (inv.set hr' hkn) hB' hK)
end
theorem region_tail{P:Program}{id:Nat}{Q:Exit→Act→World→Prop}{a:Act}{w:World}{l:List Oper}(n:Nat)(hm:P.follows .mixedOrders=true)(hB:Region.lexTailB .any l.toArray n=true)
  (h:wpQuiet P l.toArray (fun w'=>∃u:Later w,w'=u.w) (fun a'=>∀w',(∃u:Later w,w'=u.w)→wpList P l.toArray Q (l.drop n) a' w') (l.take n) a):(Code.region id l.toArray true).wp P Q a w:=by
 simp only[Region.lexTailB,Bool.and_eq_true,decide_eq_true_eq]at hB;obtain⟨⟨⟨⟨hsel,hn⟩,hs⟩,hc⟩,hlex⟩:=hB;have hn':n<l.length:=by simpa using hn
 have htl:(l.take n).length=n:=by simp;omega
 have hdl:(l.drop n).length=l.toArray.size-n:=by simp
 have inv0:HeadInv .any l.toArray n (Array.replicate l.toArray.size false):=
  ⟨by simp,fun j oj _ hl=>(by rw[getD_replicate_false]at hl;cases hl),fun t _ ht=>getD_in (by simpa using ht) (getD_replicate_false _ _)⟩
 have H:=wpAnyQL_lex (md:=.any) (g:=l.toArray.size-n) (C:=fun w'=>∃u:Later w,w'=u.w) hsel hs hc hn (l.take n) 0 _ a (fun j hj=>by
  have hj':j<n:=by rw[htl]at hj;exact hj
  simp[hj']) (by simpa using htl) inv0 (by rw[htl];exact hlex) h
 refine wp_region_any hm ?_
 have:=wpAny_of_qhead (Q':=Q) (g:=l.toArray.size-n) (fun listed a' w' hw' hL=>by
  have:=wpAny_of_seq (md:=.any) (Q':=Q) (l.drop n) n listed a' w' (fun j=>by simp[List.getElem?_drop]) (by rw[hdl];exact hL.1) (hL.2 w' hw')
  rwa [hdl]at this) _ _ _ _ ⟨⟨w.drew,(Below.refl _ w).drew⟩,rfl⟩ H
 rw[htl,show n+(l.toArray.size-n)=l.toArray.size by omega]at this;exact this
end Go.Gq
namespace Go.Gq
open Go Go.RowKit
section
variable {P:Program} {ops:Array Oper}
theorem rows_wide{n:Nat}{row:String}{args:Array Value}{w:World}{R:Value→World→Prop}(h:Rows P row args w R):RowsIn Fence.wide n P row args w R:=fun c cs _=>by
 obtain⟨v,w',r,s⟩:=h c cs;exact⟨v,w',r,stepsIn_wide.2 s⟩
theorem oper_wide{n:Nat}{o:Oper}{a:Act}{w:World}{K:Act→World→Prop}{Q:Exit→Act→World→Prop}(h:o.wp P a w K Q):o.wpIn Fence.wide n P a w K Q:=by
 unfold Oper.wp at h;unfold Oper.wpIn;refine⟨fun _ _=>trivial,?_⟩;show o.uponIn Fence.wide n P a K Q ((o.semAt none a.eval).run P w)
 rw[Oper.semAt_none];generalize (execOp a.eval o).run P w=r at *;cases r with
 | ok x w'=>
  cases x
  case value v=>exact h
  case skip=>exact h
  case defer d=>exact h
  case enter f args=>exact⟨fun hs=>by simp[Fence.wide]at hs,callsIn_wide.2 h⟩
  case row r args=>exact⟨fun hs=>by simp[Fence.wide]at hs,rows_wide h⟩
  all_goals exact h.elim
 | halt x w'=>
  cases x
  all_goals first| exact h|exact h.elim
def OnlyN(K:Act→World→Prop):Exit→Act→World→Prop
 | .normal,a,w=>K a w
 | _,_,_=>False
theorem onlyN_out(K:Act→World→Prop):¬LetsOut (OnlyN K):=fun⟨_,_,h⟩=>h
theorem any_wide{n:Nat}{md:Region.Mode}{Q:Exit→Act→World→Prop}(hQ:¬LetsOut Q):∀(fuel:Nat) (L:Array Bool) (a:Act) (w:World),wpAny P md ops Q fuel L a w→wpAnyIn Fence.wide n P md ops Q fuel L a w
 | 0,_,_,_,h=>h
 | fuel+1,L,a,w,h=>by
  refine⟨h.1,fun i hi=>?_⟩;have h2:=h.2 i hi;unfold wpOp at h2;unfold wpOpIn
  split
  ·rename_i ho
   simp only[ho]at h2;exact any_wide hQ fuel _ _ _ h2
  ·rename_i o ho
   simp only[ho]at h2
   split
   ·rename_i hw
    simp only[hw,if_true]at h2;rcases h2 with h2|h2
    ·exact oper_wide (Oper.wp_mono (fun a' w' h'=>any_wide hQ fuel _ a' w' h') h2)
    ·exact absurd h2.2 hQ
   ·rename_i hw
    simp only[hw]at h2
    first| exact any_wide hQ fuel _ _ _ h2|exact⟨fun _ _=>trivial,any_wide hQ fuel _ _ _ h2⟩
end
theorem region_tail_in{P:Program}{id m l₀:Nat}{Q:Exit→Act→World→Prop}{a:Act}{w:World}{l:List Oper}(n:Nat)(hm:P.follows .mixedOrders=true)(hB:Region.lexTailB .any l.toArray n=true)(hd:noDefer l=true)
  (h:wpQuiet P l.toArray (fun w'=>∃u:Later w,w'=u.w) (fun a'=>∀w',(∃u:Later w,w'=u.w)→∀R:Exit→Act→World→Prop,(∀a w,Q .normal a w→R .normal a w)→wpList P l.toArray R (l.drop n) a' w') (l.take n) a):(Code.region id l.toArray true).wpIn (Fence.wide.inRound l₀) m P Q a w:=by
 refine Code.wpIn_mono (Q:=OnlyN (Q .normal)) (fun e a w h=>by cases e<;>first| exact h|exact h.elim) ?_;simp only[Region.lexTailB,Bool.and_eq_true,decide_eq_true_eq]at hB;obtain⟨⟨⟨⟨hsel,hn⟩,hs⟩,hc⟩,hlex⟩:=hB;have hn':n<l.length:=by simpa using hn
 have htl:(l.take n).length=n:=by simp;omega
 have hdl:(l.drop n).length=l.toArray.size-n:=by simp
 have inv0:HeadInv .any l.toArray n (Array.replicate l.toArray.size false):=
  ⟨by simp,fun j oj _ hl=>(by rw[getD_replicate_false]at hl;cases hl),fun t _ ht=>getD_in (by simpa using ht) (getD_replicate_false _ _)⟩
 have H:=wpAnyQL_lex (md:=.any) (g:=l.toArray.size-n) (C:=fun w'=>∃u:Later w,w'=u.w) hsel hs hc hn (l.take n) 0 _ a (fun j hj=>by
  have hj':j<n:=by rw[htl]at hj;exact hj
  simp[hj']) (by simpa using htl) inv0 (by rw[htl];exact hlex) h
 have:=wpAny_of_qhead (Q':=OnlyN (Q .normal)) (g:=l.toArray.size-n) (fun listed a' w' hw' hL=>by
  have:=wpAny_of_seq (md:=.any) (Q':=OnlyN (Q .normal)) (l.drop n) n listed a' w' (fun j=>by simp[List.getElem?_drop]) (by rw[hdl];exact hL.1) (hL.2 w' hw' _ fun _ _ h=>h)
  rwa [hdl]at this) _ _ _ _ ⟨⟨w.drew,(Below.refl _ w).drew⟩,rfl⟩ H
 rw[htl,show n+(l.toArray.size-n)=l.toArray.size by omega]at this
 have hd':∀(i:Nat) (o:Oper),l.toArray[i]? =some o→∀c,o.op≠.defer c:=fun i o ho=>noDefer_spec hd o (by
  obtain⟨hi,rfl⟩:=Array.getElem?_eq_some_iff.1 ho;simp)
 exact wpIn_region_any hm (any_round l₀ rfl hd' _ _ _ _ (any_wide (onlyN_out _) _ _ _ _ this))
end Go.Gq
namespace Go.Gq
open Go Go.RowKit
theorem region_held_in{P:Program}{id m l₀:Nat}{Q:Exit→Act→World→Prop}{a:Act}{w:World}{l:List Oper}(S:World→Prop)(hm:P.follows .mixedOrders=true)(hd:noDefer l=true)(hS:S w.drew)
  (h:S w.drew→wpAnyH P .any l.toArray (OnlyN (Q .normal)) S l.toArray.size (Array.replicate l.toArray.size false) a w.drew):(Code.region id l.toArray true).wpIn (Fence.wide.inRound l₀) m P Q a w:=by
 refine Code.wpIn_mono (Q:=OnlyN (Q .normal)) (fun e a w h=>by cases e<;>first| exact h|exact h.elim) ?_
 have hd':∀(i:Nat) (o:Oper),l.toArray[i]? =some o→∀c,o.op≠.defer c:=fun i o ho=>noDefer_spec hd o (by
  obtain⟨hi,rfl⟩:=Array.getElem?_eq_some_iff.1 ho;simp)
 exact wpIn_region_any hm (any_round l₀ rfl hd' _ _ _ _ (any_wide (onlyN_out _) _ _ _ _ (wpAny_of_held _ _ _ _ (h hS))))
theorem region_held{P:Program}{id:Nat}{Q:Exit→Act→World→Prop}{a:Act}{w:World}{l:List Oper}(S:World→Prop)(hm:P.follows .mixedOrders=true)(hS:S w.drew)
  (h:S w.drew→wpAnyH P .any l.toArray (OnlyN (Q .normal)) S l.toArray.size (Array.replicate l.toArray.size false) a w.drew):(Code.region id l.toArray true).wp P Q a w:=
 wp_mono (Q:=OnlyN (Q .normal)) (wp_region_any hm (wpAny_of_held _ _ _ _ (h hS))) fun e a w h=>by cases e<;>first| exact h|exact h.elim
end Go.Gq
