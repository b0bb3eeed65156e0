import Derived.Test.YtdihefgleefhmaaGreatFl
import Derived.RangeFuncNested
import Derived.RangeFuncLeaves
import Derived.RangeFuncBound
import Derived.Shelf.Abstract
import Derived.OwnWalkIn
import Derived.TacticsInMore
import Derived.LoopNIn
import Derived.LoopIn
import Derived.LoopTactic
namespace Go.Proofs.YtdihefgleefhmaaGreat
open Go.RowKit Go.Shelf
attribute [local go_sem] Oper.semAt_some
def Keep(L:List Nat)(A B:World):Prop:=∀k∈L,B.heap[k]? =A.heap[k]?
theorem Keep.refl(L:List Nat)(A:World):Keep L A A:=fun _ _=>rfl
theorem Keep.trans{L:List Nat}{A B C:World}(h:Keep L A B)(k:Keep L B C):Keep L A C:=fun i hi=>(k i hi).trans (h i hi)
theorem Keep.below{L:List Nat}{A B:World}(h:Below A.heap.size A B)(hl:∀k∈L,k<A.heap.size):Keep L A B:=fun k hk=>h.block k (hl k hk)
theorem Keep.put{L:List Nat}{n:Nat}(hl:∀k∈L,k<n)(W:World)(l:Nat)(o o':Obj)(h:n≤l)(_:W.heap[l]? =some o)(_:o.isCells=false)(_:o.isWalk=false):Keep L W (W.putObj l o'):=
 fun k hk=>World.putObj_heap_other (by have:=hl k hk;omega)
theorem Keep.blk{L:List Nat}{A B:World}(h:Keep L A B){b t:Nat}{cs:Array Value}(hb:b∈L)(k:Blk A b t cs):Blk B b t cs:=(h b hb).trans k
theorem Keep.cell{L:List Nat}{A B:World}(h:Keep L A B){p:Addr}(hp:p.block∈L):B.cell? p=A.cell? p:=World.cell?_of_block (h _ hp)
abbrev mblocks(b gp gt ga:Nat):List Nat:=[b,gp,gt,ga]
theorem MR.keep{L:List Nat}{A B:World}{b:Nat}{M:Mesh}{gp cp gt ct ga ca:Nat}{fV:Value}(h:MR A b M gp cp gt ct ga ca fV)(k:Keep L A B)(hb:b∈L)(hp:gp∈L)(ht:gt∈L)(ha:ga∈L):MR B b M gp cp gt ct ga ca fV:=by
 refine⟨k.blk hb h.head,fun i hi=>⟨(k.cell hp).trans (h.pts i hi).1,(k.cell hp).trans (h.pts i hi).2⟩,fun i hi=>?_,fun i hi=>(k.cell ha).trans (h.at_ i hi)⟩;obtain⟨h0,h1,h2,h3,h4,h5,h6,h7,h8⟩:=h.tris i hi;exact⟨(k.cell ht).trans h0,(k.cell ht).trans h1,(k.cell ht).trans h2,(k.cell ht).trans h3,(k.cell ht).trans h4,(k.cell ht).trans h5,(k.cell ht).trans h6,(k.cell ht).trans h7,(k.cell ht).trans h8⟩
theorem MR.lt{A:World}{b:Nat}{M:Mesh}{gp cp gt ct ga ca:Nat}{fV:Value}(h:MR A b M gp cp gt ct ga ca fV)(hp:0<M.pts.length)(ht:0<M.tris.length)(ha:0<M.at_.length):∀k∈mblocks b gp gt ga,k<A.heap.size:=by
 intro k hk;simp only[mblocks,List.mem_cons,List.not_mem_nil,or_false]at hk;rcases hk with rfl|rfl|rfl|rfl
 ·exact h.head.lt
 ·exact World.block_lt_of_cell? _ _ (h.pts 0 hp).1
 ·exact World.block_lt_of_cell? _ _ (h.tris 0 ht).1
 ·exact World.block_lt_of_cell? _ _ (h.at_ 0 ha)
theorem abides_later{J:World→Prop}{B:Nat}(hJ:AbidesFrom B (fun(_:Unit)=>J)){W W':World}(h:J W)(hb:Below W.heap.size W W'):J W':=
 hJ () W W' none h ⟨hb.os,hb.tape,hb.output,hb.size,fun k hk _=>hb.block k hk⟩ (fun r e=>by cases e)
def realsTo(M:Mesh)(i:Nat):List Nat:=(List.range i).filter fun k=>Mr.realB M k
theorem realsTo_succ(M:Mesh)(i:Nat):realsTo M (i+1)=if Mr.realB M i=true then realsTo M i++[i] else realsTo M i:=by
 unfold realsTo;rw[List.range_succ,List.filter_append];by_cases h:Mr.realB M i=true
 ·rw[if_pos h];simp[h]
 ·rw[if_neg h];simp[h]
theorem Blk.all9{W:World}{b t:Nat}{x0 x1 x2 x3 x4 x5 x6 x7 x8:Value}(h:Blk W b t #[x0,x1,x2,x3,x4,x5,x6,x7,x8]):W.cell? ⟨b,0,none⟩=some x0∧W.cell? ⟨b,1,none⟩=some x1∧W.cell? ⟨b,2,none⟩=some x2∧W.cell? ⟨b,3,none⟩=some x3∧W.cell? ⟨b,4,none⟩=some x4∧W.cell? ⟨b,5,none⟩=some x5∧W.cell? ⟨b,6,none⟩=some x6∧W.cell? ⟨b,7,none⟩=some x7∧W.cell? ⟨b,8,none⟩=some x8:=
 ⟨h.cell 0 x0 rfl,h.cell 1 x1 rfl,h.cell 2 x2 rfl,h.cell 3 x3 rfl,h.cell 4 x4 rfl,h.cell 5 x5 rfl,h.cell 6 x6 rfl,h.cell 7 x7 rfl,h.cell 8 x8 rfl⟩
namespace It
theorem wide_fn(f:FuncId):Fence.wide.fn f↔True:=Iff.rfl
theorem wide_depth:Fence.wide.depth=none:=rfl
attribute [local go_sem] wide_fn wide_depth
set_option maxRecDepth 100000 in
set_option maxHeartbeats 1000000 in
theorem all1(M:Mesh)(b Bn gp cp gt ct ga ca:Nat)(fV:Value)(n l:Nat)(L:List Nat)(J Jx:List Nat→World→Prop)(hL:Bn∈L∧b∈L∧gp∈L∧gt∈L∧ga∈L)(hlen:M.tris.length≤1000000000)
  (hY:∀i W,i<M.tris.length→Mr.realB M i=true→J (realsTo M i) W→YieldAt Fence.wide (n-1) Tryz.prog l #[.int .i64 i,tv (tat M.tris i)] W fun e W'=>
   (e=.returned (.bool true)∧J (realsTo M i++[i]) W'∧Keep L W W')∨(e=.returned (.bool false)∧Jx (realsTo M i++[i]) W'))
  (W:World) (hJ:AbidesFrom W.heap.size J) (hB:Blk W Bn 26 #[.pointer (some ⟨b,0,none⟩)]) (hR:MR W b M gp cp gt ct ga ca fV) (h0:J [] W) :
  CallsIn Fence.wide n Tryz.prog 89 #[.func (.yield l) #[] #[],.pointer (some ⟨Bn,0,none⟩)] W fun e W'=>(∃v,e=.returned v)∧
   (J (realsTo M M.tris.length) W'∨∃i,i<M.tris.length∧Mr.realB M i=true∧Jx (realsTo M i++[i]) W'):=by
 have HY:=Hd hY;have HJ:=Hd hJ;have HR:=Hd hR;have HB:=Hd hB;have HL:=Hd hL;have k0:=hB.cell 0 (.pointer (some ⟨b,0,none⟩)) rfl;have k1:=hR.head.cell 1 (.slice (some ⟨gt,0,none⟩) M.tris.length ct) rfl;clear hY hJ hR hB hL;refine callsIn_of_wp Tryz.func89 rfl trivial ?_ rfl;simp only[Tryz.ntmps89,List.size_toArray,List.length_cons,List.length_nil,Nat.reduceAdd,Nat.reduceSub,Array.replicate_succ,Array.replicate_zero,List.push_toArray,List.append_toArray,List.nil_append,List.cons_append]
 gi_wp2
 gi_loopw [10] (fun p wr=>∃i:Nat,p=.int .i64 i∧i≤M.tris.length∧Hid (Blk wr Bn 26 #[.pointer (some ⟨b,0,none⟩)])∧Hid (MR wr b M gp cp gt ct ga ca fV)∧Hid (J (realsTo M i) wr))
  (fun p wr=>M.tris.length-(intOf p).toNat)
 case atStart=>exact⟨0,rfl,Nat.zero_le _,HB,HR,Hd h0⟩
 case round=>
  obtain⟨i,rfl,hi,HBi,HRi,HJi⟩:=hrel;clear k0 k1;by_cases hlt:i<M.tris.length
  ·obtain⟨t0,t1,t2,t3,t4,t5,t6,t7,t8⟩:=HRi.out.tris i hlt
   have b0:=(HBi.out.alloc (.cells #[.int .i64 (tat M.tris i).v0,.int .i64 (tat M.tris i).v1,.int .i64 (tat M.tris i).v2,.int .i64 (tat M.tris i).n0,.int .i64 (tat M.tris i).n1,.int .i64 (tat M.tris i).n2,.bool (tat M.tris i).f0,.bool (tat M.tris i).f1,.bool (tat M.tris i).f2] 43)).cell 0 (.pointer (some ⟨b,0,none⟩)) rfl;have HRA:=Hd (Mr.real_any M b (i:Int) (wr.alloc (.cells #[.int .i64 (tat M.tris i).v0,.int .i64 (tat M.tris i).v1,.int .i64 (tat M.tris i).v2,.int .i64 (tat M.tris i).n0,.int .i64 (tat M.tris i).n1,.int .i64 (tat M.tris i).n2,.bool (tat M.tris i).f0,.bool (tat M.tris i).f1,.bool (tat M.tris i).f2] 43)) ⟨_,_,_,_,_,_,_,HRi.out.later (bel_alloc (bel_refl wr) _)⟩);have hBl:=Hd (bel_alloc (bel_refl wr) (.cells #[.int .i64 (tat M.tris i).v0,.int .i64 (tat M.tris i).v1,.int .i64 (tat M.tris i).v2,.int .i64 (tat M.tris i).n0,.int .i64 (tat M.tris i).n1,.int .i64 (tat M.tris i).n2,.bool (tat M.tris i).f0,.bool (tat M.tris i).f1,.bool (tat M.tris i).f2] 43));by_cases hr:Mr.realB M i=true
   ·have HYI:=Hd (fun W=>HY.out i W hlt hr)
    have HSU:Hid (realsTo M (i+1)=realsTo M i++[i]):=Hd (by rw[realsTo_succ,if_pos hr]);have HRR:=Hd hr
    gi_wp2_with (gi_at_call 56;refine(callsIn_wide.2 HRA.out).mono ?_;rintro e w2 ⟨rfl,hb2⟩;obtain⟨y0,y1,y2,y3,y4,y5,y6,y7,y8⟩:=((Blk.new wr 43 #[.int .i64 (tat M.tris i).v0,.int .i64 (tat M.tris i).v1,.int .i64 (tat M.tris i).v2,.int .i64 (tat M.tris i).n0,.int .i64 (tat M.tris i).n1,.int .i64 (tat M.tris i).n2,.bool (tat M.tris i).f0,.bool (tat M.tris i).f1,.bool (tat M.tris i).f2]).later hb2).all9;have hb3:=bel_step hBl.out hb2;have HB2:=Hd (HBi.out.later hb3);have HR2:=Hd (HRi.out.later hb3);have hJ2:=abides_later (J:=J (realsTo M i)) (B:=W.heap.size) (fun _ A B row=>HJ.out _ A B row) HJi.out hb3;obtain⟨fn,tmps,assign,body,hy,hR⟩:=HYI.out w2 hJ2;have HRD:=Hd hR;clear hR hb2 hb3 hJ2)
    refine HRD.out.mono ?_;rintro e W3 (⟨rfl,hJ3,hk3⟩|⟨rfl,hJx3⟩)
    ·have HB3:=Hd (hk3.blk HL.out.1 HB2.out)
     have HR3:=Hd (HR2.out.keep hk3 HL.out.2.1 HL.out.2.2.1 HL.out.2.2.2.1 HL.out.2.2.2.2);have HJ3:=Hd hJ3;clear hJ3 hk3
     gi_wp2
     go_roundw
     case rel=>exact⟨i+1,by go_num,by omega,HB3,HR3,Hd (by rw[HSU.out];exact HJ3.out)⟩
     case measure=>simp[intOf];omega
    ·have HJ3:=Hd hJx3
     clear hJx3
     gi_wp2
     refine bodyPost_ret (results_none rfl _ _ _) rfl ?_;exact⟨⟨_,rfl⟩,.inr ⟨i,hlt,HRR.out,HJ3.out⟩⟩
   ·have hr2:Mr.realB M i=false:=by simpa using hr
    have HSU:Hid (realsTo M (i+1)=realsTo M i):=Hd (by rw[realsTo_succ,if_neg hr]);clear hr
    gi_wp2_with (gi_at_call 56;refine(callsIn_wide.2 HRA.out).mono ?_;rintro e w2 ⟨rfl,hb2⟩;have hb3:=bel_step hBl.out hb2;have HB2:=Hd (HBi.out.later hb3);have HR2:=Hd (HRi.out.later hb3);have HJ2:=Hd (abides_later (J:=J (realsTo M i)) (B:=W.heap.size) (fun _ A B row=>HJ.out _ A B row) HJi.out hb3);clear hb2 hb3)
    go_roundw
    case rel=>exact⟨i+1,by go_num,by omega,HB2,HR2,Hd (by rw[HSU.out];exact HJ2.out)⟩
    case measure=>simp[intOf];omega
  ·have hi':i=M.tris.length:=by omega
   gi_wp2
   go_end0
   exact⟨⟨_,rfl⟩,.inl (by rw[←hi'];exact HJi.out)⟩
theorem all_in(b n:Nat)(w:World) :
  CallsIn Fence.wide n Tryz.prog 55 #[.pointer (some ⟨b,0,none⟩)] w fun e w'=>e=.returned (.func (.func 89) #[] #[.pointer (some ⟨w.heap.size,0,none⟩)])∧w'=w.alloc (.cells #[.pointer (some ⟨b,0,none⟩)] 26):=by
 refine callsIn_of_wp Tryz.func55 rfl trivial ?_ rfl;simp only[Tryz.ntmps55,List.size_toArray,List.length_cons,List.length_nil,Nat.reduceAdd,Nat.reduceSub,Array.replicate_succ,Array.replicate_zero,List.push_toArray,List.append_toArray,List.nil_append,List.cons_append]
 gi_wp2
 go_ret
 exact⟨rfl,rfl⟩
theorem realsTo_pre(M:Mesh)(i:Nat)(hr:Mr.realB M i=true):∀n,i<n→realsTo M i++[i] <+: realsTo M n
 | 0,h=>by omega
 | n+1,h=>by
  rcases Nat.lt_or_ge i n with h1|h1
  ·have ih:=realsTo_pre M i hr n h1
   rw[realsTo_succ]
   split
   ·exact ih.trans (List.prefix_append _ _)
   ·exact ih
  ·have:i=n:=by omega
   subst this;rw[realsTo_succ,if_pos hr];exact List.prefix_rfl
abbrev RealOf(M:Mesh):={i:Nat // i<M.tris.length∧Mr.realB M i=true }
def encT(M:Mesh)(x:RealOf M):Array Value:=#[.int .i64 x.1,tv (tat M.tris x.1)]
theorem all_pos(M:Mesh)(b Bn gp cp gt ct ga ca:Nat)(fV:Value)(n:Nat)(L:List Nat)(w:World)(hL:Bn∈L∧b∈L∧gp∈L∧gt∈L∧ga∈L)(hlen:M.tris.length≤1000000000)
  (hB:Blk w Bn 26 #[.pointer (some ⟨b,0,none⟩)]) (hR:MR w b M gp cp gt ct ga ca fV) :
  SeqStopsK Fence.wide n Tryz.prog 89 #[.pointer (some ⟨Bn,0,none⟩)] (encT M) (Keep L) (fun ys=>ys.map (·.1)=realsTo M M.tris.length) (fun pre=>pre.map (·.1) <+: realsTo M M.tris.length) (realsTo M M.tris.length).length w:=by
 intro l J Jx W hW hJ hJx hY h0;refine(all1 M b Bn gp cp gt ct ga ca fV n l L (fun pre W=>∃ys:List (RealOf M),ys.map (·.1)=pre∧J ys W) (fun pre W=>∃ys:List (RealOf M),ys.map (·.1)=pre∧Jx ys W) hL hlen ?_ W ?_ (hB.later hW) (hR.later hW) ⟨[],rfl,h0⟩).mono ?_
 ·rintro i W1 hi hr ⟨ys,hys,hj⟩
  have hp:=realsTo_pre M i hr _ hi
  have hl:ys.length<(realsTo M M.tris.length).length:=by
   have h1:=congrArg List.length hys;have h2:=hp.length_le;simp at h1 h2;omega
  refine YieldAt.mono (hY ys ⟨i,hi,hr⟩ W1 hj hl) ?_;rintro e W' (⟨he,h1,h2⟩|⟨he,h1⟩)
  ·exact .inl ⟨he,⟨_,by simp[hys],h1⟩,h2⟩
  ·exact .inr ⟨he,_,by simp[hys],h1⟩
 ·rintro pre A B row ⟨ys,hys,hj⟩ hg' hr
  exact⟨ys,hys,hJ ys A B row hj hg' hr⟩
 ·rintro e W' ⟨he,⟨ys,hys,hj⟩|⟨i,hi,hr,ys,hys,hj⟩⟩
  ·exact⟨he,.inl ⟨ys,hys,hj⟩⟩
  ·exact⟨he,.inr ⟨ys,by show ys.map (·.1) <+: _;rw[hys];exact realsTo_pre M i hr _ hi,hj⟩⟩
end It
end Go.Proofs.YtdihefgleefhmaaGreat
namespace Go.Proofs.YtdihefgleefhmaaGreat
open Go.RowKit Go.Shelf
attribute [local go_sem] Oper.semAt_some
section
variable {P:Program} {n:Nat}
theorem range_set{α:Type}{g:Operand}{ps:Array Tmp}{assign body:Code}{Q:Exit→Act→World→Prop}{a:Act}{w:World}
  (h1:1≤n) {gf:Nat} {lb:Array Value} (hg:a.eval g=.func (.func gf) #[] lb) (eg:∀args w,(callFunc gf args).run P w=.ok (.enter gf args) w)
  {encs:α→Array Value} {Kp:World→World→Prop} {S Sp:List α→Prop} {N:Nat} (hseq:SeqStopsK Fence.wide (n-1) P gf lb encs Kp S Sp N w)
  (hKt:∀{A B C:World},Kp A B→Kp B C→Kp A C) (hKb:∀(W:World) (l:Nat) (o o':Obj),w.heap.size≤l→W.heap[l]? =some o→o.isCells=false→o.isWalk=false→Kp W (W.putObj l o')) (hps:∀x,(encs x).size=ps.size)
  (I:List α→World→Prop) (Ix:Code→List α→World→Prop) (hI:OwnFrom w.heap.size I) (hIx:∀c,OwnFrom w.heap.size (Ix c)) (h0:I [] w)
  (A:α→Nat→World→Prop) (hA:∀x Bx,OwnFrom w.heap.size (fun(_:Unit) W=>A x Bx W)) (set:α→Nat→Array Value→Array Value)
  (hassign:∀(l:Nat) (pre:List α) (x:α) (W:World) (K:Act→World→Prop),I pre W→(∀a' W',KeepsFrom w.heap.size W W'→Kp W W'→I pre W'→(∃Bx,A x Bx W'∧a'={tmps:=set x Bx a.tmps,defers:=[] })→K a' W')→
   assign.wpIn (Fence.wide.inRound l) (n-1-1) P (Exit.then K (fun _ _ _=>False)) {tmps:=(ps.zip (encs x)).foldl (fun t (p,v)=>t.setIfInBounds p v) a.tmps,defers:=[] } W)
  (hbody:∀(l:Nat) (pre:List α) (x:α) (Bx:Nat) (W:World),I pre W→A x Bx W→pre.length<N→
   body.wpIn (Fence.wide.inRound l) (n-1-1) P (ownPostG w.heap.size Kp I Ix (pre++[x]) W) {tmps:=set x Bx a.tmps,defers:=[] } W)
  (hdone:∀(D:Nat) (xs:List α) (W:World),w.heap.size≤D→S xs→I xs W→W.heap[D]? =some (.deferred (some []))→Q .normal {a with defers:={target:=.collected D,args:=#[] } :: a.defers } W)
  (hstop:∀(D:Nat) (c:Code) (pre:List α) (W:World),w.heap.size≤D→Sp pre→Ix c pre W→W.heap[D]? =some (.deferred (some []))→c.wpIn Fence.wide n P Q {a with defers:={target:=.collected D,args:=#[] } :: a.defers } W) :
  (Code.rangeFunc g ps assign body).wp P Q a w:=by
 refine(wpIn_wide (n:=n)).1 (wpIn_rangeFunc_ownH (F:=Fence.wide) rfl h1 hg trivial eg hseq hKt hKb (Below.refl _ _) hps I Ix hI hIx h0 (fun x a' W=>∃Bx,A x Bx W∧a'={tmps:=set x Bx a.tmps,defers:=[] }) ?_ hassign ?_ hdone hstop)
 ·rintro x a' _ X Y row ⟨Bx,hx,ha⟩ hg' hr
  exact⟨Bx,hA x Bx () X Y row hx hg' hr,ha⟩
 ·rintro l pre x a' W _ _ hi ⟨Bx,hx,rfl⟩ hlen
  exact hbody l pre x Bx W hi hx hlen
end
theorem keeps_later{B:Nat}{W W':World}(hb:Below W.heap.size W W'):KeepsFrom B W W':=KeepsFrom.of_grownBy (grown_later hb) (fun j e=>by cases e)
theorem blk_kept{A B:World}{row:Option Nat}{b:Nat}{cs:Array Value}{t:TypeId}(h:Blk A b t cs)(hg:A.grownBy B row)(hr:∀r,row=some r→∃o:Obj,A.heap[r]? =some o∧o.isCells=false):Blk B b t cs:=
 (hg.block b h.lt (fun e=>by
  obtain⟨o,ho,hc⟩:=hr b e.symm;unfold Blk at h;rw[h]at ho;cases ho;simp[Obj.isCells]at hc)).trans h
namespace Fi
attribute [local go_sem] It.wide_fn It.wide_depth
def firstReal(M:Mesh):Int:=match realsTo M M.tris.length with
 | []=>-1
 | i::_=>(i:Nat)
set_option maxRecDepth 100000 in
set_option maxHeartbeats 1000000 in
theorem first_any(M:Mesh)(b:Nat)(w:World)(h:MeshR w b M)(ho:M.ok)(hp:0<M.pts.length)(ht:0<M.tris.length) :
  Calls Tryz.prog 64 #[.pointer (some ⟨b,0,none⟩)] w fun e w'=>e=.returned (.int .i64 (firstReal M))∧Below w.heap.size w w':=by
 obtain⟨gp,cp,gt,ct,ga,ca,fV,h⟩:=h;have hla:=ho.at_;have hlt:=h.lt hp ht (by omega);refine(callsIn_wide (n:=9)).1 (callsIn_of_wp_marks Tryz.func64 rfl trivial (wpIn_wide.2 ?_) rfl);simp only[Tryz.ntmps64,List.size_toArray,List.length_cons,List.length_nil,Nat.reduceAdd,Nat.reduceSub,Array.replicate_succ,Array.replicate_zero,List.push_toArray,List.append_toArray,List.nil_append,List.cons_append];have H:=Hd h;have HLT:=Hd hlt;clear h hlt
 go_wp2_with (go_at_call 55;refine(callsIn_wide.1 (It.all_in b 9 _)).mono ?_;rintro e w5 ⟨rfl,rfl⟩)
 have hR:=H.out.later (bel_alloc (bel_alloc (bel_refl w) (.cells #[.int .i64 0] 3)) (.cells #[.pointer (some ⟨b,0,none⟩)] 26));have hC:=(Blk.new w 3 #[.int .i64 0]).alloc (.cells #[.pointer (some ⟨b,0,none⟩)] 26);have hX:=Blk.new' (n:=w.heap.size+1) (w.alloc (.cells #[.int .i64 0] 3)) 26 #[.pointer (some ⟨b,0,none⟩)] (by simp);have hB:=bel_alloc (bel_alloc (bel_refl w) (.cells #[.int .i64 0] 3)) (.cells #[.pointer (some ⟨b,0,none⟩)] 26);have hs:((w.alloc (.cells #[.int .i64 0] 3)).alloc (.cells #[.pointer (some ⟨b,0,none⟩)] 26)).heap.size=w.heap.size+2:=by simp
 obtain⟨W,hW⟩:∃W,(w.alloc (.cells #[.int .i64 0] 3)).alloc (.cells #[.pointer (some ⟨b,0,none⟩)] 26)=W:=⟨_,rfl⟩;rw[hW]at hR hC hX hB hs ⊢;clear hW
 have hin:∀k∈(w.heap.size+1)::mblocks b gp gt ga,k<W.heap.size:=by
  intro k hk;rcases List.mem_cons.1 hk with rfl|hk
  ·omega
  ·have:=HLT.out k hk;omega
 refine range_set (n:=9) (by omega) (gf:=89) (lb:=#[.pointer (some ⟨w.heap.size+1,0,none⟩)]) rfl (enters_of Tryz.func89 (by kernel_rfl) rfl)
  (It.all_pos M b (w.heap.size+1) gp cp gt ct ga ca fV 8 ((w.heap.size+1)::mblocks b gp gt ga) W (by simp[mblocks]) ho.tris hX hR) Keep.trans (Keep.put hin) (fun _=>rfl)
  (fun pre V=>pre=[]∧Blk V w.heap.size 3 #[.int .i64 0]∧Below w.heap.size w V)
  (fun c pre V=>c=.ret∧∃x:It.RealOf M,pre=[x]∧Blk V w.heap.size 3 #[.int .i64 x.1]∧Below w.heap.size w V)
  (fun _ A B row h hg' hr=>⟨h.1,blk_kept h.2.1 hg' (fun r e=>(hr r e).2),h.2.2.grown hg' h.2.2.size (fun k e=>by have:=(hr k e).1;omega)⟩)
  (fun _ _ A B row h hg' hr=>by
   obtain⟨h1,x,h2,h3,h4⟩:=h;exact⟨h1,x,h2,blk_kept h3 hg' (fun r e=>(hr r e).2),h4.grown hg' h4.size (fun k e=>by have:=(hr k e).1;omega)⟩)
  ⟨rfl,hC,hB⟩
  (fun _ _ _=>True)
  (fun _ _ _ _ _ _ _ _ _=>trivial)
  (fun x Bx t=>((t.setIfInBounds 6 (.int .i64 x.1)).setIfInBounds 7 (tv (tat M.tris x.1))).setIfInBounds 3 (.int .i64 x.1))
  ?assign ?body ?done ?stop
 case assign=>
  intro l pre x V K hi hK2;simp only[It.encT]
  gi_wp2
  exact hK2 _ _ (keeps_later (Below.refl _ _)) (Keep.refl _ _) hi ⟨0,trivial,by simp only[List.setIfInBounds_toArray,List.set_cons_succ,List.set_cons_zero]⟩
 case body=>
  rintro l pre x Bx V ⟨rfl,hc,hb⟩ _ _;simp only[List.setIfInBounds_toArray,List.set_cons_succ,List.set_cons_zero];have c0:=hc.cell 0 (.int .i64 0) rfl;have c1:=hc.frozen 0;have HC:=Hd hc;have HBb:=Hd hb;clear hc hb
  gi_wp2
  exact⟨(KeepsOthers.setCell _ _ _).from _,rfl,x,rfl,HC.out.set 0 _,bel_set HBb.out (Nat.le_refl _) _ _⟩
 case done=>
  rintro D ys V hD hys ⟨rfl,hc,hb⟩ hK;have hf:firstReal M=-1:=by unfold firstReal;rw[←hys];rfl
  have c0:=hc.cell 0 (.int .i64 0) rfl;have c1:=hc.frozen 0;have HC:=Hd (hc.set 0 (.int .i64 (-1)));have HBb:=Hd hb;have HK:=Hd hK;clear hc hb hK;go_wp2;have fD:(V.setCell ⟨w.heap.size,0,none⟩ (.int .i64 (-1))).heap[D]? =some (.deferred (some [])):=(Below.heap_setCell _ _ _ _ (by simp;omega)).trans HK.out;refine⟨by simp,.inl ⟨_,_,rfl,run_takeDeferred fD,?_⟩⟩
  have cF:((V.setCell ⟨w.heap.size,0,none⟩ (.int .i64 (-1))).putObj D (.deferred none)).cell? ⟨w.heap.size,0,none⟩=some (.int .i64 (-1)):=
   Blk.cell (W:=(V.setCell ⟨w.heap.size,0,none⟩ (.int .i64 (-1))).putObj D (.deferred none)) (b:=w.heap.size) (t:=3) (cs:=#[.int .i64 (-1)]) ((World.putObj_heap_other (by omega)).trans HC.out) 0 _ rfl
  refine⟨.int .i64 (-1),?_,by rw[hf],?_⟩
  ·simp[results,Tryz.results64,go_sem,cF]
  ·exact(bel_set HBb.out (Nat.le_refl _) _ _).trans (belowK_b (w:=w) (Nat.le_refl _) _ D _ _ (by omega) fD rfl rfl)
 case stop=>
  rintro D c pre V hD hp ⟨rfl,x,rfl,hc,hb⟩ hK
  have hf:firstReal M=(x.1:Nat):=by
   unfold firstReal;obtain⟨t,ht⟩:=hp;rw[←ht];rfl
  have HK:=Hd hK;refine wpIn_wide.2 ?_;clear hK;go_wp2;refine⟨by simp,.inl ⟨_,_,rfl,run_takeDeferred HK.out,?_⟩⟩
  have cF:(V.putObj D (.deferred none)).cell? ⟨w.heap.size,0,none⟩=some (.int .i64 x.1):=
   Blk.cell (W:=V.putObj D (.deferred none)) (b:=w.heap.size) (t:=3) (cs:=#[.int .i64 x.1]) ((World.putObj_heap_other (by omega)).trans hc) 0 _ rfl
  refine⟨.int .i64 x.1,?_,by rw[hf],?_⟩
  ·simp[results,Tryz.results64,go_sem,cF]
  ·exact hb.trans (belowK_b (w:=w) (Nat.le_refl _) _ D _ _ (by omega) HK.out rfl rfl)
end Fi
end Go.Proofs.YtdihefgleefhmaaGreat
namespace Go.Proofs.YtdihefgleefhmaaGreat
open Go.RowKit Go.Shelf
def lmark(D:Nat):Deferred:={target:=.collected D,args:=#[] }
structure Marks(lb:Nat)(Ds:List Nat)(W:World):Prop where
 nd:Ds.Nodup
 is:∀D∈Ds,lb<D∧W.heap[D]? =some (.deferred (some []))
namespace Lm
theorem nil(lb:Nat)(W:World):Marks lb [] W:=⟨List.nodup_nil,fun _ h=>by simp at h⟩
theorem later{lb:Nat}{Ds:List Nat}{W W':World}(h:Marks lb Ds W)(hb:Below W.heap.size W W'):Marks lb Ds W':=
 ⟨h.nd,fun D hD=>by
  obtain⟨h1,h2⟩:=h.is D hD
  have hl:D<W.heap.size:=by
   rcases Nat.lt_or_ge D W.heap.size with h|h
   ·exact h
   ·rw[Array.getElem?_eq_none h]at h2;cases h2
  exact⟨h1,(hb.block D hl).trans h2⟩⟩
theorem lt{lb:Nat}{Ds:List Nat}{W:World}(h:Marks lb Ds W){D:Nat}(hD:D∈Ds):D<W.heap.size:=by
 obtain⟨h1,h2⟩:=h.is D hD;rcases Nat.lt_or_ge D W.heap.size with h|h
 ·exact h
 ·rw[Array.getElem?_eq_none h]at h2;cases h2
theorem more{lb:Nat}{Ds:List Nat}{W W':World}(h:Marks lb Ds W)(hb:Below W.heap.size W W'){D:Nat}(hl:lb<D)(hD:W.heap.size≤D)(hw:W'.heap[D]? =some (.deferred (some []))):Marks lb (D::Ds) W':=by
 have h':=later h hb;refine⟨List.nodup_cons.2 ⟨fun hm=>by have:=lt h hm;omega,h'.nd⟩,fun E hE=>?_⟩;rcases List.mem_cons.1 hE with rfl|hE
 ·exact⟨hl,hw⟩
 ·exact h'.is E hE
theorem set{lb:Nat}{Ds:List Nat}{W:World}(h:Marks lb Ds W)(i:Nat)(v:Value):Marks lb Ds (W.setCell ⟨lb,i,none⟩ v):=
 ⟨h.nd,fun D hD=>⟨(h.is D hD).1,(Below.heap_setCell _ _ _ _ (by have:=(h.is D hD).1;simp;omega)).trans (h.is D hD).2⟩⟩
theorem leave{F:Fence}{n:Nat}{P:Program}{fn:Func}{tmps:Array Value}{R:Ending→World→Prop}{lb t:Nat}{cs:Array Value}(w0:World)(hlb:w0.heap.size≤lb):∀(Ds:List Nat) (W:World),Marks lb Ds W→Blk W lb t cs→Below w0.heap.size w0 W→
  (∀W',Blk W' lb t cs→Below w0.heap.size w0 W'→LeavesInM F n P fn tmps R [] .returning W')→LeavesInM F n P fn tmps R (Ds.map lmark) .returning W
 | [],W,_,hc,hb,hk=>hk W hc hb
 | D::Ds,W,hm,hc,hb,hk=>by
  obtain⟨h1,h2⟩:=hm.is D (by simp);refine⟨by simp,.inl ⟨D,_,rfl,run_takeDeferred h2,?_⟩⟩;refine leave w0 hlb Ds _ ⟨(List.nodup_cons.1 hm.nd).2,fun E hE=>⟨(hm.is E (by simp[hE])).1,?_⟩⟩ ?_ ?_ hk
  ·refine(World.putObj_heap_other ?_).trans (hm.is E (by simp[hE])).2
   intro e;subst e;exact(List.nodup_cons.1 hm.nd).1 hE
  ·exact(World.putObj_heap_other (by omega)).trans hc
  ·exact hb.trans (belowK_b (w:=w0) (Nat.le_refl _) _ D _ _ (by omega) h2 rfl rfl)
end Lm
end Go.Proofs.YtdihefgleefhmaaGreat
