import Derived.Test.YtdihefgleefhmaaGreatAr
namespace Go.Proofs.YtdihefgleefhmaaGreat
open Go.RowKit Go.Shelf
attribute [local go_sem] Oper.semAt_some
theorem cells_of_cell{W:World}{p:Addr}{v:Value}(h:W.cell? p=some v):∃o,W.heap[p.block]? =some o∧o.isCells=true:=by
 unfold World.cell? at h
 split at h
 ·rename_i c e q hc
  exact⟨_,hc,rfl⟩
 ·cases h
theorem Blk.isCells{W:World}{b t:Nat}{cs:Array Value}(h:Blk W b t cs):∃o,W.heap[b]? =some o∧o.isCells=true:=⟨_,h,rfl⟩
theorem MR.isCells{A:World}{b:Nat}{M:Mesh}{gp cp gt ct ga ca:Nat}{fV:Value}(h:MR A b M gp cp gt ct ga ca fV)(hp:0<M.pts.length)(ht:0<M.tris.length)(ha:0<M.at_.length):∀k∈mblocks b gp gt ga,∃o,A.heap[k]? =some o∧o.isCells=true:=by
 intro k hk;simp only[mblocks,List.mem_cons,List.not_mem_nil,or_false]at hk;rcases hk with rfl|rfl|rfl|rfl
 ·exact h.head.isCells
 ·exact cells_of_cell (h.pts 0 hp).1
 ·exact cells_of_cell (h.tris 0 ht).1
 ·exact cells_of_cell (h.at_ 0 ha)
theorem Keep.kept{L:List Nat}{W A B:World}{row:Option Nat}(h:Keep L W A)(hc:∀k∈L,∃o,W.heap[k]? =some o∧o.isCells=true)(hg:A.grownBy B row)(hr:∀r,row=some r→∃o:Obj,A.heap[r]? =some o∧o.isCells=false):Keep L W B:=by
 intro k hk;obtain⟨o,ho,hcell⟩:=hc k hk;have hA:A.heap[k]? =some o:=(h k hk).trans ho;refine(hg.block k (Array.getElem?_eq_some_iff.1 hA).1 ?_).trans (h k hk);intro e;obtain⟨o',ho',hc'⟩:=hr k e.symm;rw[hA]at ho';cases ho';rw[hcell]at hc';cases hc'
theorem Keep.later{L:List Nat}{W A B:World}(h:Keep L W A)(hc:∀k∈L,∃o,W.heap[k]? =some o∧o.isCells=true)(hb:Below A.heap.size A B):Keep L W B:=by
 intro k hk;obtain⟨o,ho,_⟩:=hc k hk;have hA:A.heap[k]? =some o:=(h k hk).trans ho;exact(hb.block k (Array.getElem?_eq_some_iff.1 hA).1).trans (h k hk)
def edgeIs(t:Tri)(a c:Int)(k:Nat):Bool:=t.v ((k+1)%3)==a&&t.v ((k+2)%3)==c
def edgeIn(t:Tri)(a c:Int):Option Nat:=if edgeIs t a c 0 then some 0 else if edgeIs t a c 1 then some 1 else if edgeIs t a c 2 then some 2 else none
def edgeOf(M:Mesh)(a c:Int):List (Nat×Nat)→Option (Nat×Nat)
 | []=>none
 | x::xs=>match edgeIn (tat M.tris x.1) a c with
  | some k=>some (x.1,k)
  | none=>edgeOf M a c xs
theorem edgeOf_none{M:Mesh}{a c:Int} : ∀{xs ys:List (Nat×Nat)},edgeOf M a c xs=none→edgeOf M a c (xs++ys)=edgeOf M a c ys
 | [],_,_=>rfl
 | x::xs,ys,h=>by
  cases hh:edgeIn (tat M.tris x.1) a c with
  | some k=>simp[edgeOf,hh]at h
  | none=>simp only[edgeOf,hh,List.cons_append]at h ⊢;exact edgeOf_none h
theorem edgeOf_some{M:Mesh}{a c:Int}{r:Nat×Nat} : ∀{xs ys:List (Nat×Nat)},edgeOf M a c xs=some r→edgeOf M a c (xs++ys)=some r
 | [],_,h=>by cases h
 | x::xs,ys,h=>by
  cases hh:edgeIn (tat M.tris x.1) a c with
  | some k=>simpa [edgeOf,hh] using h
  | none=>simp only[edgeOf,hh,List.cons_append]at h ⊢;exact edgeOf_some h
def edgeV:Option (Nat×Nat)→Value
 | none=>.tuple #[.int .i64 (-1),.int .i64 0,.bool false]
 | some x=>.tuple #[.int .i64 x.1,.int .i64 x.2,.bool true]
namespace Mf
attribute [local go_sem] It.wide_fn It.wide_depth
attribute [local go_sem high] Pr.run_maxI
theorem ein_some{T:Tri}{a c:Int}(k:Nat)(hk:k<3)(h:edgeIs T a c k=true)(hb:∀j,j<k→edgeIs T a c j=false):edgeIn T a c=some k:=by
 unfold edgeIn;rcases(show k=0∨k=1∨k=2 by omega)with rfl|rfl|rfl
 ·rw[if_pos h]
 ·rw[if_neg (by rw[hb 0 (by omega)];simp),if_pos h]
 ·rw[if_neg (by rw[hb 0 (by omega)];simp),if_neg (by rw[hb 1 (by omega)];simp),if_pos h]
theorem ein_none{T:Tri}{a c:Int}(hb:∀j,j<3→edgeIs T a c j=false):edgeIn T a c=none:=by
 unfold edgeIn;rw[if_neg (by rw[hb 0 (by omega)];simp),if_neg (by rw[hb 1 (by omega)];simp),if_neg (by rw[hb 2 (by omega)];simp)]
theorem eof_add{M:Mesh}{v:Nat}{a c:Int}{pre:List (Ar.Rim M v)}{x:Ar.Rim M v}{t:Nat}{T:Tri}(h:edgeOf M a c (pre.map (·.1))=none)(ht:x.1.1=t)(hT:tat M.tris t=T) :
  edgeOf M a c ((pre++[x]).map (·.1))=(edgeIn T a c).map fun k=>(t,k):=by
 rw[List.map_append,edgeOf_none h];simp only[List.map_cons,List.map_nil,edgeOf];rw[ht,hT];cases edgeIn T a c<;>rfl
theorem put_cell{V:World}{b t D:Nat}{v:Value}{o:Obj}(h:Blk V b t #[v])(hd:b≠D):(V.putObj D o).cell? ⟨b,0,none⟩=some v:=
 Blk.cell (W:=V.putObj D o) (b:=b) (t:=t) (cs:=#[v]) ((World.putObj_heap_other hd).trans h) 0 _ rfl
structure Laid(w W:World)(b:Nat)(a c:Int):Prop where
 m:Blk W w.heap.size 26 #[.pointer (some ⟨b,0,none⟩)]
 a:Blk W (w.heap.size+1) 3 #[.int .i64 a]
 c:Blk W (w.heap.size+2) 3 #[.int .i64 c]
 x:Blk W (w.heap.size+3) 3 #[.int .i64 0]
 y:Blk W (w.heap.size+4) 3 #[.int .i64 0]
 z:Blk W (w.heap.size+5) 4 #[.bool false]
 bel:Below w.heap.size w W
theorem Laid.later{w W W':World}{b:Nat}{a c:Int}(h:Laid w W b a c)(hb:Below W.heap.size W W'):Laid w W' b a c:=⟨h.m.later hb,h.a.later hb,h.c.later hb,h.x.later hb,h.y.later hb,h.z.later hb,bel_step h.bel hb⟩
theorem Laid.kept{w A B:World}{row:Option Nat}{b:Nat}{a c:Int}(h:Laid w A b a c)(hg:A.grownBy B row)(hr:∀r,row=some r→w.heap.size≤r∧∃o:Obj,A.heap[r]? =some o∧o.isCells=false):Laid w B b a c:=
 ⟨blk_kept h.m hg (fun r e=>(hr r e).2),blk_kept h.a hg (fun r e=>(hr r e).2),blk_kept h.c hg (fun r e=>(hr r e).2),blk_kept h.x hg (fun r e=>(hr r e).2),blk_kept h.y hg (fun r e=>(hr r e).2),blk_kept h.z hg (fun r e=>(hr r e).2),h.bel.grown hg h.bel.size (fun k e=>(hr k e).1)⟩
theorem laid_new(w:World)(b:Nat)(a c:Int):Laid w ((((((w.alloc (.cells #[.pointer (some ⟨b,0,none⟩)] 26)).alloc (.cells #[.int .i64 a] 3)).alloc (.cells #[.int .i64 c] 3)).alloc (.cells #[.int .i64 0] 3)).alloc (.cells #[.int .i64 0] 3)).alloc (.cells #[.bool false] 4)) b a c:=
 ⟨(((((Blk.new w 26 _).alloc _).alloc _).alloc _).alloc _).alloc _,((((Blk.new' _ 3 _ (by simp)).alloc _).alloc _).alloc _).alloc _,(((Blk.new' _ 3 _ (by simp)).alloc _).alloc _).alloc _,((Blk.new' _ 3 _ (by simp)).alloc _).alloc _,(Blk.new' _ 3 _ (by simp)).alloc _,Blk.new' _ 4 _ (by simp),
  bel_alloc (bel_alloc (bel_alloc (bel_alloc (bel_alloc (bel_alloc (bel_refl w) _) _) _) _) _) _⟩
set_option maxRecDepth 100000 in
set_option maxHeartbeats 2000000 in
theorem edge_any(M:Mesh)(b f:Nat)(a c:Int)(xs:List (Nat×Nat))(w:World)(h:MeshR w b M)(ho:M.ok)(hp:0<M.pts.length)(ht:0<M.tris.length)(v:Nat)(hv:max a c=v)(hac:(a==c)=false)(hvl:v<M.at_.length)(hx:around M f v=some xs) :
  Calls Tryz.prog 14 #[.pointer (some ⟨b,0,none⟩),.int .i64 a,.int .i64 c] w fun e w'=>e=.returned (edgeV (edgeOf M a c xs))∧Below w.heap.size w w':=by
 obtain⟨gp,cp,gt,ct,ga,ca,fV,h⟩:=h;have hla:=ho.at_;have hlt:=h.lt hp ht (by omega);refine(callsIn_wide (n:=9)).1 (callsIn_of_wp_marks Tryz.func14 rfl trivial (wpIn_wide.2 ?_) rfl);simp only[Tryz.ntmps14,List.size_toArray,List.length_cons,List.length_nil,Nat.reduceAdd,Nat.reduceSub,Array.replicate_succ,Array.replicate_zero,List.push_toArray,List.append_toArray,List.nil_append,List.cons_append];have H:=Hd h;have HLT:=Hd hlt;have HX:=Hd hx;have HO:=Hd ho;clear h hlt hx ho
 go_upto_region 1 with(fail)
 simp only[Nat.add_assoc,Nat.reduceAdd];have hL:=laid_new w b a c;obtain⟨W,hW⟩:∃W,((((((w.alloc (.cells #[.pointer (some ⟨b,0,none⟩)] 26)).alloc (.cells #[.int .i64 a] 3)).alloc (.cells #[.int .i64 c] 3)).alloc (.cells #[.int .i64 0] 3)).alloc (.cells #[.int .i64 0] 3)).alloc (.cells #[.bool false] 4))=W:=⟨_,rfl⟩;rw[hW]at hL ⊢;clear hW;have m0:=hL.m.cell 0 (.pointer (some ⟨b,0,none⟩)) rfl;have m1:=hL.a.cell 0 (.int .i64 a) rfl;have m2:=hL.c.cell 0 (.int .i64 c) rfl;have v0:(0:Int)≤(v:Int):=by omega
 have HLd:=Hd hL;clear hL
 go_upto_region 4 with(fail)
 go_wp2_with (go_at_call 13;refine(callsIn_wide.1 (Ar.around_in b 9 v _)).mono ?_;rintro e w5 ⟨rfl,rfl⟩)
 clear m0 m1 m2
 have hs0:w.heap.size+6≤W.heap.size:=by
  have:=HLd.out.z.lt;omega
 have hR:=H.out.later (bel_step HLd.out.bel (bel_alloc (bel_alloc (bel_refl W) (.cells #[.pointer (some ⟨b,0,none⟩)] 26)) (.cells #[.int .i64 v] 3)));have hLd:=HLd.out.later (bel_alloc (bel_alloc (bel_refl W) (.cells #[.pointer (some ⟨b,0,none⟩)] 26)) (.cells #[.int .i64 v] 3));have hBm:=(Blk.new W 26 #[.pointer (some ⟨b,0,none⟩)]).alloc (.cells #[.int .i64 v] 3);have hBv:=Blk.new' (n:=W.heap.size+1) (W.alloc (.cells #[.pointer (some ⟨b,0,none⟩)] 26)) 3 #[.int .i64 v] (by simp);have hs:((W.alloc (.cells #[.pointer (some ⟨b,0,none⟩)] 26)).alloc (.cells #[.int .i64 v] 3)).heap.size=W.heap.size+2:=by simp
 obtain⟨V0,hV0⟩:∃V,(W.alloc (.cells #[.pointer (some ⟨b,0,none⟩)] 26)).alloc (.cells #[.int .i64 v] 3)=V:=⟨_,rfl⟩;obtain⟨B,hB⟩:∃B,W.heap.size=B:=⟨_,rfl⟩;rw[hV0]at hR hLd hBm hBv hs ⊢;rw[hB]at hBm hBv hs hs0 ⊢;clear hV0 hB HLd
 have hcell:∀k∈B::(B+1)::mblocks b gp gt ga,∃o,V0.heap[k]? =some o∧o.isCells=true:=by
  intro k hk;rcases List.mem_cons.1 hk with rfl|hk
  ·exact hBm.isCells
  rcases List.mem_cons.1 hk with rfl|hk
  ·exact hBv.isCells
  ·exact hR.isCells hp ht (by omega) k hk
 have hin:∀k∈B::(B+1)::mblocks b gp gt ga,k<V0.heap.size:=by
  intro k hk;obtain⟨o,ho,_⟩:=hcell k hk;exact(Array.getElem?_eq_some_iff.1 ho).1
 have HC:=Hd hcell;have HR:=Hd hR
 refine range_set (n:=9) (by omega) (gf:=41) (lb:=#[.pointer (some ⟨B,0,none⟩),.pointer (some ⟨B+1,0,none⟩)]) rfl (enters_of Tryz.func41 (by kernel_rfl) rfl)
  (Ar.around_pos M b B (B+1) gp cp gt ct ga ca fV 8 v f xs (B::(B+1)::mblocks b gp gt ga) V0 (by simp[mblocks]) hvl HX.out hBm hBv hR) Keep.trans (Keep.put hin) (fun _=>rfl)
  (fun(pre:List (Ar.Rim M v)) V=>edgeOf M a c (pre.map (·.1))=none∧Laid w V b a c∧Keep (B::(B+1)::mblocks b gp gt ga) V0 V)
  (fun c' (pre:List (Ar.Rim M v)) V=>c'=.ret∧∃x:Nat×Nat,edgeOf M a c (pre.map (·.1))=some x∧Blk V (w.heap.size+3) 3 #[.int .i64 x.1]∧Blk V (w.heap.size+4) 3 #[.int .i64 x.2]∧Blk V (w.heap.size+5) 4 #[.bool true]∧Below w.heap.size w V)
  (fun _ A B row h hg' hr=>⟨h.1,h.2.1.kept hg' (fun r e=>⟨by have:=(hr r e).1;omega,(hr r e).2⟩),h.2.2.kept HC.out hg' (fun r e=>(hr r e).2)⟩)
  (fun _ _ A B row h hg' hr=>by
   obtain⟨h1,x,h2,h3,h4,h5,h6⟩:=h;exact⟨h1,x,h2,blk_kept h3 hg' (fun r e=>(hr r e).2),blk_kept h4 hg' (fun r e=>(hr r e).2),blk_kept h5 hg' (fun r e=>(hr r e).2),h6.grown hg' h6.size (fun k e=>by have:=(hr k e).1;omega)⟩)
  ⟨rfl,hLd,Keep.refl _ _⟩
  (fun _ _ _=>True)
  (fun _ _ _ _ _ _ _ _ _=>trivial)
  (fun x Bx t=>((t.setIfInBounds 26 (.int .i64 x.1.1)).setIfInBounds 27 (.int .i64 x.1.2)).setIfInBounds 10 (.int .i64 x.1.1))
  ?assign ?body ?done ?stop
 case assign=>
  intro l pre x V K hi hK2;simp only[Ar.encR]
  gi_wp2
  exact hK2 _ _ (keeps_later (Below.refl _ _)) (Keep.refl _ _) hi ⟨0,trivial,by simp only[List.setIfInBounds_toArray,List.set_cons_succ,List.set_cons_zero]⟩
 case body=>
  rintro l pre x Bx V ⟨hno,hl,hk⟩ _ _;simp only[List.setIfInBounds_toArray,List.set_cons_succ,List.set_cons_zero];obtain⟨t,hte⟩:∃t,x.1.1=t:=⟨_,rfl⟩;obtain⟨pl,hpe⟩:∃t,x.1.2=t:=⟨_,rfl⟩;have htl:=x.2.1;rw[hte]at htl ⊢;rw[hpe];have HTE:=Hd hte;have HNO:=Hd hno;have HLD:=Hd hl;have HK:=Hd hk;have tt0:(0:Int)≤(t:Int):=by omega
  have tt1:(t:Int)<(M.tris.length:Int):=by omega
  obtain⟨T,hT⟩:∃T,tat M.tris t=T:=⟨_,rfl⟩;have HT:=Hd hT;have HV:=Hd (bel_refl V);clear hno hl hk hT htl hte hpe
  gi_wp2
  gi_loopw [28] (fun q wr=>∃k:Nat,q=.int .i64 k∧k≤3∧Hid (∀j,j<k→edgeIs T a c j=false)∧Hid (Below V.heap.size V wr)) (fun q _=>3-(intOf q).toNat)
  case atStart=>exact⟨0,rfl,by omega,fun j hj=>absurd hj (by omega),HV⟩
  case round=>
   obtain⟨k,rfl,hk,HE,HB⟩:=hrel;clear HV;have HLw:=Hd (HLD.out.later HB.out);have HKw:=Hd (HK.out.later HC.out HB.out);have hMw:=HR.out.keep HKw.out (by simp[mblocks]) (by simp[mblocks]) (by simp[mblocks]) (by simp[mblocks]);have k0:=HLw.out.m.cell 0 (.pointer (some ⟨b,0,none⟩)) rfl;have k1:=hMw.head.cell 1 (.slice (some ⟨gt,0,none⟩) M.tris.length ct) rfl;obtain⟨t0,t1,t2,_,_,_,_,_,_⟩:=hMw.tris t (by omega);rw[HT.out]at t0 t1 t2;clear hMw;rcases(show k=0∨k=1∨k=2∨k=3 by omega)with rfl|rfl|rfl|rfl
   ·gi_wp2
    have hbl:=bel_alloc (bel_refl wr) (.cells #[.int .i64 T.v0,.int .i64 T.v1,.int .i64 T.v2] 40);have HL2:=Hd (HLw.out.later hbl);have HB2:=Hd (bel_step HB.out hbl);have hX:=Blk.new wr 40 #[.int .i64 T.v0,.int .i64 T.v1,.int .i64 T.v2];obtain⟨U,hU⟩:∃U,wr.alloc (.cells #[.int .i64 T.v0,.int .i64 T.v1,.int .i64 T.v2] 40)=U:=⟨_,rfl⟩;obtain⟨X,hXe⟩:∃X,wr.heap.size=X:=⟨_,rfl⟩;rw[hU]at hX HL2 HB2 ⊢;rw[hXe]at hX ⊢;clear hU hXe k0 k1 t0 t1 t2 hbl;have y0:=hX.cells 1 (.int .i64 T.v1) rfl;have y1:=hX.cells 2 (.int .i64 T.v2) rfl;have m1:=HL2.out.a.cells 0 (.int .i64 a) rfl;have m2:=HL2.out.c.cells 0 (.int .i64 c) rfl;clear hX;obtain⟨q1,hq1⟩:∃q,(T.v1==a)=q:=⟨_,rfl⟩;obtain⟨q2,hq2⟩:∃q,(T.v2==c)=q:=⟨_,rfl⟩
    have HQ:Hid (edgeIs T a c 0=(q1&&q2)):=by
     show(T.v1==a&&T.v2==c)=_
     rw[hq1,hq2]
    refine Go.Gq.region_in (by kernel_rfl) (by kernel_rfl) (by kernel_rfl) ?_;cases q1
    ·repeat (go_big_quiet_step ((fail)))
     refine wpQuiet_nil ?_;intro wx hw';have HW:=Hd (Go.Gq.later_bel hw');clear hw' y0 y1 m1 m2 hq1 hq2
     gi_wp2
     go_roundw
     case rel=>exact⟨1,by go_num,by omega,fun j hj=>by rcases Nat.lt_succ_iff_lt_or_eq.1 hj with h|h;exact HE.out j h;exact h▸HQ.out,bel_step HB2.out HW.out⟩
     case measure=>simp[intOf]
    ·repeat (go_big_quiet_step ((fail)))
     refine wpQuiet_nil ?_;intro wx hw';have HW:=Hd (Go.Gq.later_bel hw');clear hw' y0 y1 m1 m2 hq1 hq2;have HLx:=Hd (HL2.out.later HW.out);cases q2
     ·gi_wp2
      go_roundw
      case rel=>exact⟨1,by go_num,by omega,fun j hj=>by rcases Nat.lt_succ_iff_lt_or_eq.1 hj with h|h;exact HE.out j h;exact h▸HQ.out,bel_step HB2.out HW.out⟩
      case measure=>simp[intOf]
     ·obtain⟨c0,c1⟩:=HLx.out.x.one
      have hy1:=HLx.out.y.other (c:=w.heap.size+3) (by omega) 0 (.int .i64 t);obtain⟨c2,c3⟩:=hy1.one;have hz1:=(HLx.out.z.other (c:=w.heap.size+3) (by omega) 0 (.int .i64 t)).other (c:=w.heap.size+4) (by omega) 0 (.int .i64 0);obtain⟨c4,c5⟩:=hz1.one;have HZ:=Hd hz1;have HY:=Hd hy1;clear hz1 hy1
      gi_wp2
      refine⟨(keeps_later (bel_step HB2.out HW.out)).trans ((((KeepsOthers.setCell _ _ _).from _).trans ((KeepsOthers.setCell _ _ _).from _)).trans ((KeepsOthers.setCell _ _ _).from _)),rfl,(t,0),?_,?_,?_,?_,?_⟩
      ·rw[eof_add HNO.out HTE.out HT.out,ein_some 0 (by omega) HQ.out HE.out];rfl
      ·exact((HLx.out.x.set 0 _).other (by omega) _ _).other (by omega) _ _
      ·exact(HY.out.set 0 _).other (by omega) _ _
      ·exact HZ.out.set 0 _
      ·exact bel_set (bel_set (bel_set HLx.out.bel (by omega) _ _) (by omega) _ _) (by omega) _ _
   ·gi_wp2
    have hbl:=bel_alloc (bel_refl wr) (.cells #[.int .i64 T.v0,.int .i64 T.v1,.int .i64 T.v2] 40);have HL2:=Hd (HLw.out.later hbl);have HB2:=Hd (bel_step HB.out hbl);have hX:=Blk.new wr 40 #[.int .i64 T.v0,.int .i64 T.v1,.int .i64 T.v2];obtain⟨U,hU⟩:∃U,wr.alloc (.cells #[.int .i64 T.v0,.int .i64 T.v1,.int .i64 T.v2] 40)=U:=⟨_,rfl⟩;obtain⟨X,hXe⟩:∃X,wr.heap.size=X:=⟨_,rfl⟩;rw[hU]at hX HL2 HB2 ⊢;rw[hXe]at hX ⊢;clear hU hXe k0 k1 t0 t1 t2 hbl;have y0:=hX.cells 2 (.int .i64 T.v2) rfl;have y1:=hX.cells 0 (.int .i64 T.v0) rfl;have m1:=HL2.out.a.cells 0 (.int .i64 a) rfl;have m2:=HL2.out.c.cells 0 (.int .i64 c) rfl;clear hX;obtain⟨q1,hq1⟩:∃q,(T.v2==a)=q:=⟨_,rfl⟩;obtain⟨q2,hq2⟩:∃q,(T.v0==c)=q:=⟨_,rfl⟩
    have HQ:Hid (edgeIs T a c 1=(q1&&q2)):=by
     show(T.v2==a&&T.v0==c)=_
     rw[hq1,hq2]
    refine Go.Gq.region_in (by kernel_rfl) (by kernel_rfl) (by kernel_rfl) ?_;cases q1
    ·repeat (go_big_quiet_step ((fail)))
     refine wpQuiet_nil ?_;intro wx hw';have HW:=Hd (Go.Gq.later_bel hw');clear hw' y0 y1 m1 m2 hq1 hq2
     gi_wp2
     go_roundw
     case rel=>exact⟨2,by go_num,by omega,fun j hj=>by rcases Nat.lt_succ_iff_lt_or_eq.1 hj with h|h;exact HE.out j h;exact h▸HQ.out,bel_step HB2.out HW.out⟩
     case measure=>simp[intOf]
    ·repeat (go_big_quiet_step ((fail)))
     refine wpQuiet_nil ?_;intro wx hw';have HW:=Hd (Go.Gq.later_bel hw');clear hw' y0 y1 m1 m2 hq1 hq2;have HLx:=Hd (HL2.out.later HW.out);cases q2
     ·gi_wp2
      go_roundw
      case rel=>exact⟨2,by go_num,by omega,fun j hj=>by rcases Nat.lt_succ_iff_lt_or_eq.1 hj with h|h;exact HE.out j h;exact h▸HQ.out,bel_step HB2.out HW.out⟩
      case measure=>simp[intOf]
     ·obtain⟨c0,c1⟩:=HLx.out.x.one
      have hy1:=HLx.out.y.other (c:=w.heap.size+3) (by omega) 0 (.int .i64 t);obtain⟨c2,c3⟩:=hy1.one;have hz1:=(HLx.out.z.other (c:=w.heap.size+3) (by omega) 0 (.int .i64 t)).other (c:=w.heap.size+4) (by omega) 0 (.int .i64 1);obtain⟨c4,c5⟩:=hz1.one;have HZ:=Hd hz1;have HY:=Hd hy1;clear hz1 hy1
      gi_wp2
      refine⟨(keeps_later (bel_step HB2.out HW.out)).trans ((((KeepsOthers.setCell _ _ _).from _).trans ((KeepsOthers.setCell _ _ _).from _)).trans ((KeepsOthers.setCell _ _ _).from _)),rfl,(t,1),?_,?_,?_,?_,?_⟩
      ·rw[eof_add HNO.out HTE.out HT.out,ein_some 1 (by omega) HQ.out HE.out];rfl
      ·exact((HLx.out.x.set 0 _).other (by omega) _ _).other (by omega) _ _
      ·exact(HY.out.set 0 _).other (by omega) _ _
      ·exact HZ.out.set 0 _
      ·exact bel_set (bel_set (bel_set HLx.out.bel (by omega) _ _) (by omega) _ _) (by omega) _ _
   ·gi_wp2
    have hbl:=bel_alloc (bel_refl wr) (.cells #[.int .i64 T.v0,.int .i64 T.v1,.int .i64 T.v2] 40);have HL2:=Hd (HLw.out.later hbl);have HB2:=Hd (bel_step HB.out hbl);have hX:=Blk.new wr 40 #[.int .i64 T.v0,.int .i64 T.v1,.int .i64 T.v2];obtain⟨U,hU⟩:∃U,wr.alloc (.cells #[.int .i64 T.v0,.int .i64 T.v1,.int .i64 T.v2] 40)=U:=⟨_,rfl⟩;obtain⟨X,hXe⟩:∃X,wr.heap.size=X:=⟨_,rfl⟩;rw[hU]at hX HL2 HB2 ⊢;rw[hXe]at hX ⊢;clear hU hXe k0 k1 t0 t1 t2 hbl;have y0:=hX.cells 0 (.int .i64 T.v0) rfl;have y1:=hX.cells 1 (.int .i64 T.v1) rfl;have m1:=HL2.out.a.cells 0 (.int .i64 a) rfl;have m2:=HL2.out.c.cells 0 (.int .i64 c) rfl;clear hX;obtain⟨q1,hq1⟩:∃q,(T.v0==a)=q:=⟨_,rfl⟩;obtain⟨q2,hq2⟩:∃q,(T.v1==c)=q:=⟨_,rfl⟩
    have HQ:Hid (edgeIs T a c 2=(q1&&q2)):=by
     show(T.v0==a&&T.v1==c)=_
     rw[hq1,hq2]
    refine Go.Gq.region_in (by kernel_rfl) (by kernel_rfl) (by kernel_rfl) ?_;cases q1
    ·repeat (go_big_quiet_step ((fail)))
     refine wpQuiet_nil ?_;intro wx hw';have HW:=Hd (Go.Gq.later_bel hw');clear hw' y0 y1 m1 m2 hq1 hq2
     gi_wp2
     go_roundw
     case rel=>exact⟨3,by go_num,by omega,fun j hj=>by rcases Nat.lt_succ_iff_lt_or_eq.1 hj with h|h;exact HE.out j h;exact h▸HQ.out,bel_step HB2.out HW.out⟩
     case measure=>simp[intOf]
    ·repeat (go_big_quiet_step ((fail)))
     refine wpQuiet_nil ?_;intro wx hw';have HW:=Hd (Go.Gq.later_bel hw');clear hw' y0 y1 m1 m2 hq1 hq2;have HLx:=Hd (HL2.out.later HW.out);cases q2
     ·gi_wp2
      go_roundw
      case rel=>exact⟨3,by go_num,by omega,fun j hj=>by rcases Nat.lt_succ_iff_lt_or_eq.1 hj with h|h;exact HE.out j h;exact h▸HQ.out,bel_step HB2.out HW.out⟩
      case measure=>simp[intOf]
     ·obtain⟨c0,c1⟩:=HLx.out.x.one
      have hy1:=HLx.out.y.other (c:=w.heap.size+3) (by omega) 0 (.int .i64 t);obtain⟨c2,c3⟩:=hy1.one;have hz1:=(HLx.out.z.other (c:=w.heap.size+3) (by omega) 0 (.int .i64 t)).other (c:=w.heap.size+4) (by omega) 0 (.int .i64 2);obtain⟨c4,c5⟩:=hz1.one;have HZ:=Hd hz1;have HY:=Hd hy1;clear hz1 hy1
      gi_wp2
      refine⟨(keeps_later (bel_step HB2.out HW.out)).trans ((((KeepsOthers.setCell _ _ _).from _).trans ((KeepsOthers.setCell _ _ _).from _)).trans ((KeepsOthers.setCell _ _ _).from _)),rfl,(t,2),?_,?_,?_,?_,?_⟩
      ·rw[eof_add HNO.out HTE.out HT.out,ein_some 2 (by omega) HQ.out HE.out];rfl
      ·exact((HLx.out.x.set 0 _).other (by omega) _ _).other (by omega) _ _
      ·exact(HY.out.set 0 _).other (by omega) _ _
      ·exact HZ.out.set 0 _
      ·exact bel_set (bel_set (bel_set HLx.out.bel (by omega) _ _) (by omega) _ _) (by omega) _ _
   ·gi_wp2
    have hlater:=HB.out;refine⟨keeps_later hlater,Keep.below hlater (fun k hk=>?_),?_,HLw.out,HKw.out⟩
    ·obtain⟨o,ho,_⟩:=HC.out k hk
     exact(Array.getElem?_eq_some_iff.1 ((HK.out k hk).trans ho)).1
    ·rw[eof_add HNO.out HTE.out HT.out,ein_none HE.out];rfl
 case done=>
  rintro D ys V hD hys ⟨hno,hl,hk⟩ hK;have he:edgeOf M a c xs=none:=by rw[←hys];exact hno
  have HE:=Hd he;obtain⟨c0,c1⟩:=hl.x.one;have hy1:=hl.y.other (c:=w.heap.size+3) (by omega) 0 (.int .i64 (-1));obtain⟨c2,c3⟩:=hy1.one;have hz1:=(hl.z.other (c:=w.heap.size+3) (by omega) 0 (.int .i64 (-1))).other (c:=w.heap.size+4) (by omega) 0 (.int .i64 0);obtain⟨c4,c5⟩:=hz1.one;have HX1:=Hd (((hl.x.set 0 (.int .i64 (-1))).other (c:=w.heap.size+4) (by omega) 0 (.int .i64 0)).other (c:=w.heap.size+5) (by omega) 0 (.bool false));have HY1:=Hd ((hy1.set 0 (.int .i64 0)).other (c:=w.heap.size+5) (by omega) 0 (.bool false));have HZ1:=Hd (hz1.set 0 (.bool false));have HB1:=Hd (bel_set (bel_set (bel_set hl.bel (b:=w.heap.size+3) (by omega) 0 (.int .i64 (-1))) (b:=w.heap.size+4) (by omega) 0 (.int .i64 0)) (b:=w.heap.size+5) (by omega) 0 (.bool false));have HK:=Hd hK;clear hno hl hk hy1 hz1 hK he;go_wp2
  have fD:(((V.setCell ⟨w.heap.size+3,0,none⟩ (.int .i64 (-1))).setCell ⟨w.heap.size+4,0,none⟩ (.int .i64 0)).setCell ⟨w.heap.size+5,0,none⟩ (.bool false)).heap[D]? =some (.deferred (some [])):=
   (Below.heap_setCell _ _ _ _ (by simp;omega)).trans ((Below.heap_setCell _ _ _ _ (by simp;omega)).trans ((Below.heap_setCell _ _ _ _ (by simp;omega)).trans HK.out))
  refine⟨by simp,.inl ⟨_,_,rfl,run_takeDeferred fD,?_⟩⟩;obtain⟨U,hU⟩:∃U,((V.setCell ⟨w.heap.size+3,0,none⟩ (.int .i64 (-1))).setCell ⟨w.heap.size+4,0,none⟩ (.int .i64 0)).setCell ⟨w.heap.size+5,0,none⟩ (.bool false)=U:=⟨_,rfl⟩;have h1:=HX1.out;have h2:=HY1.out;have h3:=HZ1.out;have h4:=HB1.out;rw[hU]at h1 h2 h3 h4 fD ⊢;have cF1:=put_cell h1 (o:=.deferred none) (D:=D) (by omega);have cF2:=put_cell h2 (o:=.deferred none) (D:=D) (by omega);have cF3:=put_cell h3 (o:=.deferred none) (D:=D) (by omega);refine⟨edgeV none,?_,by rw[HE.out],?_⟩
  ·simp[results,Tryz.results14,go_sem,cF1,cF2,cF3,edgeV]
  ·exact h4.trans (belowK_b (w:=w) (Nat.le_refl _) _ D _ _ (by omega) fD rfl rfl)
 case stop=>
  rintro D c' pre V hD hp' ⟨rfl,x,hx,h3,h4,h5,hb⟩ hK;have HK:=Hd hK;refine wpIn_wide.2 ?_;clear hK;go_wp2;refine⟨by simp,.inl ⟨_,_,rfl,run_takeDeferred HK.out,?_⟩⟩;have cF1:=put_cell h3 (o:=.deferred none) (D:=D) (by omega);have cF2:=put_cell h4 (o:=.deferred none) (D:=D) (by omega);have cF3:=put_cell h5 (o:=.deferred none) (D:=D) (by omega)
  have he:edgeOf M a c xs=some x:=by
   obtain⟨t,ht⟩:=hp';rw[←ht];exact edgeOf_some hx
  refine⟨edgeV (some x),?_,by rw[he],?_⟩
  ·simp[results,Tryz.results14,go_sem,cF1,cF2,cF3,edgeV]
  ·exact hb.trans (belowK_b (w:=w) (Nat.le_refl _) _ D _ _ (by omega) HK.out rfl rfl)
end Mf
end Go.Proofs.YtdihefgleefhmaaGreat
