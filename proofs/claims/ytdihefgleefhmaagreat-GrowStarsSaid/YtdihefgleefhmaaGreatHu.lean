import Derived.Test.YtdihefgleefhmaaGreatMf
import Derived.Test.YtdihefgleefhmaaGreatRd
import Derived.Test.YtdihefgleefhmaaGreatMk
import Derived.Maps.OwnIn
import Derived.Carry
namespace Go.Proofs.YtdihefgleefhmaaGreat
open Go.RowKit Go.Shelf
attribute [local go_sem] Oper.semAt_some
structure HullS where
 next:List (Int×Int)
 first: Int
deriving DecidableEq
def hullOne(M:Mesh)(T:Tri)(r:HullS)(i:Nat):HullS:=if Mr.realB M (T.n i)=true then r else ⟨mput (T.v ((i+1)%3)) (T.v ((i+2)%3)) r.next,min r.first (T.v ((i+1)%3))⟩
def hullTri(M:Mesh)(T:Tri)(r:HullS):Nat→HullS
 | 0=>r
 | k+1=>hullOne M T (hullTri M T r k) k
def hullAll(M:Mesh)(r:HullS):List Nat→HullS
 | []=>r
 | t::l=>hullAll M (hullTri M (tat M.tris t) r 3) l
def hullGo(l:List (Int×Int)):Nat→Int→List Int
 | 0,_=>[]
 | n+1,v=>v::hullGo l n (mget 0 v l)
def hull(M:Mesh):List Int:=
 let r:=hullAll M ⟨[],M.pts.length⟩ (realsTo M M.tris.length)
 hullGo r.next r.next.length r.first
namespace Hu
attribute [local go_sem] It.wide_fn It.wide_depth
attribute [local go_sem high] Pr.run_maxI Pr.run_minI
theorem put_len2(k v:Int)(l:List (Int×Int)):(mput k v l).length≤l.length+1:=by
 have:=congrArg List.length (Mp.put_keys k v l);rw[List.length_map]at this;rw[this]
 split<;>simp
theorem hullTri_len(M:Mesh)(T:Tri)(r:HullS):∀k,(hullTri M T r k).next.length≤r.next.length+k
 | 0=>Nat.le_refl _
 | k+1=>by
  have h1:=hullTri_len M T r k;unfold hullTri hullOne
  split
  ·omega
  ·have:=put_len2 (T.v ((k+1)%3)) (T.v ((k+2)%3)) (hullTri M T r k).next
   simp only;omega
theorem hullAll_len(M:Mesh):∀(l:List Nat) (r:HullS),(hullAll M r l).next.length≤r.next.length+3*l.length
 | [],_=>Nat.le_refl _
 | t::l,r=>by
  unfold hullAll;have h1:=hullAll_len M l (hullTri M (tat M.tris t) r 3);have h2:=hullTri_len M (tat M.tris t) r 3;simp only[List.length_cons];omega
theorem hullAll_snoc(M:Mesh):∀(l:List Nat) (r:HullS) (t:Nat),hullAll M r (l++[t])=hullTri M (tat M.tris t) (hullAll M r l) 3
 | [],_,_=>rfl
 | _::l,_,t=>hullAll_snoc M l _ t
section
variable {F:Fence} {nF:Nat}
end
structure HullAt(w W:World)(b:Nat)(r:HullS):Prop where
 box:Blk W w.heap.size 26 #[.pointer (some ⟨b,0,none⟩)]
 next:MapAt (Value.int .i64) (Value.int .i64) W (w.heap.size+1) r.next
 mC:Blk W (w.heap.size+2) 124 #[.map (some (w.heap.size+1))]
 fC:Blk W (w.heap.size+3) 3 #[.int .i64 r.first]
 bel:Below w.heap.size w W
theorem HullAt.later{w W W':World}{b:Nat}{r:HullS}(h:HullAt w W b r)(hb:Below W.heap.size W W'):HullAt w W' b r:=⟨h.box.later hb,h.next.later hb,h.mC.later hb,h.fC.later hb,bel_step h.bel hb⟩
theorem HullAt.kept{w A B:World}{b:Nat}{r:HullS}{row:Option Nat}(h:HullAt w A b r)(hg:A.grownBy B row)(hr:∀r,row=some r→w.heap.size+4≤r∧∃o:Obj,A.heap[r]? =some o∧o.isCells=false):HullAt w B b r:=
 ⟨blk_kept h.box hg (fun r e=>(hr r e).2),h.next.grown hg (fun e=>by have:=(hr _ e.symm).1;omega),blk_kept h.mC hg (fun r e=>(hr r e).2),blk_kept h.fC hg (fun r e=>(hr r e).2),h.bel.grown hg h.bel.size (fun k e=>by have:=(hr k e).1;omega)⟩
theorem HullAt.put{w W W':World}{b:Nat}{r:HullS}(h:HullAt w W b r){l:List (Int×Int)}(hm:MapAt (Value.int .i64) (Value.int .i64) W' (w.heap.size+1) l)(hg:W.grownBy W' (some (w.heap.size+1))):HullAt w W' b ⟨l,r.first⟩:=
 ⟨h.next.set hg h.box,hm,h.next.set hg h.mC,h.next.set hg h.fC,Sq.bel_grown h.bel hg (by omega)⟩
theorem HullAt.least{w W:World}{b:Nat}{r:HullS}(h:HullAt w W b r)(x:Int):HullAt w (W.setCell ⟨w.heap.size+3,0,none⟩ (.int .i64 x)) b ⟨r.next,x⟩:=
 ⟨h.box.other (by omega) _ _,h.next.other (by omega) _ _,h.mC.other (by omega) _ _,h.fC.set 0 _,bel_set h.bel (by omega) _ _⟩
def slen:Value→Nat
 | .slice _ n _=>n
 | _=>0
structure HullL(w W:World)(m D:Nat)(l:List (Int×Int))(vo:Value)(out:List Int):Prop where
 mC:Blk W (w.heap.size+2) 124 #[.map (some m)]
 next:MapAt (Value.int .i64) (Value.int .i64) W m l
 own:W.ownsRow w.heap.size 3 1 vo out.length (out.map (Value.int .i64))
 bel:Below w.heap.size w W
 dd:W.heap[D]? =some (.deferred (some []))
theorem HullL.grow{w W W1:World}{m D:Nat}{l:List (Int×Int)}{vo v':Value}{out:List Int}{x:Int}(h:HullL w W m D l vo out){o:Obj}(h1:W1.ownsRow w.heap.size 3 1 v' (out.length+1) (out.map (Value.int .i64)++[.int .i64 x]))(h2:(W.alloc o).grownBy W1 vo.ownBlock) :
  HullL w W1 m D l v' (out++[x]):=by
 have hb:=bel_alloc (bel_refl W) o;have ho:=own_later h.own hb;have hm:=h.next.later hb;have hD:D<W.heap.size:=(Array.getElem?_eq_some_iff.1 h.dd).1;have hdA:(W.alloc o).heap[D]? =some (.deferred (some [])):=(hb.block D hD).trans h.dd;refine⟨blk_grown h.mC h2 (fun e=>blk_ne (h.mC.later hb) ho (by decide) e.symm rfl),hm.grown h2 (fun e=>?_),by simpa using h1,?_,(h2.block D (by simp;omega) (fun e=>?_)).trans hdA⟩
 ·obtain⟨c,hc⟩:=own_block ho e.symm
  obtain⟨es,ck,hh,_⟩:=hm;rw[hh]at hc;cases hc
 ·refine⟨h2.os.trans h.bel.os,h2.tape.trans h.bel.tape,h2.output.trans h.bel.output,Nat.le_trans h.bel.size (Nat.le_trans (by simp) h2.size),fun k hk=>?_⟩
  refine(h2.block k (by have:=h.bel.size;simp;omega) (fun e=>?_)).trans ((hb.block k (by have:=h.bel.size;omega)).trans (h.bel.block k hk));have:=(ho.lt k e.symm).1;omega
 ·obtain⟨c,hc⟩:=own_block ho e.symm
  rw[hdA]at hc;cases hc
set_option maxRecDepth 100000 in
set_option maxHeartbeats 4000000 in
theorem hull_any(M:Mesh)(b:Nat)(w:World)(h:MeshR w b M)(ho:M.ok)(hp:0<M.pts.length)(ht:0<M.tris.length) :
  Calls Tryz.prog 29 #[.pointer (some ⟨b,0,none⟩)] w fun e w'=>∃v,e=.returned v∧w'.ownsRow w.heap.size 3 1 v (hull M).length ((hull M).map (Value.int .i64))∧Below w.heap.size w w':=by
 obtain⟨gp,cp,gt,ct,ga,ca,fV,h⟩:=h;have hla:=ho.at_;obtain⟨OUT,hOUT⟩:∃OUT,hull M=OUT:=⟨_,rfl⟩;rw[hOUT];have HOU:=Hd hOUT;clear hOUT;have hlt:=h.lt hp ht (by omega);have hmm:=@run_makeMap Tryz.prog;refine(callsIn_wide (n:=9)).1 (callsIn_of_wp_marks Tryz.func29 rfl trivial (wpIn_wide.2 ?_) rfl);simp only[Tryz.ntmps29,List.size_toArray,List.length_cons,List.length_nil,Nat.reduceAdd,Nat.reduceSub,Array.replicate_succ,Array.replicate_zero,List.push_toArray,List.append_toArray,List.nil_append,List.cons_append];have hM1:=h.later (bel_alloc (bel_alloc (bel_alloc (bel_refl w) (.cells #[.pointer (some ⟨b,0,none⟩)] 26)) (.map #[] 0)) (.cells #[.map (some (w.heap.size+1))] 124));have hh:=hM1.head.cell 0 (.slice (some ⟨gp,0,none⟩) M.pts.length cp) rfl;have H:=Hd h;have HLT:=Hd hlt;have HO:=Hd ho;clear h hlt ho hM1
 go_wp2_with (go_at_call 55;refine(callsIn_wide.1 (It.all_in b 9 _)).mono ?_;rintro e w5 ⟨rfl,rfl⟩)
 simp only[Nat.add_assoc,Nat.reduceAdd]
 have hH:HullAt w (((((w.alloc (.cells #[.pointer (some ⟨b,0,none⟩)] 26)).alloc (.map #[] 0)).alloc (.cells #[.map (some (w.heap.size+1))] 124)).alloc (.cells #[.int .i64 M.pts.length] 3)).alloc (.cells #[.pointer (some ⟨b,0,none⟩)] 26)) b ⟨[],M.pts.length⟩:=by
  refine⟨((((Blk.new w 26 _).alloc _).alloc _).alloc _).alloc _,?_,((Blk.new' _ 124 _ (by simp)).alloc _).alloc _,(Blk.new' _ 3 _ (by simp)).alloc _,bel_alloc (bel_alloc (bel_alloc (bel_alloc (bel_alloc (bel_refl w) _) _) _) _) _⟩;have h1:=MapAt.new (Value.int .i64) (Value.int .i64) (w.alloc (.cells #[.pointer (some ⟨b,0,none⟩)] 26)) (α:=Int) (β:=Int);rw[show(w.alloc (.cells #[.pointer (some ⟨b,0,none⟩)] 26)).heap.size=w.heap.size+1 by simp]at h1;exact h1.later (bel_alloc (bel_alloc (bel_alloc (bel_refl _) _) _) _)
 have hX:=Blk.new' (n:=w.heap.size+4) ((((w.alloc (.cells #[.pointer (some ⟨b,0,none⟩)] 26)).alloc (.map #[] 0)).alloc (.cells #[.map (some (w.heap.size+1))] 124)).alloc (.cells #[.int .i64 M.pts.length] 3)) 26 #[.pointer (some ⟨b,0,none⟩)] (by simp);have hs:(((((w.alloc (.cells #[.pointer (some ⟨b,0,none⟩)] 26)).alloc (.map #[] 0)).alloc (.cells #[.map (some (w.heap.size+1))] 124)).alloc (.cells #[.int .i64 M.pts.length] 3)).alloc (.cells #[.pointer (some ⟨b,0,none⟩)] 26)).heap.size=w.heap.size+5:=by simp
 obtain⟨W,hW⟩:∃W,(((((w.alloc (.cells #[.pointer (some ⟨b,0,none⟩)] 26)).alloc (.map #[] 0)).alloc (.cells #[.map (some (w.heap.size+1))] 124)).alloc (.cells #[.int .i64 M.pts.length] 3)).alloc (.cells #[.pointer (some ⟨b,0,none⟩)] 26))=W:=⟨_,rfl⟩;rw[hW]at hH hX hs ⊢;clear hW hh;have hR:=H.out.later hH.bel
 have hcell:∀k∈(w.heap.size+4)::mblocks b gp gt ga,∃o,W.heap[k]? =some o∧o.isCells=true:=by
  intro k hk;rcases List.mem_cons.1 hk with rfl|hk
  ·exact hX.isCells
  ·exact hR.isCells hp ht (by omega) k hk
 have hin:∀k∈(w.heap.size+4)::mblocks b gp gt ga,k<W.heap.size:=by
  intro k hk;obtain⟨o,ho,_⟩:=hcell k hk;exact(Array.getElem?_eq_some_iff.1 ho).1
 have HC:=Hd hcell;have HR:=Hd hR;have HIN:=Hd hin
 have hKK:∀{V V':World},Keep ((w.heap.size+4)::mblocks b gp gt ga) W V→Below V.heap.size V V'→Keep ((w.heap.size+4)::mblocks b gp gt ga) V V':=fun {V V'} h1 h2 k hk=>by
  obtain⟨o,ho,_⟩:=HC.out k hk;exact h2.block k (Array.getElem?_eq_some_iff.1 ((h1 k hk).trans ho)).1
 have hln:∀(A B:World),A.grownBy B (some (w.heap.size+1))→Keep ((w.heap.size+4)::mblocks b gp gt ga) W A→Keep ((w.heap.size+4)::mblocks b gp gt ga) A B:=fun A B hg hl k hk=>by
  obtain⟨o,ho,_⟩:=HC.out k hk;refine hg.block k (Array.getElem?_eq_some_iff.1 ((hl k hk).trans ho)).1 (fun e=>?_);have e':=Option.some.inj e;rcases List.mem_cons.1 hk with rfl|hk
  ·omega
  ·have:=HLT.out k hk;omega
 have HLN:=Hd hln
 have hlc:∀(A:World) (v:Value),Keep ((w.heap.size+4)::mblocks b gp gt ga) A (A.setCell ⟨w.heap.size+3,0,none⟩ v):=fun A v k hk=>by
  refine Below.heap_setCell _ _ _ _ (fun e=>?_);have e':k=w.heap.size+3:=e;rcases List.mem_cons.1 hk with rfl|hk
  ·omega
  ·have:=HLT.out k hk;omega
 have HLC:=Hd hlc;clear hln hlc
 refine range_set (n:=9) (by omega) (gf:=89) (lb:=#[.pointer (some ⟨w.heap.size+4,0,none⟩)]) rfl (enters_of Tryz.func89 (by kernel_rfl) rfl)
  (It.all_pos M b (w.heap.size+4) gp cp gt ct ga ca fV 8 ((w.heap.size+4)::mblocks b gp gt ga) W (by simp[mblocks]) HO.out.tris hX hR) Keep.trans (Keep.put hin) (fun _=>rfl)
  (fun(pre:List (It.RealOf M)) V=>HullAt w V b (hullAll M ⟨[],M.pts.length⟩ (pre.map (·.1)))∧Keep ((w.heap.size+4)::mblocks b gp gt ga) W V∧W.heap.size≤V.heap.size)
  (fun _ _ _=>False)
  (fun _ A B row h hg' hr=>⟨h.1.kept hg' (fun r e=>⟨by have:=(hr r e).1;omega,(hr r e).2⟩),h.2.1.kept HC.out hg' (fun r e=>(hr r e).2),Nat.le_trans h.2.2 hg'.size⟩)
  (fun _ _ _ _ _ h _ _=>h)
  ⟨hH,Keep.refl _ _,Nat.le_refl _⟩
  (fun x Bx V=>W.heap.size≤Bx∧Blk V Bx 43 #[.int .i64 (tat M.tris x.1).v0,.int .i64 (tat M.tris x.1).v1,.int .i64 (tat M.tris x.1).v2,.int .i64 (tat M.tris x.1).n0,.int .i64 (tat M.tris x.1).n1,.int .i64 (tat M.tris x.1).n2,.bool (tat M.tris x.1).f0,.bool (tat M.tris x.1).f1,.bool (tat M.tris x.1).f2])
  (fun x Bx _ A B row h hg' hr=>⟨h.1,blk_kept h.2 hg' (fun r e=>(hr r e).2)⟩)
  (fun x Bx t=>((t.setIfInBounds 19 (.int .i64 x.1)).setIfInBounds 20 (tv (tat M.tris x.1))).setIfInBounds 6 (.pointer (some ⟨Bx,0,none⟩)))
  ?assign ?body ?done ?stop
 case assign=>
  intro l pre x V K hi hK2;simp only[It.encT]
  gi_wp2
  refine hK2 _ _ (keeps_later (bel_alloc (bel_refl V) _)) (hKK hi.2.1 (bel_alloc (bel_refl V) _)) ⟨hi.1.later (bel_alloc (bel_refl V) _),hi.2.1.later HC.out (bel_alloc (bel_refl V) _),by have:=hi.2.2;simp;omega⟩ ⟨V.heap.size,⟨hi.2.2,Blk.new _ _ _⟩,by simp only[List.setIfInBounds_toArray,List.set_cons_succ,List.set_cons_zero]⟩
 case body=>
  rintro l pre x Bx V ⟨hha,hk,hsz⟩ ⟨hBx,hbx⟩ _;simp only[List.setIfInBounds_toArray,List.set_cons_succ,List.set_cons_zero]
  have hsn:hullAll M ⟨[],M.pts.length⟩ ((pre++[x]).map (·.1))=hullTri M (tat M.tris x.1) (hullAll M ⟨[],M.pts.length⟩ (pre.map (·.1))) 3:=by
   rw[List.map_append];exact hullAll_snoc M _ _ _
  have HSN:=Hd hsn;clear hsn;generalize hullAll M ⟨[],M.pts.length⟩ (pre.map (·.1))=r0 at *;generalize hTT:tat M.tris x.1=T at *;have HTT:=Hd hTT;have HA0:=Hd hha;have HK0:=Hd hk;have HBX:=Hd hbx;clear hha hk hbx hTT;have hkv:Keep ((w.heap.size+4)::mblocks b gp gt ga) V V:=Keep.refl _ _;have HKV:=Hd hkv;have HKF:=Hd (KeepsFrom.refl W.heap.size V);clear hkv
  gi_wp2
  gi_loopw [21] (fun q wr=>∃k:Nat,q=.int .i64 k∧k≤3∧Hid (HullAt w wr b (hullTri M T r0 k))∧Hid (Keep ((w.heap.size+4)::mblocks b gp gt ga) V wr)∧Hid (KeepsFrom W.heap.size V wr)∧Hid (Blk wr Bx 43 #[.int .i64 T.v0,.int .i64 T.v1,.int .i64 T.v2,.int .i64 T.n0,.int .i64 T.n1,.int .i64 T.n2,.bool T.f0,.bool T.f1,.bool T.f2])∧Hid (W.heap.size≤wr.heap.size)) (fun q _=>3-(intOf q).toNat)
  case atStart=>exact⟨0,rfl,by omega,HA0,HKV,HKF,HBX,Hd hsz⟩
  case round=>
   obtain⟨k,rfl,hk,HAk,HKk,HFk,HBk,HZk⟩:=hrel;have HKW:=Hd (HK0.out.trans HKk.out);rcases(show k=0∨k=1∨k=2∨k=3 by omega)with rfl|rfl|rfl|rfl
   ·have hst:hullTri M T r0 1=if Mr.realB M T.n0=true then hullTri M T r0 0 else ⟨mput T.v1 T.v2 (hullTri M T r0 0).next,min (hullTri M T r0 0).first T.v1⟩:=rfl
    have hre:∀u:Gq.Later wr,Calls Tryz.prog 56 #[.pointer (some ⟨b,0,none⟩),.int .i64 T.n0] u.w fun e w'=>e=.returned (.bool (Mr.realB M T.n0))∧Below u.w.heap.size u.w w':=fun u=>
     Mr.real_any M b T.n0 u.w ⟨_,_,_,_,_,_,_,(HR.out.keep HKW.out (by simp[mblocks]) (by simp[mblocks]) (by simp[mblocks]) (by simp[mblocks])).later u.bel⟩
    obtain⟨q,hq⟩:∃q,Mr.realB M T.n0=q:=⟨_,rfl⟩;rw[hq]at hre hst;have HRE:=Hd hre;generalize hullTri M T r0 0=r1 at *;have HST:=Hd hst;have y1:=HAk.out.box.cells 0 (.pointer (some ⟨b,0,none⟩)) rfl;have y2:=HBk.out.cells 3 (.int .i64 T.n0) rfl;clear hst hre hq
    gi_wp2
    refine Go.Gq.region_in (by kernel_rfl) (by kernel_rfl) (by kernel_rfl) ?_
    repeat (go_big_quiet_step ((go_at_call 56;exact Gq.call (HRE.out _))))
    refine wpQuiet_nil ?_;intro wx hw';have hbx:=Go.Gq.later_bel hw';have HAx:=Hd (HAk.out.later hbx);have HKx:=Hd (HKk.out.trans (hKK HKW.out hbx));have HKWx:=Hd (HK0.out.trans HKx.out);have HFx:=Hd (HFk.out.trans (keeps_later hbx));have HBx:=Hd (HBk.out.later hbx);have HZx:=Hd (Nat.le_trans HZk.out hbx.size);clear hw' y1 y2 hbx;cases q
    ·have x1:=HBx.out.cell 1 (.int .i64 T.v1) rfl
     have z1:=HAx.out.mC.cells 0 (.map (some (w.heap.size+1))) rfl;have z2:=HBx.out.cells 2 (.int .i64 T.v2) rfl
     gi_wp2
     refine Go.Gq.region_tail_in 8 (by kernel_rfl) (by kernel_rfl) (by kernel_rfl) ?_;simp only[List.take_succ_cons,List.take_zero,List.drop_succ_cons,List.drop_zero]
     repeat (go_big_quiet_step (fail))
     refine wpQuiet_nil ?_;intro wy hwy R hR;have hby:=Go.Gq.later_bel hwy;have HAy:=Hd (HAx.out.later hby);have HKy:=Hd (HKx.out.trans (hKK HKWx.out hby));have HFy:=Hd (HFx.out.trans (keeps_later hby));have HBy:=Hd (HBx.out.later hby);have HZy:=Hd (Nat.le_trans HZx.out hby.size);have HRR:=Hd hR;clear hwy hby x1 z1 z2 hR
     go_wp2_with (at_mapUpdate;refine wpList_map_put _ rfl _ _ _ 124 rfl Tryz.underlying124 (Mp.int_ok Tryz.underlying3) (w.heap.size+1) rfl HAy.out.next T.v1 T.v2 rfl rfl ?_;intro w6 hm6 hg6;have HA6:=Hd (HAy.out.put hm6 hg6);have HK6:=Hd (HKy.out.trans (HLN.out _ _ hg6 (HK0.out.trans HKy.out)));have HF6:=Hd (HFy.out.trans (KeepsFrom.of_grownBy hg6 (fun j e=>by have:=Option.some.inj e;omega)));have HB6:=Hd (show Blk w6 Bx 43 _ from HAy.out.next.set hg6 HBy.out);have HZ6:=Hd (Nat.le_trans HZy.out hg6.size);clear hm6 hg6)
     refine HRR.out _ _ ?_;have f1:=HA6.out.fC.cell 0 (.int .i64 r1.first) rfl;have f2:=HA6.out.fC.frozen 0
     gi_wp2
     go_roundw
     case rel=>
      refine⟨1,by go_num,by omega,Hd ?_,Hd (HK6.out.trans (HLC.out _ _)),Hd (HF6.out.trans ((KeepsOthers.setCell _ _ _).from _)),Hd (HB6.out.other (by omega) _ _),Hd (by have:=HZ6.out;simp;omega)⟩;rw[HST.out];exact HA6.out.least _
     case measure=>simp[intOf]
    ·gi_wp2
     go_roundw
     case rel=>exact⟨1,by go_num,by omega,Hd (by rw[HST.out];exact HAx.out),HKx,HFx,HBx,HZx⟩
     case measure=>simp[intOf]
   ·have hst:hullTri M T r0 2=if Mr.realB M T.n1=true then hullTri M T r0 1 else ⟨mput T.v2 T.v0 (hullTri M T r0 1).next,min (hullTri M T r0 1).first T.v2⟩:=rfl
    have hre:∀u:Gq.Later wr,Calls Tryz.prog 56 #[.pointer (some ⟨b,0,none⟩),.int .i64 T.n1] u.w fun e w'=>e=.returned (.bool (Mr.realB M T.n1))∧Below u.w.heap.size u.w w':=fun u=>
     Mr.real_any M b T.n1 u.w ⟨_,_,_,_,_,_,_,(HR.out.keep HKW.out (by simp[mblocks]) (by simp[mblocks]) (by simp[mblocks]) (by simp[mblocks])).later u.bel⟩
    obtain⟨q,hq⟩:∃q,Mr.realB M T.n1=q:=⟨_,rfl⟩;rw[hq]at hre hst;have HRE:=Hd hre;generalize hullTri M T r0 1=r1 at *;have HST:=Hd hst;have y1:=HAk.out.box.cells 0 (.pointer (some ⟨b,0,none⟩)) rfl;have y2:=HBk.out.cells 4 (.int .i64 T.n1) rfl;clear hst hre hq
    gi_wp2
    refine Go.Gq.region_in (by kernel_rfl) (by kernel_rfl) (by kernel_rfl) ?_
    repeat (go_big_quiet_step ((go_at_call 56;exact Gq.call (HRE.out _))))
    refine wpQuiet_nil ?_;intro wx hw';have hbx:=Go.Gq.later_bel hw';have HAx:=Hd (HAk.out.later hbx);have HKx:=Hd (HKk.out.trans (hKK HKW.out hbx));have HKWx:=Hd (HK0.out.trans HKx.out);have HFx:=Hd (HFk.out.trans (keeps_later hbx));have HBx:=Hd (HBk.out.later hbx);have HZx:=Hd (Nat.le_trans HZk.out hbx.size);clear hw' y1 y2 hbx;cases q
    ·have x1:=HBx.out.cell 2 (.int .i64 T.v2) rfl
     have z1:=HAx.out.mC.cells 0 (.map (some (w.heap.size+1))) rfl;have z2:=HBx.out.cells 0 (.int .i64 T.v0) rfl
     gi_wp2
     refine Go.Gq.region_tail_in 8 (by kernel_rfl) (by kernel_rfl) (by kernel_rfl) ?_;simp only[List.take_succ_cons,List.take_zero,List.drop_succ_cons,List.drop_zero]
     repeat (go_big_quiet_step (fail))
     refine wpQuiet_nil ?_;intro wy hwy R hR;have hby:=Go.Gq.later_bel hwy;have HAy:=Hd (HAx.out.later hby);have HKy:=Hd (HKx.out.trans (hKK HKWx.out hby));have HFy:=Hd (HFx.out.trans (keeps_later hby));have HBy:=Hd (HBx.out.later hby);have HZy:=Hd (Nat.le_trans HZx.out hby.size);have HRR:=Hd hR;clear hwy hby x1 z1 z2 hR
     go_wp2_with (at_mapUpdate;refine wpList_map_put _ rfl _ _ _ 124 rfl Tryz.underlying124 (Mp.int_ok Tryz.underlying3) (w.heap.size+1) rfl HAy.out.next T.v2 T.v0 rfl rfl ?_;intro w6 hm6 hg6;have HA6:=Hd (HAy.out.put hm6 hg6);have HK6:=Hd (HKy.out.trans (HLN.out _ _ hg6 (HK0.out.trans HKy.out)));have HF6:=Hd (HFy.out.trans (KeepsFrom.of_grownBy hg6 (fun j e=>by have:=Option.some.inj e;omega)));have HB6:=Hd (show Blk w6 Bx 43 _ from HAy.out.next.set hg6 HBy.out);have HZ6:=Hd (Nat.le_trans HZy.out hg6.size);clear hm6 hg6)
     refine HRR.out _ _ ?_;have f1:=HA6.out.fC.cell 0 (.int .i64 r1.first) rfl;have f2:=HA6.out.fC.frozen 0
     gi_wp2
     go_roundw
     case rel=>
      refine⟨2,by go_num,by omega,Hd ?_,Hd (HK6.out.trans (HLC.out _ _)),Hd (HF6.out.trans ((KeepsOthers.setCell _ _ _).from _)),Hd (HB6.out.other (by omega) _ _),Hd (by have:=HZ6.out;simp;omega)⟩;rw[HST.out];exact HA6.out.least _
     case measure=>simp[intOf]
    ·gi_wp2
     go_roundw
     case rel=>exact⟨2,by go_num,by omega,Hd (by rw[HST.out];exact HAx.out),HKx,HFx,HBx,HZx⟩
     case measure=>simp[intOf]
   ·have hst:hullTri M T r0 3=if Mr.realB M T.n2=true then hullTri M T r0 2 else ⟨mput T.v0 T.v1 (hullTri M T r0 2).next,min (hullTri M T r0 2).first T.v0⟩:=rfl
    have hre:∀u:Gq.Later wr,Calls Tryz.prog 56 #[.pointer (some ⟨b,0,none⟩),.int .i64 T.n2] u.w fun e w'=>e=.returned (.bool (Mr.realB M T.n2))∧Below u.w.heap.size u.w w':=fun u=>
     Mr.real_any M b T.n2 u.w ⟨_,_,_,_,_,_,_,(HR.out.keep HKW.out (by simp[mblocks]) (by simp[mblocks]) (by simp[mblocks]) (by simp[mblocks])).later u.bel⟩
    obtain⟨q,hq⟩:∃q,Mr.realB M T.n2=q:=⟨_,rfl⟩;rw[hq]at hre hst;have HRE:=Hd hre;generalize hullTri M T r0 2=r1 at *;have HST:=Hd hst;have y1:=HAk.out.box.cells 0 (.pointer (some ⟨b,0,none⟩)) rfl;have y2:=HBk.out.cells 5 (.int .i64 T.n2) rfl;clear hst hre hq
    gi_wp2
    refine Go.Gq.region_in (by kernel_rfl) (by kernel_rfl) (by kernel_rfl) ?_
    repeat (go_big_quiet_step ((go_at_call 56;exact Gq.call (HRE.out _))))
    refine wpQuiet_nil ?_;intro wx hw';have hbx:=Go.Gq.later_bel hw';have HAx:=Hd (HAk.out.later hbx);have HKx:=Hd (HKk.out.trans (hKK HKW.out hbx));have HKWx:=Hd (HK0.out.trans HKx.out);have HFx:=Hd (HFk.out.trans (keeps_later hbx));have HBx:=Hd (HBk.out.later hbx);have HZx:=Hd (Nat.le_trans HZk.out hbx.size);clear hw' y1 y2 hbx;cases q
    ·have x1:=HBx.out.cell 0 (.int .i64 T.v0) rfl
     have z1:=HAx.out.mC.cells 0 (.map (some (w.heap.size+1))) rfl;have z2:=HBx.out.cells 1 (.int .i64 T.v1) rfl
     gi_wp2
     refine Go.Gq.region_tail_in 8 (by kernel_rfl) (by kernel_rfl) (by kernel_rfl) ?_;simp only[List.take_succ_cons,List.take_zero,List.drop_succ_cons,List.drop_zero]
     repeat (go_big_quiet_step (fail))
     refine wpQuiet_nil ?_;intro wy hwy R hR;have hby:=Go.Gq.later_bel hwy;have HAy:=Hd (HAx.out.later hby);have HKy:=Hd (HKx.out.trans (hKK HKWx.out hby));have HFy:=Hd (HFx.out.trans (keeps_later hby));have HBy:=Hd (HBx.out.later hby);have HZy:=Hd (Nat.le_trans HZx.out hby.size);have HRR:=Hd hR;clear hwy hby x1 z1 z2 hR
     go_wp2_with (at_mapUpdate;refine wpList_map_put _ rfl _ _ _ 124 rfl Tryz.underlying124 (Mp.int_ok Tryz.underlying3) (w.heap.size+1) rfl HAy.out.next T.v0 T.v1 rfl rfl ?_;intro w6 hm6 hg6;have HA6:=Hd (HAy.out.put hm6 hg6);have HK6:=Hd (HKy.out.trans (HLN.out _ _ hg6 (HK0.out.trans HKy.out)));have HF6:=Hd (HFy.out.trans (KeepsFrom.of_grownBy hg6 (fun j e=>by have:=Option.some.inj e;omega)));have HB6:=Hd (show Blk w6 Bx 43 _ from HAy.out.next.set hg6 HBy.out);have HZ6:=Hd (Nat.le_trans HZy.out hg6.size);clear hm6 hg6)
     refine HRR.out _ _ ?_;have f1:=HA6.out.fC.cell 0 (.int .i64 r1.first) rfl;have f2:=HA6.out.fC.frozen 0
     gi_wp2
     go_roundw
     case rel=>
      refine⟨3,by go_num,by omega,Hd ?_,Hd (HK6.out.trans (HLC.out _ _)),Hd (HF6.out.trans ((KeepsOthers.setCell _ _ _).from _)),Hd (HB6.out.other (by omega) _ _),Hd (by have:=HZ6.out;simp;omega)⟩;rw[HST.out];exact HA6.out.least _
     case measure=>simp[intOf]
    ·gi_wp2
     go_roundw
     case rel=>exact⟨3,by go_num,by omega,Hd (by rw[HST.out];exact HAx.out),HKx,HFx,HBx,HZx⟩
     case measure=>simp[intOf]
   ·gi_wp2
    refine⟨HFk.out,HKk.out,?_,HKW.out,HZk.out⟩;rw[HSN.out];exact HAk.out
 case done=>
  rintro D ys V hD hys ⟨hha,hk,hsz⟩ hK;generalize hr:hullAll M ⟨[],M.pts.length⟩ (ys.map (·.1))=r at *
  have hout:hullGo r.next r.next.length r.first=OUT:=by
   rw[←HOU.out];unfold hull;rw[←hys];simp only;rw[hr]
  have hlen:r.next.length≤3*(realsTo M M.tris.length).length:=by
   rw[←hr,←hys];have:=hullAll_len M (ys.map (·.1)) ⟨[],M.pts.length⟩
   simpa using this
  have hre:(realsTo M M.tris.length).length≤M.tris.length:=by
   unfold realsTo;have:=List.length_filter_le (fun k:Nat=>Mr.realB M k) (List.range M.tris.length)
   simpa using this
  have f1:=hha.fC.cell 0 (.int .i64 r.first) rfl;have hL0:HullL w V (w.heap.size+1) D r.next (.slice none 0 0) []:=⟨hha.mC,hha.next,⟨rfl,.inl ⟨rfl,rfl⟩⟩,hha.bel,hK⟩;obtain⟨L,hLL⟩:∃L,r.next.length=L:=⟨_,rfl⟩;rw[hLL]at hout;have HL0:=Hd hL0;have HLL:=Hd hLL;have HOUT:=Hd hout;have hL9:L≤100000000000:=by have:=HO.out.tris;omega
  clear hha hk hsz hK hr hys hL0 hLL hout hlen hre;go_wp2
  go_loopw [9,10] (fun x9 x10 wr=>∃(x:Int) (out:List Int),x10=.int .i64 x∧out.length≤L∧Hid (out++hullGo r.next (L-out.length) x=OUT)∧Hid (HullL w wr (w.heap.size+1) D r.next x9 out)) (fun x9 _ _=>L-slen x9)
  case atStart=>exact⟨_,[],rfl,Nat.zero_le _,HOUT,HL0⟩
  case round=>
   obtain⟨x,out,rfl,hol,HG,HLq⟩:=hrel
   rename_i vo _
   obtain⟨A3,c3,hA3⟩:=own_slice HLq.out.own;subst hA3;have k1:=HLq.out.mC.cell 0 (.map (some (w.heap.size+1))) rfl;have hln:=HLq.out.next.len (t:=124) Tryz.underlying124 3;rw[HLL.out]at hln;by_cases hlt2:out.length<L
   ·obtain⟨nx,hnx⟩:∃nx,mget 0 x r.next=nx:=⟨_,rfl⟩
    have HNX:=Hd hnx;have hl2:(out.length:Int)<(L:Int):=by omega
    have hgo:(out++[x])++hullGo r.next (L-(out++[x]).length) nx=OUT:=by
     have h1:=HG.out;rw[show L-out.length=(L-(out++[x]).length)+1 by simp;omega]at h1;unfold hullGo at h1;rw[hnx]at h1
     simpa using h1
    have HGO:=Hd hgo;obtain⟨i0,hi',hz0,hz1,hz2⟩:=info_parts Tryz.info3';clear hnx hgo
    go_upto_region 16 with(at_builtin;refine wpList_append_own_at _ rfl _ _ 37 rfl w.heap.size 3 i0 (.int .i64 0) 1 8 Tryz.underlying37 hi' hz0 hz1 hz2 rfl (by decide) (.slice A3 out.length c3) out.length (out.map (Value.int .i64)) rfl (HLq.out.own.alloc _) ⟨wr.heap.size,0,none⟩ 1 1 [.int .i64 x] rfl rfl (cell_one_new _ _ _) (by simp[Value.oneCell']) (by show out.length+1≤_;unfold maxLen;omega) (by show(out.length+1)*8≤_;omega) (by have:=HLq.out.bel.size;simp;omega) ?_;intro v3 w3 hown3 hgrow _ hat3;obtain⟨g3,cp3,rfl⟩:=own_shape' hown3;have HG3:=Hd (HLq.out.grow hown3 hgrow);clear hown3 hgrow hat3)
    have hlk2:=HG3.out.next.look (z:=(0:Int)) Tryz.underlying124 (Mp.int_ok Tryz.underlying3) (Sq.zero3 w3) x;rw[HNX.out]at hlk2;have k2:=HG3.out.mC.cell 0 (.map (some (w.heap.size+1))) rfl;clear k1 hln;go_wp2;go_roundw
    case rel=>exact⟨nx,out++[x],rfl,by simp;omega,HGO,HG3⟩
    case measure=>
     show L-(out.length+1)<L-out.length
     omega
   ·have hLo:out.length=L:=by omega
    have hrim:out=OUT:=by
     have h1:=HG.out;rw[hLo,Nat.sub_self]at h1
     simpa [hullGo] using h1
    have HRI:=Hd hrim;have hnl:¬(out.length:Int)<(L:Int):=by omega
    clear hrim hLo;go_wp2;have fD:=HLq.out.dd;refine⟨by simp,.inl ⟨_,_,rfl,run_takeDeferred fD,?_⟩⟩;refine⟨.slice A3 out.length c3,by simp[results,Tryz.results29,go_sem],⟨_,rfl,?_,?_⟩⟩
    ·rw[←HRI.out]
     refine HLq.out.own.kept (grownBy_putObj' wr D (.deferred none)) (.inr (fun e=>?_));obtain⟨cc,hcc⟩:=own_block HLq.out.own e;rw[fD]at hcc;cases hcc
    ·exact HLq.out.bel.trans (belowK_b (w:=w) (Nat.le_refl _) _ D _ _ (by omega) fD rfl rfl)
 case stop=>
  intro D c pre V _ _ h _;exact h.elim
end Hu
end Go.Proofs.YtdihefgleefhmaaGreat
