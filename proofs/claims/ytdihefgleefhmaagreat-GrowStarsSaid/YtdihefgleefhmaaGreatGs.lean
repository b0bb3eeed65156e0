import Derived.Test.YtdihefgleefhmaaGreatGt
import Derived.Test.YtdihefgleefhmaaGreatFt
namespace Go.Proofs.YtdihefgleefhmaaGreat
open Go.RowKit
namespace Gs
open Wd Pr Ft
attribute [local go_sem] It.wide_fn It.wide_depth Oper.semAt_some
set_option maxRecDepth 100000 in
theorem arr40(d:Nat)(a b c:Int)(w:World):(Op.equalIn (d+2) 40 (.agg #[.int .i64 a,.int .i64 b,.int .i64 c]) (.agg #[.int .i64 a,.int .i64 b,.int .i64 c])).run Tryz.prog w=.ok true w:=by
 have u3:=Tryz.underlying3;have a3:=Tryz.isAgg3;have z3:=Tryz.sizeOf3;have hu:=Tryz.underlying40;simp only[Op.equalIn,Sem.run_bind,run_underlying hu,Result.andThen_ok];go_simp;simp only[show List.range' 0 3=[0,1,2]from rfl,List.forIn_cons,List.forIn_nil];simp[run_underlying u3,a3]
set_option maxRecDepth 100000 in
theorem arr41(d:Nat)(a b c:Bool)(w:World):(Op.equalIn (d+2) 41 (.agg #[.bool a,.bool b,.bool c]) (.agg #[.bool a,.bool b,.bool c])).run Tryz.prog w=.ok true w:=by
 have u3:=Tryz.underlying4;have a3:=Tryz.isAgg4;have hu:=Tryz.underlying41;simp only[Op.equalIn,Sem.run_bind,run_underlying hu,Result.andThen_ok];go_simp;simp only[show List.range' 0 3=[0,1,2]from rfl,List.forIn_cons,List.forIn_nil];simp[run_underlying u3,a3]
set_option maxRecDepth 100000 in
theorem eq43(T:Tri)(w:World):(Op.equalIn 10000 43 (tv T) (tv T)).run Tryz.prog w=.ok true w:=by
 obtain⟨a,b,c,d,e,f,x,y,z⟩:=T;have hS:Tryz.prog.underlying 43=some (.struct (Tryz.prog.fieldsOf 43)):=by kernel_rfl
 have a40:=Tryz.isAgg40;have a41:=Tryz.isAgg41;have z40:=Tryz.sizeOf40;have z41:=Tryz.sizeOf41;have k0:=fun w=>arr40 9997 a b c w
 have k1:=fun w=>arr40 9997 d e f w
 have k2:=fun w=>arr41 9997 x y z w
 rw[show(10000:Nat)=9999+1 from rfl,run_equalIn_agg w 9999 43 _ _ hS (by kernel_rfl)];simp only[Program.fieldsOf,Tryz.underlying43];simp only[Op.eqFields];go_simp
theorem neq43(T:Tri)(w:World):(binOp .neq 43 (tv T) (tv T)).run Tryz.prog w=.ok (.bool false) w:=by
 simp only[binOp];simp[Op.equal,Op.maxDepth,eq43 T w]
structure Hold(S g:Nat)(W u:World):Prop where
 bel:Below S W u
 at_:u.heap[g]? =W.heap[g]?
theorem Hold.refl(S g:Nat)(W:World):Hold S g W W:=⟨Below.refl _ _,rfl⟩
theorem Hold.later{S g:Nat}{W u v:World}(h:Hold S g W u)(hg:g<W.heap.size)(hS:S≤W.heap.size)(hb:Below u.heap.size u v):Hold S g W v:=
 ⟨h.bel.trans (hb.mono (Nat.le_trans hS h.bel.size)),(hb.block g (Nat.lt_of_lt_of_le hg h.bel.size)).trans h.at_⟩
theorem Hold.alloc{S g:Nat}{W u:World}(h:Hold S g W u)(hg:g<W.heap.size)(hS:S≤W.heap.size)(o:Obj):Hold S g W (u.alloc o):=h.later hg hS (bel_alloc (bel_refl u) o)
theorem Hold.set{S g:Nat}{W u:World}(h:Hold S g W u){c:Nat}(hc:S≤c)(hg:g≠c)(i:Nat)(v:Value):Hold S g W (u.setCell ⟨c,i,none⟩ v):=
 ⟨h.bel.setCell (p:=⟨c,i,none⟩) hc v,(heap_setCell_other u ⟨c,i,none⟩ g v hg).trans h.at_⟩
theorem row_same{W W':World}{B e s n:Nat}{v:Value}{xs:List Value}(h:W.ownsRow B e s v n xs)(hk:∀k,B≤k→k<W.heap.size→W'.heap[k]? =W.heap[k]?):W'.ownsRow B e s v n xs:=by
 obtain⟨h1,h2|⟨g,c,cur,h2,h3,h4,h5⟩⟩:=h
 ·exact⟨h1,.inl h2⟩
 ·exact⟨h1,.inr ⟨g,c,cur,h2,h3,(hk g h3 (Array.getElem?_eq_some_iff.1 h4).1).trans h4,h5⟩⟩
theorem mat_same{W W':World}{B b:Nat}{M:Mesh}{pV tV fV aV:Value}(h:MAt B W b M pV tV fV aV)(hk:∀k,B≤k→k<W.heap.size→W'.heap[k]? =W.heap[k]?):MAt B W' b M pV tV fV aV:=
 ⟨(hk b h.le h.head.lt).trans h.head,h.le,row_same h.pts hk,row_same h.tris hk,row_same h.free hk,row_same h.at_ hk,h.apart⟩
def cnt(M:Mesh)(i:Nat):Nat:=((List.range i).filter fun t=>decide ((tat M.tris t).v0≠-2)).length
theorem cnt_succ(M:Mesh)(i:Nat):cnt M (i+1)=if (tat M.tris i).v0=-2 then cnt M i else cnt M i+1:=by
 unfold cnt;rw[List.range_succ,List.filter_append,List.length_append];by_cases h:(tat M.tris i).v0=-2
 ·simp[h]
 ·simp[h]
theorem cnt_le(M:Mesh)(i:Nat):cnt M i≤i:=by
 unfold cnt;have:=List.length_filter_le (fun t=>decide ((tat M.tris t).v0≠-2)) (List.range i)
 simpa using this
def kpt(M:Mesh)(cs:List Nat)(i:Nat):Nat:=((List.range i).filter fun t=>decide ((tat M.tris t).v0≠-2)&&decide (t ∉ cs)).length
theorem kpt_succ(M:Mesh)(cs:List Nat)(i:Nat):kpt M cs (i+1)=if (tat M.tris i).v0≠-2∧i ∉ cs then kpt M cs i+1 else kpt M cs i:=by
 unfold kpt;rw[List.range_succ,List.filter_append,List.length_append];by_cases h:(tat M.tris i).v0=-2<;>by_cases h2:i∈cs<;>simp[h,h2]
theorem kpt_le(M:Mesh)(cs:List Nat)(i:Nat):kpt M cs i≤i:=by
 unfold kpt;have:=List.length_filter_le (fun t=>decide ((tat M.tris t).v0≠-2)&&decide (t ∉ cs)) (List.range i)
 simpa using this
theorem kpt_all(M:Mesh)(cs:List Nat)(hn:cs.Nodup)(h:∀x∈cs,M.live x):kpt M cs M.tris.length+cs.length=cnt M M.tris.length:=by
 have hp:(((List.range M.tris.length).filter fun t=>decide ((tat M.tris t).v0≠-2)).filter fun t=>decide (t∈cs)).Perm cs:=by
  rw[List.perm_iff_count];intro x;rw[List.Nodup.count ((List.nodup_range.sublist List.filter_sublist).sublist List.filter_sublist),List.Nodup.count hn];by_cases hx:x∈cs
  ·rw[if_pos hx,if_pos]
   rw[List.mem_filter,List.mem_filter,List.mem_range];exact⟨⟨(h x hx).1,by simpa using (h x hx).2⟩,by simpa using hx⟩
  ·rw[if_neg hx,if_neg]
   rw[List.mem_filter];intro hh;exact hx (by simpa using hh.2)
 have hl:=hp.length_eq;unfold kpt cnt;generalize List.range M.tris.length=R at *;rw[←hl];clear hl hp
 induction R with
 | nil=>rfl
 | cons x R ih=>
  by_cases h1:(tat M.tris x).v0=-2<;>by_cases h2:x∈cs<;>simp[h1,h2]at ih ⊢ <;> omega
abbrev Mem(xs:List (Nat×Nat)):={x:Nat×Nat // x∈xs }
def encM(xs:List (Nat×Nat))(x:Mem xs):Array Value:=#[.int .i64 x.1.1,.int .i64 x.1.2]
theorem around_pos(M:Mesh)(b bm bv gp cp gt ct ga ca:Nat)(fV:Value)(n v f:Nat)(xs:List (Nat×Nat))(L:List Nat)(w:World)(hL:bm∈L∧bv∈L∧b∈L∧gp∈L∧gt∈L∧ga∈L)
 (hv:v<M.at_.length) (hx:around M f v=some xs)
 (hB:Blk w bm 26 #[.pointer (some ⟨b,0,none⟩)]) (hV:Blk w bv 3 #[.int .i64 v]) (hR:MR w b M gp cp gt ct ga ca fV) :
 SeqStopsK Fence.wide n Tryz.prog 41 #[.pointer (some ⟨bm,0,none⟩),.pointer (some ⟨bv,0,none⟩)] (encM xs) (Keep L) (fun ys=>ys.map (·.1)=xs) (fun pre=>pre.map (·.1) <+: xs) xs.length w:=by
 intro l J Jx W hW hJ hJx hY h0;refine(Ar.around1 M b bm bv gp cp gt ct ga ca fV n l v f xs L (fun pre W=>∃ys:List (Mem xs),ys.map (·.1)=pre∧J ys W) (fun pre W=>∃ys:List (Mem xs),ys.map (·.1)=pre∧Jx ys W) hL hv hx ?_ W ?_ (hB.later hW) (hV.later hW) (hR.later hW) ⟨[],rfl,h0⟩).mono ?_
 ·rintro pre x W1 hp ⟨ys,hys,hj⟩
  have hl:ys.length<xs.length:=by
   have h1:=congrArg List.length hys;have h2:=hp.length_le;simp at h1 h2;omega
  refine YieldAt.mono (hY ys ⟨x,hp.subset (by simp)⟩ W1 hj hl) ?_;rintro e W' (⟨he,h1,h2⟩|⟨he,h1⟩)
  ·exact .inl ⟨he,⟨_,by simp[hys],h1⟩,h2⟩
  ·exact .inr ⟨he,_,by simp[hys],h1⟩
 ·rintro pre A B row ⟨ys,hys,hj⟩ hg' hr
  exact⟨ys,hys,hJ ys A B row hj hg' hr⟩
 ·rintro e W' ⟨he,⟨ys,hys,hj⟩|⟨pre,hp,ys,hys,hj⟩⟩
  ·exact⟨he,.inl ⟨ys,hys,hj⟩⟩
  ·exact⟨he,.inr ⟨ys,by show ys.map (·.1) <+: xs;rw[hys];exact hp,hj⟩⟩
theorem add2{S:Nat}{w2 u:World}{mb:Nat}{G:Mesh}(tp:Pt)(hM:MeshAt S w2 mb G)(hb:Below w2.heap.size w2 u)(hS:S≤w2.heap.size)(hp:G.pts.length≤1000000)(ha:G.at_.length≤1000000) :
 Calls Tryz.prog 8 #[.pointer (some ⟨mb,0,none⟩),pv tp] u fun e w'=>e=.returned (.int .i64 (G.pts.length:Nat))∧MeshF (fun k=>k<S∨(w2.heap.size≤k∧k<u.heap.size)) S w' mb (G.add tp)∧Below S u w'∧Same (fun k=>k<S∨(w2.heap.size≤k∧k<u.heap.size)) u w':=by
 refine Ad.add_any _ S mb G tp u ?_ (fun k hk=>by have:=hb.size;omega) (Nat.le_trans hS hb.size) hp ha;obtain⟨pV,tV,fV,aV,h⟩:=hM
 have hlt:∀{e s n:Nat} {v:Value} {xs:List Value} {g:Nat},w2.ownsRow S e s v n xs→v.ownBlock=some g→¬(g<S∨(w2.heap.size≤g∧g<u.heap.size)):=fun ho e=>by
  have:=ho.lt _ e;omega
 refine⟨pV,tV,fV,aV,h.later hb,fun hk=>?_,fun g hg=>?_⟩
 ·have h1:=h.le
  have h2:=h.head.lt;omega
 ·rcases hg with e|e|e|e
  ·exact hlt h.pts e
  ·exact hlt h.tris e
  ·exact hlt h.free e
  ·exact hlt h.at_ e
set_option maxHeartbeats 40000000 in
set_option maxRecDepth 100000 in
theorem law_any(ha:areaOk M1)(bs fs:Int)(p:Pt)(w:World):Calls Tryz.prog 3 #[.int .u32 bs,.int .u32 fs,pv p] w fun e w'=>e=.returned (.bool true)∧Below w.heap.size w w':=by
 have hft:=Ff.fit_any ha;have HFT:=Hd hft;clear hft ha;refine(callsIn_wide (n:=9)).1 (callsIn_of_wp_marks Tryz.func3 rfl trivial (wpIn_wide.2 ?_) rfl);simp only[Tryz.ntmps3,List.size_toArray,List.length_cons,List.length_nil,Nat.reduceAdd,Nat.reduceSub,Array.replicate_succ,Array.replicate_zero,List.push_toArray,List.append_toArray,List.nil_append,List.cons_append]
 go_upto_region 1 with(fail)
 have hb0:=bel_alloc (bel_alloc (bel_refl w) (.cells #[.int .i64 p.x,.int .i64 p.y] 24)) (.cells #[.bool false] 4);have h5:=(Blk.new w 24 #[.int .i64 p.x,.int .i64 p.y]).alloc (.cells #[.bool false] 4);have h6:=Blk.new' (n:=w.heap.size+1) (w.alloc (.cells #[.int .i64 p.x,.int .i64 p.y] 24)) 4 #[.bool false] (by simp);generalize (w.alloc (.cells #[.int .i64 p.x,.int .i64 p.y] 24)).alloc (.cells #[.bool false] 4)=W0 at *;have H5:=Hd h5;have H6:=Hd h6;have HB0:=Hd hb0;clear h5 h6 hb0
 go_upto_region 4 with(first
  | (go_at_call 6;refine(HFT.out _).mono ?_;rintro e w1 ⟨rfl,hb1⟩;have HB1:=Hd hb1;clear hb1)
  | (go_at_call 7;refine(Gd.grid_any _ _ _ fs _).mono ?_;rintro e w2 ⟨wd,ht,d0,d1,d2,d3,fa,a,b,c,mb,B,v2,hw,hh,rfl,hB,hM,hb2⟩;have HBp:=Hd hB;have HM:=Hd hM;have HB2:=Hd hb2;clear hB hM hb2))
 have h7:=Blk.new w2 26 #[.pointer (some ⟨mb,0,none⟩)];have hb3:=bel_alloc (bel_refl w2) (.cells #[.pointer (some ⟨mb,0,none⟩)] 26);obtain⟨g7,hg7⟩:∃g,w2.heap.size=g:=⟨_,rfl⟩;have hsz3:g7<(w2.alloc (.cells #[.pointer (some ⟨mb,0,none⟩)] 26)).heap.size:=by rw[←hg7];simp
 rw[hg7]at h7 ⊢;have HG7:=Hd hg7;generalize w2.alloc (.cells #[.pointer (some ⟨mb,0,none⟩)] 26)=W3 at *;have hM3:=HM.out;obtain⟨G,hG⟩:∃G,gridG fa wd ht (bits4 d0 d1 d2 d3) a b c B=G:=⟨_,rfl⟩;rw[hG]at hM3;have HGG:=Hd hG;have HM3:=Hd hM3;have hok:=Gt.facts fa wd ht hw hh d0 d1 d2 d3 a b c (Pr.tame p) (Pr.tame_near p) B HBp.out;rw[hG]at hok;obtain⟨n,hn'⟩:∃n,(wd+1)*(ht+1)=n:=⟨_,rfl⟩;rw[hn']at hok;have hn:G.pts.length=n:=hok.pts;have hal:G.at_.length≤9:=by rw[hok.atl];exact hok.few
 have hn9:n≤9:=hok.few;have HN:=Hd hn;have HAL:=Hd hal;have HOK:=Hd hok;clear hok hn' HGG HBp;have H7:=Hd h7;have HB3:=Hd hb3;obtain⟨S,hS⟩:∃S,w1.heap.size=S:=⟨_,rfl⟩;rw[hS]at HM3;have hS7:S≤g7:=by have:=HB2.out.size;omega
 have H5':=Hd (((H5.out.later HB1.out).later HB2.out).later hb3);have H6':=Hd (((H6.out.later HB1.out).later HB2.out).later hb3);have hg5:w.heap.size<S∧w.heap.size+1<S:=by have:=(H6.out.later HB1.out).lt;omega
 have HBW:=Hd (bel_step (bel_step (bel_step HB0.out HB1.out) HB2.out) hb3);have c7:=h7.cell 0 (.pointer (some ⟨mb,0,none⟩)) rfl;clear hM3 hG hal h7 hb3 hS hg7 HM H5 H6 HB0 HB1 HFT;generalize wrap64 (bs / 256)=z1;generalize wrap64 (bs / 512)=z2
 go_upto_region 6 with(fail)
 clear c7
 go_cut [9]from 47 to 50 (fun v9 wx=>∃g9:Nat,v9=.pointer (some ⟨g9,0,none⟩)∧g7<g9∧Hid (MeshF (fun k=>k<S∨k=g7∨k=g9) S wx mb (G.add (Pr.tame p)))∧Hid (Blk wx g9 3 #[.int .i64 n])∧Hid (Hold S g7 W3 wx))
 case first=>
  have l7:∀u,Hold S g7 W3 u→u.cell? ⟨g7,0,none⟩=some (.pointer (some ⟨mb,0,none⟩)):=fun u hu=>(World.cell?_of_block (a:=⟨g7,0,none⟩) hu.at_).trans (H7.out.cell 0 _ rfl)
  have l5:∀u,Hold S g7 W3 u→u.cell? ⟨w.heap.size,0,none⟩=some (.int .i64 p.x):=fun u hu=>(World.cell?_of_block (a:=⟨w.heap.size,0,none⟩) (hu.bel.block _ hg5.1)).trans (H5'.out.cell 0 _ rfl)
  have l6:∀u,Hold S g7 W3 u→u.cell? ⟨w.heap.size,1,none⟩=some (.int .i64 p.y):=fun u hu=>(World.cell?_of_block (a:=⟨w.heap.size,1,none⟩) (hu.bel.block _ hg5.1)).trans (H5'.out.cell 1 _ rfl)
  have hS3:S≤W3.heap.size:=by omega
  go_region_held3 (fun w'=>Hold S g7 W3 w') (first| with_reducible assumption|with_reducible exact Hold.later (Hold.refl _ _ _) hsz3 hS3 (bel_drew (bel_refl _))|with_reducible exact Hold.later (Hold.refl _ _ _) hsz3 hS3 (bel_drew (bel_alloc (bel_refl _) _))|with_reducible exact Hold.alloc (by assumption) hsz3 hS3 _|with_reducible exact Hold.alloc (Hold.later (Hold.refl _ _ _) hsz3 hS3 (bel_drew (bel_refl _))) hsz3 hS3 _|with_reducible exact Hold.set (by assumption) (by omega) (by omega) _ _) (first
   | (go_at_call 9;refine(Pr.tame_any p _).mono ?_;rintro e w4 ⟨rfl,hb4⟩;have hh4:=Hold.later (S:=S) (g:=g7) (W:=W3) (by assumption) hsz3 hS3 hb4;have HB4:=Hd (show Below W3.heap.size W3 w4 from bel_step (by first| with_reducible exact bel_drew (bel_refl _)|with_reducible exact bel_drew (bel_alloc (bel_refl _) _)) hb4);have hsz4:=HB4.out.size;try (have TY4:=Hd (Blk.later (show Blk (W3.alloc (.cells #[.int .i64 0] 3)).drew W3.heap.size 3 #[.int .i64 0]from Blk.new W3 3 _) hb4));clear hb4)
   | (go_at_call 8;refine(add2 (Pr.tame p) HM3.out (bel_step HB3.out (by first| with_reducible exact HB4.out|with_reducible exact bel_alloc HB4.out _)) (by have:=HG7.out;omega) (by omega) (by have:=HAL.out;omega)).mono ?_;rintro e w5 ⟨rfl,hm5,hb5,hs5⟩;rw[hn];have hh5:Hold S g7 W3 w5:=⟨Below.trans (Hold.bel (g:=g7) (by assumption)) hb5,(hs5 g7 (.inr ⟨by have:=HG7.out;omega,Nat.lt_of_lt_of_le hsz3 (Below.size (B:=S) (Hold.bel (g:=g7) (by assumption)))⟩)).trans (Hold.at_ (S:=S) (by assumption))⟩;have HM5:=Hd hm5;(first| (have TY5:=Hd (show Blk w5 W3.heap.size 3 #[.int .i64 0]from(hs5 W3.heap.size (.inr ⟨by have:=HG7.out;omega,TY4.out.lt⟩)).trans TY4.out);have tz:=TY5.out.cell 0 _ rfl;have tf:=TY5.out.frozen 0)|(have TY5:=Hd (show Blk w5 w4.heap.size 3 #[.int .i64 0]from(hs5 w4.heap.size (.inr ⟨by have:=HG7.out;have:=HB4.out.size;omega,by simp⟩)).trans (Blk.new w4 3 #[.int .i64 0]));have tz:=TY5.out.cell 0 _ rfl;have tf:=TY5.out.frozen 0)|skip);clear hm5 hb5 hs5))
  ·have hs5:=(Hold.bel hh5).size
   go_wp2_with fail
   go_meet
   exact⟨_,rfl,by omega,Hd ((HM5.out.wider _ (fun k hk=>by have:=HG7.out;rcases hk with hk|hk|hk;exact .inl (.inl hk);exact .inl (.inr ⟨by omega,by omega⟩);exact .inr (by omega))).later (bel_alloc (bel_refl w5) _)),Hd (Blk.new w5 3 _),Hd (by assumption)⟩
  ·go_wp2_with fail
   go_meet
   exact⟨_,rfl,by omega,Hd (Iq.MeshF.grown (HM5.out.wider _ (fun k hk=>by have:=HG7.out;rcases hk with hk|hk|hk;exact .inl (.inl hk);exact .inl (.inr ⟨by omega,by simp;omega⟩);exact .inl (.inr ⟨by omega,by simp;omega⟩))) (Bl.set_grown w5 w4.heap.size 0 _) fun g e=>.inr (.inr (Option.some.inj e).symm)),Hd (TY5.out.set 0 _),Hd (by assumption)⟩
  ·have hs4:=TY4.out.lt
   go_wp2_with fail
   go_meet
   exact⟨_,rfl,by omega,Hd (Iq.MeshF.grown (HM5.out.wider _ (fun k hk=>by have:=HG7.out;rcases hk with hk|hk|hk;exact .inl (.inl hk);exact .inl (.inr ⟨by omega,by omega⟩);exact .inl (.inr ⟨by omega,by omega⟩))) (Bl.set_grown w5 W3.heap.size 0 _) fun g e=>.inr (.inr (Option.some.inj e).symm)),Hd (TY5.out.set 0 _),Hd (by assumption)⟩
 case rest=>
  obtain⟨g9,rfl,hg9,HM9,H9,HH9⟩:=hcut;have hokk:=HOK.out;obtain⟨tp,htp⟩:∃tp,Pr.tame p=tp:=⟨_,rfl⟩;rw[htp]at HM9 hokk;have htpn:tp.near:=htp▸Pr.tame_near p;obtain⟨G1,hG1⟩:∃G1,G.add tp=G1:=⟨_,rfl⟩;rw[hG1]at HM9;have hp1:G1.pts.length=n+1:=by rw[←hG1,←hn];show(G.pts++[tp]).length=_;simp
  have ha1:G1.at_.length=n+1:=by rw[←hG1,←hokk.atl];show(G.at_++[-1]).length=_;simp
  have ht1:G1.tris.length≤1000:=by rw[←hG1];exact hokk.tfew
  have hf1:G1.free.length≤1000:=by rw[←hG1];exact hokk.ffew
  have k1:=hokk.none;have k2:=hokk.pat;have k3:=hokk.ok;have k4:=hokk.wf;have k5:=hokk.some;have k6:=hokk.ins;have k7:=hokk.sane;have k8:=hokk.live;rw[hG1]at k1 k2 k3 k4 k5 k6 k7 k8;have K7:=Hd k7;have K8:=Hd k8;have K1:=Hd k1;have K2:=Hd k2;have K3:=Hd k3;have K4:=Hd k4;have K6:=Hd k6;have h7c:=Hd (show Blk wc g7 26 #[.pointer (some ⟨mb,0,none⟩)]from HH9.out.at_.trans H7.out);have c7:=h7c.out.cell 0 (.pointer (some ⟨mb,0,none⟩)) rfl;have hcp:=Cl.copy_any S mb G1 wc HM9.out.at_ (by omega) (by omega) (by omega) (by omega);have HCP:=Hd hcp;have hszc:W3.heap.size≤wc.heap.size:=HH9.out.bel.size;have HTP:=Hd htpn;clear hokk htp hG1 k1 k2 k3 k4 k6 k7 k8 hcp htpn HOK HM3 HAL HB3 HB2 hn HN HG7
  go_upto_region 8 with(go_at_call 10;refine HCP.out.mono ?_;rintro e w6 ⟨cb,rfl,hC,hb6⟩;have HC:=Hd hC;have HB6:=Hd hb6;clear hC hb6)
  have hA8:=bel_alloc (bel_refl w6) (.cells #[.pointer (some ⟨cb,0,none⟩)] 26);have h10:=Blk.new w6 26 #[.pointer (some ⟨cb,0,none⟩)];obtain⟨g10,hg10⟩:∃g,w6.heap.size=g:=⟨_,rfl⟩;have hs10:g10<(w6.alloc (.cells #[.pointer (some ⟨cb,0,none⟩)] 26)).heap.size:=by rw[←hg10];simp
  have hwc10:wc.heap.size≤g10:=by rw[←hg10];exact HB6.out.size
  rw[hg10]at h10 ⊢;generalize w6.alloc (.cells #[.pointer (some ⟨cb,0,none⟩)] 26)=W8 at *;have hbc8:=bel_step HB6.out hA8;have h7w:=h7c.out.later hbc8;have h9w:=H9.out.later hbc8;have hC8:=HC.out.later hA8;have c7:=h7w.cell 0 (.pointer (some ⟨mb,0,none⟩)) rfl;have c9:=h9w.cell 0 (.int .i64 n) rfl
  have hm8:MeshF (fun k=>k<S∨k=g7∨k=g9∨(wc.heap.size≤k∧k<W8.heap.size)) S W8 mb G1:=(HM9.out.wider _ fun k hk=>by
   rcases hk with hk|hk|hk|hk
   ·exact .inl (.inl hk)
   ·exact .inl (.inr (.inl hk))
   ·exact .inl (.inr (.inr hk))
   ·exact .inr hk.1).later hbc8
  have hbw8:Below S W3 W8:=HH9.out.bel.trans (hbc8.mono (by omega));have h9lt:=H9.out.lt;have HM8:=Hd hm8;have HC8:=Hd hC8;have H7w:=Hd h7w;have H9w:=Hd h9w;have H10:=Hd h10;have HBW8:=Hd hbw8;have H6w:=Hd (show Blk W8 (w.heap.size+1) 4 #[.bool false]from(hbw8.block _ hg5.2).trans H6'.out);have n0:(0:Int)≤(n:Int):=by omega
  clear hA8 h10 hg10 hbc8 h7w h9w hC8 hm8 hbw8 HCP HM9 H9 HH9 HC HB6 h7c H6' H5' H7;rcases K6.out with⟨t0,k,q,x1,x2,x3,x4⟩|⟨M',cs,L,kk,x1,x2,x3⟩
  ·have hi:=Iz.insert_at mb n G1 0 t0 k q W8 (by
    obtain⟨gp,cp,gt,ct,ga,ca,fV,hR⟩:=HM8.out.at_.read (by omega) k5 (by omega);exact⟨gp,cp,gt,ct,ga,ca,fV,hR⟩) K3.out K4.out (by omega) k5 x1 x2 (by rw[K2.out];exact x3) x4
   have HI:=Hd hi;clear hi x1 x2 x3 x4
   go_upto_region 9 with(go_at_call 11;refine HI.out.mono ?_;rintro e w9 ⟨rfl,hb9⟩;have HB9:=Hd hb9;clear hb9)
   obtain⟨gp,cp,gt,ct,ga,ca,fV,hR0⟩:=HM8.out.at_.read (by omega) k5 (by omega);obtain⟨gp',cp',gt',ct',ga',ca',fV',hR0'⟩:=HC8.out.read (by omega) k5 (by omega);have HR:=Hd (hR0.later HB9.out);have HR':=Hd (hR0'.later HB9.out);have H7x:=Hd (H7w.out.later HB9.out);have H9x:=Hd (H9w.out.later HB9.out);have H10x:=Hd (H10.out.later HB9.out);have H6x:=Hd (H6w.out.later HB9.out);have c10:=H10x.out.cell 0 (.pointer (some ⟨cb,0,none⟩)) rfl;have cc1:=HR'.out.head.cell 1 (.slice (some ⟨gt',0,none⟩) G1.tris.length ct') rfl;obtain⟨N,hN⟩:∃N,G1.tris.length=N:=⟨_,rfl⟩;rw[hN]at cc1;have HNN:=Hd hN;clear hR0 hR0' c7 c9 hN HM8 HC8 H7w H9w H10 H6w;go_wp2
   go_loopw [62] (fun a wr=>∃i:Nat,a=.int .i64 i∧i≤N∧Hid (Below w9.heap.size w9 wr)) (fun a _=>N-(intOf a).toNat)
   case atStart=>exact⟨0,rfl,Nat.zero_le _,Hd (bel_refl w9)⟩
   case round=>
    obtain⟨i,rfl,hi,HB⟩:=hrel;clear c10 cc1;have hR:=HR.out.later HB.out;have hR':=HR'.out.later HB.out;have h7:=H7x.out.later HB.out;have h10:=H10x.out.later HB.out;by_cases hlt:i<N
    ·have l7:=Gq.Later.cell (h7.cell 0 (.pointer (some ⟨mb,0,none⟩)) rfl)
     have l10:=Gq.Later.cell (h10.cell 0 (.pointer (some ⟨cb,0,none⟩)) rfl);have m1:=hR.head.cell 1 (.slice (some ⟨gt,0,none⟩) G1.tris.length ct) rfl;have m1':=hR'.head.cell 1 (.slice (some ⟨gt',0,none⟩) G1.tris.length ct') rfl;rw[HNN.out]at m1 m1';have q1:=Gq.Later.cell m1;have q2:=Gq.Later.cell m1';obtain⟨a0,a1,a2,a3,a4,a5,a6,a7,a8⟩:=hR.tris i (by rw[HNN.out];exact hlt);obtain⟨b0,b1,b2,b3,b4,b5,b6,b7,b8⟩:=hR'.tris i (by rw[HNN.out];exact hlt);obtain⟨T,hT⟩:∃T,tat G1.tris i=T:=⟨_,rfl⟩;rw[hT]at a0 a1 a2 a3 a4 a5 a6 a7 a8 b0 b1 b2 b3 b4 b5 b6 b7 b8;have a0:=Gq.Later.cell a0;have a1:=Gq.Later.cell a1;have a2:=Gq.Later.cell a2;have a3:=Gq.Later.cell a3;have a4:=Gq.Later.cell a4;have a5:=Gq.Later.cell a5;have a6:=Gq.Later.cell a6;have a7:=Gq.Later.cell a7;have a8:=Gq.Later.cell a8;have b0:=Gq.Later.cell b0;have b1:=Gq.Later.cell b1;have b2:=Gq.Later.cell b2;have b3:=Gq.Later.cell b3;have b4:=Gq.Later.cell b4;have b5:=Gq.Later.cell b5;have b6:=Gq.Later.cell b6;have b7:=Gq.Later.cell b7;have b8:=Gq.Later.cell b8;have hne:∀u:World,(binOp .neq 43 (tv T) (tv T)).run Tryz.prog u=.ok (.bool false) u:=fun u=>neq43 T u
     have i0:(0:Int)≤(i:Int):=by omega
     have i1:(i:Int)<(N:Int):=by omega
     have wi:IntKind.i64.wrap ((i:Int)+1)=(i:Int)+1:=IntWalk.i64_in _ (by have:=HNN.out;omega);clear hR hR' h7 h10 hT m1 m1'
     go_upto_region 12 with(fail)
     refine Go.Gq.region (by kernel_rfl) (by kernel_rfl) ?_
     repeat (go_big_quiet_step (fail))
     refine wpQuiet_nil ?_;intro wx hw';have HX:=Hd (Go.Gq.later_bel hw');clear hw' l7 l10 q1 q2 a0 a1 a2 a3 a4 a5 a6 a7 a8 b0 b1 b2 b3 b4 b5 b6 b7 b8 hne;go_wp2;go_roundw
     case rel=>exact⟨i+1,by go_num,by omega,Hd (bel_step HB.out HX.out)⟩
     case measure=>simp[intOf];omega
    ·have c7:=h7.cell 0 (.pointer (some ⟨mb,0,none⟩)) rfl
     have c9:=(H9x.out.later HB.out).cell 0 (.int .i64 n) rfl;have hat:=Mr.at_any G1 mb n wr ⟨_,_,_,_,_,_,_,hR⟩ (by omega);rw[K1.out]at hat;have HAT:=Hd hat;have hNi:N=i:=by omega
     subst hNi;have ni:¬(N:Int)<(N:Int):=by omega
     clear hR hR' h7 h10 hat
     go_wp2_with (go_at_call 12;refine HAT.out.mono ?_;rintro e w10 ⟨rfl,rfl⟩;have h6:=H6x.out.later HB.out;have s6:=h6.cell 0 _ rfl;have f6:=h6.frozen 0;have H66:=Hd h6;have HBb:=Hd (bel_step HB9.out HB.out);clear h6)
     have cF:(wr.setCell ⟨w.heap.size+1,0,none⟩ (.bool true)).cell? ⟨w.heap.size+1,0,none⟩=some (.bool true):=(H66.out.set 0 _).cell 0 _ rfl;exact⟨.bool true,by simp[results,Tryz.results3,go_sem,cF],rfl,(HBW.out.trans ((HBW8.out.mono (by omega)).trans (HBb.out.mono (by have:=HBW.out.size;have:=HBW8.out.size;omega)))).setCell (p:=⟨w.heap.size+1,0,none⟩) (Nat.le_succ _) _⟩
  ·obtain⟨y1,y2,y3,y4⟩:=x3
   have hi:=x1 (fun k=>k<S∨k=g7∨k=g9∨(wc.heap.size≤k∧k<W8.heap.size)) S mb W8 HM8.out (fun k hk=>by have:=HBW8.out.size;omega) (by have:=HBW8.out.size;omega);have HI:=Hd hi;have HST:=Hd x2;clear hi x1 x2
   go_upto_region 16 with(go_at_call 11;refine HI.out.mono ?_;rintro e w9 ⟨rfl,hm9,hb9,hs9⟩;have HM9:=Hd hm9;have HB9:=Hd hb9;have HS9:=Hd hs9;clear hm9 hb9 hs9)
   have hp9:M'.pts.length=n+1:=by rw[y1];exact hp1
   have ha9:M'.at_.length=n+1:=by rw[y2];exact ha1
   obtain⟨gp,cp,gt,ct,ga,ca,fV,hR0⟩:=HM9.out.at_.read (by omega) y4 (by omega)
   have hC9:MeshAt wc.heap.size w9 cb G1:=by
    obtain⟨pV,tV,fV',aV,hC⟩:=HC8.out;exact⟨pV,tV,fV',aV,mat_same hC fun k h1 h2=>HS9.out k (.inr (.inr (.inr ⟨h1,h2⟩)))⟩
   obtain⟨gp',cp',gt',ct',ga',ca',fV',hR0'⟩:=hC9.read (by omega) k5 (by omega);have HR:=Hd hR0;have HR':=Hd hR0';have hs7:=HS9.out g7 (.inr (.inl rfl));have H7x:=Hd (show Blk w9 g7 26 _ from hs7.trans H7w.out);have H9x:=Hd (show Blk w9 g9 3 _ from(HS9.out g9 (.inr (.inr (.inl rfl)))).trans H9w.out);have H10x:=Hd (show Blk w9 g10 26 _ from(HS9.out g10 (.inr (.inr (.inr ⟨hwc10,hs10⟩)))).trans H10.out);have H6x:=Hd (show Blk w9 (w.heap.size+1) 4 _ from(HS9.out _ (.inl hg5.2)).trans H6w.out);have HBW9:=Hd (show Below w.heap.size w w9 from HBW.out.trans ((HBW8.out.mono (by omega)).trans (HB9.out.mono (by omega))));have c7:=H7x.out.cell 0 (.pointer (some ⟨mb,0,none⟩)) rfl;have c9:=H9x.out.cell 0 (.int .i64 n) rfl;have h79:g7<w9.heap.size∧g9<w9.heap.size∧g10<w9.heap.size:=⟨H7x.out.lt,H9x.out.lt,H10x.out.lt⟩;clear hR0 hR0' hC9 hs7 HM8 HC8 H7w H9w H10 H6w HI HM9 HB9 HS9 K6;have e7:=cell_later c7 (bel_alloc (bel_refl w9) (.cells #[.int .i64 0] 3));have e9:=cell_later c9 (bel_alloc (bel_refl w9) (.cells #[.int .i64 0] 3));clear c7 c9
   go_wp2_with (go_at_call 13;refine(callsIn_wide.1 (Ar.around_in mb 9 n _)).mono ?_;rintro e w5 ⟨rfl,rfl⟩)
   have hV0b:=bel_alloc (bel_alloc (bel_alloc (bel_refl w9) (.cells #[.int .i64 0] 3)) (.cells #[.pointer (some ⟨mb,0,none⟩)] 26)) (.cells #[.int .i64 n] 3);have h12:=((Blk.new w9 3 #[.int .i64 0]).alloc (.cells #[.pointer (some ⟨mb,0,none⟩)] 26)).alloc (.cells #[.int .i64 n] 3);have hBm:=(Blk.new' (n:=w9.heap.size+1) (w9.alloc (.cells #[.int .i64 0] 3)) 26 #[.pointer (some ⟨mb,0,none⟩)] (by simp)).alloc (.cells #[.int .i64 n] 3);have hBv:=Blk.new' (n:=w9.heap.size+2) ((w9.alloc (.cells #[.int .i64 0] 3)).alloc (.cells #[.pointer (some ⟨mb,0,none⟩)] 26)) 3 #[.int .i64 n] (by simp);obtain⟨V0,hV0⟩:∃V,((w9.alloc (.cells #[.int .i64 0] 3)).alloc (.cells #[.pointer (some ⟨mb,0,none⟩)] 26)).alloc (.cells #[.int .i64 n] 3)=V:=⟨_,rfl⟩;have hsV:V0.heap.size=w9.heap.size+3:=by rw[←hV0];simp
   rw[hV0]at hV0b h12 hBm hBv ⊢;have hR9:=HR.out.later hV0b;have hlt9:=HR.out.lt (by omega) y4 (by omega)
   have hin:∀j∈(w9.heap.size+1)::(w9.heap.size+2)::mblocks mb gp gt ga,j<V0.heap.size∧j≠w9.heap.size:=by
    intro j hj;rcases List.mem_cons.1 hj with rfl|hj
    ·omega
    rcases List.mem_cons.1 hj with rfl|hj
    ·omega
    ·have:=hlt9 j hj
     omega
   have HIN:=Hd hin;have hLk:L.length=kk:=HST.out.len
   have hkk:kk≤1002:=by
    have h1:=Dq.nodup_len G1.tris.length cs HST.out.nod fun x hx=>(HST.out.sub x hx).1
    have h2:=HST.out.two;omega
   clear hV0 hlt9 e7 e9
   refine range_set (n:=9) (by omega) (gf:=41) (lb:=#[.pointer (some ⟨w9.heap.size+1,0,none⟩),.pointer (some ⟨w9.heap.size+2,0,none⟩)]) rfl (enters_of Tryz.func41 (by kernel_rfl) rfl)
    (around_pos M' mb (w9.heap.size+1) (w9.heap.size+2) gp cp gt ct ga ca fV 8 n kk L ((w9.heap.size+1)::(w9.heap.size+2)::mblocks mb gp gt ga) V0 (by simp[mblocks]) (by omega) HST.out.ar hBm hBv hR9) Keep.trans (Keep.put fun j hj=>(hin j hj).1) (fun _=>rfl)
    (fun(pre:List (Mem L)) V=>Below w9.heap.size w9 V∧Blk V w9.heap.size 3 #[.int .i64 (pre.length:Int)]∧V0.heap.size≤V.heap.size)
    (fun _ _ _=>False)
    (fun _ A B row h hg' hr=>⟨h.1.grown hg' h.1.size (fun k e=>by have:=(hr k e).1;omega),blk_kept h.2.1 hg' (fun r e=>(hr r e).2),Nat.le_trans h.2.2 hg'.size⟩)
    (fun _ _ _ _ _ h _ _=>h)
    ⟨hV0b,h12,Nat.le_refl _⟩
    (fun _ _ _=>True)
    (fun _ _ _ _ _ _ _ _ _=>trivial)
    (fun x Bx t=>(((t.setIfInBounds 88 (.int .i64 x.1.1)).setIfInBounds 89 (.int .i64 x.1.2)).setIfInBounds 14 (.int .i64 x.1.1)).setIfInBounds 15 (.int .i64 x.1.2))
    ?assign ?body ?done ?stop
   case assign=>
    intro l pre x V K hi hK2;simp only[encM]
    gi_wp2
    exact hK2 _ _ (keeps_later (Below.refl _ _)) (Keep.refl _ _) hi ⟨0,trivial,by simp only[List.setIfInBounds_toArray,List.set_cons_succ,List.set_cons_zero]⟩
   case body=>
    rintro l pre x Bx V ⟨hb,hc,hsz⟩ _ hN;simp only[List.setIfInBounds_toArray,List.set_cons_succ,List.set_cons_zero];obtain⟨⟨t,i⟩,hx⟩:=x;obtain⟨hi2,hside⟩:=HST.out.side _ hx;dsimp only at hi2 hside ⊢;subst hi2;have hlen1:((pre++[(⟨(t,2),hx⟩:Mem L)]).length:Int)=(pre.length:Int)+1:=by simp
    have wk:IntKind.i64.wrap ((pre.length:Int)+1)=(pre.length:Int)+1:=IntWalk.i64_in _ (by omega);obtain⟨pl,hpl⟩:∃pl:Int,(pre.length:Int)=pl:=⟨_,rfl⟩;rw[hpl]at hlen1 wk hc;obtain⟨s1,s2,fb,ff,xs,o,j,s3,s4,s5,s6,s7,s8,s9,s10⟩:=hside;have hlive:=K8.out o s7 s10;obtain⟨T,hT⟩:∃T,tat M'.tris t=T:=⟨_,rfl⟩;rw[hT]at s2 s3 s6 s9;have hR:=HR.out.later hb;have m7:=(H7x.out.later hb).cell 0 (.pointer (some ⟨mb,0,none⟩)) rfl;have m1:=hR.head.cell 1 (.slice (some ⟨gt,0,none⟩) M'.tris.length ct) rfl;obtain⟨a0,a1,a2,a3,a4,a5,a6,a7,a8⟩:=hR.tris t s1;rw[hT]at a0 a1 a2 a3 a4 a5 a6 a7 a8;have t0:(0:Int)≤(t:Int):=by omega
    have t1:(t:Int)<(M'.tris.length:Int):=by omega
    have hFD:∀u,Below w9.heap.size w9 u→Calls Tryz.prog 14 #[.pointer (some ⟨cb,0,none⟩),.int .i64 T.v0,.int .i64 T.v1] u fun e w'=>e=.returned (.tuple #[.int .i64 o,.int .i64 j,.bool true])∧Below u.heap.size u w':=fun u hu=>by
     have:=Mf.edge_any G1 cb ff T.v0 T.v1 xs u ⟨_,_,_,_,_,_,_,HR'.out.later hu⟩ K3.out (by omega) k5 fb s3 s2 s4 s5;rw[s6]at this;exact this
    have hCF:∀u,Below w9.heap.size w9 u→Calls Tryz.prog 15 #[.pointer (some ⟨cb,0,none⟩),.int .i64 o,pv tp] u fun e w'=>e=.returned (.bool true)∧Below u.heap.size u w':=fun u hu=>by
     have:=Dq.conflict_live G1 tp K3.out HTP.out K7.out (Iy.circ K3.out tp HTP.out) cb o hlive u ⟨_,_,_,_,_,_,_,HR'.out.later hu⟩;rw[s10]at this;exact this
    have hfo:∀u,Below w9.heap.size w9 u→u.cell? ⟨gt',o*9+6+j,none⟩=some (.bool T.f2):=fun u hu=>by
     obtain⟨_,_,_,_,_,_,b6,b7,b8⟩:=(HR'.out.later hu).tris o s7;rw[←s9];rcases(show j=0∨j=1∨j=2 by omega)with rfl|rfl|rfl
     ·exact b6
     ·exact b7
     ·exact b8
    have HFD:=Hd hFD;have HCF:=Hd hCF;have HFO:=Hd hfo;have HB:=Hd hb;have HC:=Hd hc;have HL1:=Hd hlen1;have o0:(0:Int)≤(o:Int):=by omega
    have o1:(o:Int)<(G1.tris.length:Int):=by omega
    have j0:(0:Int)≤(j:Int):=by omega
    have j1:(j:Int)<3:=by omega
    clear hR hFD hCF hfo s2 s3 s4 s5 s6 s9 s10 hlive hT hb hc hlen1 hN hpl hin
    gi_upto_region 21 with(fail)
    clear m7 m1 a0 a1 a2 a3 a4 a5 a6 a7 a8;have hbl:=Blk.new V 43 #[.int .i64 T.v0,.int .i64 T.v1,.int .i64 T.v2,.int .i64 T.n0,.int .i64 T.n1,.int .i64 T.n2,.bool T.f0,.bool T.f1,.bool T.f2];have hA1:=bel_alloc (bel_refl V) (.cells #[.int .i64 T.v0,.int .i64 T.v1,.int .i64 T.v2,.int .i64 T.n0,.int .i64 T.n1,.int .i64 T.n2,.bool T.f0,.bool T.f1,.bool T.f2] 43);obtain⟨vb,hvb⟩:∃vb,V.heap.size=vb:=⟨_,rfl⟩;have hvb9:w9.heap.size<vb:=by have:=HC.out.lt;omega
    rw[hvb]at hbl ⊢;generalize V.alloc (.cells #[.int .i64 T.v0,.int .i64 T.v1,.int .i64 T.v2,.int .i64 T.n0,.int .i64 T.n1,.int .i64 T.n2,.bool T.f0,.bool T.f1,.bool T.f2] 43)=V1 at *;have y0:=hbl.cells 0 (.int .i64 T.v0) rfl;have y1:=hbl.cells 1 (.int .i64 T.v1) rfl;have HBL:=Hd hbl;have HA1:=Hd hA1;have HVB:=Hd hvb;clear hbl hA1 hvb;refine Go.Gq.region_in (by kernel_rfl) (by kernel_rfl) (by kernel_rfl) ?_
    repeat (go_big_quiet_step ((fail)))
    refine wpQuiet_nil ?_;intro wx hw';have HX:=Hd (Go.Gq.later_bel hw');clear hw' y0 y1;have hcx:=(HC.out.later HA1.out).later HX.out;have c0:=hcx.cell 0 (.int .i64 pl) rfl;have c1:=hcx.frozen 0;have HCX:=Hd hcx;clear hcx
    gi_upto_region 23 with(fail)
    have hbs:Below w9.heap.size w9 (wx.setCell ⟨w9.heap.size,0,none⟩ (.int .i64 (pl+1))):=bel_set (bel_step (bel_step HB.out HA1.out) HX.out) (Nat.le_refl _) _ _;have hcs:=HCX.out.set 0 (.int .i64 (pl+1));have hbls:=(HBL.out.later HX.out).other (c:=w9.heap.size) (by omega) 0 (.int .i64 (pl+1));have hkeep:KeepsFrom V0.heap.size V (wx.setCell ⟨w9.heap.size,0,none⟩ (.int .i64 (pl+1))):=((keeps_later HA1.out).trans (keeps_later HX.out)).trans ((KeepsOthers.setCell _ _ _).from _);have hsame:∀k,k<V.heap.size→k≠w9.heap.size→(wx.setCell ⟨w9.heap.size,0,none⟩ (.int .i64 (pl+1))).heap[k]? =V.heap[k]?:=fun k hk hn=>(Below.heap_setCell _ ⟨w9.heap.size,0,none⟩ _ _ hn).trans ((HX.out.block k (Nat.lt_of_lt_of_le hk HA1.out.size)).trans (HA1.out.block k hk))
    have hszs:V.heap.size≤(wx.setCell ⟨w9.heap.size,0,none⟩ (.int .i64 (pl+1))).heap.size:=by simp;exact Nat.le_trans HA1.out.size HX.out.size
    clear c0 c1;obtain⟨Vs,hVs⟩:∃Vs,wx.setCell ⟨w9.heap.size,0,none⟩ (.int .i64 (pl+1))=Vs:=⟨_,rfl⟩;rw[hVs]at hbs hcs hbls hkeep hsame hszs ⊢;have HBS:=Hd hbs;have HCS:=Hd hcs;have HBLS:=Hd hbls;have HKP:=Hd hkeep;have HSM:=Hd hsame;have HSZ:=Hd hszs;have c10:=(H10x.out.later hbs).cell 0 (.pointer (some ⟨cb,0,none⟩)) rfl;clear hbs hcs hbls hkeep hsame hszs hVs HC HCX HBL HX HA1
    gi_upto_region 24 with(gi_at_call 14;refine(CallsIn.inRound l (callsIn_wide.2 (HFD.out _ HBS.out))).mono ?_;rintro e w3 ⟨rfl,hb3⟩;have HB3:=Hd hb3;clear hb3)
    have hb3w:=bel_step HBS.out HB3.out;have l10:=Gq.Later.cell ((H10x.out.later hb3w).cell 0 (.pointer (some ⟨cb,0,none⟩)) rfl);have l7:=Gq.Later.cell ((H7x.out.later hb3w).cell 0 (.pointer (some ⟨mb,0,none⟩)) rfl);have l9:=Gq.Later.cell ((H9x.out.later hb3w).cell 0 (.int .i64 n) rfl);have q1':=Gq.Later.cell ((HR'.out.later hb3w).head.cell 1 (.slice (some ⟨gt',0,none⟩) G1.tris.length ct') rfl);have q2':=Gq.Later.cell ((HR.out.later hb3w).head.cell 0 (.slice (some ⟨gp,0,none⟩) M'.pts.length cp) rfl);obtain⟨p0,p1⟩:=(HR.out.later hb3w).pts n (by omega);rw[y1,K2.out]at p0 p1;have p0:=Gq.Later.cell p0;have p1:=Gq.Later.cell p1;have lf:=Gq.Later.cell (HFO.out w3 hb3w);have lb:=(HBLS.out.later HB3.out).cells 8 (.bool T.f2) rfl;have n1:(n:Int)<(M'.pts.length:Int):=by omega
    have hcg:∀u:Gq.Later w3,Calls Tryz.prog 15 #[.pointer (some ⟨cb,0,none⟩),.int .i64 o,pv tp] u.w fun e w'=>e=.returned (.bool true)∧Below u.w.heap.size u.w w':=fun u=>HCF.out u.w (bel_step hb3w u.bel)
    have HCG:=Hd hcg
    have hfin:∀wz,Below w3.heap.size w3 wz→KeepsFrom V0.heap.size V wz∧Keep ((w9.heap.size+1)::(w9.heap.size+2)::mblocks mb gp gt ga) V wz∧(Below w9.heap.size w9 wz∧Blk wz w9.heap.size 3 #[.int .i64 ((pre++[(⟨(t,2),hx⟩:Mem L)]).length:Int)]∧V0.heap.size≤wz.heap.size):=fun wz hz=>by
     refine⟨(HKP.out.trans (keeps_later HB3.out)).trans (keeps_later hz),fun k hk=>?_,bel_step hb3w hz,?_,?_⟩
     ·obtain⟨h1,h2⟩:=HIN.out k hk
      have h3:k<V.heap.size:=Nat.lt_of_lt_of_le h1 hsz;have h4:=HSZ.out;have h5:=HB3.out.size;exact(hz.block k (by omega)).trans ((HB3.out.block k (by omega)).trans (HSM.out k h3 h2))
     ·rw[HL1.out]
      exact(HCS.out.later HB3.out).later hz
     ·have h4:=HSZ.out
      have h5:=HB3.out.size;have h6:=hz.size;omega
    have HFIN:=Hd hfin;clear hcg hfin hb3w HKP HSM HSZ HCS HBS HB3 HFD HFO HCF HBLS HB c10;obtain⟨A0,hA0⟩:∃A,T.v0=A:=⟨_,rfl⟩;obtain⟨A1,hA1⟩:∃A,T.v1=A:=⟨_,rfl⟩;rw[hA0,hA1];clear hA0 hA1;simp only[List.append_eq,List.cons_append,List.nil_append];refine Go.Gq.region_in (by kernel_rfl) (by kernel_rfl) (by kernel_rfl) ?_;by_cases q0:(0:Int)≤A0
    ·by_cases q1:(0:Int)≤A1
     ·skip
      repeat (go_big_quiet_step ((go_at_call 15;exact Gq.call (HCG.out _))))
      refine wpQuiet_nil ?_;intro wz hw';have HZ:=Hd (Go.Gq.later_bel hw');clear hw' l10 l7 l9 lf lb q1' q2' p0 p1
      gi_wp2
      first| exact HFIN.out wz HZ.out|(have hfz:=HFIN.out wz HZ.out;rw[hsV]at hfz;exact hfz)
     ·skip
      repeat (go_big_quiet_step ((go_at_call 15;exact Gq.call (HCG.out _))))
      refine wpQuiet_nil ?_;intro wz hw';have HZ:=Hd (Go.Gq.later_bel hw');clear hw' l10 l7 l9 lf lb q1' q2' p0 p1
      gi_wp2
      first| exact HFIN.out wz HZ.out|(have hfz:=HFIN.out wz HZ.out;rw[hsV]at hfz;exact hfz)
    ·skip
     repeat (go_big_quiet_step ((go_at_call 15;exact Gq.call (HCG.out _))))
     refine wpQuiet_nil ?_;intro wz hw';have HZ:=Hd (Go.Gq.later_bel hw');clear hw' l10 l7 l9 lf lb q1' q2' p0 p1
     gi_wp2
     first| exact HFIN.out wz HZ.out|(have hfz:=HFIN.out wz HZ.out;rw[hsV]at hfz;exact hfz)
   case done=>
    rintro D ys V hD hys ⟨hb,hc,hsz⟩ hK
    have hyl:ys.length=kk:=by
     have:=congrArg List.length hys;rw[List.length_map]at this;omega
    rw[hyl]at hc;have hok':M'.ok:=⟨by rw[y1];exact K3.out.near,by omega,y3,by omega⟩
    have hDl:D<V.heap.size:=by
     rcases Nat.lt_or_ge D V.heap.size with h|h
     ·exact h
     ·rw[Array.getElem?_eq_none h]at hK;cases hK
    have hmk:Marks (w.heap.size+1) [D] V:=⟨by simp,fun D' hD'=>by
     rw[List.mem_singleton]at hD';subst hD';exact⟨by have:=H6x.out.lt;omega,hK⟩⟩
    have HMK:=Hd hmk;have HOK':=Hd hok';have c7:=(H7x.out.later hb).cell 0 (.pointer (some ⟨mb,0,none⟩)) rfl;have m1:=(HR.out.later hb).head.cell 1 (.slice (some ⟨gt,0,none⟩) M'.tris.length ct) rfl;have HB:=Hd hb;have HC:=Hd hc;obtain⟨N',hN'⟩:∃N',M'.tris.length=N':=⟨_,rfl⟩;rw[hN']at m1 y3 y4;have HN':=Hd hN';have hKk:=HST.out.two;have HKK:=Hd hKk;clear hys hyl hc hmk hK hD hDl hN' hb hin hR9 hBm hBv h12 hV0b hok' hKk;go_wp2
    go_loopw [22,189] (fun k a wr=>∃i:Nat,a=.int .i64 i∧i≤N'∧k=.int .i64 (cnt M' i:Nat)∧Hid (Below V.heap.size V wr)) (fun _ a _=>N'-(intOf a).toNat)
    case atStart=>exact⟨0,rfl,Nat.zero_le _,rfl,Hd (bel_refl V)⟩
    case round=>
     obtain⟨i,rfl,hi,rfl,HBi⟩:=hrel;by_cases hlt:i<N'
     ·obtain⟨a0,a1,a2,a3,a4,a5,a6,a7,a8⟩:=((HR.out.later HB.out).later HBi.out).tris i (by rw[HN'.out];exact hlt)
      have hcs:=cnt_succ M' i;have hcl:=cnt_le M' i;obtain⟨T,hT⟩:∃T,tat M'.tris i=T:=⟨_,rfl⟩;rw[hT]at a0 a1 a2 a3 a4 a5 a6 a7 a8 hcs;obtain⟨k,hk⟩:∃k,cnt M' i=k:=⟨_,rfl⟩;rw[hk]at hcs hcl ⊢;have i0:(0:Int)≤(i:Int):=by omega
      have i1:(i:Int)<(N':Int):=by omega
      have wi:IntKind.i64.wrap ((i:Int)+1)=(i:Int)+1:=IntWalk.i64_in _ (by omega);have wk:IntKind.i64.wrap ((k:Int)+1)=(k:Int)+1:=IntWalk.i64_in _ (by omega);have HCS:=Hd hcs;clear hT hk hcs
      go_upto_region 30 with(fail)
      have hbl:=Blk.new wr 43 #[.int .i64 T.v0,.int .i64 T.v1,.int .i64 T.v2,.int .i64 T.n0,.int .i64 T.n1,.int .i64 T.n2,.bool T.f0,.bool T.f1,.bool T.f2];have hA1:=bel_alloc (bel_refl wr) (.cells #[.int .i64 T.v0,.int .i64 T.v1,.int .i64 T.v2,.int .i64 T.n0,.int .i64 T.n1,.int .i64 T.n2,.bool T.f0,.bool T.f1,.bool T.f2] 43);generalize wr.alloc (.cells #[.int .i64 T.v0,.int .i64 T.v1,.int .i64 T.v2,.int .i64 T.n0,.int .i64 T.n1,.int .i64 T.n2,.bool T.f0,.bool T.f1,.bool T.f2] 43)=W1 at *;have z0:=hbl.cell 0 (.int .i64 T.v0) rfl;have HB1:=Hd (bel_step HBi.out hA1);clear hbl hA1 a0 a1 a2 a3 a4 a5 a6 a7 a8;by_cases hv:T.v0=-2
      ·have HC':=HCS.out
       rw[if_pos hv]at HC';have HC2:=Hd HC';have q:(T.v0 != (-2:Int))=false:=by simp[hv]
       clear HC';go_wp2;go_roundw
       case rel=>exact⟨i+1,by go_num,by omega,by rw[HC2.out],HB1⟩
       case measure=>simp[intOf];omega
      ·have HC':=HCS.out
       rw[if_neg hv]at HC';have HC2:=Hd HC';have q:(T.v0 != (-2:Int))=true:=by simp[hv]
       clear HC';go_wp2;go_roundw
       case rel=>exact⟨i+1,by go_num,by omega,by rw[HC2.out];go_num,HB1⟩
       case measure=>simp[intOf];omega
     ·have hNi:N'=i:=by omega
      subst hNi;have hbV:=HB.out.trans (HBi.out.mono HB.out.size);have c10:=(H10x.out.later hbV).cell 0 (.pointer (some ⟨cb,0,none⟩)) rfl;have m2:=(HR'.out.later hbV).head.cell 1 (.slice (some ⟨gt',0,none⟩) G1.tris.length ct') rfl;have ni:¬(N':Int)<(N':Int):=by omega
      clear ni HB;have HBV:=Hd hbV
      have hcx:cnt M' N'=cnt G1 G1.tris.length+2:=by
       have h1:=HST.out.all;rw[←HN'.out];exact h1
      have hcc:kpt G1 cs G1.tris.length+cs.length=cnt G1 G1.tris.length:=kpt_all G1 cs HST.out.nod fun x hx=>HST.out.sub x hx
      obtain⟨N,hN⟩:∃N,G1.tris.length=N:=⟨_,rfl⟩;rw[hN]at m2 hcx hcc ht1;have HN:=Hd hN;have HCX:=Hd hcx;have HCC:=Hd hcc;obtain⟨A,hA⟩:∃A,cnt M' N'=A:=⟨_,rfl⟩;rw[hA]at HCX ⊢;have HBi':=HBi;clear hcx hcc hN hA hlt hi hbV;obtain⟨Wv,rfl⟩:∃W,W=wr:=⟨_,rfl⟩;have HBV2:=HBV;go_wp2
      go_loopw [13,23,205] (fun kp bf a wr=>∃i:Nat,a=.int .i64 i∧i≤N∧bf=.int .i64 (cnt G1 i:Nat)∧kp=.int .i64 (kpt G1 cs i:Nat)∧Hid (Below Wv.heap.size Wv wr)) (fun _ _ a _=>N-(intOf a).toNat)
      case atStart=>exact⟨0,rfl,Nat.zero_le _,rfl,rfl,Hd (bel_refl Wv)⟩
      case round=>
       obtain⟨i,rfl,hi,rfl,rfl,HBj⟩:=hrel;clear c10 m2;have hbw:=HBV.out.trans (HBj.out.mono HBV.out.size);by_cases hlt:i<N
       ·obtain⟨a0,a1,a2,a3,a4,a5,a6,a7,a8⟩:=(HR'.out.later hbw).tris i (by rw[HN.out];exact hlt)
        have hcs:=cnt_succ G1 i;have hks:=kpt_succ G1 cs i;have hcl:=cnt_le G1 i;have hkl:=kpt_le G1 cs i;have hkp:(tat G1.tris i).v0≠-2→KeptAt G1 M' cs i:=fun h=>HST.out.kept i ⟨by rw[HN.out];exact hlt,h⟩
        obtain⟨T,hT⟩:∃T,tat G1.tris i=T:=⟨_,rfl⟩;rw[hT]at a0 a1 a2 a3 a4 a5 a6 a7 a8 hcs hks hkp;obtain⟨k,hk⟩:∃k,cnt G1 i=k:=⟨_,rfl⟩;obtain⟨kp,hkpe⟩:∃k,kpt G1 cs i=k:=⟨_,rfl⟩;rw[hk]at hcs hcl ⊢;rw[hkpe]at hks hkl ⊢;have i0:(0:Int)≤(i:Int):=by omega
        have i1:(i:Int)<(N:Int):=by omega
        have wi:IntKind.i64.wrap ((i:Int)+1)=(i:Int)+1:=IntWalk.i64_in _ (by omega);have wk:IntKind.i64.wrap ((k:Int)+1)=(k:Int)+1:=IntWalk.i64_in _ (by omega);have wkp:IntKind.i64.wrap ((kp:Int)+1)=(kp:Int)+1:=IntWalk.i64_in _ (by omega);have HCS:=Hd hcs;have HKS:=Hd hks;have HKPT:=Hd hkp;have HTT:=Hd hT;clear hk hkpe hcs hks hkp hT
        go_upto_region 36 with(fail)
        have hbl:=Blk.new wr 43 #[.int .i64 T.v0,.int .i64 T.v1,.int .i64 T.v2,.int .i64 T.n0,.int .i64 T.n1,.int .i64 T.n2,.bool T.f0,.bool T.f1,.bool T.f2];have hA1:=bel_alloc (bel_refl wr) (.cells #[.int .i64 T.v0,.int .i64 T.v1,.int .i64 T.v2,.int .i64 T.n0,.int .i64 T.n1,.int .i64 T.n2,.bool T.f0,.bool T.f1,.bool T.f2] 43);generalize wr.alloc (.cells #[.int .i64 T.v0,.int .i64 T.v1,.int .i64 T.v2,.int .i64 T.n0,.int .i64 T.n1,.int .i64 T.n2,.bool T.f0,.bool T.f1,.bool T.f2] 43)=X1 at *;have z0:=hbl.cell 0 (.int .i64 T.v0) rfl;have z1:=hbl.cell 1 (.int .i64 T.v1) rfl;have hbx:=bel_step hbw hA1;have HB1:=Hd (bel_step HBj.out hA1);have HBX:=Hd hbx;have HBL:=Hd hbl;have c7:=(H7x.out.later hbx).cell 0 (.pointer (some ⟨mb,0,none⟩)) rfl;clear hbl hA1 a0 a1 a2 a3 a4 a5 a6 a7 a8 hbw hbx;by_cases hv:T.v0=-2
        ·have HC':=HCS.out
         have HK':=HKS.out;rw[if_pos hv]at HC';rw[if_neg (fun h=>h.1 hv)]at HK';have HC2:=Hd HC';have HK2:=Hd HK';have q:(T.v0==(-2:Int))=true:=by simp[hv]
         clear HC' HK';go_wp2;go_roundw
         case rel=>exact⟨i+1,by go_num,by omega,by rw[HC2.out],by rw[HK2.out],HB1⟩
         case measure=>simp[intOf];omega
        ·have HC':=HCS.out
         rw[if_neg hv]at HC';have HC2:=Hd HC';obtain⟨g1,gb,gf,xs,g2,g3,g4,g5,g6⟩:=HKPT.out hv;rw[HTT.out]at g1 g2 g5 g6;have q:(T.v0==(-2:Int))=false:=by simp[hv]
         have hE:=Mf.edge_any M' mb gf T.v0 T.v1 xs X1 ⟨_,_,_,_,_,_,_,HR.out.later HBX.out⟩ HOK'.out (by omega) (by rw[HN'.out];exact y4) gb g2 g1 g3 g4;have HE:=Hd hE;obtain⟨r,hr⟩:∃r,edgeOf M' T.v0 T.v1 xs=r:=⟨_,rfl⟩;rw[hr]at HE g5 g6;have z2:=HBL.out.cell 2 (.int .i64 T.v2) rfl
         have hkn:(i ∉ cs→∃t j:Nat,r=some (t,j)∧t<N'∧(tat M'.tris t).v2=T.v2∧kpt G1 cs (i+1)=kp+1)∧(i∈cs→(∀t j,r=some (t,j)→t<N'∧(tat M'.tris t).v0≠T.v2∧(tat M'.tris t).v1≠T.v2∧(tat M'.tris t).v2≠T.v2)∧kpt G1 cs (i+1)=kp):=by
          refine⟨fun h=>?_,fun h=>⟨fun t j e=>?_,?_⟩⟩
          ·obtain⟨b1,b2,b3⟩:=g5 h
           exact⟨i,2,b1,by rw[←HN'.out];exact b2,b3,by rw[HKS.out,if_pos ⟨hv,h⟩]⟩
          ·have:=g6 h t j e
           rw[HN'.out]at this;exact this
          ·rw[HKS.out,if_neg (fun h'=>h'.2 h)]
         have HKN:=Hd hkn;clear HC' g1 g2 g3 g4 g5 g6 hE hr hkn gb z2;have z2:=HBL.out.cell 2 (.int .i64 T.v2) rfl
         have hq:∃ok,Hid (match r with| none=>ok=false|some x=>ok=true)∧True:=by
          cases r with
          | none=>exact⟨false,Hd rfl,trivial⟩
          | some x=>exact⟨true,Hd rfl,trivial⟩
         clear hq;cases r with
         | none=>
          have hin:i∈cs:=Classical.byContradiction fun h=>by
           obtain⟨t,j,e,_⟩:=HKN.out.1 h;cases e
          have hk1:=(HKN.out.2 hin).2;have HK1:=Hd hk1;have HE2:Hid (Calls Tryz.prog 14 #[.pointer (some ⟨mb,0,none⟩),.int .i64 T.v0,.int .i64 T.v1] X1 fun e w'=>e=.returned (.tuple #[.int .i64 (-1),.int .i64 0,.bool false])∧Below X1.heap.size X1 w'):=Hd HE.out;clear hin hk1 HE HKN
          go_upto_region 39 with(go_at_call 14;refine HE2.out.mono ?_;rintro e w3 ⟨rfl,hb3⟩;have HB3:=Hd hb3;clear hb3)
          refine Go.Gq.region (by kernel_rfl) (by kernel_rfl) ?_
          repeat (go_big_quiet_step (fail))
          refine wpQuiet_nil ?_;intro wz hw';have HZ:=Hd (Go.Gq.later_bel hw');clear hw';go_wp2;go_roundw
          case rel=>exact⟨i+1,by go_num,by omega,by rw[HC2.out];go_num,by rw[HK1.out],Hd (bel_step (bel_step HB1.out HB3.out) HZ.out)⟩
          case measure=>simp[intOf];omega
         | some x=>
          obtain⟨t,j⟩:=x
          have htN:t<N':=by
           by_cases h:i∈cs
           ·exact((HKN.out.2 h).1 t j rfl).1
           ·obtain⟨t',j',e,h1,_⟩:=HKN.out.1 h
            cases e;exact h1
          have HE2:Hid (Calls Tryz.prog 14 #[.pointer (some ⟨mb,0,none⟩),.int .i64 T.v0,.int .i64 T.v1] X1 fun e w'=>e=.returned (.tuple #[.int .i64 t,.int .i64 j,.bool true])∧Below X1.heap.size X1 w'):=Hd HE.out;obtain⟨Tm,hTm⟩:∃Tm,tat M'.tris t=Tm:=⟨_,rfl⟩
          have hkq:(kpt G1 cs (i+1):Nat)=if ((Tm.v0==T.v2)||((Tm.v1==T.v2)||(Tm.v2==T.v2)))=true then kp+1 else kp:=by
           by_cases h:i∈cs
           ·obtain⟨h1,h2⟩:=HKN.out.2 h
            obtain⟨_,e0,e1,e2⟩:=h1 t j rfl;rw[hTm]at e0 e1 e2;rw[h2,if_neg];simp[e0,e1,e2]
           ·obtain⟨t',j',e,_,e2,e3⟩:=HKN.out.1 h
            cases e;rw[hTm]at e2;rw[e3,if_pos];simp[e2]
          have HKQ:=Hd hkq;have HTM:=Hd hTm;have t0:(0:Int)≤(t:Int):=by omega
          have t1:(t:Int)<(N':Int):=by omega
          clear HE HKN hkq hTm
          go_upto_region 39 with(go_at_call 14;refine HE2.out.mono ?_;rintro e w3 ⟨rfl,hb3⟩;have HB3:=Hd hb3;clear hb3)
          have hbx3:=bel_step HBX.out HB3.out;have l7:=Gq.Later.cell ((H7x.out.later hbx3).cell 0 (.pointer (some ⟨mb,0,none⟩)) rfl);have hm1:=(HR.out.later hbx3).head.cell 1 (.slice (some ⟨gt,0,none⟩) M'.tris.length ct) rfl;rw[HN'.out]at hm1;have l1:=Gq.Later.cell hm1;obtain⟨e0,e1,e2,_,_,_,_,_,_⟩:=(HR.out.later hbx3).tris t (by rw[HN'.out];exact htN);rw[HTM.out]at e0 e1 e2;have l2:=Gq.Later.cell e0;have l3:=Gq.Later.cell e1;have l4:=Gq.Later.cell e2;have l5:=(HBL.out.later HB3.out).cells 2 (.int .i64 T.v2) rfl;obtain⟨q0,hq0⟩:∃q,(Tm.v0==T.v2)=q:=⟨_,rfl⟩;obtain⟨q1,hq1⟩:∃q,(Tm.v1==T.v2)=q:=⟨_,rfl⟩;obtain⟨q2,hq2⟩:∃q,(Tm.v2==T.v2)=q:=⟨_,rfl⟩;have hkq:=HKQ.out;rw[hq0,hq1,hq2]at hkq;have HKQ2:=Hd hkq;clear hkq hm1 e0 e1 e2 hbx3 HKQ HTM z0 z1 z2 c7;refine Go.Gq.region (by kernel_rfl) (by kernel_rfl) ?_;cases q0 with
          | true=>
           repeat (go_big_quiet_step (fail))
           refine wpQuiet_nil ?_;intro wz hw';have HZ:=Hd (Go.Gq.later_bel hw');clear hw' l1 l2 l3 l4 l5 l7;have HK2:=Hd (show kpt G1 cs (i+1)=kp+1 from HKQ2.out);go_wp2;go_roundw
           case rel=>exact⟨i+1,by go_num,by omega,by rw[HC2.out];go_num,by rw[HK2.out];go_num,Hd (bel_step (bel_step HB1.out HB3.out) HZ.out)⟩
           case measure=>simp[intOf];omega
          | false=>
           cases q1 with
           | true=>
            repeat (go_big_quiet_step (fail))
            refine wpQuiet_nil ?_;intro wz hw';have HZ:=Hd (Go.Gq.later_bel hw');clear hw' l1 l2 l3 l4 l5 l7;have HK2:=Hd (show kpt G1 cs (i+1)=kp+1 from HKQ2.out);go_wp2;go_roundw
            case rel=>exact⟨i+1,by go_num,by omega,by rw[HC2.out];go_num,by rw[HK2.out];go_num,Hd (bel_step (bel_step HB1.out HB3.out) HZ.out)⟩
            case measure=>simp[intOf];omega
           | false=>
            cases q2 with
            | true=>
             repeat (go_big_quiet_step (fail))
             refine wpQuiet_nil ?_;intro wz hw';have HZ:=Hd (Go.Gq.later_bel hw');clear hw' l1 l2 l3 l4 l5 l7;have HK2:=Hd (show kpt G1 cs (i+1)=kp+1 from HKQ2.out);go_wp2;go_roundw
             case rel=>exact⟨i+1,by go_num,by omega,by rw[HC2.out];go_num,by rw[HK2.out];go_num,Hd (bel_step (bel_step HB1.out HB3.out) HZ.out)⟩
             case measure=>simp[intOf];omega
            | false=>
             repeat (go_big_quiet_step (fail))
             refine wpQuiet_nil ?_;intro wz hw';have HZ:=Hd (Go.Gq.later_bel hw');clear hw' l1 l2 l3 l4 l5 l7;have HK2:=Hd (show kpt G1 cs (i+1)=kp from HKQ2.out);go_wp2;go_roundw
             case rel=>exact⟨i+1,by go_num,by omega,by rw[HC2.out];go_num,by rw[HK2.out],Hd (bel_step (bel_step HB1.out HB3.out) HZ.out)⟩
             case measure=>simp[intOf];omega
       ·have hNi:N=i:=by omega
        subst hNi;have c12:=((HC.out.later HBi'.out).later HBj.out).cell 0 (.int .i64 kk) rfl;have hcl:=cnt_le G1 N;obtain⟨b',hb'⟩:∃b,cnt G1 N=b:=⟨_,rfl⟩;obtain⟨kp',hkp'⟩:∃b,kpt G1 cs N=b:=⟨_,rfl⟩;have hcx:=HCX.out;have hcc:=HCC.out;have hkk':=HKK.out;rw[hb']at hcx hcc hcl ⊢;rw[hkp']at hcc ⊢;have eA:(A:Int)=(b':Int)+2:=by omega
        have ek:(kp':Int)=(b':Int)-((kk:Int)-2):=by omega
        have x1:IntKind.i64.wrap ((b':Int)+2)=(b':Int)+2:=IntWalk.i64_in _ (by omega);have x2:IntKind.i64.wrap ((kk:Int)-2)=(kk:Int)-2:=IntWalk.i64_in _ (by omega);have x3:IntKind.i64.wrap ((b':Int)-((kk:Int)-2))=(b':Int)-((kk:Int)-2):=IntWalk.i64_in _ (by omega);rw[eA,ek];have hbe:=bel_step HBV.out HBj.out;have h6:=H6x.out.later hbe;have s6:=h6.cell 0 (.bool false) rfl;have f6:=h6.frozen 0;have H6e:=Hd h6;have HBE:=Hd (bel_step HBW9.out hbe);have ni:¬(N:Int)<(N:Int):=by omega
        clear hcx hcc hkk' hb' hkp' eA ek hbe h6 hcl;go_wp2;exact Lm.leave w (Nat.le_succ _) [D] _ (Lm.set (Lm.later HMK.out (bel_step HBi'.out HBj.out)) 0 _) (H6e.out.set 0 (.bool true)) (bel_set HBE.out (Nat.le_succ _) _ _) fun W' hc hb=>⟨.bool true,by simp[results,Tryz.results3,go_sem,hc.cell 0 (.bool true) rfl],rfl,hb⟩
   case stop=>
    rintro D c pre V hD hp hf hK;exact hf.elim
end Gs
end Go.Proofs.YtdihefgleefhmaaGreat
