import Derived.Test.YtdihefgleefhmaaGreatMg
import Derived.Deep.RegionHeld3
namespace Go.Proofs.YtdihefgleefhmaaGreat
open Go.RowKit
def MagV(W:World)(p:Option Addr)(n c:Nat)(N L:Nat):Prop:=∃f,MagP W p n c f∧sumTo f n=N∧n≤L
def MagN(W:World)(p:Option Addr)(n c:Nat)(N:Nat):Prop:=∃f,MagP W p n c f∧sumTo f n=N∧∀j,n=j+1→f j≠0
theorem MagV.later{W W':World}{p:Option Addr}{n c N L:Nat}(h:MagV W p n c N L)(hb:Below W.heap.size W W'):MagV W' p n c N L:=by
 obtain⟨f,h1,h2,h3⟩:=h;exact⟨f,h1.later hb,h2,h3⟩
theorem MagN.later{W W':World}{p:Option Addr}{n c N:Nat}(h:MagN W p n c N)(hb:Below W.heap.size W W'):MagN W' p n c N:=by
 obtain⟨f,h1,h2,h3⟩:=h;exact⟨f,h1.later hb,h2,h3⟩
theorem MagN.short{W:World}{p:Option Addr}{n c N:Nat}(h:MagN W p n c N)(hN:N<18446744073709551616 ^ 3):MagV W p n c N 3:=by
 obtain⟨f,h1,h2,h3⟩:=h;refine⟨f,h1,h2,?_⟩;cases n with
 | zero=>omega
 | succ j=>
  have h4:=h3 j rfl;have h5:sumTo f (j+1)=sumTo f j+f j*18446744073709551616 ^ j:=rfl;have h6:18446744073709551616 ^ j≤f j*18446744073709551616 ^ j:=Nat.le_mul_of_pos_left _ (by omega);have h7:18446744073709551616 ^ j<18446744073709551616 ^ 3:=by omega
  have:=(Nat.pow_lt_pow_iff_right (by omega)).1 h7;omega
theorem MagN.far{W:World}{g n c N:Nat}(h:MagN W (some ⟨g,0,none⟩) n c N){b:Nat}(hb:g≠b)(i:Nat)(v:Value):MagN (W.setCell ⟨b,i,none⟩ v) (some ⟨g,0,none⟩) n c N:=by
 obtain⟨f,h1,h2,h3⟩:=h;refine⟨f,⟨h1.words,h1.le,h1.big,fun h0=>?_⟩,h2,h3⟩;obtain⟨g',hp,hg⟩:=h1.at_ h0;cases hp;refine⟨g,rfl,fun j hj=>?_⟩;have:=hg j hj;rw[World.cell?_setCell_far]<;>first| exact this|exact fun e=>hb e.symm
theorem MagV.nil(W:World):MagV W none 0 0 0 0:=⟨fun _=>0,⟨fun _ h=>by omega,Nat.le_refl _,by omega,fun h=>by omega⟩,rfl,Nat.le_refl _⟩
namespace Nu
open Mg
theorem add_mag(p q:Option Addr)(n c m d N N' L L':Nat)(w:World)(ha:MagV w p n c N L)(hb:MagV w q m d N' L')(hL:L≤999999)(hL':L'≤999999) :
  Calls Tryz.prog 101 #[.slice p n c,.slice q m d] w fun e w'=>(∃k c',e=.returned (.slice (some ⟨w.heap.size,0,none⟩) k c')∧MagN w' (some ⟨w.heap.size,0,none⟩) k c' (N+N'))∧Below w.heap.size w w':=by
 obtain⟨f,f1,f2,f3⟩:=ha;obtain⟨h,h1,h2,h3⟩:=hb;by_cases hmn:m≤n
 ·refine(add_ge p q n c m d f h w f1 h1 hmn (by omega)).mono ?_
  rintro e w' ⟨⟨k,c',he,hk,hk2⟩,hb⟩;subst hk2;refine⟨⟨_,c',he,_,hk,?_,fun j hj=>trim_last _ _ _ hj⟩,hb⟩;rw[sum_trim,sum_addF _ _ _ _ hmn,f2,h2]
 ·refine(add_lt q p m d n c h f w h1 f1 (by omega) (by omega)).mono ?_
  rintro e w' ⟨⟨k,c',he,hk,hk2⟩,hb⟩;subst hk2;refine⟨⟨_,c',he,_,hk,?_,fun j hj=>trim_last _ _ _ hj⟩,hb⟩;rw[sum_trim,sum_addF _ _ _ _ (by omega),f2,h2,Nat.add_comm]
abbrev nv(p:Option Addr)(n c:Nat):Value:=.agg #[.bool false,.slice p n c]
set_option maxRecDepth 100000 in
theorem make_any(p:Option Addr)(n c N L:Nat)(w:World)(h:MagV w p n c N L)(hL:L≤999999) :
  Calls Tryz.prog 100 #[.bool false,.slice p n c] w fun e w'=>(∃g k c',w.heap.size≤g∧e=.returned (nv (some ⟨g,0,none⟩) k c')∧MagN w' (some ⟨g,0,none⟩) k c' N)∧Below w.heap.size w w':=by
 have H:=Hd h;clear h
 go_enter Tryz.func100,Tryz.ntmps100
 go_wp2_with (go_at_call 101;refine(add_mag p none n c 0 0 N 0 L 0 _ (H.out.later (bel_alloc (bel_refl w) _)) (MagV.nil _) hL (by omega)).mono ?_;rintro e w1 ⟨⟨k,c',rfl,hm⟩,hb1⟩;simp only[World.size_alloc]at hm;have HM:=Hd hm;have HB:=Hd hb1;have K:=(Blk.new w 143 #[.bool false,.slice none 0 0]).later hb1;obtain⟨k0,k1,k2,k3⟩:=K.two;obtain⟨n0,n1,_,_⟩:=K.two_set (u:=.bool false) (v:=.slice (some ⟨w.heap.size+1,0,none⟩) k c');clear K hm hb1)
 refine bodyPost_ret (v:=nv (some ⟨w.heap.size+1,0,none⟩) k c') (by simp[results,Tryz.results100,go_sem,n0,n1]) rfl ⟨⟨_,k,c',by omega,rfl,?_⟩,bel_set (bel_set (bel_step (bel_alloc (bel_refl w) _) HB.out) (Nat.le_refl _) _ _) (Nat.le_refl _) _ _⟩;exact(HM.out.far (by omega) _ _).far (by omega) _ _
theorem one_word(N:Nat)(hN:N<18446744073709551616){W:World}{g:Nat}{b:TypeId}(h:Blk W g b #[.int .u64 (N:Int)]):MagP W (some ⟨g,0,none⟩) 1 1 (fun _=>N):=
 ⟨fun _ _=>hN,Nat.le_refl _,by omega,fun _=>⟨g,rfl,fun i hi=>by
  obtain rfl:i=0:=by omega
  exact h.cell 0 _ rfl⟩⟩
set_option maxRecDepth 100000 in
theorem of_mag(N:Nat)(w:World)(hN:N<18446744073709551616) :
  Calls Tryz.prog 123 #[.int .u64 N] w fun e w'=>(∃k c',e=.returned (.slice (some ⟨w.heap.size,0,none⟩) k c')∧MagN w' (some ⟨w.heap.size,0,none⟩) k c' N)∧Below w.heap.size w w':=by
 have h1:=fun t=>one_word N hN (Blk.new w t #[.int .u64 (N:Int)])
 have H1:=Hd h1;clear h1
 go_enter Tryz.func123,Tryz.ntmps123
 go_wp2_with (go_at_call 135;refine(right_any _ _ _ _ _ (H1.out _)).mono ?_;rintro e w1 ⟨rfl,hb1⟩;have HB:=Hd hb1;clear hb1)
 go_ret
 refine⟨⟨_,_,rfl,(fun _=>N),((H1.out _).trim.later HB.out),?_,fun j hj=>trim_last _ _ _ hj⟩,bel_step (bel_alloc (bel_refl w) _) HB.out⟩;rw[sum_trim];simp[sumTo]
set_option maxRecDepth 100000 in
theorem of_any(N:Nat)(w:World)(hN:N≤9223372036854775807) :
  Calls Tryz.prog 93 #[.int .i64 N] w fun e w'=>(∃g k c',w.heap.size≤g∧e=.returned (nv (some ⟨g,0,none⟩) k c')∧MagN w' (some ⟨g,0,none⟩) k c' N)∧Below w.heap.size w w':=by
 have gd:¬(N:Int)<0:=by omega
 have wr:IntKind.u64.wrap (N:Int)=N:=by rw[Wd.wrap_u64];omega
 go_enter Tryz.func93,Tryz.ntmps93
 go_wp2_with (go_at_call 123;refine(of_mag N _ (by omega)).mono ?_;rintro e w1 ⟨⟨k,c',rfl,hm⟩,hb1⟩;simp only[World.size_alloc]at hm;have HM:=Hd hm;have HB:=Hd hb1;have K:=(Blk.new w 143 #[.bool false,.slice none 0 0]).later hb1;obtain⟨k0,k1,k2,k3⟩:=K.two;obtain⟨n0,n1,_,_⟩:=K.two_set (u:=.bool false) (v:=.slice (some ⟨w.heap.size+1,0,none⟩) k c');clear K hm hb1)
 refine bodyPost_ret (v:=nv (some ⟨w.heap.size+1,0,none⟩) k c') (by simp[results,Tryz.results93,go_sem,n0,n1]) rfl ⟨⟨_,k,c',by omega,rfl,?_⟩,bel_set (bel_set (bel_step (bel_alloc (bel_refl w) _) HB.out) (Nat.le_refl _) _ _) (Nat.le_refl _) _ _⟩;exact(HM.out.far (by omega) _ _).far (by omega) _ _
theorem two_words(N:Nat){W:World}{g:Nat}{b:TypeId}(h:Blk W g b #[.int .u64 (Wd.lo N),.int .u64 (Wd.hi N)])(hN:N≤170141183460469231731687303715884105727):MagV W (some ⟨g,0,none⟩) 2 2 N 2:=by
 have e0:Wd.lo N=((N%18446744073709551616:Nat):Int):=by unfold Wd.lo;omega
 have e1:Wd.hi N=((N / 18446744073709551616:Nat):Int):=by unfold Wd.hi;omega
 refine⟨fun i=>if i=0 then N%18446744073709551616 else N / 18446744073709551616,⟨fun i _=>?_,Nat.le_refl _,by omega,fun _=>⟨g,rfl,fun i hi=>?_⟩⟩,?_,Nat.le_refl _⟩
 ·split<;>omega
 ·rcases(show i=0∨i=1 by omega)with rfl|rfl
  ·rw[h.cell 0 _ rfl,e0];simp
  ·rw[h.cell 1 _ rfl,e1];simp
 ·simp[sumTo]
  omega
set_option maxRecDepth 100000 in
theorem num_any(N:Nat)(w:World)(hN:N≤170141183460469231731687303715884105727) :
  Calls Tryz.prog 75 #[Wd.wv N] w fun e w'=>(∃g k c',w.heap.size≤g∧e=.returned (nv (some ⟨g,0,none⟩) k c')∧MagN w' (some ⟨g,0,none⟩) k c' N)∧Below w.heap.size w w':=by
 have hs0:=(fun w=>Wd.minus_wv (N:Int) (by unfold Wd.Fits;omega) false (by simp) w);have h20:=(fun(W:World) g b (h:Blk W g b #[.int .u64 (Wd.lo N),.int .u64 (Wd.hi N)])=>two_words N h hN);unfold Wd.wv at hs0 ⊢;generalize hh:Wd.hi (N:Int)=H at *;generalize hl:Wd.lo (N:Int)=L at *;have hs:=Hd hs0;have h2:=Hd h20;clear hh hl hs0 h20
 go_enter Tryz.func75,Tryz.ntmps75
 go_wp2_with fail
 refine(hs.out _).mono ?_;rintro e w1 ⟨rfl,hb1⟩;have HB:=Hd hb1;have K0:=((Blk.new w 98 #[.int .u64 H,.int .u64 L]).alloc (.cells #[.bool false,.slice none 0 0] 143)).later hb1;have K1:=(Blk.new' (n:=w.heap.size+1) (w.alloc (.cells #[.int .u64 H,.int .u64 L] 98)) 143 #[.bool false,.slice none 0 0] (by simp)).later hb1;have KK1:=Hd K1;obtain⟨a0,a1,_,_⟩:=K0.two;have hsz:w.heap.size+1+1≤w1.heap.size:=by have:=hb1.size;rw[World.size_alloc,World.size_alloc]at this;exact this
 clear K0 K1 hb1
 go_wp2_with fail
 refine(make_any _ 2 2 N 2 _ (h2.out _ _ _ (Blk.new w1 96 #[.int .u64 L,.int .u64 H])) (by omega)).mono ?_;rintro e w2 ⟨⟨g,k,c',hg,rfl,hm⟩,hb2⟩;simp only[World.size_alloc]at hg;have HM:=Hd hm;have HB2:=Hd hb2;have K:=(KK1.out.alloc (.cells #[.int .u64 L,.int .u64 H] 96)).later hb2;obtain⟨k0,k1,k2,k3⟩:=K.two;obtain⟨n0,n1,_,_⟩:=K.two_set (u:=.bool false) (v:=.slice (some ⟨g,0,none⟩) k c');clear K hm hb2;go_wp2;refine bodyPost_ret (v:=nv (some ⟨g,0,none⟩) k c') (by simp[results,Tryz.results75,go_sem,n0,n1]) rfl ⟨⟨g,k,c',by omega,rfl,?_⟩,bel_set (bel_set (bel_step (bel_step (bel_alloc (bel_alloc (bel_refl w) _) _) (bel_step HB.out (bel_alloc (bel_refl _) _))) HB2.out) (by omega) _ _) (by omega) _ _⟩;exact(HM.out.far (by omega) _ _).far (by omega) _ _
set_option maxRecDepth 100000 in
theorem area_any(a b c:Pt)(N:Nat)(w:World)(ha:a.near)(hb:b.near)(hc:c.near)(hN:ori a b c=N) :
  Calls Tryz.prog 94 #[pv a,pv b,pv c] w fun e w'=>(∃g k c',w.heap.size≤g∧e=.returned (nv (some ⟨g,0,none⟩) k c')∧MagN w' (some ⟨g,0,none⟩) k c' N)∧Below w.heap.size w w':=by
 have hA:=fun w=>Pr.area2_any a b c w ha hb hc
 have hl:N≤170141183460469231731687303715884105727:=by
  have:=Pr.ori_fits a b c ha hb hc;unfold Wd.Fits at this;omega
 rw[hN]at hA;have HA:=Hd hA;have HL:=Hd hl;clear hA hN hl
 go_enter Tryz.func94,Tryz.ntmps94
 go_wp2_with fail
 refine(HA.out _).mono ?_;rintro e w1 ⟨rfl,hb1⟩;have HB:=Hd hb1;have K1:=(Blk.new' (n:=w.heap.size+1+1+1) (((w.alloc (.cells #[.int .i64 a.x,.int .i64 a.y] 24)).alloc (.cells #[.int .i64 b.x,.int .i64 b.y] 24)).alloc (.cells #[.int .i64 c.x,.int .i64 c.y] 24)) 143 #[.bool false,.slice none 0 0] (by simp)).later hb1;have KK1:=Hd K1;have hsz:w.heap.size+1+1+1+1≤w1.heap.size:=by have:=hb1.size;simp only[World.size_alloc]at this;exact this
 clear K1 hb1
 go_wp2_with fail
 refine(num_any N _ HL.out).mono ?_;rintro e w2 ⟨⟨g,k,c',hg,rfl,hm⟩,hb2⟩;have HM:=Hd hm;have HB2:=Hd hb2;have K:=KK1.out.later hb2;obtain⟨k0,k1,k2,k3⟩:=K.two;obtain⟨n0,n1,_,_⟩:=K.two_set (u:=.bool false) (v:=.slice (some ⟨g,0,none⟩) k c');clear K hm hb2;go_wp2;refine bodyPost_ret (v:=nv (some ⟨g,0,none⟩) k c') (by simp[results,Tryz.results94,go_sem,n0,n1]) rfl ⟨⟨g,k,c',by omega,rfl,?_⟩,bel_set (bel_set (bel_step (bel_step (bel_alloc (bel_alloc (bel_alloc (bel_alloc (bel_refl w) _) _) _) _) HB.out) HB2.out) (by omega) _ _) (by omega) _ _⟩;exact(HM.out.far (by omega) _ _).far (by omega) _ _
set_option maxRecDepth 100000 in
set_option maxHeartbeats 2000000 in
theorem plus_any(p q:Option Addr)(n c m d N N' L L':Nat)(w:World)(ha:MagV w p n c N L)(hb:MagV w q m d N' L')(hL:L≤999999)(hL':L'≤999999)(hS:N+N'<18446744073709551616 ^ 3) :
  Calls Tryz.prog 74 #[nv p n c,nv q m d] w fun e w'=>(∃g k c',w.heap.size≤g∧e=.returned (nv (some ⟨g,0,none⟩) k c')∧MagN w' (some ⟨g,0,none⟩) k c' (N+N'))∧Below w.heap.size w w':=by
 have HA:=Hd ha;have HB:=Hd hb;have HS:=Hd hS;clear ha hb hS
 go_enter Tryz.func74,Tryz.ntmps74
 go_wp2_with fail
 have b0:=((Blk.new w 143 #[.bool false,.slice p n c]).alloc (.cells #[.bool false,.slice q m d] 143)).alloc (.cells #[.bool false,.slice none 0 0] 143);have b1:=(Blk.new' (n:=w.heap.size+1) (w.alloc (.cells #[.bool false,.slice p n c] 143)) 143 #[.bool false,.slice q m d] (by simp)).alloc (.cells #[.bool false,.slice none 0 0] 143);have b2:=Blk.new' (n:=w.heap.size+1+1) ((w.alloc (.cells #[.bool false,.slice p n c] 143)).alloc (.cells #[.bool false,.slice q m d] 143)) 143 #[.bool false,.slice none 0 0] (by simp);have hb:=bel_alloc (bel_alloc (bel_alloc (bel_refl w) (.cells #[.bool false,.slice p n c] 143)) (.cells #[.bool false,.slice q m d] 143)) (.cells #[.bool false,.slice none 0 0] 143);generalize ((w.alloc (.cells #[.bool false,.slice p n c] 143)).alloc (.cells #[.bool false,.slice q m d] 143)).alloc (.cells #[.bool false,.slice none 0 0] 143)=W at *;have HAW:=Hd (HA.out.later hb);have HBW:=Hd (HB.out.later hb);have hlt:=b2.lt;have HK:=Hd b2;have HW:=Hd hb;obtain⟨x0,x1,_,_⟩:=b0.two;obtain⟨x2,x3,_,_⟩:=b1.two;have l0:∀u,Below (w.heap.size+1+1) W u→u.cell? ⟨w.heap.size,0,none⟩=some (.bool false):=fun u hu=>(hu.cell (p:=⟨w.heap.size,0,none⟩) (by simp;omega)).trans x0
 have l1:∀u,Below (w.heap.size+1+1) W u→u.cell? ⟨w.heap.size,1,none⟩=some (.slice p n c):=fun u hu=>(hu.cell (p:=⟨w.heap.size,1,none⟩) (by simp;omega)).trans x1
 have l2:∀u,Below (w.heap.size+1+1) W u→u.cell? ⟨w.heap.size+1,1,none⟩=some (.slice q m d):=fun u hu=>(hu.cell (p:=⟨w.heap.size+1,1,none⟩) (by simp)).trans x3
 clear b0 b1 b2 hb x0 x1 x2 x3;have hr:Below (w.heap.size+1+1) W W.drew:=(Below.refl _ W).drew
 go_region_held3 (fun w'=>Below (w.heap.size+1+1) W w') (first| exact hr|assumption|exact(hb5.setCell (Nat.le_refl _) _).setCell (Nat.le_refl _) _) ((first| (go_at_call 101;refine(add_mag p q n c m d N N' L L' _ (HAW.out.later (bel_drew (bel_refl W))) (HBW.out.later (bel_drew (bel_refl W))) hL hL').mono ?_;rintro e w2 ⟨⟨k,c',rfl,hm⟩,hb2⟩;have HM2:=Hd hm;have HB2:=Hd (bel_step (bel_drew (bel_refl W)) hb2);have hb3:Below (w.heap.size+1+1) W w2:=HB2.out.mono (by omega);clear hm hb2)|(go_at_call 100;refine(make_any _ k c' (N+N') 3 _ (HM2.out.short HS.out) (by omega)).mono ?_;rintro e w3 ⟨⟨g,k2,c2,hg,rfl,hm⟩,hb4⟩;have HM3:=Hd hm;have HB3:=Hd (bel_step HB2.out hb4);have hg2:w.heap.size+1+1<g:=(by have:=HB2.out.size;omega);have hb5:Below (w.heap.size+1+1) W w3:=HB3.out.mono (by omega);have K:=HK.out.later HB3.out;have KK:=Hd K;have f0:=K.frozen 0;have f1:=K.frozen 1;have e0:=K.cell 0 _ rfl;have e1:=K.cell 1 _ rfl;obtain⟨k0,k1,_,_⟩:=K.two_set (u:=.bool false) (v:=.slice (some ⟨g,0,none⟩) k2 c2);clear hm hb4 K)))
 go_wp2;refine bodyPost_ret (v:=nv (some ⟨g,0,none⟩) k2 c2) (by simp[results,Tryz.results74,go_sem,k0,k1]) rfl ⟨⟨g,k2,c2,by omega,rfl,?_⟩,bel_set (bel_set (HW.out.trans (HB3.out.mono (by omega))) (by omega) _ _) (by omega) _ _⟩;exact(HM3.out.far (by omega) _ _).far (by omega) _ _
end Nu
end Go.Proofs.YtdihefgleefhmaaGreat
