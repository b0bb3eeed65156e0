import Derived.Test.YtdihefgleefhmaaGreatNc
namespace Go.Proofs.YtdihefgleefhmaaGreat
open Go.RowKit
def sgn(s:Bool)(M:Nat):Int:=if s=true then -(M:Int) else M
def NumS(W:World)(s:Bool)(p:Option Addr)(n c:Nat)(N:Int):Prop:=∃M,MagN W p n c M∧M<18446744073709551616 ^ 3∧N=sgn s M
theorem NumS.later{W W':World}{s:Bool}{p:Option Addr}{n c:Nat}{N:Int}(h:NumS W s p n c N)(hb:Below W.heap.size W W'):NumS W' s p n c N:=by
 obtain⟨M,h1,h2⟩:=h;exact⟨M,h1.later hb,h2⟩
namespace Nz
open Mg Nu Nc Np
abbrev sv(s:Bool)(p:Option Addr)(n c:Nat):Value:=.agg #[.bool s,.slice p n c]
theorem mag_len{W:World}{p:Option Addr}{n c M:Nat}(h:MagN W p n c M):n=0↔M=0:=by
 obtain⟨f,h1,h2,h3⟩:=h;cases n with
 | zero=>simp[sumTo]at h2;simp[h2]
 | succ j=>
  have:=sum_big f (j+1) j rfl (h3 j rfl);have pos:0<18446744073709551616 ^ j:=Nat.pow_pos (by omega);omega
theorem sgn_and(s:Bool)(M:Nat)(b:Bool)(hb:b=decide (0<M)):sgn (s&&b) M=sgn s M:=by
 cases s
 ·simp[sgn]
 ·subst hb
  by_cases h:0<M
  ·simp[sgn,h]
  ·obtain rfl:M=0:=by omega
   simp[sgn]
set_option maxRecDepth 100000 in
theorem make_s(s:Bool)(p:Option Addr)(n c N L:Nat)(w:World)(h:MagV w p n c N L)(hL:L≤999999)(hN:N<18446744073709551616 ^ 3) :
  Calls Tryz.prog 100 #[.bool s,.slice p n c] w fun e w'=>(∃s' g k c',w.heap.size≤g∧e=.returned (sv s' (some ⟨g,0,none⟩) k c')∧NumS w' s' (some ⟨g,0,none⟩) k c' (sgn s N))∧Below w.heap.size w w':=by
 have H:=Hd h;have HN:=Hd hN;clear h hN
 have fin:∀(w2:World) (g k c':Nat) (x y:Value) (q:Bool),MagN w2 (some ⟨g,0,none⟩) k c' N→w.heap.size<g→q=decide (0<k)→NumS ((w2.setCell ⟨w.heap.size,0,none⟩ x).setCell ⟨w.heap.size,1,none⟩ y) (s&&q) (some ⟨g,0,none⟩) k c' (sgn s N):=fun w2 g k c' x y q hm hg hq=>
  ⟨N,(hm.far (by omega) _ _).far (by omega) _ _,HN.out,(sgn_and s N q (by rw[hq];have:=mag_len hm;apply decide_eq_decide.2;omega)).symm⟩
 have FIN:=Hd fin;clear fin;cases s
 ·go_enter Tryz.func100,Tryz.ntmps100
  go_wp2_with (go_at_call 101;refine(add_mag p none n c 0 0 N 0 L 0 _ (H.out.later (bel_alloc (bel_refl w) _)) (MagV.nil _) hL (by omega)).mono ?_;rintro e w1 ⟨⟨k,c',rfl,hm⟩,hb1⟩;simp only[World.size_alloc]at hm;have HM:=Hd hm;have HB:=Hd hb1;have K:=(Blk.new w 143 #[.bool false,.slice none 0 0]).later hb1;obtain⟨k0,k1,k2,k3⟩:=K.two;obtain⟨n0,n1,_,_⟩:=K.two_set (u:=.bool false) (v:=.slice (some ⟨w.heap.size+1,0,none⟩) k c');clear K hm hb1)
  exact bodyPost_ret (v:=sv false (some ⟨w.heap.size+1,0,none⟩) k c') (by simp[results,Tryz.results100,go_sem,n0,n1]) rfl ⟨⟨false,_,k,c',by omega,rfl,FIN.out _ _ _ _ _ _ (decide (0<k)) HM.out (by omega) rfl⟩,bel_set (bel_set (bel_step (bel_alloc (bel_refl w) _) HB.out) (Nat.le_refl _) _ _) (Nat.le_refl _) _ _⟩
 ·go_enter Tryz.func100,Tryz.ntmps100
  go_wp2_with (go_at_call 101;refine(add_mag p none n c 0 0 N 0 L 0 _ (H.out.later (bel_alloc (bel_refl w) _)) (MagV.nil _) hL (by omega)).mono ?_;rintro e w1 ⟨⟨k,c',rfl,hm⟩,hb1⟩;simp only[World.size_alloc]at hm;have HM:=Hd hm;have HB:=Hd hb1;have K:=(Blk.new w 143 #[.bool false,.slice none 0 0]).later hb1;obtain⟨k0,k1,k2,k3⟩:=K.two;obtain⟨n0,n1,_,_⟩:=K.two_set (u:=.bool (decide (0<k))) (v:=.slice (some ⟨w.heap.size+1,0,none⟩) k c');clear K hm hb1)
  exact bodyPost_ret (v:=sv (decide (0<k)) (some ⟨w.heap.size+1,0,none⟩) k c') (by simp[results,Tryz.results100,go_sem,n0,n1]) rfl ⟨⟨decide (0<k),_,k,c',by omega,rfl,FIN.out _ _ _ _ _ _ _ HM.out (by omega) rfl⟩,bel_set (bel_set (bel_step (bel_alloc (bel_refl w) _) HB.out) (Nat.le_refl _) _ _) (Nat.le_refl _) _ _⟩
set_option maxRecDepth 100000 in
theorem num_neg(N:Nat)(w:World)(h0:0<N)(hN:N≤170141183460469231731687303715884105727) :
  Calls Tryz.prog 75 #[Wd.wv (-(N:Int))] w fun e w'=>(∃s g k c',w.heap.size≤g∧e=.returned (sv s (some ⟨g,0,none⟩) k c')∧NumS w' s (some ⟨g,0,none⟩) k c' (-(N:Int)))∧Below w.heap.size w w':=by
 have hs0:=(fun w=>Wd.minus_wv (-(N:Int)) (by unfold Wd.Fits;omega) true (by simp;omega) w);have ht0:=(fun w=>Wd.turn_wv (-(N:Int)) w);rw[Int.neg_neg]at ht0;have h20:=(fun(W:World) g b (h:Blk W g b #[.int .u64 (Wd.lo N),.int .u64 (Wd.hi N)])=>two_words N h hN);have hmk:=fun(W:World) g b (h:Blk W g b #[.int .u64 (Wd.lo N),.int .u64 (Wd.hi N)])=>make_s true _ 2 2 N 2 W (two_words N h hN) (by omega) (by omega)
 rw[show sgn true N=-(N:Int)by simp[sgn]]at hmk;unfold Wd.wv at hs0 ht0 ⊢;generalize -(N:Int)=z at *;generalize Wd.hi z=H at *;generalize Wd.lo z=L at *;generalize Wd.hi (N:Int)=H' at *;generalize Wd.lo (N:Int)=L' at *;have hs:=Hd hs0;have ht:=Hd ht0;have HMK:=Hd hmk;clear hs0 h20 ht0 hmk h0 hN
 go_enter Tryz.func75,Tryz.ntmps75
 go_wp2_with fail
 refine(hs.out _).mono ?_;rintro e w1 ⟨rfl,hb1⟩;have HB:=Hd hb1;have K0:=((Blk.new w 98 #[.int .u64 H,.int .u64 L]).alloc (.cells #[.bool false,.slice none 0 0] 143)).later hb1;have K1:=(Blk.new' (n:=w.heap.size+1) (w.alloc (.cells #[.int .u64 H,.int .u64 L] 98)) 143 #[.bool false,.slice none 0 0] (by simp)).later hb1;have KK1:=Hd K1;obtain⟨a0,a1,_,_⟩:=K0.two;have hsz:w.heap.size+1+1≤w1.heap.size:=by have:=hb1.size;rw[World.size_alloc,World.size_alloc]at this;exact this
 clear K0 K1 hb1
 go_wp2_with fail
 refine(ht.out _).mono ?_;rintro e w2 ⟨rfl,hb2⟩;have HB2:=Hd hb2;have hsz2:w1.heap.size≤w2.heap.size:=hb2.size;have KK2:=Hd (KK1.out.later hb2);clear hb2 a0 a1 KK1
 go_upto_region 3 with(fail)
 obtain⟨x0,x1,_,_⟩:=(Blk.new w2 98 #[.int .u64 H',.int .u64 L']).two
 go_wp2_with fail
 refine(HMK.out _ _ _ (Blk.new' (n:=w2.heap.size+1) (w2.alloc (.cells #[.int .u64 H',.int .u64 L'] 98)) 96 #[.int .u64 L',.int .u64 H'] (by simp))).mono ?_;rintro e w3 ⟨⟨s',g,k,c',hg,rfl,hm⟩,hb3⟩;simp only[World.size_alloc]at hg;have HM:=Hd hm;have HB3:=Hd hb3;have K:=((KK2.out.alloc (.cells #[.int .u64 H',.int .u64 L'] 98)).alloc (.cells #[.int .u64 L',.int .u64 H'] 96)).later hb3;obtain⟨k0,k1,k2,k3⟩:=K.two;obtain⟨n0,n1,_,_⟩:=K.two_set (u:=.bool s') (v:=.slice (some ⟨g,0,none⟩) k c');clear K hm hb3;go_wp2;refine bodyPost_ret (v:=sv s' (some ⟨g,0,none⟩) k c') (by simp[results,Tryz.results75,go_sem,n0,n1]) rfl ⟨⟨s',g,k,c',by omega,rfl,?_⟩,bel_set (bel_set (bel_step (bel_step (bel_step (bel_alloc (bel_alloc (bel_refl w) _) _) HB.out) (bel_step HB2.out (bel_alloc (bel_alloc (bel_refl _) _) _))) HB3.out) (by omega) _ _) (by omega) _ _⟩;obtain⟨M,m1,m2,m3⟩:=HM.out;exact⟨M,(m1.far (by omega) _ _).far (by omega) _ _,m2,m3⟩
theorem num_s(n:Int)(w:World)(h0:-170141183460469231731687303715884105727≤n)(h1:n≤170141183460469231731687303715884105727) :
  Calls Tryz.prog 75 #[Wd.wv n] w fun e w'=>(∃s g k c',w.heap.size≤g∧e=.returned (sv s (some ⟨g,0,none⟩) k c')∧NumS w' s (some ⟨g,0,none⟩) k c' n)∧Below w.heap.size w w':=by
 by_cases hn:n<0
 ·obtain⟨N,rfl⟩:∃N:Nat,n=-(N:Int):=⟨n.natAbs,by omega⟩
  exact num_neg N w (by omega) (by omega)
 ·obtain⟨N,rfl⟩:=Int.eq_ofNat_of_zero_le (by omega:0≤n)
  refine(num_any N w (by omega)).mono ?_;rintro e w' ⟨⟨g,k,c',hg,he,hm⟩,hb⟩;exact⟨⟨false,g,k,c',hg,he,N,hm,by omega,by simp[sgn]⟩,hb⟩
theorem add_mag2(p q:Option Addr)(n c m d N N' L L':Nat)(w:World)(ha:MagV w p n c N L)(hb:MagV w q m d N' L')(hL:L≤999999)(hL':L'≤999999) :
  Calls Tryz.prog 101 #[.slice p n c,.slice q m d] w fun e w'=>(∃p' k c',e=.returned (.slice p' k c')∧MagN w' p' k c' (N+N'))∧Below w.heap.size w w':=by
 refine(add_mag p q n c m d N N' L L' w ha hb hL hL').mono ?_;rintro e w' ⟨⟨k,c',he,hm⟩,hb⟩;exact⟨⟨_,k,c',he,hm⟩,hb⟩
set_option maxRecDepth 100000 in
set_option maxHeartbeats 4000000 in
theorem plus_ff(p q:Option Addr)(n c m d M M':Nat)(R:Int)(w:World)(ha:MagV w p n c M 3)(hb:MagV w q m d M' 3)(hS:M+M'<18446744073709551616 ^ 3)(hR:R=sgn false (M+M')) :
  Calls Tryz.prog 74 #[sv false p n c,sv false q m d] w fun e w'=>(∃s g k c',w.heap.size≤g∧e=.returned (sv s (some ⟨g,0,none⟩) k c')∧NumS w' s (some ⟨g,0,none⟩) k c' R)∧Below w.heap.size w w':=by
 have HA:=Hd ha;have HB:=Hd hb;have HS:=Hd hS;have HE:=Hd hR;clear ha hb hS hR
 go_enter Tryz.func74,Tryz.ntmps74
 go_wp2_with fail
 have b0:=((Blk.new w 143 #[.bool false,.slice p n c]).alloc (.cells #[.bool false,.slice q m d] 143)).alloc (.cells #[.bool false,.slice none 0 0] 143);have b1:=(Blk.new' (n:=w.heap.size+1) (w.alloc (.cells #[.bool false,.slice p n c] 143)) 143 #[.bool false,.slice q m d] (by simp)).alloc (.cells #[.bool false,.slice none 0 0] 143);have b2:=Blk.new' (n:=w.heap.size+1+1) ((w.alloc (.cells #[.bool false,.slice p n c] 143)).alloc (.cells #[.bool false,.slice q m d] 143)) 143 #[.bool false,.slice none 0 0] (by simp);have hb:=bel_alloc (bel_alloc (bel_alloc (bel_refl w) (.cells #[.bool false,.slice p n c] 143)) (.cells #[.bool false,.slice q m d] 143)) (.cells #[.bool false,.slice none 0 0] 143);generalize ((w.alloc (.cells #[.bool false,.slice p n c] 143)).alloc (.cells #[.bool false,.slice q m d] 143)).alloc (.cells #[.bool false,.slice none 0 0] 143)=W at *;have HAW:=Hd (HA.out.later hb);have HBW:=Hd (HB.out.later hb);have hlt:=b2.lt;have HK:=Hd b2;have HW:=Hd hb;obtain⟨x0,x1,_,_⟩:=b0.two;obtain⟨x2,x3,_,_⟩:=b1.two;have l0:∀u,Below (w.heap.size+1+1) W u→u.cell? ⟨w.heap.size,0,none⟩=some (.bool false):=fun u hu=>(hu.cell (p:=⟨w.heap.size,0,none⟩) (by simp;omega)).trans x0
 have l1:∀u,Below (w.heap.size+1+1) W u→u.cell? ⟨w.heap.size,1,none⟩=some (.slice p n c):=fun u hu=>(hu.cell (p:=⟨w.heap.size,1,none⟩) (by simp;omega)).trans x1
 have l2:∀u,Below (w.heap.size+1+1) W u→u.cell? ⟨w.heap.size+1,0,none⟩=some (.bool false):=fun u hu=>(hu.cell (p:=⟨w.heap.size+1,0,none⟩) (by simp)).trans x2
 have l3:∀u,Below (w.heap.size+1+1) W u→u.cell? ⟨w.heap.size+1,1,none⟩=some (.slice q m d):=fun u hu=>(hu.cell (p:=⟨w.heap.size+1,1,none⟩) (by simp)).trans x3
 clear b0 b1 b2 hb x0 x1 x2 x3;have hr:Below (w.heap.size+1+1) W W.drew:=(Below.refl _ W).drew
 go_region_held3 (fun w'=>Below (w.heap.size+1+1) W w') (first| exact hr|assumption|exact(hb5.setCell (Nat.le_refl _) _).setCell (Nat.le_refl _) _) ((first| (go_at_call 101;refine(add_mag2 p q n c m d M M' 3 3 _ (HAW.out.later (bel_drew (bel_refl W))) (HBW.out.later (bel_drew (bel_refl W))) (by omega) (by omega)).mono ?_;rintro e w2 ⟨⟨p2,k,c',rfl,hm⟩,hb2⟩;have HM2:=Hd hm;have HB2:=Hd (bel_step (bel_drew (bel_refl W)) hb2);have hb3:Below (w.heap.size+1+1) W w2:=HB2.out.mono (by omega);clear hm hb2)|(go_at_call 100;refine(make_s false p2 k c' _ 3 _ (HM2.out.short HS.out) (by omega) HS.out).mono ?_;rintro e w3 ⟨⟨s',g,k2,c2,hg,rfl,hm⟩,hb4⟩;have HM3:=Hd hm;have HB3:=Hd (bel_step HB2.out hb4);have hg2:w.heap.size+1+1<g:=(by have:=HB2.out.size;omega);have hb5:Below (w.heap.size+1+1) W w3:=HB3.out.mono (by omega);have K:=HK.out.later HB3.out;have KK:=Hd K;have f0:=K.frozen 0;have f1:=K.frozen 1;have e0:=K.cell 0 _ rfl;have e1:=K.cell 1 _ rfl;obtain⟨k0,k1,_,_⟩:=K.two_set (u:=.bool s') (v:=.slice (some ⟨g,0,none⟩) k2 c2);clear hm hb4 K)))
 go_wp2;refine bodyPost_ret (v:=sv s' (some ⟨g,0,none⟩) k2 c2) (by simp[results,Tryz.results74,go_sem,k0,k1]) rfl ⟨⟨s',g,k2,c2,by omega,rfl,?_⟩,bel_set (bel_set (HW.out.trans (HB3.out.mono (by omega))) (by omega) _ _) (by omega) _ _⟩;obtain⟨M2,m1,m2,m3⟩:=HM3.out;exact⟨M2,(m1.far (by omega) _ _).far (by omega) _ _,m2,by rw[←m3];exact HE.out⟩
set_option maxRecDepth 100000 in
set_option maxHeartbeats 4000000 in
theorem plus_tt(p q:Option Addr)(n c m d M M':Nat)(R:Int)(w:World)(ha:MagV w p n c M 3)(hb:MagV w q m d M' 3)(hS:M+M'<18446744073709551616 ^ 3)(hR:R=sgn true (M+M')) :
  Calls Tryz.prog 74 #[sv true p n c,sv true q m d] w fun e w'=>(∃s g k c',w.heap.size≤g∧e=.returned (sv s (some ⟨g,0,none⟩) k c')∧NumS w' s (some ⟨g,0,none⟩) k c' R)∧Below w.heap.size w w':=by
 have HA:=Hd ha;have HB:=Hd hb;have HS:=Hd hS;have HE:=Hd hR;clear ha hb hS hR
 go_enter Tryz.func74,Tryz.ntmps74
 go_wp2_with fail
 have b0:=((Blk.new w 143 #[.bool true,.slice p n c]).alloc (.cells #[.bool true,.slice q m d] 143)).alloc (.cells #[.bool false,.slice none 0 0] 143);have b1:=(Blk.new' (n:=w.heap.size+1) (w.alloc (.cells #[.bool true,.slice p n c] 143)) 143 #[.bool true,.slice q m d] (by simp)).alloc (.cells #[.bool false,.slice none 0 0] 143);have b2:=Blk.new' (n:=w.heap.size+1+1) ((w.alloc (.cells #[.bool true,.slice p n c] 143)).alloc (.cells #[.bool true,.slice q m d] 143)) 143 #[.bool false,.slice none 0 0] (by simp);have hb:=bel_alloc (bel_alloc (bel_alloc (bel_refl w) (.cells #[.bool true,.slice p n c] 143)) (.cells #[.bool true,.slice q m d] 143)) (.cells #[.bool false,.slice none 0 0] 143);generalize ((w.alloc (.cells #[.bool true,.slice p n c] 143)).alloc (.cells #[.bool true,.slice q m d] 143)).alloc (.cells #[.bool false,.slice none 0 0] 143)=W at *;have HAW:=Hd (HA.out.later hb);have HBW:=Hd (HB.out.later hb);have hlt:=b2.lt;have HK:=Hd b2;have HW:=Hd hb;obtain⟨x0,x1,_,_⟩:=b0.two;obtain⟨x2,x3,_,_⟩:=b1.two;have l0:∀u,Below (w.heap.size+1+1) W u→u.cell? ⟨w.heap.size,0,none⟩=some (.bool true):=fun u hu=>(hu.cell (p:=⟨w.heap.size,0,none⟩) (by simp;omega)).trans x0
 have l1:∀u,Below (w.heap.size+1+1) W u→u.cell? ⟨w.heap.size,1,none⟩=some (.slice p n c):=fun u hu=>(hu.cell (p:=⟨w.heap.size,1,none⟩) (by simp;omega)).trans x1
 have l2:∀u,Below (w.heap.size+1+1) W u→u.cell? ⟨w.heap.size+1,0,none⟩=some (.bool true):=fun u hu=>(hu.cell (p:=⟨w.heap.size+1,0,none⟩) (by simp)).trans x2
 have l3:∀u,Below (w.heap.size+1+1) W u→u.cell? ⟨w.heap.size+1,1,none⟩=some (.slice q m d):=fun u hu=>(hu.cell (p:=⟨w.heap.size+1,1,none⟩) (by simp)).trans x3
 clear b0 b1 b2 hb x0 x1 x2 x3;have hr:Below (w.heap.size+1+1) W W.drew:=(Below.refl _ W).drew
 go_region_held3 (fun w'=>Below (w.heap.size+1+1) W w') (first| exact hr|assumption|exact(hb5.setCell (Nat.le_refl _) _).setCell (Nat.le_refl _) _) ((first| (go_at_call 101;refine(add_mag2 p q n c m d M M' 3 3 _ (HAW.out.later (bel_drew (bel_refl W))) (HBW.out.later (bel_drew (bel_refl W))) (by omega) (by omega)).mono ?_;rintro e w2 ⟨⟨p2,k,c',rfl,hm⟩,hb2⟩;have HM2:=Hd hm;have HB2:=Hd (bel_step (bel_drew (bel_refl W)) hb2);have hb3:Below (w.heap.size+1+1) W w2:=HB2.out.mono (by omega);clear hm hb2)|(go_at_call 100;refine(make_s true p2 k c' _ 3 _ (HM2.out.short HS.out) (by omega) HS.out).mono ?_;rintro e w3 ⟨⟨s',g,k2,c2,hg,rfl,hm⟩,hb4⟩;have HM3:=Hd hm;have HB3:=Hd (bel_step HB2.out hb4);have hg2:w.heap.size+1+1<g:=(by have:=HB2.out.size;omega);have hb5:Below (w.heap.size+1+1) W w3:=HB3.out.mono (by omega);have K:=HK.out.later HB3.out;have KK:=Hd K;have f0:=K.frozen 0;have f1:=K.frozen 1;have e0:=K.cell 0 _ rfl;have e1:=K.cell 1 _ rfl;obtain⟨k0,k1,_,_⟩:=K.two_set (u:=.bool s') (v:=.slice (some ⟨g,0,none⟩) k2 c2);clear hm hb4 K)))
 go_wp2;refine bodyPost_ret (v:=sv s' (some ⟨g,0,none⟩) k2 c2) (by simp[results,Tryz.results74,go_sem,k0,k1]) rfl ⟨⟨s',g,k2,c2,by omega,rfl,?_⟩,bel_set (bel_set (HW.out.trans (HB3.out.mono (by omega))) (by omega) _ _) (by omega) _ _⟩;obtain⟨M2,m1,m2,m3⟩:=HM3.out;exact⟨M2,(m1.far (by omega) _ _).far (by omega) _ _,m2,by rw[←m3];exact HE.out⟩
set_option maxRecDepth 100000 in
set_option maxHeartbeats 4000000 in
theorem plus_ft_ge(p q:Option Addr)(n c m d M M':Nat)(R:Int)(w:World)(ha:MagN w p n c M)(hb:MagN w q m d M')(h99:n≤999999)(hS:M-M'<18446744073709551616 ^ 3)(hc:M'≤M)(hR:R=sgn false (M-M')) :
  Calls Tryz.prog 74 #[sv false p n c,sv true q m d] w fun e w'=>(∃s g k c',w.heap.size≤g∧e=.returned (sv s (some ⟨g,0,none⟩) k c')∧NumS w' s (some ⟨g,0,none⟩) k c' R)∧Below w.heap.size w w':=by
 have HA:=Hd ha;have HB:=Hd hb;have HS:=Hd hS;have HE:=Hd hR;have hC:=fun u (hu:Below w.heap.size w u)=>cmp_gen p q n c m d M M' u (ha.later hu) (hb.later hu)
 have hc0:0≤cmpI M M':=by unfold cmpI;split<;>(try split)<;>omega
 generalize cmpI M M'=C at *;have HCM:=Hd hC;clear ha hb hS hR hC hc
 go_enter Tryz.func74,Tryz.ntmps74
 go_upto_region 1 with(fail)
 have b0:=((Blk.new w 143 #[.bool false,.slice p n c]).alloc (.cells #[.bool true,.slice q m d] 143)).alloc (.cells #[.bool false,.slice none 0 0] 143);have b1:=(Blk.new' (n:=w.heap.size+1) (w.alloc (.cells #[.bool false,.slice p n c] 143)) 143 #[.bool true,.slice q m d] (by simp)).alloc (.cells #[.bool false,.slice none 0 0] 143);have b2:=Blk.new' (n:=w.heap.size+1+1) ((w.alloc (.cells #[.bool false,.slice p n c] 143)).alloc (.cells #[.bool true,.slice q m d] 143)) 143 #[.bool false,.slice none 0 0] (by simp);have hb:=bel_alloc (bel_alloc (bel_alloc (bel_refl w) (.cells #[.bool false,.slice p n c] 143)) (.cells #[.bool true,.slice q m d] 143)) (.cells #[.bool false,.slice none 0 0] 143);generalize ((w.alloc (.cells #[.bool false,.slice p n c] 143)).alloc (.cells #[.bool true,.slice q m d] 143)).alloc (.cells #[.bool false,.slice none 0 0] 143)=W at *;have HAW:=Hd (HA.out.later hb);have HBW:=Hd (HB.out.later hb);have hlt:=b2.lt;have HK:=Hd b2;have HB00:=Hd b0;have HB11:=Hd b1;have HW:=Hd hb;obtain⟨x0,x1,_,_⟩:=b0.two;obtain⟨x2,x3,_,_⟩:=b1.two
 go_wp2_with fail
 refine(HCM.out _ HW.out).mono ?_;rintro e w1 ⟨rfl,hb1⟩;have HW1:=Hd (bel_step HW.out hb1);have HAW1:=Hd (HAW.out.later hb1);have HBW1:=Hd (HBW.out.later hb1);have HK1:=Hd (b2.later hb1);have b01:=b0.later hb1;have b11:=b1.later hb1;have hlt1:w.heap.size+1+1<w1.heap.size:=HK1.out.lt;clear b0 b1 b2 hb hb1 x0 x1 x2 x3 HAW HBW HK HW hlt HB00 HB11
 go_upto_region 4 with(fail)
 obtain⟨x0,x1,_,_⟩:=b01.two;obtain⟨x2,x3,_,_⟩:=b11.two;have l0:∀u,Below (w.heap.size+1+1) w1 u→u.cell? ⟨w.heap.size,0,none⟩=some (.bool false):=fun u hu=>(hu.cell (p:=⟨w.heap.size,0,none⟩) (by simp;omega)).trans x0
 have l1:∀u,Below (w.heap.size+1+1) w1 u→u.cell? ⟨w.heap.size,1,none⟩=some (.slice p n c):=fun u hu=>(hu.cell (p:=⟨w.heap.size,1,none⟩) (by simp;omega)).trans x1
 have l2:∀u,Below (w.heap.size+1+1) w1 u→u.cell? ⟨w.heap.size+1,0,none⟩=some (.bool true):=fun u hu=>(hu.cell (p:=⟨w.heap.size+1,0,none⟩) (by simp)).trans x2
 have l3:∀u,Below (w.heap.size+1+1) w1 u→u.cell? ⟨w.heap.size+1,1,none⟩=some (.slice q m d):=fun u hu=>(hu.cell (p:=⟨w.heap.size+1,1,none⟩) (by simp)).trans x3
 clear b01 b11 x0 x1 x2 x3;have hr:Below (w.heap.size+1+1) w1 w1.drew:=(Below.refl _ w1).drew
 go_region_held3 (fun w'=>Below (w.heap.size+1+1) w1 w') (first| exact hr|assumption|exact(hb5.setCell (Nat.le_refl _) _).setCell (Nat.le_refl _) _) ((first| (go_at_call 103;refine(sub_mag p q n c m d M M' _ (HAW1.out.later (bel_drew (bel_refl w1))) (HBW1.out.later (bel_drew (bel_refl w1))) (by omega)).mono ?_;rintro e w2 ⟨⟨p2,k,c',rfl,hm,_⟩,hb2⟩;have HM2:=Hd hm;have HB2:=Hd (bel_step (bel_drew (bel_refl w1)) hb2);have hb3:Below (w.heap.size+1+1) w1 w2:=HB2.out.mono (by omega);clear hm hb2)|(go_at_call 100;refine(make_s false p2 k c' _ 3 _ (HM2.out.short HS.out) (by omega) HS.out).mono ?_;rintro e w3 ⟨⟨s',g,k2,c2,hg,rfl,hm⟩,hb4⟩;have HM3:=Hd hm;have HB3:=Hd (bel_step HB2.out hb4);have hg2:w.heap.size+1+1<g:=(by have:=HB2.out.size;omega);have hb5:Below (w.heap.size+1+1) w1 w3:=HB3.out.mono (by omega);have K:=HK1.out.later HB3.out;have KK:=Hd K;have f0:=K.frozen 0;have f1:=K.frozen 1;have e0:=K.cell 0 _ rfl;have e1:=K.cell 1 _ rfl;obtain⟨k0,k1,_,_⟩:=K.two_set (u:=.bool s') (v:=.slice (some ⟨g,0,none⟩) k2 c2);clear hm hb4 K)))
 go_wp2;refine bodyPost_ret (v:=sv s' (some ⟨g,0,none⟩) k2 c2) (by simp[results,Tryz.results74,go_sem,k0,k1]) rfl ⟨⟨s',g,k2,c2,by omega,rfl,?_⟩,bel_set (bel_set (HW1.out.trans (HB3.out.mono (by omega))) (by omega) _ _) (by omega) _ _⟩;obtain⟨M2,m1,m2,m3⟩:=HM3.out;exact⟨M2,(m1.far (by omega) _ _).far (by omega) _ _,m2,by rw[←m3];exact HE.out⟩
set_option maxRecDepth 100000 in
set_option maxHeartbeats 4000000 in
theorem plus_ft_lt(p q:Option Addr)(n c m d M M':Nat)(R:Int)(w:World)(ha:MagN w p n c M)(hb:MagN w q m d M')(h99:m≤999999)(hS:M'-M<18446744073709551616 ^ 3)(hc:M<M')(hR:R=sgn true (M'-M)) :
  Calls Tryz.prog 74 #[sv false p n c,sv true q m d] w fun e w'=>(∃s g k c',w.heap.size≤g∧e=.returned (sv s (some ⟨g,0,none⟩) k c')∧NumS w' s (some ⟨g,0,none⟩) k c' R)∧Below w.heap.size w w':=by
 have HA:=Hd ha;have HB:=Hd hb;have HS:=Hd hS;have HE:=Hd hR;have hC:=fun u (hu:Below w.heap.size w u)=>cmp_gen p q n c m d M M' u (ha.later hu) (hb.later hu)
 have hc0:¬0≤cmpI M M':=by unfold cmpI;split<;>(try split)<;>omega
 generalize cmpI M M'=C at *;have HCM:=Hd hC;clear ha hb hS hR hC hc
 go_enter Tryz.func74,Tryz.ntmps74
 go_upto_region 1 with(fail)
 have b0:=((Blk.new w 143 #[.bool false,.slice p n c]).alloc (.cells #[.bool true,.slice q m d] 143)).alloc (.cells #[.bool false,.slice none 0 0] 143);have b1:=(Blk.new' (n:=w.heap.size+1) (w.alloc (.cells #[.bool false,.slice p n c] 143)) 143 #[.bool true,.slice q m d] (by simp)).alloc (.cells #[.bool false,.slice none 0 0] 143);have b2:=Blk.new' (n:=w.heap.size+1+1) ((w.alloc (.cells #[.bool false,.slice p n c] 143)).alloc (.cells #[.bool true,.slice q m d] 143)) 143 #[.bool false,.slice none 0 0] (by simp);have hb:=bel_alloc (bel_alloc (bel_alloc (bel_refl w) (.cells #[.bool false,.slice p n c] 143)) (.cells #[.bool true,.slice q m d] 143)) (.cells #[.bool false,.slice none 0 0] 143);generalize ((w.alloc (.cells #[.bool false,.slice p n c] 143)).alloc (.cells #[.bool true,.slice q m d] 143)).alloc (.cells #[.bool false,.slice none 0 0] 143)=W at *;have HAW:=Hd (HA.out.later hb);have HBW:=Hd (HB.out.later hb);have hlt:=b2.lt;have HK:=Hd b2;have HB00:=Hd b0;have HB11:=Hd b1;have HW:=Hd hb;obtain⟨x0,x1,_,_⟩:=b0.two;obtain⟨x2,x3,_,_⟩:=b1.two
 go_wp2_with fail
 refine(HCM.out _ HW.out).mono ?_;rintro e w1 ⟨rfl,hb1⟩;have HW1:=Hd (bel_step HW.out hb1);have HAW1:=Hd (HAW.out.later hb1);have HBW1:=Hd (HBW.out.later hb1);have HK1:=Hd (b2.later hb1);have b01:=b0.later hb1;have b11:=b1.later hb1;have hlt1:w.heap.size+1+1<w1.heap.size:=HK1.out.lt;clear b0 b1 b2 hb hb1 x0 x1 x2 x3 HAW HBW HK HW hlt HB00 HB11
 go_upto_region 5 with(fail)
 obtain⟨x0,x1,_,_⟩:=b01.two;obtain⟨x2,x3,_,_⟩:=b11.two;have l0:∀u,Below (w.heap.size+1+1) w1 u→u.cell? ⟨w.heap.size,0,none⟩=some (.bool false):=fun u hu=>(hu.cell (p:=⟨w.heap.size,0,none⟩) (by simp;omega)).trans x0
 have l1:∀u,Below (w.heap.size+1+1) w1 u→u.cell? ⟨w.heap.size,1,none⟩=some (.slice p n c):=fun u hu=>(hu.cell (p:=⟨w.heap.size,1,none⟩) (by simp;omega)).trans x1
 have l2:∀u,Below (w.heap.size+1+1) w1 u→u.cell? ⟨w.heap.size+1,0,none⟩=some (.bool true):=fun u hu=>(hu.cell (p:=⟨w.heap.size+1,0,none⟩) (by simp)).trans x2
 have l3:∀u,Below (w.heap.size+1+1) w1 u→u.cell? ⟨w.heap.size+1,1,none⟩=some (.slice q m d):=fun u hu=>(hu.cell (p:=⟨w.heap.size+1,1,none⟩) (by simp)).trans x3
 clear b01 b11 x0 x1 x2 x3;have hr:Below (w.heap.size+1+1) w1 w1.drew:=(Below.refl _ w1).drew
 go_region_held3 (fun w'=>Below (w.heap.size+1+1) w1 w') (first| exact hr|assumption|exact(hb5.setCell (Nat.le_refl _) _).setCell (Nat.le_refl _) _) ((first| (go_at_call 103;refine(sub_mag q p m d n c M' M _ (HBW1.out.later (bel_drew (bel_refl w1))) (HAW1.out.later (bel_drew (bel_refl w1))) (by omega)).mono ?_;rintro e w2 ⟨⟨p2,k,c',rfl,hm,_⟩,hb2⟩;have HM2:=Hd hm;have HB2:=Hd (bel_step (bel_drew (bel_refl w1)) hb2);have hb3:Below (w.heap.size+1+1) w1 w2:=HB2.out.mono (by omega);clear hm hb2)|(go_at_call 100;refine(make_s true p2 k c' _ 3 _ (HM2.out.short HS.out) (by omega) HS.out).mono ?_;rintro e w3 ⟨⟨s',g,k2,c2,hg,rfl,hm⟩,hb4⟩;have HM3:=Hd hm;have HB3:=Hd (bel_step HB2.out hb4);have hg2:w.heap.size+1+1<g:=(by have:=HB2.out.size;omega);have hb5:Below (w.heap.size+1+1) w1 w3:=HB3.out.mono (by omega);have K:=HK1.out.later HB3.out;have KK:=Hd K;have f0:=K.frozen 0;have f1:=K.frozen 1;have e0:=K.cell 0 _ rfl;have e1:=K.cell 1 _ rfl;obtain⟨k0,k1,_,_⟩:=K.two_set (u:=.bool s') (v:=.slice (some ⟨g,0,none⟩) k2 c2);clear hm hb4 K)))
 go_wp2;refine bodyPost_ret (v:=sv s' (some ⟨g,0,none⟩) k2 c2) (by simp[results,Tryz.results74,go_sem,k0,k1]) rfl ⟨⟨s',g,k2,c2,by omega,rfl,?_⟩,bel_set (bel_set (HW1.out.trans (HB3.out.mono (by omega))) (by omega) _ _) (by omega) _ _⟩;obtain⟨M2,m1,m2,m3⟩:=HM3.out;exact⟨M2,(m1.far (by omega) _ _).far (by omega) _ _,m2,by rw[←m3];exact HE.out⟩
set_option maxRecDepth 100000 in
set_option maxHeartbeats 4000000 in
theorem plus_tf_ge(p q:Option Addr)(n c m d M M':Nat)(R:Int)(w:World)(ha:MagN w p n c M)(hb:MagN w q m d M')(h99:n≤999999)(hS:M-M'<18446744073709551616 ^ 3)(hc:M'≤M)(hR:R=sgn true (M-M')) :
  Calls Tryz.prog 74 #[sv true p n c,sv false q m d] w fun e w'=>(∃s g k c',w.heap.size≤g∧e=.returned (sv s (some ⟨g,0,none⟩) k c')∧NumS w' s (some ⟨g,0,none⟩) k c' R)∧Below w.heap.size w w':=by
 have HA:=Hd ha;have HB:=Hd hb;have HS:=Hd hS;have HE:=Hd hR;have hC:=fun u (hu:Below w.heap.size w u)=>cmp_gen p q n c m d M M' u (ha.later hu) (hb.later hu)
 have hc0:0≤cmpI M M':=by unfold cmpI;split<;>(try split)<;>omega
 generalize cmpI M M'=C at *;have HCM:=Hd hC;clear ha hb hS hR hC hc
 go_enter Tryz.func74,Tryz.ntmps74
 go_upto_region 1 with(fail)
 have b0:=((Blk.new w 143 #[.bool true,.slice p n c]).alloc (.cells #[.bool false,.slice q m d] 143)).alloc (.cells #[.bool false,.slice none 0 0] 143);have b1:=(Blk.new' (n:=w.heap.size+1) (w.alloc (.cells #[.bool true,.slice p n c] 143)) 143 #[.bool false,.slice q m d] (by simp)).alloc (.cells #[.bool false,.slice none 0 0] 143);have b2:=Blk.new' (n:=w.heap.size+1+1) ((w.alloc (.cells #[.bool true,.slice p n c] 143)).alloc (.cells #[.bool false,.slice q m d] 143)) 143 #[.bool false,.slice none 0 0] (by simp);have hb:=bel_alloc (bel_alloc (bel_alloc (bel_refl w) (.cells #[.bool true,.slice p n c] 143)) (.cells #[.bool false,.slice q m d] 143)) (.cells #[.bool false,.slice none 0 0] 143);generalize ((w.alloc (.cells #[.bool true,.slice p n c] 143)).alloc (.cells #[.bool false,.slice q m d] 143)).alloc (.cells #[.bool false,.slice none 0 0] 143)=W at *;have HAW:=Hd (HA.out.later hb);have HBW:=Hd (HB.out.later hb);have hlt:=b2.lt;have HK:=Hd b2;have HB00:=Hd b0;have HB11:=Hd b1;have HW:=Hd hb;obtain⟨x0,x1,_,_⟩:=b0.two;obtain⟨x2,x3,_,_⟩:=b1.two
 go_wp2_with fail
 refine(HCM.out _ HW.out).mono ?_;rintro e w1 ⟨rfl,hb1⟩;have HW1:=Hd (bel_step HW.out hb1);have HAW1:=Hd (HAW.out.later hb1);have HBW1:=Hd (HBW.out.later hb1);have HK1:=Hd (b2.later hb1);have b01:=b0.later hb1;have b11:=b1.later hb1;have hlt1:w.heap.size+1+1<w1.heap.size:=HK1.out.lt;clear b0 b1 b2 hb hb1 x0 x1 x2 x3 HAW HBW HK HW hlt HB00 HB11
 go_upto_region 4 with(fail)
 obtain⟨x0,x1,_,_⟩:=b01.two;obtain⟨x2,x3,_,_⟩:=b11.two;have l0:∀u,Below (w.heap.size+1+1) w1 u→u.cell? ⟨w.heap.size,0,none⟩=some (.bool true):=fun u hu=>(hu.cell (p:=⟨w.heap.size,0,none⟩) (by simp;omega)).trans x0
 have l1:∀u,Below (w.heap.size+1+1) w1 u→u.cell? ⟨w.heap.size,1,none⟩=some (.slice p n c):=fun u hu=>(hu.cell (p:=⟨w.heap.size,1,none⟩) (by simp;omega)).trans x1
 have l2:∀u,Below (w.heap.size+1+1) w1 u→u.cell? ⟨w.heap.size+1,0,none⟩=some (.bool false):=fun u hu=>(hu.cell (p:=⟨w.heap.size+1,0,none⟩) (by simp)).trans x2
 have l3:∀u,Below (w.heap.size+1+1) w1 u→u.cell? ⟨w.heap.size+1,1,none⟩=some (.slice q m d):=fun u hu=>(hu.cell (p:=⟨w.heap.size+1,1,none⟩) (by simp)).trans x3
 clear b01 b11 x0 x1 x2 x3;have hr:Below (w.heap.size+1+1) w1 w1.drew:=(Below.refl _ w1).drew
 go_region_held3 (fun w'=>Below (w.heap.size+1+1) w1 w') (first| exact hr|assumption|exact(hb5.setCell (Nat.le_refl _) _).setCell (Nat.le_refl _) _) ((first| (go_at_call 103;refine(sub_mag p q n c m d M M' _ (HAW1.out.later (bel_drew (bel_refl w1))) (HBW1.out.later (bel_drew (bel_refl w1))) (by omega)).mono ?_;rintro e w2 ⟨⟨p2,k,c',rfl,hm,_⟩,hb2⟩;have HM2:=Hd hm;have HB2:=Hd (bel_step (bel_drew (bel_refl w1)) hb2);have hb3:Below (w.heap.size+1+1) w1 w2:=HB2.out.mono (by omega);clear hm hb2)|(go_at_call 100;refine(make_s true p2 k c' _ 3 _ (HM2.out.short HS.out) (by omega) HS.out).mono ?_;rintro e w3 ⟨⟨s',g,k2,c2,hg,rfl,hm⟩,hb4⟩;have HM3:=Hd hm;have HB3:=Hd (bel_step HB2.out hb4);have hg2:w.heap.size+1+1<g:=(by have:=HB2.out.size;omega);have hb5:Below (w.heap.size+1+1) w1 w3:=HB3.out.mono (by omega);have K:=HK1.out.later HB3.out;have KK:=Hd K;have f0:=K.frozen 0;have f1:=K.frozen 1;have e0:=K.cell 0 _ rfl;have e1:=K.cell 1 _ rfl;obtain⟨k0,k1,_,_⟩:=K.two_set (u:=.bool s') (v:=.slice (some ⟨g,0,none⟩) k2 c2);clear hm hb4 K)))
 go_wp2;refine bodyPost_ret (v:=sv s' (some ⟨g,0,none⟩) k2 c2) (by simp[results,Tryz.results74,go_sem,k0,k1]) rfl ⟨⟨s',g,k2,c2,by omega,rfl,?_⟩,bel_set (bel_set (HW1.out.trans (HB3.out.mono (by omega))) (by omega) _ _) (by omega) _ _⟩;obtain⟨M2,m1,m2,m3⟩:=HM3.out;exact⟨M2,(m1.far (by omega) _ _).far (by omega) _ _,m2,by rw[←m3];exact HE.out⟩
set_option maxRecDepth 100000 in
set_option maxHeartbeats 4000000 in
theorem plus_tf_lt(p q:Option Addr)(n c m d M M':Nat)(R:Int)(w:World)(ha:MagN w p n c M)(hb:MagN w q m d M')(h99:m≤999999)(hS:M'-M<18446744073709551616 ^ 3)(hc:M<M')(hR:R=sgn false (M'-M)) :
  Calls Tryz.prog 74 #[sv true p n c,sv false q m d] w fun e w'=>(∃s g k c',w.heap.size≤g∧e=.returned (sv s (some ⟨g,0,none⟩) k c')∧NumS w' s (some ⟨g,0,none⟩) k c' R)∧Below w.heap.size w w':=by
 have HA:=Hd ha;have HB:=Hd hb;have HS:=Hd hS;have HE:=Hd hR;have hC:=fun u (hu:Below w.heap.size w u)=>cmp_gen p q n c m d M M' u (ha.later hu) (hb.later hu)
 have hc0:¬0≤cmpI M M':=by unfold cmpI;split<;>(try split)<;>omega
 generalize cmpI M M'=C at *;have HCM:=Hd hC;clear ha hb hS hR hC hc
 go_enter Tryz.func74,Tryz.ntmps74
 go_upto_region 1 with(fail)
 have b0:=((Blk.new w 143 #[.bool true,.slice p n c]).alloc (.cells #[.bool false,.slice q m d] 143)).alloc (.cells #[.bool false,.slice none 0 0] 143);have b1:=(Blk.new' (n:=w.heap.size+1) (w.alloc (.cells #[.bool true,.slice p n c] 143)) 143 #[.bool false,.slice q m d] (by simp)).alloc (.cells #[.bool false,.slice none 0 0] 143);have b2:=Blk.new' (n:=w.heap.size+1+1) ((w.alloc (.cells #[.bool true,.slice p n c] 143)).alloc (.cells #[.bool false,.slice q m d] 143)) 143 #[.bool false,.slice none 0 0] (by simp);have hb:=bel_alloc (bel_alloc (bel_alloc (bel_refl w) (.cells #[.bool true,.slice p n c] 143)) (.cells #[.bool false,.slice q m d] 143)) (.cells #[.bool false,.slice none 0 0] 143);generalize ((w.alloc (.cells #[.bool true,.slice p n c] 143)).alloc (.cells #[.bool false,.slice q m d] 143)).alloc (.cells #[.bool false,.slice none 0 0] 143)=W at *;have HAW:=Hd (HA.out.later hb);have HBW:=Hd (HB.out.later hb);have hlt:=b2.lt;have HK:=Hd b2;have HB00:=Hd b0;have HB11:=Hd b1;have HW:=Hd hb;obtain⟨x0,x1,_,_⟩:=b0.two;obtain⟨x2,x3,_,_⟩:=b1.two
 go_wp2_with fail
 refine(HCM.out _ HW.out).mono ?_;rintro e w1 ⟨rfl,hb1⟩;have HW1:=Hd (bel_step HW.out hb1);have HAW1:=Hd (HAW.out.later hb1);have HBW1:=Hd (HBW.out.later hb1);have HK1:=Hd (b2.later hb1);have b01:=b0.later hb1;have b11:=b1.later hb1;have hlt1:w.heap.size+1+1<w1.heap.size:=HK1.out.lt;clear b0 b1 b2 hb hb1 x0 x1 x2 x3 HAW HBW HK HW hlt HB00 HB11
 go_upto_region 5 with(fail)
 obtain⟨x0,x1,_,_⟩:=b01.two;obtain⟨x2,x3,_,_⟩:=b11.two;have l0:∀u,Below (w.heap.size+1+1) w1 u→u.cell? ⟨w.heap.size,0,none⟩=some (.bool true):=fun u hu=>(hu.cell (p:=⟨w.heap.size,0,none⟩) (by simp;omega)).trans x0
 have l1:∀u,Below (w.heap.size+1+1) w1 u→u.cell? ⟨w.heap.size,1,none⟩=some (.slice p n c):=fun u hu=>(hu.cell (p:=⟨w.heap.size,1,none⟩) (by simp;omega)).trans x1
 have l2:∀u,Below (w.heap.size+1+1) w1 u→u.cell? ⟨w.heap.size+1,0,none⟩=some (.bool false):=fun u hu=>(hu.cell (p:=⟨w.heap.size+1,0,none⟩) (by simp)).trans x2
 have l3:∀u,Below (w.heap.size+1+1) w1 u→u.cell? ⟨w.heap.size+1,1,none⟩=some (.slice q m d):=fun u hu=>(hu.cell (p:=⟨w.heap.size+1,1,none⟩) (by simp)).trans x3
 clear b01 b11 x0 x1 x2 x3;have hr:Below (w.heap.size+1+1) w1 w1.drew:=(Below.refl _ w1).drew
 go_region_held3 (fun w'=>Below (w.heap.size+1+1) w1 w') (first| exact hr|assumption|exact(hb5.setCell (Nat.le_refl _) _).setCell (Nat.le_refl _) _) ((first| (go_at_call 103;refine(sub_mag q p m d n c M' M _ (HBW1.out.later (bel_drew (bel_refl w1))) (HAW1.out.later (bel_drew (bel_refl w1))) (by omega)).mono ?_;rintro e w2 ⟨⟨p2,k,c',rfl,hm,_⟩,hb2⟩;have HM2:=Hd hm;have HB2:=Hd (bel_step (bel_drew (bel_refl w1)) hb2);have hb3:Below (w.heap.size+1+1) w1 w2:=HB2.out.mono (by omega);clear hm hb2)|(go_at_call 100;refine(make_s false p2 k c' _ 3 _ (HM2.out.short HS.out) (by omega) HS.out).mono ?_;rintro e w3 ⟨⟨s',g,k2,c2,hg,rfl,hm⟩,hb4⟩;have HM3:=Hd hm;have HB3:=Hd (bel_step HB2.out hb4);have hg2:w.heap.size+1+1<g:=(by have:=HB2.out.size;omega);have hb5:Below (w.heap.size+1+1) w1 w3:=HB3.out.mono (by omega);have K:=HK1.out.later HB3.out;have KK:=Hd K;have f0:=K.frozen 0;have f1:=K.frozen 1;have e0:=K.cell 0 _ rfl;have e1:=K.cell 1 _ rfl;obtain⟨k0,k1,_,_⟩:=K.two_set (u:=.bool s') (v:=.slice (some ⟨g,0,none⟩) k2 c2);clear hm hb4 K)))
 go_wp2;refine bodyPost_ret (v:=sv s' (some ⟨g,0,none⟩) k2 c2) (by simp[results,Tryz.results74,go_sem,k0,k1]) rfl ⟨⟨s',g,k2,c2,by omega,rfl,?_⟩,bel_set (bel_set (HW1.out.trans (HB3.out.mono (by omega))) (by omega) _ _) (by omega) _ _⟩;obtain⟨M2,m1,m2,m3⟩:=HM3.out;exact⟨M2,(m1.far (by omega) _ _).far (by omega) _ _,m2,by rw[←m3];exact HE.out⟩
theorem sgn_abs(s:Bool)(M:Nat):(sgn s M).natAbs=M:=by cases s<;>simp[sgn]
theorem plus_s(s t:Bool)(p q:Option Addr)(n c m d:Nat)(N N':Int)(w:World)(ha:NumS w s p n c N)(hb:NumS w t q m d N')(hS:N.natAbs+N'.natAbs<18446744073709551616 ^ 3) :
  Calls Tryz.prog 74 #[sv s p n c,sv t q m d] w fun e w'=>(∃s g k c',w.heap.size≤g∧e=.returned (sv s (some ⟨g,0,none⟩) k c')∧NumS w' s (some ⟨g,0,none⟩) k c' (N+N'))∧Below w.heap.size w w':=by
 obtain⟨M,a1,a2,rfl⟩:=ha;obtain⟨M',b1,b2,rfl⟩:=hb;rw[sgn_abs,sgn_abs]at hS;have a3:=a1.short a2;have b3:=b1.short b2;have ln:n≤999999:=by obtain⟨_,_,_,h⟩:=a3;omega
 have lm:m≤999999:=by obtain⟨_,_,_,h⟩:=b3;omega
 have cg:M'≤M→0≤cmpI M M':=fun h=>by unfold cmpI;split<;>(try split)<;>omega
 have cl:M<M'→¬0≤cmpI M M':=fun h=>by rw[cmp_lt h];omega
 cases s<;>cases t
 ·exact plus_ff p q n c m d M M' _ w a3 b3 hS (by simp[sgn])
 ·by_cases h:M'≤M
  ·exact plus_ft_ge p q n c m d M M' _ w a1 b1 ln (by omega) (by omega) (by simp[sgn];omega)
  ·exact plus_ft_lt p q n c m d M M' _ w a1 b1 lm (by omega) (by omega) (by simp[sgn];omega)
 ·by_cases h:M'≤M
  ·exact plus_tf_ge p q n c m d M M' _ w a1 b1 ln (by omega) (by omega) (by simp[sgn];omega)
  ·exact plus_tf_lt p q n c m d M M' _ w a1 b1 lm (by omega) (by omega) (by simp[sgn];omega)
 ·exact plus_tt p q n c m d M M' _ w a3 b3 hS (by simp[sgn];omega)
set_option maxRecDepth 100000 in
set_option maxHeartbeats 4000000 in
theorem times_ff(p q:Option Addr)(n c m d M M':Nat)(R:Int)(w:World)(ha:MagV w p n c M 3)(hb:MagV w q m d M' 3)(hS:M*M'<18446744073709551616 ^ 3)(hR:R=sgn false (M*M')) :
  Calls Tryz.prog 81 #[sv false p n c,sv false q m d] w fun e w'=>(∃s g k c',w.heap.size≤g∧e=.returned (sv s (some ⟨g,0,none⟩) k c')∧NumS w' s (some ⟨g,0,none⟩) k c' R)∧Below w.heap.size w w':=by
 have HA:=Hd ha;have HB:=Hd hb;obtain⟨Z,hZ⟩:∃Z,M*M'=Z:=⟨_,rfl⟩;rw[hZ]at hS hR;have HZ:=Hd hZ;have HS:=Hd hS;have HE:=Hd hR;clear ha hb hS hR hZ
 go_enter Tryz.func81,Tryz.ntmps81
 go_wp2_with fail
 have b0:=((Blk.new w 143 #[.bool false,.slice p n c]).alloc (.cells #[.bool false,.slice q m d] 143)).alloc (.cells #[.bool false,.slice none 0 0] 143);have b1:=(Blk.new' (n:=w.heap.size+1) (w.alloc (.cells #[.bool false,.slice p n c] 143)) 143 #[.bool false,.slice q m d] (by simp)).alloc (.cells #[.bool false,.slice none 0 0] 143);have b2:=Blk.new' (n:=w.heap.size+1+1) ((w.alloc (.cells #[.bool false,.slice p n c] 143)).alloc (.cells #[.bool false,.slice q m d] 143)) 143 #[.bool false,.slice none 0 0] (by simp);have hb:=bel_alloc (bel_alloc (bel_alloc (bel_refl w) (.cells #[.bool false,.slice p n c] 143)) (.cells #[.bool false,.slice q m d] 143)) (.cells #[.bool false,.slice none 0 0] 143);generalize ((w.alloc (.cells #[.bool false,.slice p n c] 143)).alloc (.cells #[.bool false,.slice q m d] 143)).alloc (.cells #[.bool false,.slice none 0 0] 143)=W at *;have HAW:=Hd (HA.out.later hb);have HBW:=Hd (HB.out.later hb);have hlt:=b2.lt;have HK:=Hd b2;have HW:=Hd hb;obtain⟨x0,x1,_,_⟩:=b0.two;obtain⟨x2,x3,_,_⟩:=b1.two;have l0:∀u,Below (w.heap.size+1+1) W u→u.cell? ⟨w.heap.size,0,none⟩=some (.bool false):=fun u hu=>(hu.cell (p:=⟨w.heap.size,0,none⟩) (by simp;omega)).trans x0
 have l1:∀u,Below (w.heap.size+1+1) W u→u.cell? ⟨w.heap.size,1,none⟩=some (.slice p n c):=fun u hu=>(hu.cell (p:=⟨w.heap.size,1,none⟩) (by simp;omega)).trans x1
 have l2:∀u,Below (w.heap.size+1+1) W u→u.cell? ⟨w.heap.size+1,0,none⟩=some (.bool false):=fun u hu=>(hu.cell (p:=⟨w.heap.size+1,0,none⟩) (by simp)).trans x2
 have l3:∀u,Below (w.heap.size+1+1) W u→u.cell? ⟨w.heap.size+1,1,none⟩=some (.slice q m d):=fun u hu=>(hu.cell (p:=⟨w.heap.size+1,1,none⟩) (by simp)).trans x3
 clear b0 b1 b2 hb x0 x1 x2 x3;have hr:Below (w.heap.size+1+1) W W.drew:=(Below.refl _ W).drew
 go_region_held3 (fun w'=>Below (w.heap.size+1+1) W w') (first| exact hr|assumption|exact(hb5.setCell (Nat.le_refl _) _).setCell (Nat.le_refl _) _) ((first| (go_at_call 109;refine(mul_mag p q n c m d M M' 3 3 _ (HAW.out.later (bel_drew (bel_refl W))) (HBW.out.later (bel_drew (bel_refl W))) (by omega) (by omega)).mono ?_;rintro e w2 ⟨⟨p2,k,c',rfl,hm,_⟩,hb2⟩;rw[HZ.out]at hm;have HM2:=Hd hm;have HB2:=Hd (bel_step (bel_drew (bel_refl W)) hb2);have hb3:Below (w.heap.size+1+1) W w2:=HB2.out.mono (by omega);clear hm hb2)|(go_at_call 100;refine(make_s false p2 k c' _ 3 _ (HM2.out.short HS.out) (by omega) HS.out).mono ?_;rintro e w3 ⟨⟨s',g,k2,c2,hg,rfl,hm⟩,hb4⟩;have HM3:=Hd hm;have HB3:=Hd (bel_step HB2.out hb4);have hg2:w.heap.size+1+1<g:=(by have:=HB2.out.size;omega);have hb5:Below (w.heap.size+1+1) W w3:=HB3.out.mono (by omega);have K:=HK.out.later HB3.out;have KK:=Hd K;have f0:=K.frozen 0;have f1:=K.frozen 1;have e0:=K.cell 0 _ rfl;have e1:=K.cell 1 _ rfl;obtain⟨k0,k1,_,_⟩:=K.two_set (u:=.bool s') (v:=.slice (some ⟨g,0,none⟩) k2 c2);clear hm hb4 K)))
 go_wp2;refine bodyPost_ret (v:=sv s' (some ⟨g,0,none⟩) k2 c2) (by simp[results,Tryz.results81,go_sem,k0,k1]) rfl ⟨⟨s',g,k2,c2,by omega,rfl,?_⟩,bel_set (bel_set (HW.out.trans (HB3.out.mono (by omega))) (by omega) _ _) (by omega) _ _⟩;obtain⟨M2,m1,m2,m3⟩:=HM3.out;exact⟨M2,(m1.far (by omega) _ _).far (by omega) _ _,m2,by rw[←m3];exact HE.out⟩
set_option maxRecDepth 100000 in
set_option maxHeartbeats 4000000 in
theorem times_ft(p q:Option Addr)(n c m d M M':Nat)(R:Int)(w:World)(ha:MagV w p n c M 3)(hb:MagV w q m d M' 3)(hS:M*M'<18446744073709551616 ^ 3)(hR:R=sgn true (M*M')) :
  Calls Tryz.prog 81 #[sv false p n c,sv true q m d] w fun e w'=>(∃s g k c',w.heap.size≤g∧e=.returned (sv s (some ⟨g,0,none⟩) k c')∧NumS w' s (some ⟨g,0,none⟩) k c' R)∧Below w.heap.size w w':=by
 have HA:=Hd ha;have HB:=Hd hb;obtain⟨Z,hZ⟩:∃Z,M*M'=Z:=⟨_,rfl⟩;rw[hZ]at hS hR;have HZ:=Hd hZ;have HS:=Hd hS;have HE:=Hd hR;clear ha hb hS hR hZ
 go_enter Tryz.func81,Tryz.ntmps81
 go_wp2_with fail
 have b0:=((Blk.new w 143 #[.bool false,.slice p n c]).alloc (.cells #[.bool true,.slice q m d] 143)).alloc (.cells #[.bool false,.slice none 0 0] 143);have b1:=(Blk.new' (n:=w.heap.size+1) (w.alloc (.cells #[.bool false,.slice p n c] 143)) 143 #[.bool true,.slice q m d] (by simp)).alloc (.cells #[.bool false,.slice none 0 0] 143);have b2:=Blk.new' (n:=w.heap.size+1+1) ((w.alloc (.cells #[.bool false,.slice p n c] 143)).alloc (.cells #[.bool true,.slice q m d] 143)) 143 #[.bool false,.slice none 0 0] (by simp);have hb:=bel_alloc (bel_alloc (bel_alloc (bel_refl w) (.cells #[.bool false,.slice p n c] 143)) (.cells #[.bool true,.slice q m d] 143)) (.cells #[.bool false,.slice none 0 0] 143);generalize ((w.alloc (.cells #[.bool false,.slice p n c] 143)).alloc (.cells #[.bool true,.slice q m d] 143)).alloc (.cells #[.bool false,.slice none 0 0] 143)=W at *;have HAW:=Hd (HA.out.later hb);have HBW:=Hd (HB.out.later hb);have hlt:=b2.lt;have HK:=Hd b2;have HW:=Hd hb;obtain⟨x0,x1,_,_⟩:=b0.two;obtain⟨x2,x3,_,_⟩:=b1.two;have l0:∀u,Below (w.heap.size+1+1) W u→u.cell? ⟨w.heap.size,0,none⟩=some (.bool false):=fun u hu=>(hu.cell (p:=⟨w.heap.size,0,none⟩) (by simp;omega)).trans x0
 have l1:∀u,Below (w.heap.size+1+1) W u→u.cell? ⟨w.heap.size,1,none⟩=some (.slice p n c):=fun u hu=>(hu.cell (p:=⟨w.heap.size,1,none⟩) (by simp;omega)).trans x1
 have l2:∀u,Below (w.heap.size+1+1) W u→u.cell? ⟨w.heap.size+1,0,none⟩=some (.bool true):=fun u hu=>(hu.cell (p:=⟨w.heap.size+1,0,none⟩) (by simp)).trans x2
 have l3:∀u,Below (w.heap.size+1+1) W u→u.cell? ⟨w.heap.size+1,1,none⟩=some (.slice q m d):=fun u hu=>(hu.cell (p:=⟨w.heap.size+1,1,none⟩) (by simp)).trans x3
 clear b0 b1 b2 hb x0 x1 x2 x3;have hr:Below (w.heap.size+1+1) W W.drew:=(Below.refl _ W).drew
 go_region_held3 (fun w'=>Below (w.heap.size+1+1) W w') (first| exact hr|assumption|exact(hb5.setCell (Nat.le_refl _) _).setCell (Nat.le_refl _) _) ((first| (go_at_call 109;refine(mul_mag p q n c m d M M' 3 3 _ (HAW.out.later (bel_drew (bel_refl W))) (HBW.out.later (bel_drew (bel_refl W))) (by omega) (by omega)).mono ?_;rintro e w2 ⟨⟨p2,k,c',rfl,hm,_⟩,hb2⟩;rw[HZ.out]at hm;have HM2:=Hd hm;have HB2:=Hd (bel_step (bel_drew (bel_refl W)) hb2);have hb3:Below (w.heap.size+1+1) W w2:=HB2.out.mono (by omega);clear hm hb2)|(go_at_call 100;refine(make_s true p2 k c' _ 3 _ (HM2.out.short HS.out) (by omega) HS.out).mono ?_;rintro e w3 ⟨⟨s',g,k2,c2,hg,rfl,hm⟩,hb4⟩;have HM3:=Hd hm;have HB3:=Hd (bel_step HB2.out hb4);have hg2:w.heap.size+1+1<g:=(by have:=HB2.out.size;omega);have hb5:Below (w.heap.size+1+1) W w3:=HB3.out.mono (by omega);have K:=HK.out.later HB3.out;have KK:=Hd K;have f0:=K.frozen 0;have f1:=K.frozen 1;have e0:=K.cell 0 _ rfl;have e1:=K.cell 1 _ rfl;obtain⟨k0,k1,_,_⟩:=K.two_set (u:=.bool s') (v:=.slice (some ⟨g,0,none⟩) k2 c2);clear hm hb4 K)))
 go_wp2;refine bodyPost_ret (v:=sv s' (some ⟨g,0,none⟩) k2 c2) (by simp[results,Tryz.results81,go_sem,k0,k1]) rfl ⟨⟨s',g,k2,c2,by omega,rfl,?_⟩,bel_set (bel_set (HW.out.trans (HB3.out.mono (by omega))) (by omega) _ _) (by omega) _ _⟩;obtain⟨M2,m1,m2,m3⟩:=HM3.out;exact⟨M2,(m1.far (by omega) _ _).far (by omega) _ _,m2,by rw[←m3];exact HE.out⟩
set_option maxRecDepth 100000 in
set_option maxHeartbeats 4000000 in
theorem times_tf(p q:Option Addr)(n c m d M M':Nat)(R:Int)(w:World)(ha:MagV w p n c M 3)(hb:MagV w q m d M' 3)(hS:M*M'<18446744073709551616 ^ 3)(hR:R=sgn true (M*M')) :
  Calls Tryz.prog 81 #[sv true p n c,sv false q m d] w fun e w'=>(∃s g k c',w.heap.size≤g∧e=.returned (sv s (some ⟨g,0,none⟩) k c')∧NumS w' s (some ⟨g,0,none⟩) k c' R)∧Below w.heap.size w w':=by
 have HA:=Hd ha;have HB:=Hd hb;obtain⟨Z,hZ⟩:∃Z,M*M'=Z:=⟨_,rfl⟩;rw[hZ]at hS hR;have HZ:=Hd hZ;have HS:=Hd hS;have HE:=Hd hR;clear ha hb hS hR hZ
 go_enter Tryz.func81,Tryz.ntmps81
 go_wp2_with fail
 have b0:=((Blk.new w 143 #[.bool true,.slice p n c]).alloc (.cells #[.bool false,.slice q m d] 143)).alloc (.cells #[.bool false,.slice none 0 0] 143);have b1:=(Blk.new' (n:=w.heap.size+1) (w.alloc (.cells #[.bool true,.slice p n c] 143)) 143 #[.bool false,.slice q m d] (by simp)).alloc (.cells #[.bool false,.slice none 0 0] 143);have b2:=Blk.new' (n:=w.heap.size+1+1) ((w.alloc (.cells #[.bool true,.slice p n c] 143)).alloc (.cells #[.bool false,.slice q m d] 143)) 143 #[.bool false,.slice none 0 0] (by simp);have hb:=bel_alloc (bel_alloc (bel_alloc (bel_refl w) (.cells #[.bool true,.slice p n c] 143)) (.cells #[.bool false,.slice q m d] 143)) (.cells #[.bool false,.slice none 0 0] 143);generalize ((w.alloc (.cells #[.bool true,.slice p n c] 143)).alloc (.cells #[.bool false,.slice q m d] 143)).alloc (.cells #[.bool false,.slice none 0 0] 143)=W at *;have HAW:=Hd (HA.out.later hb);have HBW:=Hd (HB.out.later hb);have hlt:=b2.lt;have HK:=Hd b2;have HW:=Hd hb;obtain⟨x0,x1,_,_⟩:=b0.two;obtain⟨x2,x3,_,_⟩:=b1.two;have l0:∀u,Below (w.heap.size+1+1) W u→u.cell? ⟨w.heap.size,0,none⟩=some (.bool true):=fun u hu=>(hu.cell (p:=⟨w.heap.size,0,none⟩) (by simp;omega)).trans x0
 have l1:∀u,Below (w.heap.size+1+1) W u→u.cell? ⟨w.heap.size,1,none⟩=some (.slice p n c):=fun u hu=>(hu.cell (p:=⟨w.heap.size,1,none⟩) (by simp;omega)).trans x1
 have l2:∀u,Below (w.heap.size+1+1) W u→u.cell? ⟨w.heap.size+1,0,none⟩=some (.bool false):=fun u hu=>(hu.cell (p:=⟨w.heap.size+1,0,none⟩) (by simp)).trans x2
 have l3:∀u,Below (w.heap.size+1+1) W u→u.cell? ⟨w.heap.size+1,1,none⟩=some (.slice q m d):=fun u hu=>(hu.cell (p:=⟨w.heap.size+1,1,none⟩) (by simp)).trans x3
 clear b0 b1 b2 hb x0 x1 x2 x3;have hr:Below (w.heap.size+1+1) W W.drew:=(Below.refl _ W).drew
 go_region_held3 (fun w'=>Below (w.heap.size+1+1) W w') (first| exact hr|assumption|exact(hb5.setCell (Nat.le_refl _) _).setCell (Nat.le_refl _) _) ((first| (go_at_call 109;refine(mul_mag p q n c m d M M' 3 3 _ (HAW.out.later (bel_drew (bel_refl W))) (HBW.out.later (bel_drew (bel_refl W))) (by omega) (by omega)).mono ?_;rintro e w2 ⟨⟨p2,k,c',rfl,hm,_⟩,hb2⟩;rw[HZ.out]at hm;have HM2:=Hd hm;have HB2:=Hd (bel_step (bel_drew (bel_refl W)) hb2);have hb3:Below (w.heap.size+1+1) W w2:=HB2.out.mono (by omega);clear hm hb2)|(go_at_call 100;refine(make_s true p2 k c' _ 3 _ (HM2.out.short HS.out) (by omega) HS.out).mono ?_;rintro e w3 ⟨⟨s',g,k2,c2,hg,rfl,hm⟩,hb4⟩;have HM3:=Hd hm;have HB3:=Hd (bel_step HB2.out hb4);have hg2:w.heap.size+1+1<g:=(by have:=HB2.out.size;omega);have hb5:Below (w.heap.size+1+1) W w3:=HB3.out.mono (by omega);have K:=HK.out.later HB3.out;have KK:=Hd K;have f0:=K.frozen 0;have f1:=K.frozen 1;have e0:=K.cell 0 _ rfl;have e1:=K.cell 1 _ rfl;obtain⟨k0,k1,_,_⟩:=K.two_set (u:=.bool s') (v:=.slice (some ⟨g,0,none⟩) k2 c2);clear hm hb4 K)))
 go_wp2;refine bodyPost_ret (v:=sv s' (some ⟨g,0,none⟩) k2 c2) (by simp[results,Tryz.results81,go_sem,k0,k1]) rfl ⟨⟨s',g,k2,c2,by omega,rfl,?_⟩,bel_set (bel_set (HW.out.trans (HB3.out.mono (by omega))) (by omega) _ _) (by omega) _ _⟩;obtain⟨M2,m1,m2,m3⟩:=HM3.out;exact⟨M2,(m1.far (by omega) _ _).far (by omega) _ _,m2,by rw[←m3];exact HE.out⟩
set_option maxRecDepth 100000 in
set_option maxHeartbeats 4000000 in
theorem times_tt(p q:Option Addr)(n c m d M M':Nat)(R:Int)(w:World)(ha:MagV w p n c M 3)(hb:MagV w q m d M' 3)(hS:M*M'<18446744073709551616 ^ 3)(hR:R=sgn false (M*M')) :
  Calls Tryz.prog 81 #[sv true p n c,sv true q m d] w fun e w'=>(∃s g k c',w.heap.size≤g∧e=.returned (sv s (some ⟨g,0,none⟩) k c')∧NumS w' s (some ⟨g,0,none⟩) k c' R)∧Below w.heap.size w w':=by
 have HA:=Hd ha;have HB:=Hd hb;obtain⟨Z,hZ⟩:∃Z,M*M'=Z:=⟨_,rfl⟩;rw[hZ]at hS hR;have HZ:=Hd hZ;have HS:=Hd hS;have HE:=Hd hR;clear ha hb hS hR hZ
 go_enter Tryz.func81,Tryz.ntmps81
 go_wp2_with fail
 have b0:=((Blk.new w 143 #[.bool true,.slice p n c]).alloc (.cells #[.bool true,.slice q m d] 143)).alloc (.cells #[.bool false,.slice none 0 0] 143);have b1:=(Blk.new' (n:=w.heap.size+1) (w.alloc (.cells #[.bool true,.slice p n c] 143)) 143 #[.bool true,.slice q m d] (by simp)).alloc (.cells #[.bool false,.slice none 0 0] 143);have b2:=Blk.new' (n:=w.heap.size+1+1) ((w.alloc (.cells #[.bool true,.slice p n c] 143)).alloc (.cells #[.bool true,.slice q m d] 143)) 143 #[.bool false,.slice none 0 0] (by simp);have hb:=bel_alloc (bel_alloc (bel_alloc (bel_refl w) (.cells #[.bool true,.slice p n c] 143)) (.cells #[.bool true,.slice q m d] 143)) (.cells #[.bool false,.slice none 0 0] 143);generalize ((w.alloc (.cells #[.bool true,.slice p n c] 143)).alloc (.cells #[.bool true,.slice q m d] 143)).alloc (.cells #[.bool false,.slice none 0 0] 143)=W at *;have HAW:=Hd (HA.out.later hb);have HBW:=Hd (HB.out.later hb);have hlt:=b2.lt;have HK:=Hd b2;have HW:=Hd hb;obtain⟨x0,x1,_,_⟩:=b0.two;obtain⟨x2,x3,_,_⟩:=b1.two;have l0:∀u,Below (w.heap.size+1+1) W u→u.cell? ⟨w.heap.size,0,none⟩=some (.bool true):=fun u hu=>(hu.cell (p:=⟨w.heap.size,0,none⟩) (by simp;omega)).trans x0
 have l1:∀u,Below (w.heap.size+1+1) W u→u.cell? ⟨w.heap.size,1,none⟩=some (.slice p n c):=fun u hu=>(hu.cell (p:=⟨w.heap.size,1,none⟩) (by simp;omega)).trans x1
 have l2:∀u,Below (w.heap.size+1+1) W u→u.cell? ⟨w.heap.size+1,0,none⟩=some (.bool true):=fun u hu=>(hu.cell (p:=⟨w.heap.size+1,0,none⟩) (by simp)).trans x2
 have l3:∀u,Below (w.heap.size+1+1) W u→u.cell? ⟨w.heap.size+1,1,none⟩=some (.slice q m d):=fun u hu=>(hu.cell (p:=⟨w.heap.size+1,1,none⟩) (by simp)).trans x3
 clear b0 b1 b2 hb x0 x1 x2 x3;have hr:Below (w.heap.size+1+1) W W.drew:=(Below.refl _ W).drew
 go_region_held3 (fun w'=>Below (w.heap.size+1+1) W w') (first| exact hr|assumption|exact(hb5.setCell (Nat.le_refl _) _).setCell (Nat.le_refl _) _) ((first| (go_at_call 109;refine(mul_mag p q n c m d M M' 3 3 _ (HAW.out.later (bel_drew (bel_refl W))) (HBW.out.later (bel_drew (bel_refl W))) (by omega) (by omega)).mono ?_;rintro e w2 ⟨⟨p2,k,c',rfl,hm,_⟩,hb2⟩;rw[HZ.out]at hm;have HM2:=Hd hm;have HB2:=Hd (bel_step (bel_drew (bel_refl W)) hb2);have hb3:Below (w.heap.size+1+1) W w2:=HB2.out.mono (by omega);clear hm hb2)|(go_at_call 100;refine(make_s false p2 k c' _ 3 _ (HM2.out.short HS.out) (by omega) HS.out).mono ?_;rintro e w3 ⟨⟨s',g,k2,c2,hg,rfl,hm⟩,hb4⟩;have HM3:=Hd hm;have HB3:=Hd (bel_step HB2.out hb4);have hg2:w.heap.size+1+1<g:=(by have:=HB2.out.size;omega);have hb5:Below (w.heap.size+1+1) W w3:=HB3.out.mono (by omega);have K:=HK.out.later HB3.out;have KK:=Hd K;have f0:=K.frozen 0;have f1:=K.frozen 1;have e0:=K.cell 0 _ rfl;have e1:=K.cell 1 _ rfl;obtain⟨k0,k1,_,_⟩:=K.two_set (u:=.bool s') (v:=.slice (some ⟨g,0,none⟩) k2 c2);clear hm hb4 K)))
 go_wp2;refine bodyPost_ret (v:=sv s' (some ⟨g,0,none⟩) k2 c2) (by simp[results,Tryz.results81,go_sem,k0,k1]) rfl ⟨⟨s',g,k2,c2,by omega,rfl,?_⟩,bel_set (bel_set (HW.out.trans (HB3.out.mono (by omega))) (by omega) _ _) (by omega) _ _⟩;obtain⟨M2,m1,m2,m3⟩:=HM3.out;exact⟨M2,(m1.far (by omega) _ _).far (by omega) _ _,m2,by rw[←m3];exact HE.out⟩
theorem times_s(s t:Bool)(p q:Option Addr)(n c m d:Nat)(N N':Int)(w:World)(ha:NumS w s p n c N)(hb:NumS w t q m d N')(hS:N.natAbs*N'.natAbs<18446744073709551616 ^ 3) :
  Calls Tryz.prog 81 #[sv s p n c,sv t q m d] w fun e w'=>(∃s g k c',w.heap.size≤g∧e=.returned (sv s (some ⟨g,0,none⟩) k c')∧NumS w' s (some ⟨g,0,none⟩) k c' (N*N'))∧Below w.heap.size w w':=by
 obtain⟨M,a1,a2,rfl⟩:=ha;obtain⟨M',b1,b2,rfl⟩:=hb;rw[sgn_abs,sgn_abs]at hS;have a3:=a1.short a2;have b3:=b1.short b2;cases s<;>cases t
 ·exact times_ff p q n c m d M M' _ w a3 b3 hS (by simp[sgn])
 ·exact times_ft p q n c m d M M' _ w a3 b3 hS (by simp[sgn,Int.mul_neg])
 ·exact times_tf p q n c m d M M' _ w a3 b3 hS (by simp[sgn,Int.neg_mul])
 ·exact times_tt p q n c m d M M' _ w a3 b3 hS (by simp[sgn,Int.neg_mul_neg])
theorem len_s(p:Option Addr)(n c M:Nat)(w:World)(h:MagN w p n c M):Calls Tryz.prog 108 #[.slice p n c] w fun e w'=>(∃L:Int,e=.returned (.int .i64 L)∧(L==0)=(M==0))∧Below w.heap.size w w':=by
 have h2:=mag_len h;obtain⟨f,h1,_,h3⟩:=h;refine(len_any p n c f w h1 h3).mono ?_;rintro e w' ⟨⟨L,he,hL⟩,hb⟩;refine⟨⟨L,he,hL.trans ?_⟩,hb⟩;by_cases hn:n=0
 ·simp[hn,h2.1 hn]
 ·have h4:M≠0:=fun e=>hn (h2.2 e)
  exact(beq_eq_false_iff_ne.2 hn).trans (beq_eq_false_iff_ne.2 h4).symm
set_option maxRecDepth 100000 in
theorem sign_b(b z:Bool)(r:Int)(hr:r=if z=true then 0 else if b=true then -1 else 1)(p:Option Addr)(n c M:Nat)(w:World)(h:MagN w p n c M)(hz:(M==0)=z) :
  Calls Tryz.prog 79 #[sv b p n c] w fun e w'=>e=.returned (.int .i64 r)∧Below w.heap.size w w':=by
 have hL:=fun u (hu:Below w.heap.size w u)=>len_s p n c M u (h.later hu)
 rw[hz]at hL;have HL:=Hd hL;clear hL h hz;cases b<;>cases z<;>simp at hr<;>subst hr
 ·go_enter Tryz.func79,Tryz.ntmps79
  go_wp2_with (go_at_call 108;refine(HL.out _ (bel_alloc (bel_refl w) _)).mono ?_;rintro e w1 ⟨⟨L,rfl,hLz⟩,hb1⟩;have HB:=Hd (bel_step (bel_alloc (bel_refl w) _) hb1);obtain⟨k0,k1,_,_⟩:=((Blk.new w 143 #[.bool false,.slice p n c]).later hb1).two;clear hb1)
  go_ret
  exact⟨rfl,HB.out⟩
 ·go_enter Tryz.func79,Tryz.ntmps79
  go_wp2_with (go_at_call 108;refine(HL.out _ (bel_alloc (bel_refl w) _)).mono ?_;rintro e w1 ⟨⟨L,rfl,hLz⟩,hb1⟩;have HB:=Hd (bel_step (bel_alloc (bel_refl w) _) hb1);obtain⟨k0,k1,_,_⟩:=((Blk.new w 143 #[.bool false,.slice p n c]).later hb1).two;clear hb1)
  go_ret
  exact⟨rfl,HB.out⟩
 ·go_enter Tryz.func79,Tryz.ntmps79
  go_wp2_with (go_at_call 108;refine(HL.out _ (bel_alloc (bel_refl w) _)).mono ?_;rintro e w1 ⟨⟨L,rfl,hLz⟩,hb1⟩;have HB:=Hd (bel_step (bel_alloc (bel_refl w) _) hb1);obtain⟨k0,k1,_,_⟩:=((Blk.new w 143 #[.bool true,.slice p n c]).later hb1).two;clear hb1)
  go_ret
  exact⟨rfl,HB.out⟩
 ·go_enter Tryz.func79,Tryz.ntmps79
  go_wp2_with (go_at_call 108;refine(HL.out _ (bel_alloc (bel_refl w) _)).mono ?_;rintro e w1 ⟨⟨L,rfl,hLz⟩,hb1⟩;have HB:=Hd (bel_step (bel_alloc (bel_refl w) _) hb1);obtain⟨k0,k1,_,_⟩:=((Blk.new w 143 #[.bool true,.slice p n c]).later hb1).two;clear hb1)
  go_ret
  exact⟨rfl,HB.out⟩
theorem sign_s(s:Bool)(p:Option Addr)(n c:Nat)(N:Int)(w:World)(h:NumS w s p n c N):Calls Tryz.prog 79 #[sv s p n c] w fun e w'=>e=.returned (.int .i64 N.sign)∧Below w.heap.size w w':=by
 obtain⟨M,h1,_,rfl⟩:=h;refine sign_b s (M==0) _ ?_ p n c M w h1 rfl;by_cases hM:M=0
 ·subst hM;cases s<;>rfl
 ·have e:(M==0)=false:=by simpa using hM
  rw[e];cases s
  ·show Int.sign (M:Int)=1
   exact Int.sign_eq_one_of_pos (by omega)
  ·show Int.sign (-(M:Int))=-1
   exact Int.sign_eq_neg_one_of_neg (by omega)
end Nz
end Go.Proofs.YtdihefgleefhmaaGreat
