import Derived.Test.YtdihefgleefhmaaGreatNz
import Derived.Test.YtdihefgleefhmaaGreatCf
namespace Go.Proofs.YtdihefgleefhmaaGreat
open Go.RowKit
namespace Nz
open Mg Nu Nc Np
theorem nums_far{W:World}{s:Bool}{g n c:Nat}{N:Int}(h:NumS W s (some ⟨g,0,none⟩) n c N){b:Nat}(hb:g≠b)(i:Nat)(v:Value):NumS (W.setCell ⟨b,i,none⟩ v) s (some ⟨g,0,none⟩) n c N:=by
 obtain⟨M,h1,h2,h3⟩:=h;exact⟨M,h1.far hb i v,h2,h3⟩
theorem nums_nil(W:World):NumS W false none 0 0 0:=⟨0,⟨fun _=>0,⟨fun _ h=>by omega,Nat.le_refl _,by omega,fun h=>by omega⟩,rfl,fun j h=>by omega⟩,by omega,rfl⟩
structure SumAt(w W:World)(V:Int)(s:Bool)(p:Option Addr)(n c:Nat):Prop where
 rB:Blk W w.heap.size 143 #[.bool false,.slice none 0 0]
 oB:Blk W (w.heap.size+1) 143 #[.bool s,.slice p n c]
 num:NumS W s p n c V
 bel:Below w.heap.size w W
set_option maxRecDepth 100000 in
set_option maxHeartbeats 2000000 in
theorem sum_s(g L cL:Nat)(S:Nat→Bool)(P:Nat→Option Addr)(n c:Nat→Nat)(V PS:Nat→Int)(w:World)(hL0:0<L)(hL9:L≤1000)(hc0:∀k,k<L→w.cell? ⟨g,k*2,none⟩=some (.bool (S k)))(hc1:∀k,k<L→w.cell? ⟨g,k*2+1,none⟩=some (.slice (P k) (n k) (c k)))
  (hN:∀k,k<L→NumS w (S k) (P k) (n k) (c k) (V k)) (h0:PS 0=0) (hs:∀k,k<L→PS (k+1)=PS k+V k) (hb:∀k,k<L→(PS k).natAbs+(V k).natAbs<18446744073709551616 ^ 3) :
  Calls Tryz.prog 80 #[.slice (some ⟨g,0,none⟩) L cL] w fun e w'=>(∃s g k c',w.heap.size≤g∧e=.returned (sv s (some ⟨g,0,none⟩) k c')∧NumS w' s (some ⟨g,0,none⟩) k c' (PS L))∧Below w.heap.size w w':=by
 have HC0:=Hd hc0;have HC1:=Hd hc1;have HN:=Hd hN;have H0:=Hd h0;have HS:=Hd hs;have HB:=Hd hb;clear hc0 hc1 hN h0 hs hb
 go_enter Tryz.func80,Tryz.ntmps80
 go_upto_region 2 with(fail)
 have b0:=(Blk.new w 143 #[.bool false,.slice none 0 0]).alloc (.cells #[.bool false,.slice none 0 0] 143);have b1:=Blk.new' (n:=w.heap.size+1) (w.alloc (.cells #[.bool false,.slice none 0 0] 143)) 143 #[.bool false,.slice none 0 0] (by simp);have hbb:=bel_alloc (bel_alloc (bel_refl w) (.cells #[.bool false,.slice none 0 0] 143)) (.cells #[.bool false,.slice none 0 0] 143);generalize (w.alloc (.cells #[.bool false,.slice none 0 0] 143)).alloc (.cells #[.bool false,.slice none 0 0] 143)=W at *;have HA:=Hd (show SumAt w W (PS 0) false none 0 0 from⟨b0,b1,by rw[H0.out];exact nums_nil W,hbb⟩);clear b0 b1 hbb;go_wp2
 go_loopw [8] (fun v wr=>∃(k:Nat) (s:Bool) (p:Option Addr) (m d:Nat),v=.int .i64 k∧k≤L∧Hid (SumAt w wr (PS k) s p m d)∧Hid (k=0∨∃g',p=some ⟨g',0,none⟩∧w.heap.size+1<g')) (fun v _=>L-(intOf v).toNat)
 case atStart=>exact⟨0,false,none,0,0,rfl,Nat.zero_le _,HA,Hd (.inl rfl)⟩
 case round=>
  obtain⟨k,s,p,m,d,rfl,hk,HA1,HP⟩:=hrel;by_cases hkl:k<L
  ·have x0:=cell_later (HC0.out k hkl) HA1.out.bel
   have x1:=cell_later (HC1.out k hkl) HA1.out.bel;have hnk:=(HN.out k hkl).later HA1.out.bel;have HNK:=Hd hnk;have HBK:=Hd (HB.out k hkl);have HSK:=Hd (HS.out k hkl);obtain⟨y0,y1,y2,y3⟩:=HA1.out.oB.two;have l1:(k:Int)<(L:Int):=by omega
   have l0:(0:Int)≤(k:Int):=by omega
   have wk:IntKind.i64.wrap ((k:Int)+1)=((k+1:Nat):Int):=by rw[IntWalk.i64_in _ (by omega)];omega
   clear hnk;generalize S k=sk at *;generalize P k=pk at *;generalize n k=nk at *;generalize c k=ck at *
   go_upto_region 5 with(fail)
   have hb1:=bel_alloc (bel_refl wr) (.cells #[.bool sk,.slice pk nk ck] 143);obtain⟨e0,e1,_,_⟩:=(Blk.new wr 143 #[.bool sk,.slice pk nk ck]).two;have HO2:=Hd (HA1.out.oB.later hb1);have HR2:=Hd (HA1.out.rB.later hb1);have HN2:=Hd (HA1.out.num.later hb1);have HK2:=Hd (HNK.out.later hb1);have HB2:=Hd (bel_step HA1.out.bel hb1);have hlt:w.heap.size+1<wr.heap.size:=HA1.out.oB.lt;clear x0 x1 y0 y1 y2 y3 hb1;generalize wr.alloc (.cells #[.bool sk,.slice pk nk ck] 143)=W2 at *;generalize wr.heap.size=tb at *;obtain⟨y0,y1,y2,y3⟩:=HO2.out.two;have hlt2:w.heap.size+1<W2.heap.size:=HO2.out.lt
   go_wp2_with fail
   refine(plus_s s sk p pk m d nk ck (PS k) (V k) _ HN2.out HK2.out HBK.out).mono ?_;rintro e w3 ⟨⟨s3,g3,m3,d3,hg3,rfl,hn3⟩,hb3⟩;have HN3:=Hd hn3;have HB3:=Hd (bel_step HB2.out hb3);have HO3:=Hd (HO2.out.later hb3);have HR3:=Hd (HR2.out.later hb3);obtain⟨z0,z1,z2,z3⟩:=HO3.out.two;clear hn3 hb3 y0 y1 y2 y3 e0 e1;go_wp2;go_roundw
   case rel=>
    refine⟨k+1,s3,_,m3,d3,by go_num,by omega,Hd ⟨(HR3.out.other (by omega) _ _).other (by omega) _ _,?_,?_,bel_set (bel_set HB3.out (by omega) _ _) (by omega) _ _⟩,Hd (.inr ⟨g3,rfl,by omega⟩)⟩
    ·exact(HO3.out.set 0 _).set 1 _
    ·rw[HSK.out]
     exact nums_far (nums_far HN3.out (by omega) _ _) (by omega) _ _
   case measure=>simp[intOf];omega
  ·obtain rfl:k=L:=by omega
   obtain⟨g',rfl,hg'⟩:∃g',p=some ⟨g',0,none⟩∧w.heap.size+1<g':=by
    rcases HP.out with h|h
    ·omega
    ·exact h
   obtain⟨y0,y1,y2,y3⟩:=HA1.out.oB.two;obtain⟨z0,z1,z2,z3⟩:=HA1.out.rB.two;obtain⟨n0,n1,_,_⟩:=HA1.out.rB.two_set (u:=.bool s) (v:=.slice (some ⟨g',0,none⟩) m d);go_wp2;refine bodyPost_ret (v:=sv s (some ⟨g',0,none⟩) m d) (by simp[results,Tryz.results80,go_sem,n0,n1]) rfl ⟨⟨s,g',m,d,by omega,rfl,?_⟩,bel_set (bel_set HA1.out.bel (Nat.le_refl _) _ _) (Nat.le_refl _) _ _⟩;exact nums_far (nums_far HA1.out.num (by omega) _ _) (by omega) _ _
set_option maxRecDepth 100000 in
theorem sq_any(x y:Int)(w:World)(x0:-4294967296≤x)(x1:x≤4294967296)(y0:-4294967296≤y)(y1:y≤4294967296) :
  Calls Tryz.prog 73 #[.int .i64 x,.int .i64 y] w fun e w'=>(∃s g k c',w.heap.size≤g∧e=.returned (sv s (some ⟨g,0,none⟩) k c')∧NumS w' s (some ⟨g,0,none⟩) k c' (x*x+y*y))∧Below w.heap.size w w':=by
 have hx:0≤x*x∧x*x≤18446744073709551616:=by
  have h1:x*x=((x.natAbs*x.natAbs:Nat):Int):=(Int.natAbs_mul_self).symm;have h2:x.natAbs*x.natAbs≤4294967296*4294967296:=Nat.mul_le_mul (by omega) (by omega);omega
 have hy:0≤y*y∧y*y≤18446744073709551616:=by
  have h1:y*y=((y.natAbs*y.natAbs:Nat):Int):=(Int.natAbs_mul_self).symm;have h2:y.natAbs*y.natAbs≤4294967296*4294967296:=Nat.mul_le_mul (by omega) (by omega);omega
 have m1:=fun w=>Wd.mul_wv x x w (by omega) (by omega) (by omega) (by omega)
 have m2:=fun w=>Wd.mul_wv y y w (by omega) (by omega) (by omega) (by omega)
 generalize x*x=X at *;generalize y*y=Y at *;have n1:=fun w=>num_s X w (by omega) (by omega)
 have n2:=fun w=>num_s Y w (by omega) (by omega)
 have hs:X.natAbs+Y.natAbs<18446744073709551616 ^ 3:=by omega
 have M1:=Hd m1;have M2:=Hd m2;have N1:=Hd n1;have N2:=Hd n2;have HS:=Hd hs;clear m1 m2 n1 n2 hs hx hy x0 x1 y0 y1
 go_enter Tryz.func73,Tryz.ntmps73
 go_wp2_with fail
 refine(M1.out _).mono ?_;rintro e w1 ⟨rfl,hb1⟩;have K1:=Hd ((Blk.new w 143 #[.bool false,.slice none 0 0]).later hb1);have B1:=Hd (bel_step (bel_alloc (bel_refl w) _) hb1);clear hb1
 go_wp2_with fail
 refine(N1.out _).mono ?_;rintro e w2 ⟨⟨s1,g1,k1,c1,hg1,rfl,hm1⟩,hb2⟩;have K2:=Hd (K1.out.later hb2);have B2:=Hd (bel_step B1.out hb2);have A2:=Hd hm1;clear hb2 hm1
 go_wp2_with fail
 refine(M2.out _).mono ?_;rintro e w3 ⟨rfl,hb3⟩;have K3:=Hd (K2.out.later hb3);have B3:=Hd (bel_step B2.out hb3);have A3:=Hd (A2.out.later hb3);clear hb3
 go_wp2_with fail
 refine(N2.out _).mono ?_;rintro e w4 ⟨⟨s2,g2,k2,c2,hg2,rfl,hm2⟩,hb4⟩;have K4:=Hd (K3.out.later hb4);have B4:=Hd (bel_step B3.out hb4);have A4:=Hd (A3.out.later hb4);have D4:=Hd hm2;clear hb4 hm2
 go_wp2_with fail
 refine(plus_s s1 s2 _ _ k1 c1 k2 c2 X Y _ A4.out D4.out HS.out).mono ?_;rintro e w5 ⟨⟨s3,g3,k3,c3,hg3,rfl,hm3⟩,hb5⟩;have K5:=K4.out.later hb5;have hlt:w.heap.size<w4.heap.size:=K4.out.lt;have B5:=Hd (bel_step B4.out hb5);obtain⟨z0,z1,z2,z3⟩:=K5.two;obtain⟨q0,q1,_,_⟩:=K5.two_set (u:=.bool s3) (v:=.slice (some ⟨g3,0,none⟩) k3 c3);have A5:=Hd hm3;clear hb5 hm3 K5;go_wp2;exact bodyPost_ret (v:=sv s3 (some ⟨g3,0,none⟩) k3 c3) (by simp[results,Tryz.results73,go_sem,q0,q1]) rfl ⟨⟨s3,g3,k3,c3,by omega,rfl,nums_far (nums_far A5.out (by omega) _ _) (by omega) _ _⟩,bel_set (bel_set B5.out (Nat.le_refl _) _ _) (Nat.le_refl _) _ _⟩
set_option maxRecDepth 100000 in
theorem det_s(a b c d:Int)(w:World)(a0:-4294967296≤a)(a1:a≤4294967296)(b0:-4294967296≤b)(b1:b≤4294967296)(c0:-4294967296≤c)(c1:c≤4294967296)(d0:-4294967296≤d)(d1:d≤4294967296) :
  Calls Tryz.prog 77 #[.int .i64 a,.int .i64 b,.int .i64 c,.int .i64 d] w fun e w'=>(∃s g k c',w.heap.size≤g∧e=.returned (sv s (some ⟨g,0,none⟩) k c')∧NumS w' s (some ⟨g,0,none⟩) k c' (a*d-b*c))∧Below w.heap.size w w':=by
 have hx:-18446744073709551616≤a*d∧a*d≤18446744073709551616:=by
  have h1:(a*d).natAbs=a.natAbs*d.natAbs:=Int.natAbs_mul a d;have h2:a.natAbs*d.natAbs≤4294967296*4294967296:=Nat.mul_le_mul (by omega) (by omega);omega
 have hy:-18446744073709551616≤b*c∧b*c≤18446744073709551616:=by
  have h1:(b*c).natAbs=b.natAbs*c.natAbs:=Int.natAbs_mul b c;have h2:b.natAbs*c.natAbs≤4294967296*4294967296:=Nat.mul_le_mul (by omega) (by omega);omega
 have m1:=fun w=>Wd.det_wv a b c d w (by omega) (by omega) (by omega) (by omega) (by omega) (by omega) (by omega) (by omega) (by unfold Wd.Fits;omega) (by unfold Wd.Fits;omega) (by unfold Wd.Fits;omega)
 generalize a*d=X at *;generalize b*c=Y at *;have n1:=fun w=>num_s (X-Y) w (by omega) (by omega)
 generalize X-Y=Z at *;have M1:=Hd m1;have N1:=Hd n1;clear m1 n1 hx hy a0 a1 b0 b1 c0 c1 d0 d1
 go_enter Tryz.func77,Tryz.ntmps77
 go_wp2_with fail
 refine(M1.out _).mono ?_;rintro e w1 ⟨rfl,hb1⟩;have K1:=Hd ((Blk.new w 143 #[.bool false,.slice none 0 0]).later hb1);have B1:=Hd (bel_step (bel_alloc (bel_refl w) _) hb1);clear hb1
 go_wp2_with fail
 refine(N1.out _).mono ?_;rintro e w5 ⟨⟨s3,g3,k3,c3,hg3,rfl,hm3⟩,hb5⟩;have K5:=K1.out.later hb5;have hlt:w.heap.size<w1.heap.size:=K1.out.lt;have B5:=Hd (bel_step B1.out hb5);obtain⟨z0,z1,z2,z3⟩:=K5.two;obtain⟨q0,q1,_,_⟩:=K5.two_set (u:=.bool s3) (v:=.slice (some ⟨g3,0,none⟩) k3 c3);have A5:=Hd hm3;clear hb5 hm3 K5;go_wp2;exact bodyPost_ret (v:=sv s3 (some ⟨g3,0,none⟩) k3 c3) (by simp[results,Tryz.results77,go_sem,q0,q1]) rfl ⟨⟨s3,g3,k3,c3,by omega,rfl,nums_far (nums_far A5.out (by omega) _ _) (by omega) _ _⟩,bel_set (bel_set B5.out (Nat.le_refl _) _ _) (Nat.le_refl _) _ _⟩
end Nz
end Go.Proofs.YtdihefgleefhmaaGreat
namespace Go.Proofs.YtdihefgleefhmaaGreat
open Go.RowKit
namespace Cg
open Wd Pr Qk Ci Nz
theorem smallB_of{x:Int}(h:¬small x):smallB x=true:=by unfold small at h;unfold smallB;simp;omega
theorem small6n(x0 x1 x2 x3 x4 x5:Int)(g t c:Nat)(w:World)(h:Blk w g t #[.int .i64 x0,.int .i64 x1,.int .i64 x2,.int .i64 x3,.int .i64 x4,.int .i64 x5])(hs:¬(small x0∧small x1∧small x2∧small x3∧small x4∧small x5)) :
  Calls Tryz.prog 71 #[.slice (some ⟨g,0,none⟩) 6 c] w fun e w'=>e=.returned (.bool false)∧w'=w:=by
 have k:=small_any [x0,x1,x2,x3,x4,x5] g c w (by simp) (fun i hi=>h.cell i _ (by
  rcases(show i=0∨i=1∨i=2∨i=3∨i=4∨i=5 by simp at hi;omega)with rfl|rfl|rfl|rfl|rfl|rfl<;>rfl))
 have e:([x0,x1,x2,x3,x4,x5].all fun x=> !smallB x)=false:=by
  rw[List.all_eq_false]
  have:¬small x0∨¬small x1∨¬small x2∨¬small x3∨¬small x4∨¬small x5:=by
   by_cases h0:small x0
   ·by_cases h1:small x1
    ·by_cases h2:small x2
     ·by_cases h3:small x3
      ·by_cases h4:small x4
       ·by_cases h5:small x5
        ·exact absurd ⟨h0,h1,h2,h3,h4,h5⟩ hs
        ·simp[h5]
       ·simp[h4]
      ·simp[h3]
     ·simp[h2]
    ·simp[h1]
   ·simp[h0]
  rcases this with h|h|h|h|h|h
  ·exact⟨x0,by simp,by simp[smallB_of h]⟩
  ·exact⟨x1,by simp,by simp[smallB_of h]⟩
  ·exact⟨x2,by simp,by simp[smallB_of h]⟩
  ·exact⟨x3,by simp,by simp[smallB_of h]⟩
  ·exact⟨x4,by simp,by simp[smallB_of h]⟩
  ·exact⟨x5,by simp,by simp[smallB_of h]⟩
 rw[e]at k;exact k
theorem sq_bd(x y:Int)(x0:-4294967296≤x)(x1:x≤4294967296)(y0:-4294967296≤y)(y1:y≤4294967296):(x*x+y*y).natAbs≤36893488147419103232:=by
 have h1:=mul_bd (A:=4294967296) (B:=4294967296) x0 x1 x0 x1;have h2:=mul_bd (A:=4294967296) (B:=4294967296) y0 y1 y0 y1;generalize x*x=X at *;generalize y*y=Y at *;omega
theorem det_bd(a b c d:Int)(a0:-4294967296≤a)(a1:a≤4294967296)(b0:-4294967296≤b)(b1:b≤4294967296)(c0:-4294967296≤c)(c1:c≤4294967296)(d0:-4294967296≤d)(d1:d≤4294967296):(a*d-b*c).natAbs≤36893488147419103232:=by
 have h1:=mul_bd (A:=4294967296) (B:=4294967296) a0 a1 d0 d1;have h2:=mul_bd (A:=4294967296) (B:=4294967296) b0 b1 c0 c1;generalize a*d=X at *;generalize b*c=Y at *;omega
theorem prod_bd{X Y:Int}(hx:X.natAbs≤36893488147419103232)(hy:Y.natAbs≤36893488147419103232):X.natAbs*Y.natAbs≤36893488147419103232*36893488147419103232:=Nat.mul_le_mul hx hy
set_option maxHeartbeats 4000000 in
set_option maxRecDepth 100000 in
theorem circle_num(a b c p:Pt)(w:World)(ha:a.near)(hb:b.near)(hc:c.near)(hp:p.near)(hq:¬(quickOk a p∧quickOk b p∧quickOk c p)) :
  Calls Tryz.prog 44 #[pv a,pv b,pv c,pv p] w fun e w'=>e=.returned (.int .i64 (inc a b c p).sign)∧Below w.heap.size w w':=by
 obtain⟨ax,ay⟩:=a;obtain⟨bx,bz⟩:=b;obtain⟨cx,cy⟩:=c;obtain⟨px,py⟩:=p;have hns:¬(small (ax-px)∧small (ay-py)∧small (bx-px)∧small (bz-py)∧small (cx-px)∧small (cy-py)):=fun⟨h0,h1,h2,h3,h4,h5⟩=>hq ⟨⟨h0,h1⟩,⟨h2,h3⟩,⟨h4,h5⟩⟩
 simp only[inc,Pt.near]at *;have HNS:=Hd hns;obtain⟨r,hr⟩:∃r,incDet (ax-px) (ay-py) (bx-px) (bz-py) (cx-px) (cy-py)=r:=⟨_,rfl⟩;have HR:=Hd hr;rw[hr];have HD:=Hd (show(-4294967296≤ax-px∧ax-px≤4294967296)∧(-4294967296≤ay-py∧ay-py≤4294967296)∧(-4294967296≤bx-px∧bx-px≤4294967296)∧(-4294967296≤bz-py∧bz-py≤4294967296)∧(-4294967296≤cx-px∧cx-px≤4294967296)∧(-4294967296≤cy-py∧cy-py≤4294967296)by omega);clear hns hr hq;have w1:=wrap_in (ax-px) (by omega) (by omega);have w2:=wrap_in (ay-py) (by omega) (by omega);have w3:=wrap_in (bx-px) (by omega) (by omega);have w4:=wrap_in (bz-py) (by omega) (by omega);have w5:=wrap_in (cx-px) (by omega) (by omega);have w6:=wrap_in (cy-py) (by omega) (by omega)
 go_enter Tryz.func44,Tryz.ntmps44
 go_upto_region 1 with(fail)
 simp only[Nat.add_assoc,Nat.reduceAdd];have hA:=(((Blk.new w 24 #[.int .i64 ax,.int .i64 ay]).alloc (.cells #[.int .i64 bx,.int .i64 bz] 24)).alloc (.cells #[.int .i64 cx,.int .i64 cy] 24)).alloc (.cells #[.int .i64 px,.int .i64 py] 24);have hB:=((Blk.new' (n:=w.heap.size+1) (w.alloc (.cells #[.int .i64 ax,.int .i64 ay] 24)) 24 #[.int .i64 bx,.int .i64 bz] (by simp)).alloc (.cells #[.int .i64 cx,.int .i64 cy] 24)).alloc (.cells #[.int .i64 px,.int .i64 py] 24);have hC:=(Blk.new' (n:=w.heap.size+2) ((w.alloc (.cells #[.int .i64 ax,.int .i64 ay] 24)).alloc (.cells #[.int .i64 bx,.int .i64 bz] 24)) 24 #[.int .i64 cx,.int .i64 cy] (by simp)).alloc (.cells #[.int .i64 px,.int .i64 py] 24);have hP:=Blk.new' (n:=w.heap.size+3) (((w.alloc (.cells #[.int .i64 ax,.int .i64 ay] 24)).alloc (.cells #[.int .i64 bx,.int .i64 bz] 24)).alloc (.cells #[.int .i64 cx,.int .i64 cy] 24)) 24 #[.int .i64 px,.int .i64 py] (by simp);have HB:=Hd (bel_alloc (bel_alloc (bel_alloc (bel_alloc (bel_refl w) (.cells #[.int .i64 ax,.int .i64 ay] 24)) (.cells #[.int .i64 bx,.int .i64 bz] 24)) (.cells #[.int .i64 cx,.int .i64 cy] 24)) (.cells #[.int .i64 px,.int .i64 py] 24));obtain⟨W,hW⟩:∃W,(((w.alloc (.cells #[.int .i64 ax,.int .i64 ay] 24)).alloc (.cells #[.int .i64 bx,.int .i64 bz] 24)).alloc (.cells #[.int .i64 cx,.int .i64 cy] 24)).alloc (.cells #[.int .i64 px,.int .i64 py] 24)=W:=⟨_,rfl⟩;rw[hW]at hA hB hC hP HB ⊢;clear hW;have k0:=hA.cells 0 (.int .i64 ax) rfl;have k1:=hA.cells 1 (.int .i64 ay) rfl;have k2:=hB.cells 0 (.int .i64 bx) rfl;have k3:=hB.cells 1 (.int .i64 bz) rfl;have k4:=hC.cells 0 (.int .i64 cx) rfl;have k5:=hC.cells 1 (.int .i64 cy) rfl;have k6:=hP.cells 0 (.int .i64 px) rfl;have k7:=hP.cells 1 (.int .i64 py) rfl;clear hA hB hC hP ha hb hc hp;refine Go.Gq.region (by kernel_rfl) (by kernel_rfl) ?_
 repeat (go_big_quiet_step ((fail)))
 refine wpQuiet_nil ?_;intro wx hw';have HX:=Hd (Go.Gq.later_bel hw');clear hw' k0 k1 k2 k3 k4 k5 k6 k7 w1 w2 w3 w4 w5 w6;generalize ax-px=x0 at *;generalize ay-py=x1 at *;generalize bx-px=x2 at *;generalize bz-py=x3 at *;generalize cx-px=x4 at *;generalize cy-py=x5 at *;obtain⟨⟨d00,d01⟩,⟨d10,d11⟩,⟨d20,d21⟩,⟨d30,d31⟩,⟨d40,d41⟩,⟨d50,d51⟩⟩:=HD.out;have q1:=sq_bd x0 x1 d00 d01 d10 d11;have q2:=sq_bd x2 x3 d20 d21 d30 d31;have q3:=sq_bd x4 x5 d40 d41 d50 d51;have t1:=det_bd x2 x3 x4 x5 d20 d21 d30 d31 d40 d41 d50 d51;have t2:=det_bd x4 x5 x0 x1 d40 d41 d50 d51 d00 d01 d10 d11;have t3:=det_bd x0 x1 x2 x3 d00 d01 d10 d11 d20 d21 d30 d31;have a1:=fun w=>sq_any x0 x1 w d00 d01 d10 d11
 have a2:=fun w=>sq_any x2 x3 w d20 d21 d30 d31
 have a3:=fun w=>sq_any x4 x5 w d40 d41 d50 d51
 have b1:=fun w=>det_s x2 x3 x4 x5 w d20 d21 d30 d31 d40 d41 d50 d51
 have b2:=fun w=>det_s x4 x5 x0 x1 w d40 d41 d50 d51 d00 d01 d10 d11
 have b3:=fun w=>det_s x0 x1 x2 x3 w d00 d01 d10 d11 d20 d21 d30 d31
 have hr:=HR.out;unfold incDet at hr;clear HD d00 d01 d10 d11 d20 d21 d30 d31 d40 d41 d50 d51;generalize x0*x0+x1*x1=Q1 at *;generalize x2*x2+x3*x3=Q2 at *;generalize x4*x4+x5*x5=Q3 at *;generalize x2*x5-x3*x4=T1 at *;generalize x4*x1-x5*x0=T2 at *;generalize x0*x3-x1*x2=T3 at *;have p1:=prod_bd q1 t1;have p2:=prod_bd q2 t2;have p3:=prod_bd q3 t3;rw[Int.mul_comm T1,Int.mul_comm T2,Int.mul_comm T3]at hr;have m1:=fun s t p q n c m d w ha hb=>times_s s t p q n c m d Q1 T1 w ha hb (by omega)
 have m2:=fun s t p q n c m d w ha hb=>times_s s t p q n c m d Q2 T2 w ha hb (by omega)
 have m3:=fun s t p q n c m d w ha hb=>times_s s t p q n c m d Q3 T3 w ha hb (by omega)
 rw[←Int.natAbs_mul]at p1 p2 p3;generalize Q1*T1=U1 at *;generalize Q2*T2=U2 at *;generalize Q3*T3=U3 at *;have HP:=Hd (show U1.natAbs≤36893488147419103232*36893488147419103232∧U2.natAbs≤36893488147419103232*36893488147419103232∧U3.natAbs≤36893488147419103232*36893488147419103232 from⟨p1,p2,p3⟩);have HRR:=Hd hr;have A1:=Hd a1;have A2:=Hd a2;have A3:=Hd a3;have D1:=Hd b1;have D2:=Hd b2;have D3:=Hd b3;have M1:=Hd m1;have M2:=Hd m2;have M3:=Hd m3;clear a1 a2 a3 b1 b2 b3 m1 m2 m3 p1 p2 p3 hr HR q1 q2 q3 t1 t2 t3
 go_wp2_with (go_at_call 71;refine(small6n x0 x1 x2 x3 x4 x5 _ _ 6 _ (Blk.new _ _ _) HNS.out).mono ?_;rintro e w2 ⟨rfl,rfl⟩)
 refine(A1.out _).mono ?_;rintro e W1 ⟨⟨s1,g1,k1,c1,hg1,rfl,hm1⟩,hb1⟩;have B1:=Hd (bel_step (bel_alloc (bel_step HB.out HX.out) (.cells #[.int .i64 x0,.int .i64 x1,.int .i64 x2,.int .i64 x3,.int .i64 x4,.int .i64 x5] 3)) hb1);have N1:=Hd hm1;clear hb1 hm1 hg1
 go_wp2_with fail
 refine(D1.out _).mono ?_;rintro e W2 ⟨⟨s2,g2,k2,c2,hg2,rfl,hm2⟩,hb2⟩;have B2:=Hd (bel_step (B1.out) hb2);have N1_2:=Hd (N1.out.later hb2);have N2:=Hd hm2;clear hb2 hm2 hg2
 go_wp2_with fail
 refine(M1.out s1 s2 _ _ k1 c1 k2 c2 _ N1_2.out N2.out).mono ?_;rintro e W3 ⟨⟨s3,g3,k3,c3,hg3,rfl,hm3⟩,hb3⟩;have B3:=Hd (bel_step (B2.out) hb3);have N3:=Hd hm3;clear hb3 hm3 hg3
 go_wp2_with fail
 refine(A2.out _).mono ?_;rintro e W4 ⟨⟨s4,g4,k4,c4,hg4,rfl,hm4⟩,hb4⟩;have B4:=Hd (bel_step (B3.out) hb4);have N3_4:=Hd (N3.out.later hb4);have N4:=Hd hm4;clear hb4 hm4 hg4
 go_wp2_with fail
 refine(D2.out _).mono ?_;rintro e W5 ⟨⟨s5,g5,k5,c5,hg5,rfl,hm5⟩,hb5⟩;have B5:=Hd (bel_step (B4.out) hb5);have N3_5:=Hd (N3_4.out.later hb5);have N4_5:=Hd (N4.out.later hb5);have N5:=Hd hm5;clear hb5 hm5 hg5
 go_wp2_with fail
 refine(M2.out s4 s5 _ _ k4 c4 k5 c5 _ N4_5.out N5.out).mono ?_;rintro e W6 ⟨⟨s6,g6,k6,c6,hg6,rfl,hm6⟩,hb6⟩;have B6:=Hd (bel_step (B5.out) hb6);have N3_6:=Hd (N3_5.out.later hb6);have N6:=Hd hm6;clear hb6 hm6 hg6
 go_wp2_with fail
 refine(A3.out _).mono ?_;rintro e W7 ⟨⟨s7,g7,k7,c7,hg7,rfl,hm7⟩,hb7⟩;have B7:=Hd (bel_step (B6.out) hb7);have N3_7:=Hd (N3_6.out.later hb7);have N6_7:=Hd (N6.out.later hb7);have N7:=Hd hm7;clear hb7 hm7 hg7
 go_wp2_with fail
 refine(D3.out _).mono ?_;rintro e W8 ⟨⟨s8,g8,k8,c8,hg8,rfl,hm8⟩,hb8⟩;have B8:=Hd (bel_step (B7.out) hb8);have N3_8:=Hd (N3_7.out.later hb8);have N6_8:=Hd (N6_7.out.later hb8);have N7_8:=Hd (N7.out.later hb8);have N8:=Hd hm8;clear hb8 hm8 hg8
 go_wp2_with fail
 refine(M3.out s7 s8 _ _ k7 c7 k8 c8 _ N7_8.out N8.out).mono ?_;rintro e W9 ⟨⟨s9,g9,k9,c9,hg9,rfl,hm9⟩,hb9⟩;have B9:=Hd (bel_step (B8.out) hb9);have N3_9:=Hd (N3_8.out.later hb9);have N6_9:=Hd (N6_8.out.later hb9);have N9:=Hd hm9;clear hb9 hm9 hg9;have hbk:=Blk.new W9 143 #[.bool s3,.slice (some ⟨g3,0,none⟩) k3 c3,.bool s6,.slice (some ⟨g6,0,none⟩) k6 c6,.bool s9,.slice (some ⟨g9,0,none⟩) k9 c9];have hba:=bel_alloc (bel_refl W9) (.cells #[.bool s3,.slice (some ⟨g3,0,none⟩) k3 c3,.bool s6,.slice (some ⟨g6,0,none⟩) k6 c6,.bool s9,.slice (some ⟨g9,0,none⟩) k9 c9] 143)
 have hsum:=sum_s W9.heap.size 3 3 (fun k=>[s3,s6,s9].getD k false) (fun k=>[some ⟨g3,0,none⟩,some ⟨g6,0,none⟩,some ⟨g9,0,none⟩].getD k none) (fun k=>[k3,k6,k9].getD k 0) (fun k=>[c3,c6,c9].getD k 0) (fun k=>[U1,U2,U3].getD k 0) (fun k=>[0,U1,U1+U2,U1+U2+U3].getD k 0) _ (by omega) (by omega)
  (fun k hk=>by rcases(show k=0∨k=1∨k=2 by omega)with rfl|rfl|rfl<;>exact hbk.cell _ _ rfl)
  (fun k hk=>by rcases(show k=0∨k=1∨k=2 by omega)with rfl|rfl|rfl<;>exact hbk.cell _ _ rfl)
  (fun k hk=>by
   rcases(show k=0∨k=1∨k=2 by omega)with rfl|rfl|rfl
   ·exact N3_9.out.later hba
   ·exact N6_9.out.later hba
   ·exact N9.out.later hba)
  rfl (fun k hk=>by rcases(show k=0∨k=1∨k=2 by omega)with rfl|rfl|rfl<;>simp)
  (fun k hk=>by
   obtain⟨p1,p2,p3⟩:=HP.out;rcases(show k=0∨k=1∨k=2 by omega)with rfl|rfl|rfl<;>simp<;> omega)
 have HSUM:=Hd hsum;clear hbk hba hsum
 go_wp2_with fail
 refine HSUM.out.mono ?_;rintro e V1 ⟨⟨sS,gS,kS,cS,hgS,rfl,hmS⟩,hbS⟩;have NS:=Hd hmS;have BS:=Hd (bel_step (bel_alloc B9.out _) hbS);clear hmS hbS HSUM hgS
 go_wp2_with fail
 refine(sign_s sS _ kS cS _ _ NS.out).mono ?_;rintro e V2 ⟨rfl,hbT⟩;have BT:=Hd (bel_step BS.out hbT);have hfin:([0,U1,U1+U2,U1+U2+U3].getD 3 0:Int)=r:=HRR.out;rw[hfin];clear hbT hfin;go_wp2
 go_ret
 exact⟨rfl,BT.out⟩
theorem circle_any(a b c p:Pt)(w:World)(ha:a.near)(hb:b.near)(hc:c.near)(hp:p.near) :
  Calls Tryz.prog 44 #[pv a,pv b,pv c,pv p] w fun e w'=>e=.returned (.int .i64 (inc a b c p).sign)∧Below w.heap.size w w':=by
 by_cases hq:quickOk a p∧quickOk b p∧quickOk c p
 ·exact circle_quick a b c p w ha hb hc hp hq.1 hq.2.1 hq.2.2
 ·exact circle_num a b c p w ha hb hc hp hq
end Cg
end Go.Proofs.YtdihefgleefhmaaGreat
