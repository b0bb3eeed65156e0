import Derived.Test.YtdihefgleefhmaaGreatWd
namespace Go.Proofs.YtdihefgleefhmaaGreat
open Go.RowKit
namespace Wd
attribute [local go_sem] eq88
set_option maxHeartbeats 1000000 in
set_option maxRecDepth 100000 in
theorem add_wv(a b:Int)(w:World)(ha:Fits a)(hb:Fits b)(hab:Fits (a+b)):Calls Tryz.prog 99 #[wv a,wv b] w fun e w'=>e=.returned (.tuple #[wv (a+b),.bool true])∧Below w.heap.size w w':=by
 obtain⟨h1,h2⟩:=add_words a b;have s1:=fun w=>add64' (lo a) (lo b) 0 (lo (a+b)) ((lo a+lo b+0) / 18446744073709551616) (lo_0 a) (lo_0 b) (by omega) (by omega) h1 rfl w
 have k0:0≤(lo a+lo b+0) / 18446744073709551616:=by have:=lo_0 a;have:=lo_0 b;omega
 have k1:(lo a+lo b+0) / 18446744073709551616≤1:=by have:=lo_1 a;have:=lo_1 b;omega
 generalize (lo a+lo b+0) / 18446744073709551616=k at s1 k0 k1 h2;obtain⟨m,hm⟩:∃m:Int,m=(hi a+hi b+k) / 18446744073709551616:=⟨_,rfl⟩;have s2:=fun w=>add64' (hi a) (hi b) k (hi (a+b)) m (hi_0 a) (hi_0 b) k0 k1 h2 hm w
 have ma:=fun w=>minus_wv a ha _ rfl w
 have mb:=fun w=>minus_wv b hb _ rfl w
 have mab:=fun w=>minus_wv (a+b) hab _ rfl w
 have hg:(decide (a<0)==decide (b<0))=true→(decide (a+b<0) != decide (a<0))=false:=by
  intro h;by_cases h3:a<0<;>by_cases h4:b<0<;>simp[h3,h4]at h ⊢ <;> omega
 generalize decide (a<0)=sa at ma hg;generalize decide (b<0)=sb at mb hg;generalize decide (a+b<0)=sab at mab hg;generalize a+b=d at s1 s2 mab ⊢;have MA:=Hd ma;have MB:=Hd mb;have MD:=Hd mab;clear ma mb mab h1 h2 k0 k1 hm ha hb hab
 go_enter Tryz.func99,Tryz.ntmps99
 go_upto_region 4 with(fail)
 have B0:=(((Blk.new w 98 #[.int .u64 (hi a),.int .u64 (lo a)]).alloc (.cells #[.int .u64 (hi b),.int .u64 (lo b)] 98)).alloc (.cells #[.int .u64 0,.int .u64 0] 98)).alloc (.cells #[.int .u64 (hi d),.int .u64 (lo d)] 98);have B1:=((Blk.new' (n:=w.heap.size+1) (w.alloc (.cells #[.int .u64 (hi a),.int .u64 (lo a)] 98)) 98 #[.int .u64 (hi b),.int .u64 (lo b)] (by simp)).alloc (.cells #[.int .u64 0,.int .u64 0] 98)).alloc (.cells #[.int .u64 (hi d),.int .u64 (lo d)] 98);have B2:=(Blk.new' (n:=w.heap.size+1+1) ((w.alloc (.cells #[.int .u64 (hi a),.int .u64 (lo a)] 98)).alloc (.cells #[.int .u64 (hi b),.int .u64 (lo b)] 98)) 98 #[.int .u64 0,.int .u64 0] (by simp)).alloc (.cells #[.int .u64 (hi d),.int .u64 (lo d)] 98);have B3:=Blk.new' (n:=w.heap.size+1+1+1) (((w.alloc (.cells #[.int .u64 (hi a),.int .u64 (lo a)] 98)).alloc (.cells #[.int .u64 (hi b),.int .u64 (lo b)] 98)).alloc (.cells #[.int .u64 0,.int .u64 0] 98)) 98 #[.int .u64 (hi d),.int .u64 (lo d)] (by simp);have HB:=Hd (bel_alloc (bel_alloc (bel_alloc (bel_alloc (bel_refl w) (.cells #[.int .u64 (hi a),.int .u64 (lo a)] 98)) (.cells #[.int .u64 (hi b),.int .u64 (lo b)] 98)) (.cells #[.int .u64 0,.int .u64 0] 98)) (.cells #[.int .u64 (hi d),.int .u64 (lo d)] 98));generalize (((w.alloc (.cells #[.int .u64 (hi a),.int .u64 (lo a)] 98)).alloc (.cells #[.int .u64 (hi b),.int .u64 (lo b)] 98)).alloc (.cells #[.int .u64 0,.int .u64 0] 98)).alloc (.cells #[.int .u64 (hi d),.int .u64 (lo d)] 98)=W at B0 B1 B2 B3 HB ⊢;have l0:=B0.cells 0 _ rfl;have l1:=B0.cells 1 _ rfl;have l2:=B1.cells 0 _ rfl;have l3:=B1.cells 1 _ rfl;have l4:=B3.cells 0 _ rfl;have l5:=B3.cells 1 _ rfl;have H0:=Hd B0;have H2:=Hd B2;have H3:=Hd B3;clear B0 B1 B2 B3;cases sa<;>cases sb<;>cases sab<;>simp at hg
 all_goals
  refine Go.Gq.region (by kernel_rfl) (by kernel_rfl) ?_
  repeat (go_big_quiet_step ((first| (go_at_call 82;exact Gq.call (MA.out _))|(go_at_call 82;exact Gq.call (MB.out _))|(go_at_call 82;exact Gq.call (MD.out _)))))
  refine wpQuiet_nil ?_;intro wx hw';have hwx:=Go.Gq.later_bel hw';clear hw' l0 l1 l2 l3 l4 l5;obtain⟨k0,k1,_,_⟩:=(H3.out.later hwx).two;obtain⟨n0,n1,n2,n3⟩:=(H2.out.later hwx).two;have HX:=Hd hwx;obtain⟨m0,m1,m2,m3⟩:=(H2.out.later hwx).two_set (u:=.int .u64 (hi d)) (v:=.int .u64 (lo d));clear hwx;go_wp2;exact bodyPost_ret (v:=.tuple #[wv d,.bool true]) (by simp[results,Tryz.results99,go_sem,m0,m1]) rfl ⟨rfl,bel_set (bel_set (bel_step HB.out HX.out) (by omega) _ _) (by omega) _ _⟩
theorem pick_wv(n:Int)(w:World):Calls Tryz.prog 134 #[wv n,.bool true] w fun e w'=>e=.returned (.tuple #[wv n,.bool true])∧Below w.heap.size w w':=by
 go_enter Tryz.func134,Tryz.ntmps134
 go_wp2;exact bodyPost_ret (v:=.tuple #[wv n,.bool true]) (by simp[results,Tryz.results134,go_sem]) rfl ⟨rfl,bel_alloc (bel_alloc (bel_refl w) _) _⟩
theorem mul64_all(x y:Nat)(hx:x≤18446744073709551615)(hy:y≤18446744073709551615)(w:World):Calls Tryz.prog 105 #[.int .u64 x,.int .u64 y] w fun e w'=>e=.returned (.tuple #[.int .u64 ((x*y / 18446744073709551616:Nat):Int),.int .u64 ((x*y%18446744073709551616:Nat):Int)])∧w=w':=by
 refine(Tryz.bits_Mul64 x y (by omega) (by omega) w).mono fun e w' h=>?_
 rw[h.1,h.2];exact⟨rfl,rfl⟩
end Wd
end Go.Proofs.YtdihefgleefhmaaGreat
namespace Go.Proofs.YtdihefgleefhmaaGreat
open Go.RowKit
namespace Wd
attribute [local go_sem] eq88
theorem times_words(a k:Nat)(hp:a*k≤170141183460469231731687303715884105727) :
  (a / 18446744073709551616*k / 18446744073709551616=0)∧
  (a / 18446744073709551616*k%18446744073709551616+a%18446744073709551616*k / 18446744073709551616+0) / 18446744073709551616=0∧
  (a / 18446744073709551616*k%18446744073709551616+a%18446744073709551616*k / 18446744073709551616+0)%18446744073709551616=a*k / 18446744073709551616%18446744073709551616∧
  a%18446744073709551616*k%18446744073709551616=a*k%18446744073709551616:=by
 obtain⟨h,l,e,hl⟩:∃h l,a=h*18446744073709551616+l∧l<18446744073709551616:=⟨a / 18446744073709551616,a%18446744073709551616,by omega,by omega⟩;have e1:a / 18446744073709551616=h:=by omega
 have e2:a%18446744073709551616=l:=by omega
 rw[e1,e2];have e3:a*k=(h*k)*18446744073709551616+l*k:=by rw[e,Nat.add_mul];congr 1;rw[Nat.mul_right_comm]
 rw[e3]at hp ⊢;generalize h*k=x at hp ⊢;generalize l*k=y at hp ⊢;omega
theorem times_steps(a k:Nat)(hp:a*k≤170141183460469231731687303715884105727)(ha:a≤170141183460469231731687303715884105728)(hk:k≤9223372036854775808) :
  ∃P2 P3:Int,(∀w,Calls Tryz.prog 105 #[.int .u64 (hi (a:Int)),.int .u64 (k:Int)] w fun e w'=>e=.returned (.tuple #[.int .u64 0,.int .u64 P2])∧w=w')∧
   (∀w,Calls Tryz.prog 105 #[.int .u64 (lo (a:Int)),.int .u64 (k:Int)] w fun e w'=>e=.returned (.tuple #[.int .u64 P3,.int .u64 (lo ((a*k:Nat):Int))])∧w=w')∧
   (∀w,(callFunc 133 #[.int .u64 P2,.int .u64 P3,.int .u64 0]).run Tryz.prog w=.ok (.value (.tuple #[.int .u64 (hi ((a*k:Nat):Int)),.int .u64 0])) w):=by
 obtain⟨h1,h2,h3,h4⟩:=times_words a k hp;have e1:hi (a:Int)=((a / 18446744073709551616:Nat):Int):=by unfold hi;omega
 have e2:lo (a:Int)=((a%18446744073709551616:Nat):Int):=by unfold lo;omega
 have e3:hi ((a*k:Nat):Int)=((a*k / 18446744073709551616%18446744073709551616:Nat):Int):=by unfold hi;generalize a*k=p;omega
 have e4:lo ((a*k:Nat):Int)=((a*k%18446744073709551616:Nat):Int):=by unfold lo;generalize a*k=p;omega
 have m1:=mul64_all (a / 18446744073709551616) k (by omega) (by omega);have m2:=mul64_all (a%18446744073709551616) k (by omega) (by omega);rw[h1]at m1;rw[h4]at m2;rw[e1,e2,e3,e4];refine⟨_,_,m1,m2,fun w=>add64' _ _ 0 _ 0 (by omega) (by omega) (by omega) (by omega) ?_ ?_ w⟩
 ·rw[←h3];omega
 ·omega
structure Tl(w W:World)(x y:Int):Prop where
 a:Blk W w.heap.size 98 #[.int .u64 x,.int .u64 y]
 r:Blk W (w.heap.size+1) 98 #[.int .u64 0,.int .u64 0]
 bel:Below w.heap.size w W
theorem Tl.later{w W W':World}{x y:Int}(h:Tl w W x y)(hb:Below W.heap.size W W'):Tl w W' x y:=⟨h.a.later hb,h.r.later hb,bel_step h.bel hb⟩
theorem Tl.store{w W:World}{x y:Int}(h:Tl w W x y)(x' y':Int):Tl w ((W.setCell ⟨w.heap.size,0,none⟩ (.int .u64 x')).setCell ⟨w.heap.size,1,none⟩ (.int .u64 y')) x' y':=
 ⟨(h.a.set 0 _).set 1 _,(h.r.other (by omega) _ _).other (by omega) _ _,bel_set (bel_set h.bel (Nat.le_refl _) _ _) (Nat.le_refl _) _ _⟩
theorem Tl.put{w W:World}{x y:Int}{B:Nat}(h:Tl w W x y)(hB:w.heap.size+2≤B)(u v:Value):Tl w ((W.setCell ⟨B,0,none⟩ u).setCell ⟨B,1,none⟩ v) x y:=
 ⟨(h.a.other (by omega) _ _).other (by omega) _ _,(h.r.other (by omega) _ _).other (by omega) _ _,bel_set (bel_set h.bel (by omega) _ _) (by omega) _ _⟩
theorem tl_new(w:World)(x y:Int):Tl w ((w.alloc (.cells #[.int .u64 x,.int .u64 y] 98)).alloc (.cells #[.int .u64 0,.int .u64 0] 98)) x y:=
 ⟨(Blk.new w 98 _).alloc _,Blk.new' _ 98 _ (by simp),bel_alloc (bel_alloc (bel_refl w) _) _⟩
set_option maxHeartbeats 2000000 in
set_option maxRecDepth 100000 in
theorem times_wv(n m:Int)(w:World)(hn:Fits n)(m0:-9223372036854775808≤m)(m1:m≤9223372036854775807)(hp:n.natAbs*m.natAbs≤170141183460469231731687303715884105727) :
  Calls Tryz.prog 98 #[wv n,.int .i64 m] w fun e w'=>e=.returned (.tuple #[wv (n*m),.bool true])∧Below w.heap.size w w':=by
 have hb:n.natAbs≤170141183460469231731687303715884105728:=by unfold Fits at hn;omega
 obtain⟨P2,P3,hM1,hM2,hA⟩:=times_steps n.natAbs m.natAbs hp hb (by omega);have hAB:=fun w=>abs_any m w m0 m1
 have hcase:=natAbs_mul_cases n m;have h71:=fun w=>minus_wv n hn _ rfl w
 have h72:=fun w=>turn_wv n w
 obtain⟨k,hk⟩:∃k:Int,(m.natAbs:Int)=k:=⟨_,rfl⟩;rw[hk]at hM1 hM2 hAB;generalize hpe:n.natAbs*m.natAbs=p at *;have hfp:Fits (p:Int):=by unfold Fits;omega
 have hfn:Fits (-(p:Int)):=by unfold Fits;omega
 have hMP:=fun w=>minus_wv (p:Int) hfp false (by simp) w
 have HM1:=Hd hM1;have HM2:=Hd hM2;have HAB:=Hd hAB;have HMP:=Hd hMP;have HPK:=Hd (fun w=>pick_wv (p:Int) w);have HPN:=Hd (fun w=>pick_wv (-(p:Int)) w);have HMN:=Hd (fun w=>minus_wv (-(p:Int)) hfn _ rfl w);have HTP:=Hd (fun w=>turn_wv (p:Int) w);have HL0:=Hd (tl_new w (hi n) (lo n));clear hM1 hM2 hAB hMP hpe hk m0 m1 hp hb;rcases hcase with⟨hs,he⟩|⟨hs,he⟩
 ·rw[he]
  clear he;cases hsn:decide (n<0)<;>cases hsm:decide (m<0)<;>simp[hsn,hsm]at hs
  ·rw[hsn]at h71
   have e:(n.natAbs:Int)=n:=by have:=of_decide_eq_false hsn;omega
   rw[e]at HM1 HM2;have H71:=Hd h71;have H72:=Hd h72;clear h71 h72 hsn e hn hfp hfn
   have hz:decide (-(p:Int)<0)=false→hi (-(p:Int))=0∧lo (-(p:Int))=0:=by
    intro h;have:p=0:=by have:=of_decide_eq_false h;omega
    subst this;exact⟨rfl,rfl⟩
   have HZ:=Hd hz;clear hz;generalize decide (-(p:Int)<0)=q at *;simp only[wv]at *;generalize hi n=X at *;generalize lo n=Y at *;generalize hi (-(p:Int))=U2 at *;generalize lo (-(p:Int))=V2 at *;generalize hi (p:Int)=U at *;generalize lo (p:Int)=V at *
   go_enter Tryz.func98,Tryz.ntmps98
   go_upto_region 1 with(fail)
   obtain⟨W,hW⟩:∃W,(w.alloc (.cells #[.int .u64 X,.int .u64 Y] 98)).alloc (.cells #[.int .u64 0,.int .u64 0] 98)=W:=⟨_,rfl⟩;rw[hW]at HL0 ⊢;clear hW;obtain⟨a0,a1,a2,a3⟩:=HL0.out.a.two
   go_upto_region 2 with(go_at_call 82;refine(H71.out _).mono ?_;rintro e w1 ⟨rfl,hb1⟩;have HL1:=Hd (HL0.out.later hb1);clear hb1 a0 a1 a2 a3)
   obtain⟨a0,a1,a2,a3⟩:=HL1.out.a.two
   go_upto_region 4 with(go_at_call 82;refine(H71.out _).mono ?_;rintro e w2' ⟨rfl,hb1⟩;have HL2:=Hd (HL1.out.later hb1);clear hb1 a0 a1 a2 a3)
   obtain⟨a0,a1,_,_⟩:=HL2.out.a.two
   go_upto_region 6 with(first| (go_at_call 106;refine(HAB.out _).mono ?_;rintro e w3 ⟨rfl,rfl⟩)|(go_at_call 105;refine(HM1.out _).mono ?_;rintro e w3 ⟨rfl,rfl⟩))
   go_upto_region 7 with(go_at_call 105;refine(HM2.out _).mono ?_;rintro e w3 ⟨rfl,rfl⟩)
   go_upto_region 12 with(fail)
   have HL3:=Hd (HL2.out.later (bel_alloc (bel_refl w2') (.cells #[.int .u64 U,.int .u64 V] 98)));have hX:=Blk.new w2' 98 #[.int .u64 U,.int .u64 V];have hge:w.heap.size+2≤w2'.heap.size:=by have:=HL2.out.r.lt;omega
   obtain⟨W3,hW3⟩:∃W,w2'.alloc (.cells #[.int .u64 U,.int .u64 V] 98)=W:=⟨_,rfl⟩;obtain⟨B,hB⟩:∃B,w2'.heap.size=B:=⟨_,rfl⟩;rw[hW3]at HL3 hX ⊢;rw[hB]at hX hge ⊢;clear hW3 a0 a1 hB;obtain⟨y0,y1,_,_⟩:=hX.two;have HX:=Hd hX;clear hX
   go_upto_region 13 with(go_at_call 104;refine(HTP.out _).mono ?_;rintro e w4 ⟨rfl,hb1⟩;have HLq:=Hd (HL3.out.later hb1);have HXq:=Hd (HX.out.later hb1);obtain⟨a4,a5,a6,a7⟩:=HXq.out.two;obtain⟨b4,b5,b6,b7⟩:=HXq.out.two_set (u:=.int .u64 U2) (v:=.int .u64 V2);clear hb1 y0 y1)
   have HL5:=Hd (HLq.out.put hge (.int .u64 U2) (.int .u64 V2));have hX:=(HXq.out.set 0 (.int .u64 U2)).set 1 (.int .u64 V2);obtain⟨W5,hW5⟩:∃W,(w4.setCell ⟨B,0,none⟩ (.int .u64 U2)).setCell ⟨B,1,none⟩ (.int .u64 V2)=W:=⟨_,rfl⟩;rw[hW5]at HL5 hX ⊢;clear hW5 a4 a5 a6 a7 b4 b5 b6 b7;have y0:=hX.cells 0 (.int .u64 U2) rfl;have y1:=hX.cells 1 (.int .u64 V2) rfl;clear hX;refine Go.Gq.region_tail 11 (by kernel_rfl) (by kernel_rfl) ?_;simp only[List.take_succ_cons,List.take_zero,List.drop_succ_cons,List.drop_zero];cases q
   ·obtain⟨rfl,rfl⟩:=HZ.out rfl
    repeat (go_big_quiet_step ((first| (go_at_call 82;exact Gq.call (HMN.out _))|(go_at_call 134;exact Gq.call (HPN.out _)))))
    refine wpQuiet_nil ?_;intro wx hw';have HL4:=Hd (HL5.out.later (Go.Gq.later_bel hw'));clear hw' y0 y1;obtain⟨c0,c1,c2,c3⟩:=HL4.out.r.two;obtain⟨n0,n1,n2,n3⟩:=HL4.out.r.two_set (u:=.int .u64 0) (v:=.int .u64 0);go_wp2;exact bodyPost_ret (v:=.tuple #[.agg #[.int .u64 0,.int .u64 0],.bool true]) (by simp[results,Tryz.results98,go_sem,n0,n1]) rfl ⟨rfl,bel_set (bel_set HL4.out.bel (by omega) _ _) (by omega) _ _⟩
   ·repeat (go_big_quiet_step ((first| (go_at_call 82;exact Gq.call (HMN.out _))|(go_at_call 134;exact Gq.call (HPN.out _)))))
    refine wpQuiet_nil ?_;intro wx hw';have HL4:=Hd (HL5.out.later (Go.Gq.later_bel hw'));clear hw' y0 y1;obtain⟨c0,c1,c2,c3⟩:=HL4.out.r.two;obtain⟨n0,n1,n2,n3⟩:=HL4.out.r.two_set (u:=.int .u64 U2) (v:=.int .u64 V2);go_wp2;exact bodyPost_ret (v:=.tuple #[.agg #[.int .u64 U2,.int .u64 V2],.bool true]) (by simp[results,Tryz.results98,go_sem,n0,n1]) rfl ⟨rfl,bel_set (bel_set HL4.out.bel (by omega) _ _) (by omega) _ _⟩
  ·rw[hsn]at h71
   have e:(n.natAbs:Int)=-n:=by have:=of_decide_eq_true hsn;omega
   rw[e]at HM1 HM2;have H71:=Hd h71;have H72:=Hd h72;clear h71 h72 hsn e hn hfp hfn
   have hz:decide (-(p:Int)<0)=false→hi (-(p:Int))=0∧lo (-(p:Int))=0:=by
    intro h;have:p=0:=by have:=of_decide_eq_false h;omega
    subst this;exact⟨rfl,rfl⟩
   have HZ:=Hd hz;clear hz;generalize decide (-(p:Int)<0)=q at *;simp only[wv]at *;generalize hi n=X at *;generalize lo n=Y at *;generalize hi (-n)=X2 at *;generalize lo (-n)=Y2 at *;generalize hi (-(p:Int))=U2 at *;generalize lo (-(p:Int))=V2 at *;generalize hi (p:Int)=U at *;generalize lo (p:Int)=V at *
   go_enter Tryz.func98,Tryz.ntmps98
   go_upto_region 1 with(fail)
   obtain⟨W,hW⟩:∃W,(w.alloc (.cells #[.int .u64 X,.int .u64 Y] 98)).alloc (.cells #[.int .u64 0,.int .u64 0] 98)=W:=⟨_,rfl⟩;rw[hW]at HL0 ⊢;clear hW;obtain⟨a0,a1,a2,a3⟩:=HL0.out.a.two
   go_upto_region 2 with(go_at_call 82;refine(H71.out _).mono ?_;rintro e w1 ⟨rfl,hb1⟩;have HL1:=Hd (HL0.out.later hb1);clear hb1 a0 a1 a2 a3)
   obtain⟨a0,a1,a2,a3⟩:=HL1.out.a.two
   go_upto_region 3 with(go_at_call 82;refine(H71.out _).mono ?_;rintro e w2 ⟨rfl,hb1⟩;have HLt:=Hd (HL1.out.later hb1);clear hb1 a0 a1 a2 a3)
   obtain⟨a0,a1,a2,a3⟩:=HLt.out.a.two
   go_upto_region 4 with(go_at_call 104;refine(H72.out _).mono ?_;rintro e w3 ⟨rfl,hb1⟩;have HLs:=Hd (HLt.out.later hb1);obtain⟨a4,a5,a6,a7⟩:=HLs.out.a.two;obtain⟨b4,b5,b6,b7⟩:=HLs.out.a.two_set (u:=.int .u64 X2) (v:=.int .u64 Y2);clear hb1 a0 a1 a2 a3)
   have HL2:=Hd (HLs.out.store X2 Y2);obtain⟨w2',hw2⟩:∃W,(w3.setCell ⟨w.heap.size,0,none⟩ (.int .u64 X2)).setCell ⟨w.heap.size,1,none⟩ (.int .u64 Y2)=W:=⟨_,rfl⟩;rw[hw2]at HL2 ⊢;clear hw2 a4 a5 a6 a7 b4 b5 b6 b7;obtain⟨a0,a1,_,_⟩:=HL2.out.a.two
   go_upto_region 6 with(first| (go_at_call 106;refine(HAB.out _).mono ?_;rintro e w3 ⟨rfl,rfl⟩)|(go_at_call 105;refine(HM1.out _).mono ?_;rintro e w3 ⟨rfl,rfl⟩))
   go_upto_region 7 with(go_at_call 105;refine(HM2.out _).mono ?_;rintro e w3 ⟨rfl,rfl⟩)
   go_upto_region 12 with(fail)
   have HL3:=Hd (HL2.out.later (bel_alloc (bel_refl w2') (.cells #[.int .u64 U,.int .u64 V] 98)));have hX:=Blk.new w2' 98 #[.int .u64 U,.int .u64 V];have hge:w.heap.size+2≤w2'.heap.size:=by have:=HL2.out.r.lt;omega
   obtain⟨W3,hW3⟩:∃W,w2'.alloc (.cells #[.int .u64 U,.int .u64 V] 98)=W:=⟨_,rfl⟩;obtain⟨B,hB⟩:∃B,w2'.heap.size=B:=⟨_,rfl⟩;rw[hW3]at HL3 hX ⊢;rw[hB]at hX hge ⊢;clear hW3 a0 a1 hB;obtain⟨y0,y1,_,_⟩:=hX.two;have HX:=Hd hX;clear hX
   go_upto_region 13 with(go_at_call 104;refine(HTP.out _).mono ?_;rintro e w4 ⟨rfl,hb1⟩;have HLq:=Hd (HL3.out.later hb1);have HXq:=Hd (HX.out.later hb1);obtain⟨a4,a5,a6,a7⟩:=HXq.out.two;obtain⟨b4,b5,b6,b7⟩:=HXq.out.two_set (u:=.int .u64 U2) (v:=.int .u64 V2);clear hb1 y0 y1)
   have HL5:=Hd (HLq.out.put hge (.int .u64 U2) (.int .u64 V2));have hX:=(HXq.out.set 0 (.int .u64 U2)).set 1 (.int .u64 V2);obtain⟨W5,hW5⟩:∃W,(w4.setCell ⟨B,0,none⟩ (.int .u64 U2)).setCell ⟨B,1,none⟩ (.int .u64 V2)=W:=⟨_,rfl⟩;rw[hW5]at HL5 hX ⊢;clear hW5 a4 a5 a6 a7 b4 b5 b6 b7;have y0:=hX.cells 0 (.int .u64 U2) rfl;have y1:=hX.cells 1 (.int .u64 V2) rfl;clear hX;refine Go.Gq.region_tail 11 (by kernel_rfl) (by kernel_rfl) ?_;simp only[List.take_succ_cons,List.take_zero,List.drop_succ_cons,List.drop_zero];cases q
   ·obtain⟨rfl,rfl⟩:=HZ.out rfl
    repeat (go_big_quiet_step ((first| (go_at_call 82;exact Gq.call (HMN.out _))|(go_at_call 134;exact Gq.call (HPN.out _)))))
    refine wpQuiet_nil ?_;intro wx hw';have HL4:=Hd (HL5.out.later (Go.Gq.later_bel hw'));clear hw' y0 y1;obtain⟨c0,c1,c2,c3⟩:=HL4.out.r.two;obtain⟨n0,n1,n2,n3⟩:=HL4.out.r.two_set (u:=.int .u64 0) (v:=.int .u64 0);go_wp2;exact bodyPost_ret (v:=.tuple #[.agg #[.int .u64 0,.int .u64 0],.bool true]) (by simp[results,Tryz.results98,go_sem,n0,n1]) rfl ⟨rfl,bel_set (bel_set HL4.out.bel (by omega) _ _) (by omega) _ _⟩
   ·repeat (go_big_quiet_step ((first| (go_at_call 82;exact Gq.call (HMN.out _))|(go_at_call 134;exact Gq.call (HPN.out _)))))
    refine wpQuiet_nil ?_;intro wx hw';have HL4:=Hd (HL5.out.later (Go.Gq.later_bel hw'));clear hw' y0 y1;obtain⟨c0,c1,c2,c3⟩:=HL4.out.r.two;obtain⟨n0,n1,n2,n3⟩:=HL4.out.r.two_set (u:=.int .u64 U2) (v:=.int .u64 V2);go_wp2;exact bodyPost_ret (v:=.tuple #[.agg #[.int .u64 U2,.int .u64 V2],.bool true]) (by simp[results,Tryz.results98,go_sem,n0,n1]) rfl ⟨rfl,bel_set (bel_set HL4.out.bel (by omega) _ _) (by omega) _ _⟩
 ·rw[he]
  clear he;cases hsn:decide (n<0)<;>cases hsm:decide (m<0)<;>simp[hsn,hsm]at hs
  ·rw[hsn]at h71
   have e:(n.natAbs:Int)=n:=by have:=of_decide_eq_false hsn;omega
   rw[e]at HM1 HM2;have H71:=Hd h71;have H72:=Hd h72;clear h71 h72 hsn e hn hfp hfn;simp only[wv]at *;generalize hi n=X at *;generalize lo n=Y at *;generalize hi (p:Int)=U at *;generalize lo (p:Int)=V at *
   go_enter Tryz.func98,Tryz.ntmps98
   go_upto_region 1 with(fail)
   obtain⟨W,hW⟩:∃W,(w.alloc (.cells #[.int .u64 X,.int .u64 Y] 98)).alloc (.cells #[.int .u64 0,.int .u64 0] 98)=W:=⟨_,rfl⟩;rw[hW]at HL0 ⊢;clear hW;obtain⟨a0,a1,a2,a3⟩:=HL0.out.a.two
   go_upto_region 2 with(go_at_call 82;refine(H71.out _).mono ?_;rintro e w1 ⟨rfl,hb1⟩;have HL1:=Hd (HL0.out.later hb1);clear hb1 a0 a1 a2 a3)
   obtain⟨a0,a1,a2,a3⟩:=HL1.out.a.two
   go_upto_region 4 with(go_at_call 82;refine(H71.out _).mono ?_;rintro e w2' ⟨rfl,hb1⟩;have HL2:=Hd (HL1.out.later hb1);clear hb1 a0 a1 a2 a3)
   obtain⟨a0,a1,_,_⟩:=HL2.out.a.two
   go_upto_region 6 with(first| (go_at_call 106;refine(HAB.out _).mono ?_;rintro e w3 ⟨rfl,rfl⟩)|(go_at_call 105;refine(HM1.out _).mono ?_;rintro e w3 ⟨rfl,rfl⟩))
   go_upto_region 7 with(go_at_call 105;refine(HM2.out _).mono ?_;rintro e w3 ⟨rfl,rfl⟩)
   go_upto_region 14 with(fail)
   have HL3:=Hd (HL2.out.later (bel_alloc (bel_refl w2') (.cells #[.int .u64 U,.int .u64 V] 98)));have hX:=Blk.new w2' 98 #[.int .u64 U,.int .u64 V];have hge:w.heap.size+2≤w2'.heap.size:=by have:=HL2.out.r.lt;omega
   obtain⟨W3,hW3⟩:∃W,w2'.alloc (.cells #[.int .u64 U,.int .u64 V] 98)=W:=⟨_,rfl⟩;obtain⟨B,hB⟩:∃B,w2'.heap.size=B:=⟨_,rfl⟩;rw[hW3]at HL3 hX ⊢;rw[hB]at hX hge ⊢;clear hW3 a0 a1 hB;have y0:=hX.cells 0 (.int .u64 U) rfl;have y1:=hX.cells 1 (.int .u64 V) rfl;clear hX;refine Go.Gq.region_tail 7 (by kernel_rfl) (by kernel_rfl) ?_;simp only[List.take_succ_cons,List.take_zero,List.drop_succ_cons,List.drop_zero]
   repeat (go_big_quiet_step ((first| (go_at_call 82;exact Gq.call (HMP.out _))|(go_at_call 134;exact Gq.call (HPK.out _)))))
   refine wpQuiet_nil ?_;intro wx hw';have HL4:=Hd (HL3.out.later (Go.Gq.later_bel hw'));clear hw' y0 y1;obtain⟨c0,c1,c2,c3⟩:=HL4.out.r.two;obtain⟨n0,n1,n2,n3⟩:=HL4.out.r.two_set (u:=.int .u64 U) (v:=.int .u64 V);go_wp2;exact bodyPost_ret (v:=.tuple #[.agg #[.int .u64 U,.int .u64 V],.bool true]) (by simp[results,Tryz.results98,go_sem,n0,n1]) rfl ⟨rfl,bel_set (bel_set HL4.out.bel (by omega) _ _) (by omega) _ _⟩
  ·rw[hsn]at h71
   have e:(n.natAbs:Int)=-n:=by have:=of_decide_eq_true hsn;omega
   rw[e]at HM1 HM2;have H71:=Hd h71;have H72:=Hd h72;clear h71 h72 hsn e hn hfp hfn;simp only[wv]at *;generalize hi n=X at *;generalize lo n=Y at *;generalize hi (-n)=X2 at *;generalize lo (-n)=Y2 at *;generalize hi (p:Int)=U at *;generalize lo (p:Int)=V at *
   go_enter Tryz.func98,Tryz.ntmps98
   go_upto_region 1 with(fail)
   obtain⟨W,hW⟩:∃W,(w.alloc (.cells #[.int .u64 X,.int .u64 Y] 98)).alloc (.cells #[.int .u64 0,.int .u64 0] 98)=W:=⟨_,rfl⟩;rw[hW]at HL0 ⊢;clear hW;obtain⟨a0,a1,a2,a3⟩:=HL0.out.a.two
   go_upto_region 2 with(go_at_call 82;refine(H71.out _).mono ?_;rintro e w1 ⟨rfl,hb1⟩;have HL1:=Hd (HL0.out.later hb1);clear hb1 a0 a1 a2 a3)
   obtain⟨a0,a1,a2,a3⟩:=HL1.out.a.two
   go_upto_region 3 with(go_at_call 82;refine(H71.out _).mono ?_;rintro e w2 ⟨rfl,hb1⟩;have HLt:=Hd (HL1.out.later hb1);clear hb1 a0 a1 a2 a3)
   obtain⟨a0,a1,a2,a3⟩:=HLt.out.a.two
   go_upto_region 4 with(go_at_call 104;refine(H72.out _).mono ?_;rintro e w3 ⟨rfl,hb1⟩;have HLs:=Hd (HLt.out.later hb1);obtain⟨a4,a5,a6,a7⟩:=HLs.out.a.two;obtain⟨b4,b5,b6,b7⟩:=HLs.out.a.two_set (u:=.int .u64 X2) (v:=.int .u64 Y2);clear hb1 a0 a1 a2 a3)
   have HL2:=Hd (HLs.out.store X2 Y2);obtain⟨w2',hw2⟩:∃W,(w3.setCell ⟨w.heap.size,0,none⟩ (.int .u64 X2)).setCell ⟨w.heap.size,1,none⟩ (.int .u64 Y2)=W:=⟨_,rfl⟩;rw[hw2]at HL2 ⊢;clear hw2 a4 a5 a6 a7 b4 b5 b6 b7;obtain⟨a0,a1,_,_⟩:=HL2.out.a.two
   go_upto_region 6 with(first| (go_at_call 106;refine(HAB.out _).mono ?_;rintro e w3 ⟨rfl,rfl⟩)|(go_at_call 105;refine(HM1.out _).mono ?_;rintro e w3 ⟨rfl,rfl⟩))
   go_upto_region 7 with(go_at_call 105;refine(HM2.out _).mono ?_;rintro e w3 ⟨rfl,rfl⟩)
   go_upto_region 14 with(fail)
   have HL3:=Hd (HL2.out.later (bel_alloc (bel_refl w2') (.cells #[.int .u64 U,.int .u64 V] 98)));have hX:=Blk.new w2' 98 #[.int .u64 U,.int .u64 V];have hge:w.heap.size+2≤w2'.heap.size:=by have:=HL2.out.r.lt;omega
   obtain⟨W3,hW3⟩:∃W,w2'.alloc (.cells #[.int .u64 U,.int .u64 V] 98)=W:=⟨_,rfl⟩;obtain⟨B,hB⟩:∃B,w2'.heap.size=B:=⟨_,rfl⟩;rw[hW3]at HL3 hX ⊢;rw[hB]at hX hge ⊢;clear hW3 a0 a1 hB;have y0:=hX.cells 0 (.int .u64 U) rfl;have y1:=hX.cells 1 (.int .u64 V) rfl;clear hX;refine Go.Gq.region_tail 7 (by kernel_rfl) (by kernel_rfl) ?_;simp only[List.take_succ_cons,List.take_zero,List.drop_succ_cons,List.drop_zero]
   repeat (go_big_quiet_step ((first| (go_at_call 82;exact Gq.call (HMP.out _))|(go_at_call 134;exact Gq.call (HPK.out _)))))
   refine wpQuiet_nil ?_;intro wx hw';have HL4:=Hd (HL3.out.later (Go.Gq.later_bel hw'));clear hw' y0 y1;obtain⟨c0,c1,c2,c3⟩:=HL4.out.r.two;obtain⟨n0,n1,n2,n3⟩:=HL4.out.r.two_set (u:=.int .u64 U) (v:=.int .u64 V);go_wp2;exact bodyPost_ret (v:=.tuple #[.agg #[.int .u64 U,.int .u64 V],.bool true]) (by simp[results,Tryz.results98,go_sem,n0,n1]) rfl ⟨rfl,bel_set (bel_set HL4.out.bel (by omega) _ _) (by omega) _ _⟩
end Wd
end Go.Proofs.YtdihefgleefhmaaGreat
