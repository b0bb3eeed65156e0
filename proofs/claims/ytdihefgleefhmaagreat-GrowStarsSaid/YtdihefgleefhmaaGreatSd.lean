import Derived.Test.YtdihefgleefhmaaGreatMd
import Derived.Test.YtdihefgleefhmaaGreatBe
import Derived.Test.YtdihefgleefhmaaGreatRd
import Derived.Deep.DeepCutAuto
namespace Go.Proofs.YtdihefgleefhmaaGreat
open Go.RowKit
def wayOf(T:Tri)(i:Nat):Int×Int:=(T.v ((i+1)%3),T.v ((i+2)%3))
def waysN(M:Mesh):Nat→List (Int×Int)
 | 0=>[]
 | n+1=>if (tat M.tris n).v0=-2 then waysN M n else waysN M n++[wayOf (tat M.tris n) 0,wayOf (tat M.tris n) 1,wayOf (tat M.tris n) 2]
structure SoundOk(M:Mesh):Prop where
 made:∀t,t<M.tris.length→madeB M (tat M.tris t)=true
 beside:∀t,t<M.tris.length→(tat M.tris t).v0≠-2→besideOk M t
 stars:StarsOk M
 ways:(waysN M M.tris.length).Nodup
def areaOk(M:Mesh):Prop:=∀(b:Nat) (w:World),MeshR w b M→Calls Tryz.prog 62 #[.pointer (some ⟨b,0,none⟩)] w fun e w'=>e=.returned (.bool true)∧Below w.heap.size w w'
namespace Sd
open Sq
theorem ways_pre(M:Mesh)(n:Nat):∀m,waysN M n <+: waysN M (n+m)
 | 0=>List.prefix_rfl
 | m+1=>by
  refine(ways_pre M n m).trans ?_;show waysN M (n+m) <+: waysN M (n+m+1)
  rw[show waysN M (n+m+1)=if (tat M.tris (n+m)).v0=-2 then waysN M (n+m) else waysN M (n+m)++[wayOf (tat M.tris (n+m)) 0,wayOf (tat M.tris (n+m)) 1,wayOf (tat M.tris (n+m)) 2]from rfl]
  split
  ·exact List.prefix_rfl
  ·exact List.prefix_append _ _
structure SeenS(w W:World)(m:Nat)(ws:List (Int×Int)):Prop where
 map:∃l:List (Way×Int),MapE (fun p:Way=>wayV p.1) (Value.int .i64) W m l∧l.map (·.1.1)=ws
 bel:Below w.heap.size w W
 mB:w.heap.size≤m
theorem SeenS.later{w W W':World}{m:Nat}{ws:List (Int×Int)}(h:SeenS w W m ws)(hb:Below W.heap.size W W'):SeenS w W' m ws:=by
 obtain⟨l,hl,hw⟩:=h.map;exact⟨⟨l,hl.later hb,hw⟩,bel_step h.bel hb,h.mB⟩
theorem SeenS.entry{w W:World}{m:Nat}{ws:List (Int×Int)}(h:SeenS w W m ws)(p:Int×Int)(h1:(Lit.int .i64 p.1).wf=true)(h2:(Lit.int .i64 p.2).wf=true)(hp:p ∉ ws) :
  (Instr.lookup 120 (.map (some m)) (wayV p) false).run Tryz.prog W=.ok (.int .i64 0) W∧∃(W1 W2:World) (c:Nat),(Instr.mapEntry 120 (.map (some m)) (wayV p)).run Tryz.prog W=.ok (.tuple #[.int .i64 0,.int .i64 c]) W1∧
   (Instr.lookup 120 (.map (some m)) (wayV p) false).run Tryz.prog W1=.ok (.int .i64 0) W1∧(Instr.entryStore 120 (.map (some m)) (.int .i64 c) (.int .i64 1)).run Tryz.prog W1=.ok () W2∧
   W.grownBy W1 (some m)∧W.grownBy W2 (some m)∧SeenS w W2 m (ws++[p])∧(Instr.lookup 120 (.map (some m)) (wayV p) false).run Tryz.prog W2=.ok (.int .i64 1) W2:=by
 obtain⟨l,hl,hw⟩:=h.map
 have hx:(⟨p,h1,h2⟩:Way) ∉ l.map (·.1):=fun hm=>hp (by
  rw[←hw];obtain⟨y,hy,hye⟩:=List.mem_map.1 hm;exact List.mem_map.2 ⟨y,hy,by rw[hye]⟩)
 have hno:∀y∈l,y.1≠(⟨p,h1,h2⟩:Way):=fun y hy e=>hx (List.mem_map.2 ⟨y,hy,e⟩)
 obtain⟨W1,c,r1,r2,r3,r4⟩:=hl.entry Tryz.underlying120 way_ok (z:=(0:Int)) zero3 ⟨p,h1,h2⟩ hx;obtain⟨W2,s1,s2,s3⟩:=r4 1;have q0:=hl.at_.look Tryz.underlying120 way_ok (z:=(0:Int)) (zero3 W) ⟨p,h1,h2⟩;have q1:=r2.look Tryz.underlying120 way_ok (z:=(0:Int)) (zero3 W1) ⟨p,h1,h2⟩;have q2:=s2.at_.look Tryz.underlying120 way_ok (z:=(0:Int)) (zero3 W2) ⟨p,h1,h2⟩;rw[Mp.get_none _ _ _ hno]at q0;rw[Mp.get_at _ _ (0:Int) _ l.length r2.nodup (by simp)]at q1;rw[Mp.get_at _ _ (1:Int) _ l.length s2.at_.nodup (by simp)]at q2;exact⟨q0,W1,W2,c,r1,q1,s1,r3,s3,⟨⟨_,s2,by simp[hw]⟩,bel_grown h.bel s3 h.mB,h.mB⟩,q2⟩
set_option maxHeartbeats 4000000 in
set_option maxRecDepth 100000 in
theorem sound_any(M:Mesh)(b:Nat)(w:World)(h:MeshR w b M)(ho:M.ok)(hs:SoundOk M)(ha:areaOk M) :
  Calls Tryz.prog 27 #[.pointer (some ⟨b,0,none⟩)] w fun e w'=>e=.returned (.bool true)∧Below w.heap.size w w':=by
 have hst:=fun u hu=>St.stars_any M b u hu ho hs.stars
 obtain⟨gp,cp,gt,ct,ga,ca,fV,h⟩:=h;have T9:=ho.tris;have P9:=ho.pts;have H:=Hd h;have HS:=Hd hs;have HO:=Hd ho;have HA:=Hd ha;have HST:=Hd hst;have hM1:=h.later (bel_alloc (bel_refl w) (.map #[] 0));have hh:=hM1.head.cell 1 (.slice (some ⟨gt,0,none⟩) M.tris.length ct) rfl;have hmm:=@run_makeMap Tryz.prog;obtain⟨L,hL⟩:∃L,M.tris.length=L:=⟨_,rfl⟩;rw[hL]at T9 hh;have HL:=Hd hL;clear h hs ho ha hst hL hM1
 go_enter Tryz.func27,Tryz.ntmps27
 go_upto_region 2 with(fail)
 have hS:SeenS w (w.alloc (.map #[] 0)) w.heap.size (waysN M 0):=⟨⟨[],MapE.new _ _ _,rfl⟩,bel_alloc (bel_refl w) _,Nat.le_refl _⟩;have HSS:=Hd hS;have HW:Hid (∀W',Below w.heap.size w W'→MR W' b M gp cp gt ct ga ca fV):=Hd fun W' hb=>H.out.later hb
 clear hS;generalize w.alloc (.map #[] 0)=W1 at *;obtain⟨m,hm⟩:∃m,w.heap.size=m:=⟨_,rfl⟩;rw[hm]at HSS ⊢;clear hm;go_wp2
 go_loopw [14] (fun a wr=>∃n:Nat,a=.int .i64 n∧n≤L∧Hid (SeenS w wr m (waysN M n))) (fun a _=>L-(intOf a).toNat)
 case atStart=>exact⟨0,rfl,Nat.zero_le _,HSS⟩
 case round=>
  obtain⟨n,rfl,hn,HN⟩:=hrel;by_cases hlt:n<L
  ·have hM:=HW.out wr HN.out.bel
   obtain⟨e0,e1,e2,e3,e4,e5,e6,e7,e8⟩:=hM.tris n (by rw[HL.out];exact hlt);have hvs:=HS.out.stars.vs n (by rw[HL.out];exact hlt);have hmd:=fun u hu=>Md.made_any M b (tat M.tris n) u hu HO.out hvs
   rw[HS.out.made n (by rw[HL.out];exact hlt)]at hmd;have hwn:waysN M (n+1)=if (tat M.tris n).v0=-2 then waysN M n else waysN M n++[wayOf (tat M.tris n) 0,wayOf (tat M.tris n) 1,wayOf (tat M.tris n) 2]:=rfl
   have hbs:=HS.out.beside n (by rw[HL.out];exact hlt)
   have hnd:(waysN M (n+1)).Nodup:=by
    have h1:=ways_pre M (n+1) (L-(n+1));rw[show n+1+(L-(n+1))=L by omega]at h1;have h2:=HS.out.ways;rw[HL.out]at h2;exact h2.sublist h1.sublist
   generalize tat M.tris n=T at *;have HVS:=Hd hvs;have HMD:=Hd hmd;have HWN:=Hd hwn;have HBS:=Hd hbs;have HND:=Hd hnd;have n0:(0:Int)≤(n:Int):=by omega
   have n1:(n:Int)<(L:Int):=by omega
   clear hM hvs hmd hwn hbs hnd
   go_upto_region 5 with(fail)
   have hS2:=HN.out.later (bel_alloc (bel_refl wr) (.cells #[.int .i64 T.v0,.int .i64 T.v1,.int .i64 T.v2,.int .i64 T.n0,.int .i64 T.n1,.int .i64 T.n2,.bool T.f0,.bool T.f1,.bool T.f2] 43));have hB2:=(Blk.new wr 43 #[.int .i64 T.v0,.int .i64 T.v1,.int .i64 T.v2,.int .i64 T.n0,.int .i64 T.n1,.int .i64 T.n2,.bool T.f0,.bool T.f1,.bool T.f2]);obtain⟨tb,htb⟩:∃tb,wr.heap.size=tb:=⟨_,rfl⟩;rw[htb]at hB2 ⊢;clear htb e0 e1 e2 e3 e4 e5 e6 e7 e8;generalize (wr.alloc (.cells #[.int .i64 T.v0,.int .i64 T.v1,.int .i64 T.v2,.int .i64 T.n0,.int .i64 T.n1,.int .i64 T.n2,.bool T.f0,.bool T.f1,.bool T.f2] 43))=W2 at *;obtain⟨x0,x1,x2,x3,x4,x5,x6,x7,x8⟩:=Blk.all9 hB2;have HS2:=Hd hS2;have HB2:=Hd hB2;clear hS2 hB2
   go_upto_region 7 with(go_at_call 59;refine(HMD.out _ ⟨_,_,_,_,_,_,_,HW.out _ HS2.out.bel⟩).mono ?_;rintro e w3 ⟨rfl,hb3⟩;have HS3:=Hd (HS2.out.later hb3);have HB3:=Hd (HB2.out.later hb3);clear hb3)
   have y0:=HB3.out.cell 0 (.int .i64 T.v0) rfl;clear x0 x1 x2 x3 x4 x5 x6 x7 x8;by_cases hg:T.v0=-2
   ·have q1:(T.v0==-2)=true:=by simpa using hg
    have hw2:waysN M (n+1)=waysN M n:=by rw[HWN.out,if_pos hg]
    have HW2:=Hd hw2;clear hg hw2;go_wp2;go_roundw
    case rel=>exact⟨n+1,by go_num,by omega,Hd (by rw[HW2.out];exact HS3.out)⟩
    case measure=>simp[intOf];omega
   ·have q1:(T.v0==-2)=false:=by simpa using hg
    have hw2:waysN M (n+1)=waysN M n++[wayOf T 0,wayOf T 1,wayOf T 2]:=by rw[HWN.out,if_neg hg]
    have HW2:=Hd hw2;have hbb:=HBS.out hg;have HBB:=Hd hbb;have hnd2:=HND.out;rw[hw2]at hnd2;have HND2:=Hd hnd2;clear hg hw2 hbb hnd2;go_wp2
    go_loopw [27] (fun a wq=>∃k:Nat,a=.int .i64 k∧k≤3∧Hid (SeenS w wq m (waysN M n++[wayOf T 0,wayOf T 1,wayOf T 2].take k))∧Hid (Blk wq tb 43 #[.int .i64 T.v0,.int .i64 T.v1,.int .i64 T.v2,.int .i64 T.n0,.int .i64 T.n1,.int .i64 T.n2,.bool T.f0,.bool T.f1,.bool T.f2])) (fun a _=>3-(intOf a).toNat)
    case atStart=>exact⟨0,rfl,by omega,Hd (by simpa using HS3.out),HB3⟩
    case round=>
     obtain⟨k,rfl,hk,HK,HBk⟩:=hrel;rcases(show k=0∨k=1∨k=2∨k=3 by omega)with rfl|rfl|rfl|rfl
     ·have hwa:(Lit.int .i64 T.v1).wf=true:=wf_of (by have:=HVS.out 1 (by omega);simp only[Tri.v]at this;omega)
      have hwc:(Lit.int .i64 T.v2).wf=true:=wf_of (by have:=HVS.out 2 (by omega);simp only[Tri.v]at this;omega)
      have hni:wayOf T 0 ∉ waysN M n++[wayOf T 0,wayOf T 1,wayOf T 2].take 0:=by
       have h1:=HND2.out;rw[show waysN M n++[wayOf T 0,wayOf T 1,wayOf T 2]=(waysN M n++[wayOf T 0,wayOf T 1,wayOf T 2].take 0)++(wayOf T 0::[wayOf T 0,wayOf T 1,wayOf T 2].drop 1)by simp]at h1;rw[List.nodup_append]at h1;exact fun hm=>h1.2.2 _ hm _ (by simp) rfl
      have c1:=HBk.out.cell 1 (.int .i64 T.v1) rfl;have c2:=HBk.out.cell 2 (.int .i64 T.v2) rfl;have nn1:=World.new_ne _ _ c1;have w0:IntKind.i64.wrap 0=0:=by decide
      have w1:IntKind.i64.wrap 1=1:=by decide
      have w2:IntKind.i64.wrap 2=2:=by decide
      have w3':IntKind.i64.wrap 3=3:=by decide
      have w4:IntKind.i64.wrap 4=4:=by decide
      have HWa:=Hd hwa;have HWc:=Hd hwc;have HNI:=Hd hni;clear hwa hwc hni
      go_upto_region 11 with(fail)
      go_region_held3 (fun w'=>w'.cell? ⟨tb,1,none⟩=some (.int .i64 T.v1)∧w'.cell? ⟨tb,2,none⟩=some (.int .i64 T.v2)) (go_keep) (fail)
      clear c1 c2 nn1 w0 w1 w2 w3' w4;have hbl:=bel_drew (bel_alloc (bel_refl wr) (.cells #[.int .i64 T.v1,.int .i64 T.v2] 123));have hkb:=(Blk.new wr 123 #[.int .i64 T.v1,.int .i64 T.v2]).drew;have HK2:=Hd (HK.out.later hbl);have HB4:=Hd (HBk.out.later hbl);obtain⟨kb,hkq⟩:∃kb,wr.heap.size=kb:=⟨_,rfl⟩;rw[hkq]at hkb
      go_upto_region 12 with(fail)
      rw[hkq];generalize (wr.alloc (.cells #[.int .i64 T.v1,.int .i64 T.v2] 123)).drew=W4 at *;clear hbl hkq;obtain⟨l0,W5,W6,st,me,l1,es,hg5,hg6,hse,l2⟩:=(HK2.out.later (bel_drew (bel_refl W4))).entry (wayOf T 0) HWa.out HWc.out HNI.out;have l0':(Instr.lookup 120 (.map (some m)) (.agg #[.int .i64 T.v1,.int .i64 T.v2]) false).run Tryz.prog W4.drew=.ok (.int .i64 0) W4.drew:=l0;have me':(Instr.mapEntry 120 (.map (some m)) (.agg #[.int .i64 T.v1,.int .i64 T.v2])).run Tryz.prog W4.drew=.ok (.tuple #[.int .i64 0,.int .i64 st]) W5:=me;have l1':(Instr.lookup 120 (.map (some m)) (.agg #[.int .i64 T.v1,.int .i64 T.v2]) false).run Tryz.prog W5=.ok (.int .i64 0) W5:=l1;have l2':(Instr.lookup 120 (.map (some m)) (.agg #[.int .i64 T.v1,.int .i64 T.v2]) false).run Tryz.prog W6=.ok (.int .i64 1) W6:=l2;have kd:=hkb.cell 0 (.int .i64 T.v1) rfl;have ke:=hkb.cell 1 (.int .i64 T.v2) rfl;have L2:=Hd l2';have HSE:=Hd hse;have HG6:=Hd hg6;have HKB:=Hd hkb;have ww:IntKind.i64.wrap 1=1:=by decide
      clear l0 me l1 l2 l2' hse hg5 hg6 hkb
      go_cut [48] (fun _ wz=>Hid (W6=wz))
      case first=>
       go_region
       all_goals
        go_wp2
        go_meet
        exact Hd rfl
      case rest=>
       have hU:=hcut.out;subst hU;clear l0' me' l1' es kd ke ww
       have hkk:Blk W6 kb 123 #[.int .i64 T.v1,.int .i64 T.v2]∧Blk W6 tb 43 #[.int .i64 T.v0,.int .i64 T.v1,.int .i64 T.v2,.int .i64 T.n0,.int .i64 T.n1,.int .i64 T.n2,.bool T.f0,.bool T.f1,.bool T.f2]:=by
        obtain⟨l,hl,_⟩:=(HK2.out.later (bel_drew (bel_refl W4))).map;exact⟨hl.at_.set HG6.out HKB.out.drew,hl.at_.set HG6.out HB4.out.drew⟩
       have kd:=hkk.1.cell 0 (.int .i64 T.v1) rfl;have ke:=hkk.1.cell 1 (.int .i64 T.v2) rfl;have HT6:=Hd hkk.2;have l2':=L2.out;clear hkk L2;go_wp2;go_roundw
       case rel=>exact⟨1,by go_num,by omega,Hd (by have h6:=HSE.out;rw[List.append_assoc]at h6;exact h6),HT6⟩
       case measure=>simp[intOf]
     ·have hwa:(Lit.int .i64 T.v2).wf=true:=wf_of (by have:=HVS.out 2 (by omega);simp only[Tri.v]at this;omega)
      have hwc:(Lit.int .i64 T.v0).wf=true:=wf_of (by have:=HVS.out 0 (by omega);simp only[Tri.v]at this;omega)
      have hni:wayOf T 1 ∉ waysN M n++[wayOf T 0,wayOf T 1,wayOf T 2].take 1:=by
       have h1:=HND2.out;rw[show waysN M n++[wayOf T 0,wayOf T 1,wayOf T 2]=(waysN M n++[wayOf T 0,wayOf T 1,wayOf T 2].take 1)++(wayOf T 1::[wayOf T 0,wayOf T 1,wayOf T 2].drop 2)by simp]at h1;rw[List.nodup_append]at h1;exact fun hm=>h1.2.2 _ hm _ (by simp) rfl
      have c1:=HBk.out.cell 2 (.int .i64 T.v2) rfl;have c2:=HBk.out.cell 0 (.int .i64 T.v0) rfl;have nn1:=World.new_ne _ _ c1;have w0:IntKind.i64.wrap 0=0:=by decide
      have w1:IntKind.i64.wrap 1=1:=by decide
      have w2:IntKind.i64.wrap 2=2:=by decide
      have w3':IntKind.i64.wrap 3=3:=by decide
      have w4:IntKind.i64.wrap 4=4:=by decide
      have HWa:=Hd hwa;have HWc:=Hd hwc;have HNI:=Hd hni;clear hwa hwc hni
      go_upto_region 11 with(fail)
      go_region_held3 (fun w'=>w'.cell? ⟨tb,2,none⟩=some (.int .i64 T.v2)∧w'.cell? ⟨tb,0,none⟩=some (.int .i64 T.v0)) (go_keep) (fail)
      clear c1 c2 nn1 w0 w1 w2 w3' w4;have hbl:=bel_drew (bel_alloc (bel_refl wr) (.cells #[.int .i64 T.v2,.int .i64 T.v0] 123));have hkb:=(Blk.new wr 123 #[.int .i64 T.v2,.int .i64 T.v0]).drew;have HK2:=Hd (HK.out.later hbl);have HB4:=Hd (HBk.out.later hbl);obtain⟨kb,hkq⟩:∃kb,wr.heap.size=kb:=⟨_,rfl⟩;rw[hkq]at hkb
      go_upto_region 12 with(fail)
      rw[hkq];generalize (wr.alloc (.cells #[.int .i64 T.v2,.int .i64 T.v0] 123)).drew=W4 at *;clear hbl hkq;obtain⟨l0,W5,W6,st,me,l1,es,hg5,hg6,hse,l2⟩:=(HK2.out.later (bel_drew (bel_refl W4))).entry (wayOf T 1) HWa.out HWc.out HNI.out;have l0':(Instr.lookup 120 (.map (some m)) (.agg #[.int .i64 T.v2,.int .i64 T.v0]) false).run Tryz.prog W4.drew=.ok (.int .i64 0) W4.drew:=l0;have me':(Instr.mapEntry 120 (.map (some m)) (.agg #[.int .i64 T.v2,.int .i64 T.v0])).run Tryz.prog W4.drew=.ok (.tuple #[.int .i64 0,.int .i64 st]) W5:=me;have l1':(Instr.lookup 120 (.map (some m)) (.agg #[.int .i64 T.v2,.int .i64 T.v0]) false).run Tryz.prog W5=.ok (.int .i64 0) W5:=l1;have l2':(Instr.lookup 120 (.map (some m)) (.agg #[.int .i64 T.v2,.int .i64 T.v0]) false).run Tryz.prog W6=.ok (.int .i64 1) W6:=l2;have kd:=hkb.cell 0 (.int .i64 T.v2) rfl;have ke:=hkb.cell 1 (.int .i64 T.v0) rfl;have L2:=Hd l2';have HSE:=Hd hse;have HG6:=Hd hg6;have HKB:=Hd hkb;have ww:IntKind.i64.wrap 1=1:=by decide
      clear l0 me l1 l2 l2' hse hg5 hg6 hkb
      go_cut [48] (fun _ wz=>Hid (W6=wz))
      case first=>
       go_region
       all_goals
        go_wp2
        go_meet
        exact Hd rfl
      case rest=>
       have hU:=hcut.out;subst hU;clear l0' me' l1' es kd ke ww
       have hkk:Blk W6 kb 123 #[.int .i64 T.v2,.int .i64 T.v0]∧Blk W6 tb 43 #[.int .i64 T.v0,.int .i64 T.v1,.int .i64 T.v2,.int .i64 T.n0,.int .i64 T.n1,.int .i64 T.n2,.bool T.f0,.bool T.f1,.bool T.f2]:=by
        obtain⟨l,hl,_⟩:=(HK2.out.later (bel_drew (bel_refl W4))).map;exact⟨hl.at_.set HG6.out HKB.out.drew,hl.at_.set HG6.out HB4.out.drew⟩
       have kd:=hkk.1.cell 0 (.int .i64 T.v2) rfl;have ke:=hkk.1.cell 1 (.int .i64 T.v0) rfl;have HT6:=Hd hkk.2;have l2':=L2.out;clear hkk L2;go_wp2;go_roundw
       case rel=>exact⟨2,by go_num,by omega,Hd (by have h6:=HSE.out;rw[List.append_assoc]at h6;exact h6),HT6⟩
       case measure=>simp[intOf]
     ·have hwa:(Lit.int .i64 T.v0).wf=true:=wf_of (by have:=HVS.out 0 (by omega);simp only[Tri.v]at this;omega)
      have hwc:(Lit.int .i64 T.v1).wf=true:=wf_of (by have:=HVS.out 1 (by omega);simp only[Tri.v]at this;omega)
      have hni:wayOf T 2 ∉ waysN M n++[wayOf T 0,wayOf T 1,wayOf T 2].take 2:=by
       have h1:=HND2.out;rw[show waysN M n++[wayOf T 0,wayOf T 1,wayOf T 2]=(waysN M n++[wayOf T 0,wayOf T 1,wayOf T 2].take 2)++(wayOf T 2::[wayOf T 0,wayOf T 1,wayOf T 2].drop 3)by simp]at h1;rw[List.nodup_append]at h1;exact fun hm=>h1.2.2 _ hm _ (by simp) rfl
      have c1:=HBk.out.cell 0 (.int .i64 T.v0) rfl;have c2:=HBk.out.cell 1 (.int .i64 T.v1) rfl;have nn1:=World.new_ne _ _ c1;have w0:IntKind.i64.wrap 0=0:=by decide
      have w1:IntKind.i64.wrap 1=1:=by decide
      have w2:IntKind.i64.wrap 2=2:=by decide
      have w3':IntKind.i64.wrap 3=3:=by decide
      have w4:IntKind.i64.wrap 4=4:=by decide
      have HWa:=Hd hwa;have HWc:=Hd hwc;have HNI:=Hd hni;clear hwa hwc hni
      go_upto_region 11 with(fail)
      go_region_held3 (fun w'=>w'.cell? ⟨tb,0,none⟩=some (.int .i64 T.v0)∧w'.cell? ⟨tb,1,none⟩=some (.int .i64 T.v1)) (go_keep) (fail)
      clear c1 c2 nn1 w0 w1 w2 w3' w4;have hbl:=bel_drew (bel_alloc (bel_refl wr) (.cells #[.int .i64 T.v0,.int .i64 T.v1] 123));have hkb:=(Blk.new wr 123 #[.int .i64 T.v0,.int .i64 T.v1]).drew;have HK2:=Hd (HK.out.later hbl);have HB4:=Hd (HBk.out.later hbl);obtain⟨kb,hkq⟩:∃kb,wr.heap.size=kb:=⟨_,rfl⟩;rw[hkq]at hkb
      go_upto_region 12 with(fail)
      rw[hkq];generalize (wr.alloc (.cells #[.int .i64 T.v0,.int .i64 T.v1] 123)).drew=W4 at *;clear hbl hkq;obtain⟨l0,W5,W6,st,me,l1,es,hg5,hg6,hse,l2⟩:=(HK2.out.later (bel_drew (bel_refl W4))).entry (wayOf T 2) HWa.out HWc.out HNI.out;have l0':(Instr.lookup 120 (.map (some m)) (.agg #[.int .i64 T.v0,.int .i64 T.v1]) false).run Tryz.prog W4.drew=.ok (.int .i64 0) W4.drew:=l0;have me':(Instr.mapEntry 120 (.map (some m)) (.agg #[.int .i64 T.v0,.int .i64 T.v1])).run Tryz.prog W4.drew=.ok (.tuple #[.int .i64 0,.int .i64 st]) W5:=me;have l1':(Instr.lookup 120 (.map (some m)) (.agg #[.int .i64 T.v0,.int .i64 T.v1]) false).run Tryz.prog W5=.ok (.int .i64 0) W5:=l1;have l2':(Instr.lookup 120 (.map (some m)) (.agg #[.int .i64 T.v0,.int .i64 T.v1]) false).run Tryz.prog W6=.ok (.int .i64 1) W6:=l2;have kd:=hkb.cell 0 (.int .i64 T.v0) rfl;have ke:=hkb.cell 1 (.int .i64 T.v1) rfl;have L2:=Hd l2';have HSE:=Hd hse;have HG6:=Hd hg6;have HKB:=Hd hkb;have ww:IntKind.i64.wrap 1=1:=by decide
      clear l0 me l1 l2 l2' hse hg5 hg6 hkb
      go_cut [48] (fun _ wz=>Hid (W6=wz))
      case first=>
       go_region
       all_goals
        go_wp2
        go_meet
        exact Hd rfl
      case rest=>
       have hU:=hcut.out;subst hU;clear l0' me' l1' es kd ke ww
       have hkk:Blk W6 kb 123 #[.int .i64 T.v0,.int .i64 T.v1]∧Blk W6 tb 43 #[.int .i64 T.v0,.int .i64 T.v1,.int .i64 T.v2,.int .i64 T.n0,.int .i64 T.n1,.int .i64 T.n2,.bool T.f0,.bool T.f1,.bool T.f2]:=by
        obtain⟨l,hl,_⟩:=(HK2.out.later (bel_drew (bel_refl W4))).map;exact⟨hl.at_.set HG6.out HKB.out.drew,hl.at_.set HG6.out HB4.out.drew⟩
       have kd:=hkk.1.cell 0 (.int .i64 T.v0) rfl;have ke:=hkk.1.cell 1 (.int .i64 T.v1) rfl;have HT6:=Hd hkk.2;have l2':=L2.out;clear hkk L2;go_wp2;go_roundw
       case rel=>exact⟨3,by go_num,by omega,Hd (by have h6:=HSE.out;rw[List.append_assoc]at h6;exact h6),HT6⟩
       case measure=>simp[intOf]
     ·have hend:=HK.out
      rw[show([wayOf T 0,wayOf T 1,wayOf T 2].take 3)=[wayOf T 0,wayOf T 1,wayOf T 2]from rfl,←HW2.out]at hend;have hbd:=Be.beside_any M b n wr ⟨_,_,_,_,_,_,_,HW.out wr hend.bel⟩ (by rw[HL.out];exact hlt) HBB.out;have HEND:=Hd hend;have HBD:=Hd hbd;clear hend hbd
      go_wp2_with (go_at_call 60;refine HBD.out.mono ?_;rintro e w8 ⟨rfl,hb8⟩;have HE8:=Hd (HEND.out.later hb8);clear hb8)
      go_roundw
      case rel=>exact⟨n+1,by go_num,by omega,HE8⟩
      case measure=>simp[intOf];omega
  ·have hnn:L=n:=by omega
   subst hnn;have hsc:=HST.out wr ⟨_,_,_,_,_,_,_,HW.out wr HN.out.bel⟩;have HSC:=Hd hsc;clear hsc
   go_wp2_with (first
    | (go_at_call 61;refine HSC.out.mono ?_;rintro e w3 ⟨rfl,hb3⟩;have HB3:=Hd (bel_step HN.out.bel hb3);have HC3:=Hd (HA.out b w3 ⟨_,_,_,_,_,_,_,HW.out w3 (bel_step HN.out.bel hb3)⟩);clear hb3)
    | (go_at_call 62;refine HC3.out.mono ?_;rintro e w4 ⟨rfl,hb4⟩;have HB4:=Hd (bel_step HB3.out hb4);clear hb4))
   go_ret
   exact⟨rfl,HB4.out⟩
end Sd
end Go.Proofs.YtdihefgleefhmaaGreat
