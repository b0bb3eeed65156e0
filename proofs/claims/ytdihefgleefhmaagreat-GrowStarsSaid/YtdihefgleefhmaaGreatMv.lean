import Derived.Test.YtdihefgleefhmaaGreatDf
import Derived.Maps.RangeWalk
namespace Go.Proofs.YtdihefgleefhmaaGreat
open Go.RowKit
namespace Mv
section
variable {α β:Type} [DecidableEq α]
theorem look_at(k:α)(u:β):∀(l:List (α×β)) (j:Nat),(l.map (·.1)).Nodup→l[j]? =some (k,u)→mlook k l=some u:=fun _ _ hn h=>(De.look_some hn).2 (List.mem_of_getElem? h)
theorem del_none{k:α} : ∀{l:List (α×β)},(∀x∈l,x.1≠k)→mdel k l=l
 | [],_=>rfl
 | x::l,h=>by
  unfold mdel;rw[if_neg (h x (by simp)),del_none fun y hy=>h y (by simp[hy])]
theorem del_at(k:α)(u:β):∀(l:List (α×β)) (j:Nat),(l.map (·.1)).Nodup→l[j]? =some (k,u)→mdel k l=l.eraseIdx j
 | [],_,_,h=>by simp at h
 | x::l,0,_,h=>by
  simp at h;subst h;simp[mdel]
 | x::l,j+1,hn,h=>by
  simp only[List.map_cons,List.nodup_cons]at hn;simp only[List.getElem?_cons_succ]at h;have hx:x.1≠k:=fun e=>hn.1 (List.mem_map.2 ⟨(k,u),List.mem_of_getElem? h,e.symm⟩)
  unfold mdel;rw[if_neg hx,del_at k u l j hn.2 h];rfl
end
end Mv
section
variable {α β:Type} {K:α→Value} {V:β→Value} {P:Program} {W W':World} {b:Nat} {l:List (α×β)} {k e t:TypeId}
theorem MapAt.look2[DecidableEq α](h:MapAt K V W b l)(ht:P.underlying t=some (.map k e))(hk:KeyOk P k K){z:β}(hz:(zeroValue e).run P W=.ok (V z) W)(x:α) :
 (Instr.lookup t (.map (some b)) (K x) true).run P W=.ok (.tuple #[V ((mlook x l).getD z),.bool (mlook x l).isSome]) W:=by
 have hn:=h.nodup;obtain⟨es,c,h1,h2,_⟩:=h.find hk x;rcases h2 with⟨h3,h4⟩|⟨j,u,h3,h4,_⟩
 ·rw[De.look_none.2 h4]
  simp[Instr.lookup,run_underlying ht,MapKept.run_getObj_map h1,hk.check W _ x,h3,hz,Result.andThen]
 ·rw[Mv.look_at x u l j hn h4]
  simp[Instr.lookup,run_underlying ht,MapKept.run_getObj_map h1,hk.check W _ x,h3,Result.andThen]
def MapS{α β:Type}(K:α→Value)(V:β→Value)(W:World)(b:Nat)(l:List (α×β)):Prop:=
 ∃es clock,W.heap[b]? =some (.map es clock)∧es.toList.map (fun e=>(e.key,e.val))=(l.map fun x=>(K x.1,V x.2))∧(l.map (·.1)).Nodup∧MapKept.Stamped es clock
theorem MapS.plain(h:MapS K V W b l):MapAt K V W b l:=by
 obtain⟨es,c,h1,h2,h3,_⟩:=h;exact⟨es,c,h1,h2,h3⟩
theorem MapS.lt(h:MapS K V W b l):b<W.heap.size:=h.plain.lt
theorem MapS.new(K:α→Value)(V:β→Value)(W:World):MapS K V (W.alloc (.map #[] 0)) W.heap.size ([]:List (α×β)):=⟨#[],0,(MapKept.heap_alloc W _).1,rfl,by simp,MapKept.stamped_empty 0⟩
theorem MapS.later(h:MapS K V W b l)(hb:Below W.heap.size W W'):MapS K V W' b l:=by
 have hl:=h.lt;obtain⟨es,c,h1,h2⟩:=h;exact⟨es,c,(hb.block b hl).trans h1,h2⟩
theorem MapS.grown(h:MapS K V W b l){row:Option Nat}(hg:W.grownBy W' row)(hr:some b≠row):MapS K V W' b l:=by
 have hl:=h.lt;obtain⟨es,c,h1,h2⟩:=h;exact⟨es,c,(hg.block b hl hr).trans h1,h2⟩
theorem MapS.fresh[DecidableEq α]{es:Array MapEntry}(h6:es.toList.map (fun e=>(e.key,e.val))=l.map fun x=>(K x.1,V x.2))(hk:KeyOk P k K){x:α}(h4:∀y∈l,y.1≠x):∀e∈es.toList,e.key≠K x:=fun e he ek=>by
 have:(e.key,e.val)∈l.map fun x=>(K x.1,V x.2):=by rw[←h6];exact List.mem_map.2 ⟨e,he,rfl⟩
 obtain⟨y,hy,e2⟩:=List.mem_map.1 this;exact h4 y hy (hk.inj ((congrArg Prod.fst e2).trans ek))
theorem MapS.put[DecidableEq α](h:MapS K V W b l)(ht:P.underlying t=some (.map k e))(hk:KeyOk P k K)(x:α)(v:β) :
 ∃w',(Instr.mapUpdate t (.map (some b)) (K x) (V v)).run P W=.ok () w'∧MapS K V w' b (mput x v l)∧W.grownBy w' (some b):=by
 have hp:=h.plain;have hn:=hp.nodup;obtain⟨es0,c0,h10,_,_,hst⟩:=h;obtain⟨es,c,h1,h2,h6⟩:=hp.find hk x;have:es0=es∧c0=c:=by rw[h10]at h1;cases h1;exact⟨rfl,rfl⟩
 obtain⟨rfl,rfl⟩:=this;rcases h2 with⟨h3,h4⟩|⟨j,u,h3,h4,h5⟩
 ·refine⟨ChangeMaps.setBlock W b (.map (es0.push ⟨K x,V v,c0⟩) (c0+1)),?_,⟨_,_,ChangeMaps.heap_setBlock_same h1 _,?_,Mp.put_nodup x v l hn,MapKept.stamped_push hst (MapS.fresh h6 hk h4)⟩,⟨rfl,rfl,rfl,by simp[ChangeMaps.setBlock],fun i _ hi=>ChangeMaps.heap_setBlock_other h1 _ (fun e=>hi (by rw[e]))⟩⟩
  ·simp[Instr.mapUpdate,run_underlying ht,MapKept.run_getObj_map h1,hk.check W _ x,h3,MapKept.run_setObj_map _ h1,Result.andThen,ChangeMaps.setBlock]
  ·rw[Mp.put_none x v l h4]
   simp[h6]
 ·obtain⟨e0,he0,hk0⟩:=Option.map_eq_some_iff.1 h5
  refine⟨ChangeMaps.setBlock W b (.map (es0.modify j fun e=>{e with key:=K x,val:=V v }) c0),?_,⟨_,_,ChangeMaps.heap_setBlock_same h1 _,?_,Mp.put_nodup x v l hn,MapKept.stamped_modify hst j _ (fun _ _=>rfl) (fun e _ he=>?_)⟩,⟨rfl,rfl,rfl,by simp[ChangeMaps.setBlock],fun i _ hi=>ChangeMaps.heap_setBlock_other h1 _ (fun e=>hi (by rw[e]))⟩⟩
  ·simp[Instr.mapUpdate,run_underlying ht,MapKept.run_getObj_map h1,hk.check W _ x,h3,he0,hk0,hk.stays W x,MapKept.run_setObj_map _ h1,Result.andThen,ChangeMaps.setBlock]
  ·rw[Mp.put_at x v u l j hn h4,Array.toList_modify]
   apply List.ext_getElem?;intro i;have:=congrArg (fun l=>l[i]?) h6;simp only[List.getElem?_map]at this ⊢;rw[List.getElem?_modify,List.getElem?_set];by_cases hi:j=i
   ·subst hi
    have hjl:j<l.length:=(List.getElem?_eq_some_iff.1 h4).1;simp[hjl,he0]
   ·simp only[hi,if_false]
    simpa using this
  ·rw[he0]at he
   cases he;exact hk0.symm
theorem MapS.del[DecidableEq α](h:MapS K V W b l)(ht:P.underlying t=some (.map k e))(hk:KeyOk P k K)(x:α)(kt ty:TypeId) :
 ∃w',(Builtin.delete_ #[t,kt] ty #[.map (some b),K x]).run P W=.ok (.tuple #[]) w'∧MapS K V w' b (mdel x l)∧W.grownBy w' (some b):=by
 have hp:=h.plain;have hn:=hp.nodup;obtain⟨es0,c0,h10,_,_,hst⟩:=h;obtain⟨es,c,h1,h2,h6⟩:=hp.find hk x;have:es0=es∧c0=c:=by rw[h10]at h1;cases h1;exact⟨rfl,rfl⟩
 obtain⟨rfl,rfl⟩:=this;have hel:es0.toList.length=l.length:=by have:=congrArg List.length h6;simpa using this
 rcases h2 with⟨h3,h4⟩|⟨j,u,h3,h4,h5⟩
 ·refine⟨ChangeMaps.setBlock W b (.map es0 c0),?_,⟨_,_,ChangeMaps.heap_setBlock_same h1 _,?_,?_,hst⟩,⟨rfl,rfl,rfl,by simp[ChangeMaps.setBlock],fun i _ hi=>ChangeMaps.heap_setBlock_other h1 _ (fun e=>hi (by rw[e]))⟩⟩
  ·simp[Builtin.delete_,run_underlying ht,MapKept.run_getObj_map h1,hk.check W _ x,h3,MapKept.run_setObj_map _ h1,Result.andThen,ChangeMaps.setBlock]
  ·rw[Mv.del_none h4];exact h6
  ·rw[Mv.del_none h4];exact hn
 ·have hj:j<es0.size:=by
   have:=(List.getElem?_eq_some_iff.1 h4).1;rw[←Array.length_toList,hel];exact this
  refine⟨ChangeMaps.setBlock W b (.map (es0.eraseIdxIfInBounds j) c0),?_,⟨_,_,ChangeMaps.heap_setBlock_same h1 _,?_,De.del_nodup hn,MapKept.stamped_erase hst j⟩,⟨rfl,rfl,rfl,by simp[ChangeMaps.setBlock],fun i _ hi=>ChangeMaps.heap_setBlock_other h1 _ (fun e=>hi (by rw[e]))⟩⟩
  ·simp[Builtin.delete_,run_underlying ht,MapKept.run_getObj_map h1,hk.check W _ x,h3,MapKept.run_setObj_map _ h1,Result.andThen,ChangeMaps.setBlock]
  ·rw[Mv.del_at x u l j hn h4]
   have e1:(es0.eraseIdxIfInBounds j).toList=es0.toList.eraseIdx j:=by
    unfold Array.eraseIdxIfInBounds;rw[dif_pos hj,Array.toList_eraseIdx]
   rw[e1]
   have:∀(l1:List MapEntry) (l2:List (α×β)) (j:Nat),l1.map (fun e=>(e.key,e.val))=l2.map (fun x=>(K x.1,V x.2))→(l1.eraseIdx j).map (fun e=>(e.key,e.val))=(l2.eraseIdx j).map fun x=>(K x.1,V x.2):=by
    intro l1
    induction l1 with
    | nil=>intro l2 j h;cases l2 with
     | nil=>simp
     | cons=>simp at h
    | cons a l1 ih=>intro l2 j h;cases l2 with
     | nil=>simp at h
     | cons c l2=>
      simp only[List.map_cons,List.cons.injEq]at h;cases j with
      | zero=>simpa using h.2
      | succ j=>simp[h.1,ih l2 j h.2]
   exact this _ _ _ h6
end
theorem wpList_map_putS{α β:Type}[DecidableEq α]{K:α→Value}{V:β→Value}{P:Program}(w:World){ops:Array Oper}{rest:List Oper}{o:Oper}{a:Act}{Q:Exit→Act→World→Prop}
 (hg:o.guard=none) (m x v:Operand) (t:TypeId) (hop:o.op=Op.mapUpdate t m x v) {k e:TypeId} (ht:P.underlying t=some (.map k e)) (hk:KeyOk P k K) (b:Nat) {l:List (α×β)}
 (hm:a.eval m=.map (some b)) (h:MapS K V w b l) (y:α) (z:β) (hx:a.eval x=K y) (hv:a.eval v=V z)
 (hK:∀w',MapS K V w' b (mput y z l)→w.grownBy w' (some b)→wpList P ops Q rest (a.put o.dst undef) w') :
 wpList P ops Q (o::rest) a w:=by
 refine wpList_plain hg fun K' hK'=>?_
 obtain⟨w',hrun,r1,r2⟩:=h.put ht hk y z;unfold Oper.wp;simp[execOp,hop,hm,hx,hv,hrun,Result.andThen];exact hK' _ _ (hK w' r1 r2)
theorem pr_row:54<Tryz.prog.types.size:=Nat.le_of_ble_eq_true (by kernel_rfl)
theorem pr_law:Maps.Keyed Tryz.prog 54:=Maps.Keyed.of_law (deep_law_laid (by kernel_rfl) (m:=2) (by omega) pr_row (by kernel_rfl) (by kernel_rfl))
theorem pr_formed(p:Int×Int):(wayV p).formed Tryz.prog 54=true:=by kernel_rfl
theorem pr_type:Tryz.prog.keyType 54=true:=by kernel_rfl
theorem pr_cells:Tryz.prog.cellsOf 54=2:=by kernel_rfl
theorem pr_lits(d:Nat)(p:Int×Int)(h1:(Lit.int .i64 p.1).wf=true)(h2:(Lit.int .i64 p.2).wf=true):Tryz.prog.keyLits (d+2) 54 [.int .i64 p.1,.int .i64 p.2]=some [.int .i64 p.1,.int .i64 p.2]:=by
 have e:∀(n:Int),(Lit.int .i64 n).wf=true→Tryz.prog.keyLits (d+1) 3 [.int .i64 n]=some [.int .i64 n]:=fun n hn=>by
  unfold Program.keyLits;simp[Tryz.underlying3,hn]
 unfold Program.keyLits;have r2:List.range 2=[0,1]:=rfl;simp[Tryz.underlying54,pr_cells,int_cells,r2,e p.1 h1,e p.2 h2]
theorem pr_ok:KeyOk Tryz.prog 54 (fun p:Way=>wayV p.1):=Mp.key_of pr_law (fun {a b} h=>by
 unfold wayV at h;simp only[Value.agg.injEq,Array.mk.injEq,List.cons.injEq,Value.int.injEq,true_and,and_true]at h;exact Subtype.ext (Prod.ext h.1 h.2)) (fun a=>by
 have hs:∃d,Tryz.prog.types.size+1=d+2:=⟨Tryz.prog.types.size-1,by have:=pr_row;omega⟩;obtain⟨d,hd⟩:=hs;refine⟨.string (keyBytes [.int .i64 a.1.1,.int .i64 a.1.2]),?_⟩;unfold keyOf;simp only[Tryz.underlying54,pr_type,pr_formed,Bool.and_self,if_true,hd];show Option.map _ (Tryz.prog.keyLits (d+2) 54 [.int .i64 a.1.1,.int .i64 a.1.2])=_
 rw[pr_lits d a.1 a.2.1 a.2.2];rfl)
end Go.Proofs.YtdihefgleefhmaaGreat
namespace Go.Proofs.YtdihefgleefhmaaGreat
open Go.RowKit
open Go.WideElems (Fit rd rg rd_key rd_val rg_of)
def wl(p:Way):Lit:=.string (keyBytes [.int .i64 p.1.1,.int .i64 p.1.2])
theorem pr_key(p:Way):keyOf Tryz.prog 54 (wayV p.1)=some (wl p):=by
 have hs:∃d,Tryz.prog.types.size+1=d+2:=⟨Tryz.prog.types.size-1,by have:=pr_row;omega⟩;obtain⟨d,hd⟩:=hs;unfold keyOf;simp only[Tryz.underlying54,pr_type,pr_formed,Bool.and_self,if_true,hd];show Option.map _ (Tryz.prog.keyLits (d+2) 54 [.int .i64 p.1.1,.int .i64 p.1.2])=_
 rw[pr_lits d p.1 p.2.1 p.2.2];rfl
theorem wl_inj{p q:Way}(h:wl p=wl q):p=q:=pr_ok.inj (pr_law.inj (pr_key p) (h▸pr_key q))
def R0:Value→Option (DataW Nat×List MemPlace):=fun _=>some (.lit (.bool true),[])
structure Gone(W:World)(b r n:Nat)(ks d:List Way)(left:Lit→Bool)(cnt:Nat)(D:DataW Nat):Prop where
 ran:W.ranges Tryz.prog 54 R0 b r n D left cnt
 nod:d.Nodup
 sub:∀p∈d,p∈ks∧left (wl p)=false
 all:∀p∈ks,p∈d∨left (wl p)=true
 key:∀kl,left kl=true→∃p∈ks,wl p=kl
namespace Mw
variable {β:Type} {V:β→Value} {W W':World} {b r n cnt:Nat} {l:List (Way×β)} {ks d:List Way} {left:Lit→Bool} {D:DataW Nat}
theorem owns(h:MapS (fun p:Way=>wayV p.1) V W b l)(hl:l.length≤maxLen):∃D,W.ownsMap Tryz.prog 54 R0 b l.length D∧(∀p,Maps.has D (wl p)=true↔p∈l.map (·.1))∧∀kl,Maps.has D kl=true→∃p∈l.map (·.1),wl p=kl:=by
 obtain⟨es,c,h1,h2,h3,h4⟩:=h;have hsz:es.size=l.length:=by have:=congrArg List.length h2;simpa using this
 have hmem:∀x∈es.toList,∃p∈l.map (·.1),x.key=wayV p.1:=fun x hx=>by
  have:(x.key,x.val)∈l.map fun y=>(wayV y.1.1,V y.2):=by rw[←h2];exact List.mem_map.2 ⟨x,hx,rfl⟩
  obtain⟨y,hy,e⟩:=List.mem_map.1 this;exact⟨y.1,List.mem_map.2 ⟨y,hy,rfl⟩,(congrArg Prod.fst e).symm⟩
 have hrd:∀x∈es.toList,∀p:Way,x.key=wayV p.1→rd Tryz.prog 54 R0 x=some (wl p,.lit (.bool true)):=fun x _ p hp=>by
  unfold rd;rw[hp,pr_key];rfl
 have hF:Fit Tryz.prog 54 R0 es c:=⟨by rw[hsz];exact hl,h4,fun x hx=>by
  obtain⟨p,_,hp⟩:=hmem x hx;exact⟨_,hrd x hx p hp⟩⟩
 have hrg:∀x∈es.toList,∀p:Way,x.key=wayV p.1→(rg Tryz.prog 54 R0 x).1=wl p:=fun x hx p hp=>by rw[rg_of (hrd x hx p hp)]
 have hk:∀kl,Maps.has (DataW.map ((es.toList.map (rg Tryz.prog 54 R0)).foldr DataW.insert [])) kl=true→∃p∈l.map (·.1),wl p=kl:=fun kl hkl=>by
  obtain⟨q,hq,hqk⟩:=List.any_eq_true.1 hkl;obtain⟨x,hx,rfl⟩:=List.mem_map.1 (mem_sorted.1 hq);obtain⟨p,hp,hpe⟩:=hmem x hx;exact⟨p,hp,by rw[←hrg x hx p hpe];exact WideAt.sameKey_eq hqk⟩
 refine⟨_,⟨es,c,h1,hF,Nat.le_of_eq hsz,rfl⟩,fun p=>⟨fun hh=>?_,fun hp=>?_⟩,hk⟩
 ·obtain⟨q,hq,e⟩:=hk _ hh
  exact wl_inj e▸hq
 ·obtain⟨y,hy,rfl⟩:=List.mem_map.1 hp
  have:(wayV y.1.1,V y.2)∈es.toList.map (fun e=>(e.key,e.val)):=by rw[h2];exact List.mem_map.2 ⟨y,hy,rfl⟩
  obtain⟨x,hx,e⟩:=List.mem_map.1 this;have hxk:x.key=wayV y.1.1:=congrArg Prod.fst e
  exact List.any_eq_true.2 ⟨rg Tryz.prog 54 R0 x,mem_sorted.2 (List.mem_map.2 ⟨x,hx,rfl⟩),by
   rw[hrg x hx y.1 hxk];exact WideAt.sameKey_self (by unfold wl WideAt.IsKeyLit;trivial)⟩
theorem start(hr:W.ranges Tryz.prog 54 R0 b r n D (Maps.has D) cnt)(h1:∀p,Maps.has D (wl p)=true↔p∈ks)(h2:∀kl,Maps.has D kl=true→∃p∈ks,wl p=kl):Gone W b r n ks [] (Maps.has D) cnt D:=
 ⟨hr,List.nodup_nil,fun p hp=>(by cases hp),fun p hp=>.inr ((h1 p).2 hp),h2⟩
theorem done(h:Gone W b r n ks d left cnt D)(hk:ks.Nodup)(hl:∀kl,left kl=false):d.Perm ks:=by
 refine(List.perm_iff_count.2 fun p=>?_);rw[List.Nodup.count h.nod,List.Nodup.count hk];have:p∈d↔p∈ks:=⟨fun hp=>(h.sub p hp).1,fun hp=>(h.all p hp).elim id fun e=>by rw[hl]at e;cases e⟩;simp only[this]
theorem kept(h:Gone W b r n ks d left cnt D){row:Option Nat}(hg:W.grownBy W' row)(hb:some b≠row)(hr:some r≠row):Gone W' b r n ks d left cnt D:=
 ⟨h.ran.kept hg hb hr,h.nod,h.sub,h.all,h.key⟩
theorem alloc(h:Gone W b r n ks d left cnt D)(o:Obj):Gone (W.alloc o) b r n ks d left cnt D:=⟨h.ran.alloc o,h.nod,h.sub,h.all,h.key⟩
end Mw
section
variable {ops:Array Oper} {rest:List Oper} {o:Oper} {a:Act} {Q:Exit→Act→World→Prop}
theorem wpList_next_gone(w:World)(hg:o.guard=none)(it:Operand)(hop:o.op=Op.next it false)(b r n:Nat)(ks d:List Way)(left:Lit→Bool)(cnt:Nat)(D:DataW Nat)
 (hit:a.eval it=.pointer (some ⟨r,0,none⟩)) (h:Gone w b r n ks d left cnt D)
 (hDone:(∀kl,left kl=false)→wpList Tryz.prog ops Q rest (a.put o.dst (.tuple #[.bool false])) w)
 (hMore:∀(p:Way) (c:Value) (w':World) (left':Lit→Bool) (cnt':Nat),p∈ks→Gone w' b r n ks (d++[p]) left' cnt' D→cnt'<cnt→
  w.grownBy w' (some r)→w'.heap.size=w.heap.size→(Instr.entry (.pointer (some ⟨r,0,none⟩))).run Tryz.prog w'=.ok (.tuple #[wayV p.1,c]) w'→wpList Tryz.prog ops Q rest (a.put o.dst (.tuple #[.bool true,wayV p.1,c])) w') :
 wpList Tryz.prog ops Q (o::rest) a w:=by
 refine wpList_next_ranges (α:=Value) (β:=Value) w hg it hop 54 pr_law R0 id id (fun key _ _=>⟨key,rfl⟩) (fun v _ _=>⟨v,rfl⟩) b r n D left cnt hit h.ran (fun _ hl=>hDone hl) ?_;intro x c kl y w' cnt' hkey hlk _ _ hran hlt hgr hsz hent;obtain⟨p,hp,rfl⟩:=h.key kl hlk;obtain rfl:x=wayV p.1:=pr_law.inj hkey (pr_key p);refine hMore p c w' _ cnt' hp ⟨hran,?_,?_,?_,?_⟩ hlt hgr hsz hent
 ·rw[List.nodup_append]
  refine⟨h.nod,by simp,fun q hq q' hq' e=>?_⟩;rw[List.mem_singleton]at hq';have:=(h.sub q hq).2;rw[e,hq',hlk]at this;cases this
 ·intro q hq
  rcases List.mem_append.1 hq with hq|hq
  ·exact⟨(h.sub q hq).1,by simp[(h.sub q hq).2]⟩
  ·rw[List.mem_singleton]at hq
   rw[hq];exact⟨hp,by simp[WideAt.sameKey_self (show WideAt.IsKeyLit (wl p)by unfold wl WideAt.IsKeyLit;trivial)]⟩
 ·intro q hq
  by_cases e:q=p
  ·exact .inl (by simp[e])
  ·rcases h.all q hq with h1|h1
   ·exact .inl (by simp[h1])
   ·refine .inr ?_
    have:(wl q).sameKey (wl p)=false:=by
     cases hs:(wl q).sameKey (wl p)
     ·rfl
     ·exact absurd (wl_inj (WideAt.sameKey_eq hs)) e
    simp[h1,this]
 ·intro kl' hk'
  simp only[Bool.and_eq_true]at hk';exact h.key kl' hk'.1
end
end Go.Proofs.YtdihefgleefhmaaGreat
