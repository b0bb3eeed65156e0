import Derived.Maps.OwnSet
import Derived.WalkKit
import Derived.Below
import Derived.Test.YtdihefgleefhmaaGreatProg
import Derived.DeepKeys4
namespace Go.Proofs.YtdihefgleefhmaaGreat
open Go.RowKit
def mget{α β:Type}[DecidableEq α](z:β)(k:α):List (α×β)→β
 | []=>z
 | x::l=>if x.1=k then x.2 else mget z k l
def mput{α β:Type}[DecidableEq α](k:α)(v:β):List (α×β)→List (α×β)
 | []=>[(k,v)]
 | x::l=>if x.1=k then (k,v)::l else x::mput k v l
structure KeyOk(P:Program)(k:TypeId){α:Type}(K:α→Value):Prop where
 inj:∀{a b:α},K a=K b→a=b
 check:∀(w:World) (em:Bool) (a:α),(Instr.checkKey em 10000 k (K a)).run P w=.ok () w
 find:∀(w:World) (a:α) (es:List MapEntry),(∀e∈es,∃x,e.key=K x)→
  ((Instr.findKey k (K a) es).run P w=.ok none w∧∀e∈es,e.key≠K a)∨∃j e,(Instr.findKey k (K a) es).run P w=.ok (some (j,e.val)) w∧es[j]? =some e∧e.key=K a
 stays:∀(w:World) (a:α),(Instr.keyThatStays (K a) (K a)).run P w=.ok (K a) w
def MapAt{α β:Type}(K:α→Value)(V:β→Value)(W:World)(b:Nat)(l:List (α×β)):Prop:=
 ∃es clock,W.heap[b]? =some (.map es clock)∧es.toList.map (fun e=>(e.key,e.val))=(l.map fun x=>(K x.1,V x.2))∧(l.map (·.1)).Nodup
namespace Mp
section
variable {α β:Type} [DecidableEq α]
theorem get_none(z:β)(k:α):∀(l:List (α×β)),(∀x∈l,x.1≠k)→mget z k l=z
 | [],_=>rfl
 | x::l,h=>by
  unfold mget;rw[if_neg (h x (by simp))];exact get_none z k l fun y hy=>h y (by simp[hy])
theorem put_none(k:α)(v:β):∀(l:List (α×β)),(∀x∈l,x.1≠k)→mput k v l=l++[(k,v)]
 | [],_=>rfl
 | x::l,h=>by
  unfold mput;rw[if_neg (h x (by simp)),put_none k v l fun y hy=>h y (by simp[hy])];rfl
theorem get_at(z:β)(k:α)(u:β):∀(l:List (α×β)) (j:Nat),(l.map (·.1)).Nodup→l[j]? =some (k,u)→mget z k l=u
 | [],_,_,h=>by simp at h
 | x::l,0,_,h=>by
  simp at h;subst h;simp[mget]
 | x::l,j+1,hn,h=>by
  simp only[List.map_cons,List.nodup_cons]at hn;simp only[List.getElem?_cons_succ]at h;have hx:x.1≠k:=fun e=>hn.1 (List.mem_map.2 ⟨(k,u),List.mem_of_getElem? h,e.symm⟩)
  unfold mget;rw[if_neg hx];exact get_at z k u l j hn.2 h
theorem put_at(k:α)(v u:β):∀(l:List (α×β)) (j:Nat),(l.map (·.1)).Nodup→l[j]? =some (k,u)→mput k v l=l.set j (k,v)
 | [],_,_,h=>by simp at h
 | x::l,0,_,h=>by
  simp at h;subst h;simp[mput]
 | x::l,j+1,hn,h=>by
  simp only[List.map_cons,List.nodup_cons]at hn;simp only[List.getElem?_cons_succ]at h;have hx:x.1≠k:=fun e=>hn.1 (List.mem_map.2 ⟨(k,u),List.mem_of_getElem? h,e.symm⟩)
  unfold mput;rw[if_neg hx,put_at k v u l j hn.2 h];rfl
theorem put_keys(k:α)(v:β):∀(l:List (α×β)),((mput k v l).map (·.1))=if k∈l.map (·.1) then l.map (·.1) else l.map (·.1)++[k]
 | []=>rfl
 | x::l=>by
  unfold mput;by_cases hx:x.1=k
  ·simp[hx]
  ·have hx':¬k=x.1:=fun e=>hx e.symm
   rw[if_neg hx];simp only[List.map_cons,put_keys k v l,List.mem_cons,hx',false_or]
   split<;>simp
theorem put_nodup(k:α)(v:β)(l:List (α×β))(h:(l.map (·.1)).Nodup):((mput k v l).map (·.1)).Nodup:=by
 rw[put_keys]
 split
 ·exact h
 ·rename_i hk
  rw[List.nodup_append];refine⟨h,by simp,fun a ha b hb e=>?_⟩;simp only[List.mem_singleton]at hb;exact hk (by rw[←hb,←e];exact ha)
end
theorem int_ok{P:Program}{k:TypeId}(hk:P.underlying k=some (.int .i64)):KeyOk P k (Value.int .i64) where
 inj h:=by simpa using h
 check w em a:=MapKept.run_checkKey hk (by simp[MapKept.IsKey]) em 9999
 find w a es h:=by
  have hks:∀y∈es,MapKept.IsKey (.int .i64) y.key:=fun y hy=>by
   obtain⟨x,hx⟩:=h y hy;rw[hx];simp[MapKept.IsKey]
  rcases MapKept.findNow_spec (k:=.int .i64 a) (by simp[MapKept.IsKey]) es 0 hks with⟨h1,h2⟩|⟨j,e,h1,h2,h3⟩
  ·exact .inl ⟨MapKept.run_findKey hk h1,h2⟩
  ·exact .inr ⟨j,e,by simpa using MapKept.run_findKey hk h1,h2,h3⟩
 stays w a:=MapKept.run_keyThatStays (d:=.int .i64) (by simp[MapKept.IsKey])
theorem key_of{P:Program}{k:TypeId}{α:Type}{K:α→Value}(L:Maps.Keyed P k)(hi:∀{a b:α},K a=K b→a=b)(hr:∀a,∃l,keyOf P k (K a)=some l):KeyOk P k K where
 inj:=hi
 check w em a:=by obtain⟨l,hl⟩:=hr a;exact L.check w em hl
 find w a es h:=by
  obtain⟨l,hl⟩:=hr a
  exact L.find w hl es fun e he=>by
   obtain⟨x,hx⟩:=h e he;obtain⟨m,hm⟩:=hr x;exact⟨m,by rw[hx];exact hm⟩
 stays w a:=by obtain⟨l,hl⟩:=hr a;exact L.stays w hl
end Mp
section
variable {α β:Type} {K:α→Value} {V:β→Value} {P:Program} {W W':World} {b:Nat} {l:List (α×β)} {k e t:TypeId}
theorem MapAt.lt(h:MapAt K V W b l):b<W.heap.size:=by
 obtain⟨_,_,h,_⟩:=h;exact(Array.getElem?_eq_some_iff.1 h).1
theorem MapAt.new(K:α→Value)(V:β→Value)(W:World):MapAt K V (W.alloc (.map #[] 0)) W.heap.size ([]:List (α×β)):=⟨#[],0,(MapKept.heap_alloc W _).1,rfl,by simp⟩
theorem MapAt.later(h:MapAt K V W b l)(hb:Below W.heap.size W W'):MapAt K V W' b l:=by
 have hl:=h.lt;obtain⟨es,c,h1,h2⟩:=h;exact⟨es,c,(hb.block b hl).trans h1,h2⟩
theorem MapAt.grown(h:MapAt K V W b l){row:Option Nat}(hg:W.grownBy W' row)(hr:some b≠row):MapAt K V W' b l:=by
 have hl:=h.lt;obtain⟨es,c,h1,h2⟩:=h;exact⟨es,c,(hg.block b hl hr).trans h1,h2⟩
theorem MapAt.other(h:MapAt K V W b l){c:Nat}(hc:b≠c)(i:Nat)(v:Value):MapAt K V (W.setCell ⟨c,i,none⟩ v) b l:=by
 obtain⟨es,c',h1,h2⟩:=h;exact⟨es,c',(Below.heap_setCell W ⟨c,i,none⟩ v b hc).trans h1,h2⟩
theorem MapAt.nodup(h:MapAt K V W b l):(l.map (·.1)).Nodup:=by
 obtain⟨_,_,_,_,h⟩:=h;exact h
theorem MapAt.find(h:MapAt K V W b l)(hk:KeyOk P k K)(x:α):∃es clock,W.heap[b]? =some (.map es clock)∧
  (((Instr.findKey k (K x) es.toList).run P W=.ok none W∧∀y∈l,y.1≠x)∨∃j u,(Instr.findKey k (K x) es.toList).run P W=.ok (some (j,V u)) W∧l[j]? =some (x,u)∧(es[j]?).map (·.key)=some (K x))∧
  es.toList.map (fun e=>(e.key,e.val))=l.map fun x=>(K x.1,V x.2):=by
 obtain⟨es,c,h1,h2,_⟩:=h;refine⟨es,c,h1,?_,h2⟩
 have keys:∀e∈es.toList,∃y∈l,e.key=K y.1∧e.val=V y.2:=by
  intro e he;have:(e.key,e.val)∈l.map fun x=>(K x.1,V x.2):=by rw[←h2];exact List.mem_map.2 ⟨e,he,rfl⟩
  obtain⟨y,hy,hye⟩:=List.mem_map.1 this;simp only[Prod.mk.injEq]at hye;exact⟨y,hy,hye.1.symm,hye.2.symm⟩
 rcases hk.find W x es.toList (fun e he=>by
  obtain⟨y,_,hy,_⟩:=keys e he;exact⟨y.1,hy⟩)with⟨h3,h4⟩|⟨j,e,h3,h4,h5⟩
 ·refine .inl ⟨h3,fun y hy e=>?_⟩
  have:(K y.1,V y.2)∈es.toList.map fun e=>(e.key,e.val):=by rw[h2];exact List.mem_map.2 ⟨y,hy,rfl⟩
  obtain⟨e',he',hee⟩:=List.mem_map.1 this;simp only[Prod.mk.injEq]at hee;exact h4 e' he' (by rw[hee.1,e])
 ·have:=congrArg (fun l=>l[j]?) h2
  simp only[List.getElem?_map,h4,Option.map_some]at this;obtain⟨y,hy,hye⟩:=Option.map_eq_some_iff.1 this.symm;simp only[Prod.mk.injEq]at hye;refine .inr ⟨j,y.2,by rw[hye.2];exact h3,?_,?_⟩
  ·rw[hy]
   have:y.1=x:=hk.inj (hye.1.trans h5);rw[←this]
  ·have:es[j]? =some e:=by simpa using h4
   simp[this,h5]
theorem MapAt.look[DecidableEq α](h:MapAt K V W b l)(ht:P.underlying t=some (.map k e))(hk:KeyOk P k K){z:β}(hz:(zeroValue e).run P W=.ok (V z) W)(x:α) :
  (Instr.lookup t (.map (some b)) (K x) false).run P W=.ok (V (mget z x l)) W:=by
 have hn:=h.nodup;obtain⟨es,c,h1,h2,_⟩:=h.find hk x;rcases h2 with⟨h3,h4⟩|⟨j,u,h3,h4,_⟩
 ·rw[Mp.get_none z x l h4]
  simp[Instr.lookup,run_underlying ht,MapKept.run_getObj_map h1,hk.check W _ x,h3,hz,Result.andThen]
 ·rw[Mp.get_at z x u l j hn h4]
  simp[Instr.lookup,run_underlying ht,MapKept.run_getObj_map h1,hk.check W _ x,h3,Result.andThen]
theorem MapAt.len(h:MapAt K V W b l)(ht:P.underlying t=some (.map k e))(ty:TypeId):(Builtin.len_ #[t] ty #[.map (some b)]).run P W=.ok (.int .i64 l.length) W:=by
 obtain⟨es,c,h1,h2,_⟩:=h;have hl:=congrArg List.length h2;simp at hl;simp[Builtin.len_,run_underlying ht,MapKept.run_getObj_map h1,Result.andThen,goInt,hl]
theorem MapAt.put[DecidableEq α](h:MapAt K V W b l)(ht:P.underlying t=some (.map k e))(hk:KeyOk P k K)(x:α)(v:β) :
  ∃w',(Instr.mapUpdate t (.map (some b)) (K x) (V v)).run P W=.ok () w'∧MapAt K V w' b (mput x v l)∧W.grownBy w' (some b):=by
 have hn:=h.nodup;obtain⟨es,c,h1,h2,h6⟩:=h.find hk x;rcases h2 with⟨h3,h4⟩|⟨j,u,h3,h4,h5⟩
 ·refine⟨ChangeMaps.setBlock W b (.map (es.push ⟨K x,V v,c⟩) (c+1)),?_,⟨_,_,ChangeMaps.heap_setBlock_same h1 _,?_,Mp.put_nodup x v l hn⟩,⟨rfl,rfl,rfl,by simp[ChangeMaps.setBlock],fun i _ hi=>ChangeMaps.heap_setBlock_other h1 _ (fun e=>hi (by rw[e]))⟩⟩
  ·simp[Instr.mapUpdate,run_underlying ht,MapKept.run_getObj_map h1,hk.check W _ x,h3,MapKept.run_setObj_map _ h1,Result.andThen,ChangeMaps.setBlock]
  ·rw[Mp.put_none x v l h4]
   simp[h6]
 ·obtain⟨e0,he0,hk0⟩:=Option.map_eq_some_iff.1 h5
  refine⟨ChangeMaps.setBlock W b (.map (es.modify j fun e=>{e with key:=K x,val:=V v }) c),?_,⟨_,_,ChangeMaps.heap_setBlock_same h1 _,?_,Mp.put_nodup x v l hn⟩,⟨rfl,rfl,rfl,by simp[ChangeMaps.setBlock],fun i _ hi=>ChangeMaps.heap_setBlock_other h1 _ (fun e=>hi (by rw[e]))⟩⟩
  ·simp[Instr.mapUpdate,run_underlying ht,MapKept.run_getObj_map h1,hk.check W _ x,h3,he0,hk0,hk.stays W x,MapKept.run_setObj_map _ h1,Result.andThen,ChangeMaps.setBlock]
  ·rw[Mp.put_at x v u l j hn h4,Array.toList_modify]
   apply List.ext_getElem?;intro i;have:=congrArg (fun l=>l[i]?) h6;simp only[List.getElem?_map]at this ⊢;rw[List.getElem?_modify,List.getElem?_set];by_cases hi:j=i
   ·subst hi
    have hjl:j<l.length:=(List.getElem?_eq_some_iff.1 h4).1;simp[hjl,he0]
   ·simp only[hi,if_false]
    simpa using this
theorem MapAt.set[DecidableEq α](h:MapAt K V W b l){w':World}(hg:W.grownBy w' (some b)):∀{c tt:Nat} {cs:Array Value},W.heap[c]? =some (.cells cs tt (0,0))→w'.heap[c]? =some (.cells cs tt (0,0)):=by
 intro c tt cs hc;refine(hg.block c (Array.getElem?_eq_some_iff.1 hc).1 ?_).trans hc;intro e;obtain⟨es,cl,h1,_⟩:=h;rw[Option.some.inj e,h1]at hc;cases hc
end
theorem wpList_map_put{α β:Type}[DecidableEq α]{K:α→Value}{V:β→Value}{P:Program}(w:World){ops:Array Oper}{rest:List Oper}{o:Oper}{a:Act}{Q:Exit→Act→World→Prop}
  (hg:o.guard=none) (m x v:Operand) (t:TypeId) (hop:o.op=Op.mapUpdate t m x v) {k e:TypeId} (ht:P.underlying t=some (.map k e)) (hk:KeyOk P k K) (b:Nat) {l:List (α×β)}
  (hm:a.eval m=.map (some b)) (h:MapAt K V w b l) (y:α) (z:β) (hx:a.eval x=K y) (hv:a.eval v=V z)
  (hK:∀w',MapAt K V w' b (mput y z l)→w.grownBy w' (some b)→wpList P ops Q rest (a.put o.dst undef) w') :
  wpList P ops Q (o::rest) a w:=by
 refine wpList_plain hg fun K' hK'=>?_
 obtain⟨w',hrun,r1,r2⟩:=h.put ht hk y z;unfold Oper.wp;simp[execOp,hop,hm,hx,hv,hrun,Result.andThen];exact hK' _ _ (hK w' r1 r2)
end Go.Proofs.YtdihefgleefhmaaGreat
namespace Go.Proofs.YtdihefgleefhmaaGreat
open Go.RowKit
def MapE{α β:Type}(K:α→Value)(V:β→Value)(W:World)(b:Nat)(l:List (α×β)):Prop:=
 ∃es clock,W.heap[b]? =some (.map es clock)∧es.toList.map (fun e=>(e.key,e.val))=(l.map fun x=>(K x.1,V x.2))∧(l.map (·.1)).Nodup∧∀e∈es.toList,e.born<clock
theorem modify_last{α:Type}(f:α→α)(x:α):∀l:List α,(l++[x]).modify l.length f=l++[f x]
 | []=>rfl
 | y::l=>by
  show((y::(l++[x])).modify (l.length+1) f)=y::(l++[f x])
  rw[List.modify_succ_cons,modify_last f x l]
section
variable {α β:Type} {K:α→Value} {V:β→Value} {P:Program} {W W':World} {b:Nat} {l:List (α×β)} {k e t:TypeId}
theorem MapE.at_(h:MapE K V W b l):MapAt K V W b l:=by
 obtain⟨es,c,h1,h2,h3,_⟩:=h;exact⟨es,c,h1,h2,h3⟩
theorem MapE.new(K:α→Value)(V:β→Value)(W:World):MapE K V (W.alloc (.map #[] 0)) W.heap.size ([]:List (α×β)):=⟨#[],0,(MapKept.heap_alloc W _).1,rfl,by simp,by simp⟩
theorem MapE.lt(h:MapE K V W b l):b<W.heap.size:=h.at_.lt
theorem MapE.grown(h:MapE K V W b l){row:Option Nat}(hg:W.grownBy W' row)(hr:some b≠row):MapE K V W' b l:=by
 have hl:=h.lt;obtain⟨es,c,h1,h2⟩:=h;exact⟨es,c,(hg.block b hl hr).trans h1,h2⟩
theorem MapE.later(h:MapE K V W b l)(hb:Below W.heap.size W W'):MapE K V W' b l:=by
 have hl:=h.lt;obtain⟨es,c,h1,h2⟩:=h;exact⟨es,c,(hb.block b hl).trans h1,h2⟩
theorem MapE.drew(h:MapE K V W b l):MapE K V W.drew b l:=h
theorem MapE.entry[DecidableEq α](h:MapE K V W b l)(ht:P.underlying t=some (.map k e))(hk:KeyOk P k K){z:β}(hz:∀W:World,(zeroValue e).run P W=.ok (V z) W)(x:α)(hx:x ∉ l.map (·.1)) :
  ∃(W1:World) (c:Nat),(Instr.mapEntry t (.map (some b)) (K x)).run P W=.ok (.tuple #[V z,.int .i64 c]) W1∧MapAt K V W1 b (l++[(x,z)])∧W.grownBy W1 (some b)∧
   ∀v:β,∃W2,(Instr.entryStore t (.map (some b)) (.int .i64 c) (V v)).run P W1=.ok () W2∧MapE K V W2 b (l++[(x,v)])∧W.grownBy W2 (some b):=by
 have hA:=h.at_;obtain⟨es0,c0,h1,h2,h3,h4⟩:=h;obtain⟨es,c,g1,g2,g6⟩:=hA.find hk x;rw[h1]at g1;obtain⟨rfl,rfl⟩:es0=es∧c0=c:=by simpa using g1
 have hnd:∀v:β,((l++[(x,v)]).map (·.1)).Nodup:=fun v=>by
  rw[List.map_append,List.nodup_append];exact⟨h3,by simp,fun a ha y hy e=>hx (by simp only[List.map_cons,List.map_nil,List.mem_singleton]at hy;rw[←hy,←e];exact ha)⟩
 rcases g2 with⟨g3,_⟩|⟨j,u,_,g4,_⟩
 ·refine⟨ChangeMaps.setBlock W b (.map (es0.push ⟨K x,V z,c0⟩) (c0+1)),c0,?_,⟨_,_,ChangeMaps.heap_setBlock_same h1 _,by simp[h2],hnd z⟩,⟨rfl,rfl,rfl,by simp[ChangeMaps.setBlock],fun i _ hi=>ChangeMaps.heap_setBlock_other h1 _ (fun e=>hi (by rw[e]))⟩,fun v=>?_⟩
  ·simp only[Instr.mapEntry,Sem.run_bind,run_underlying ht,MapKept.run_getObj_map h1,hk.check W _ x,g3,hz,MapKept.run_setObj_map _ h1,Result.andThen,ChangeMaps.setBlock,goInt]
   rfl
  ·have hb1:(ChangeMaps.setBlock W b (.map (es0.push ⟨K x,V z,c0⟩) (c0+1))).heap[b]? =some (.map (es0.push ⟨K x,V z,c0⟩) (c0+1)):=ChangeMaps.heap_setBlock_same h1 _
   have hfi:(es0.push (⟨K x,V z,c0⟩:MapEntry)).findIdx? (fun e=>(e.born:Int)==(c0:Int))=some es0.size:=by
    rw[Array.findIdx?_push]
    have hn:es0.findIdx? (fun e=>(e.born:Int)==(c0:Int))=none:=by
     rw[Array.findIdx?_eq_none_iff];intro e he;have:=h4 e (by simpa using he);simp;omega
    rw[hn];simp
   refine⟨ChangeMaps.setBlock (ChangeMaps.setBlock W b (.map (es0.push ⟨K x,V z,c0⟩) (c0+1))) b (.map ((es0.push ⟨K x,V z,c0⟩).modify es0.size fun e=>{e with val:=V v }) (c0+1)),?_,⟨_,_,ChangeMaps.heap_setBlock_same hb1 _,?_,hnd v,?_⟩,?_⟩
   ·have hrun:∀W1:World,W1.heap[b]? =some (.map (es0.push ⟨K x,V z,c0⟩) (c0+1))→(Instr.entryStore t (.map (some b)) (.int .i64 c0) (V v)).run P W1=.ok () (ChangeMaps.setBlock W1 b (.map ((es0.push ⟨K x,V z,c0⟩).modify es0.size fun e=>{e with val:=V v }) (c0+1))):=fun W1 hw=>by
     simp only[Instr.entryStore,Sem.run_bind,MapKept.run_getObj_map hw,Result.andThen];simp[asInt,asIntOf,hfi,MapKept.run_setObj_map _ hw,ChangeMaps.setBlock]
    exact hrun _ hb1
   ·rw[Array.toList_modify,Array.toList_push]
    have:es0.size=es0.toList.length:=by simp
    rw[this,modify_last];simp[h2]
   ·intro e he
    rw[Array.toList_modify,Array.toList_push]at he;have:es0.size=es0.toList.length:=by simp
    rw[this,modify_last]at he;rcases List.mem_append.1 he with he|he
    ·have:=h4 e he;omega
    ·simp at he
     rw[he];simp
   ·refine⟨rfl,rfl,rfl,by simp[ChangeMaps.setBlock],fun i _ hi=>?_⟩
    have hne:i≠b:=fun e=>hi (by rw[e])
    exact(ChangeMaps.heap_setBlock_other hb1 _ hne).trans (ChangeMaps.heap_setBlock_other h1 _ hne)
 ·exact absurd (List.mem_map.2 ⟨_,List.mem_of_getElem? g4,rfl⟩) hx
end
theorem way_row:123<Tryz.prog.types.size:=Nat.le_of_ble_eq_true (by kernel_rfl)
theorem way_law:Maps.Keyed Tryz.prog 123:=Maps.Keyed.of_law (deep_law_laid (by kernel_rfl) (m:=2) (by omega) way_row (by kernel_rfl) (by kernel_rfl))
def wayV(p:Int×Int):Value:=.agg #[.int .i64 p.1,.int .i64 p.2]
theorem way_formed(p:Int×Int):(wayV p).formed Tryz.prog 123=true:=by kernel_rfl
theorem way_type:Tryz.prog.keyType 123=true:=by kernel_rfl
theorem way_cells:Tryz.prog.cellsOf 123=2:=by kernel_rfl
theorem int_cells:Tryz.prog.cellsOf 3=1:=by kernel_rfl
theorem way_lits(d:Nat)(p:Int×Int)(h1:(Lit.int .i64 p.1).wf=true)(h2:(Lit.int .i64 p.2).wf=true):Tryz.prog.keyLits (d+2) 123 [.int .i64 p.1,.int .i64 p.2]=some [.int .i64 p.1,.int .i64 p.2]:=by
 have e:∀(n:Int),(Lit.int .i64 n).wf=true→Tryz.prog.keyLits (d+1) 3 [.int .i64 n]=some [.int .i64 n]:=fun n hn=>by
  unfold Program.keyLits;simp[Tryz.underlying3,hn]
 unfold Program.keyLits;simp[Tryz.underlying123,way_cells,int_cells,e p.1 h1,e p.2 h2]
abbrev Way:={p:Int×Int // (Lit.int .i64 p.1).wf=true∧(Lit.int .i64 p.2).wf=true }
theorem way_ok:KeyOk Tryz.prog 123 (fun p:Way=>wayV p.1):=Mp.key_of way_law (fun {a b} h=>by
  unfold wayV at h;simp only[Value.agg.injEq,Array.mk.injEq,List.cons.injEq,Value.int.injEq,true_and,and_true]at h;exact Subtype.ext (Prod.ext h.1 h.2)) (fun a=>by
 have hs:∃d,Tryz.prog.types.size+1=d+2:=⟨Tryz.prog.types.size-1,by have:=way_row;omega⟩;obtain⟨d,hd⟩:=hs;refine⟨.string (keyBytes [.int .i64 a.1.1,.int .i64 a.1.2]),?_⟩;unfold keyOf;simp only[Tryz.underlying123,way_type,way_formed,Bool.and_self,if_true,hd];show Option.map _ (Tryz.prog.keyLits (d+2) 123 [.int .i64 a.1.1,.int .i64 a.1.2])=_
 rw[way_lits d a.1 a.2.1 a.2.2];rfl)
end Go.Proofs.YtdihefgleefhmaaGreat
