/- Parts put together. No conditions. -/
import Derived.Test.YtdbkafoghoenoaaGreatAc
import Derived.ReadAgain
import Derived.Carry
import Derived.OpenShut
import Derived.IntWalk
set_option linter.unusedSectionVars false
section
namespace Go.AM
open Go.ChangeShapes Go.WideShapes Go.ChangeAt Go.RowKit
structure Rdb(P:Program)(T:TypeId){α:Type}(enc:α→List AVal)(ok:α→Prop):Prop where
 read:∀{H:Type} {encH:TypeId×Value→H} {w:World} {fuel:Nat} {cs:List Value} {x:DataW H×List MemPlace},DataW.trod encH P w 0 (fun _=>true) true fuel T cs=some x→
  ∃a,ok a∧RL (Gh.bare w) w (enc a) cs∧∀y∈cs,y.oneCell'=true
 pure:∀a,AVal.pureL (enc a)=true
 len:∀a,(enc a).length=P.cellsOf T
section
variable {P:Program} {T:TypeId} [Globs]
theorem Rdb.bool(ht:P.underlying T=some .bool)(hc:P.cellsOf T=1):Rdb P T eB (fun _=>True) where
 read h:=by
  rename_i fuel cs x;cases fuel with
  |zero=>simp[DataW.trod]at h
  |succ n=>
   unfold DataW.trod at h;rw[ht]at h;split at h<;>simp_all
   simp[eB,RL,R,Value.oneCell']
 pure _:=rfl
 len _:=by simp[eB,hc]
theorem Rdb.int{k:IntKind}(ht:P.underlying T=some (.int k))(hc:P.cellsOf T=1):Rdb P T (eI k) (fun n=>(Lit.int k n).wf=true) where
 read h:=by
  rename_i fuel cs x;cases fuel with
  |zero=>simp[DataW.trod]at h
  |succ n=>
   unfold DataW.trod at h;rw[ht]at h;split at h<;>simp_all
   obtain⟨⟨rfl,hw⟩,_⟩:=h;exact⟨_,hw,by simp[eI,RL,R],rfl⟩
 pure _:=rfl
 len _:=by simp[eI,hc]
theorem Rdb.str(ht:P.underlying T=some .string)(hc:P.cellsOf T=1):Rdb P T eS (fun _=>True) where
 read h:=by
  rename_i fuel cs x;cases fuel with
  |zero=>simp[DataW.trod]at h
  |succ n=>
   unfold DataW.trod at h;rw[ht]at h;split at h<;>simp_all
   simp[eS,RL,R,Value.oneCell']
 pure _:=rfl
 len _:=by simp[eS,hc]
theorem cells?_some{w:World}{a:Addr}{n:Nat}{cs:List Value}(h:w.cells? 0 a n=some cs):cs.length=n∧∀i,i<n→w.cell? (a.add i)=cs[i]? :=by
 unfold World.cells? at h;simp only[Nat.zero_le,if_true]at h;exact⟨by simpa using mapM_some_length h,fun i hi=>mapM_some_get h i i (by simp[hi])⟩
theorem bare_lt{w:World}{k o:Nat}{y:Value}(h:w.cell? ⟨k,o,none⟩=some y):k<w.heap.size:=by
 unfold World.cell? at h;grind
theorem choose_list{α:Type}{n:Nat}{p:Nat→α→Prop}(h:∀i,i<n→∃a,p i a):∃l:List α,l.length=n∧∀i a,l[i]? =some a→p i a:=by
 induction n with
 |zero=>simp_all
 |succ n ih=>
  obtain⟨l,h1,h2⟩:=ih fun i hi=>h i (by omega)
  obtain⟨a,ha⟩:=h n (by omega)
  refine⟨l++[a],by simp[h1],fun i b hb=>?_⟩
  grind
theorem Rdb.slice{E:TypeId}{α:Type}{enc:α→List AVal}{ok:α→Prop}(ht:P.underlying T=some (.slice E))(hc:P.cellsOf T=1)(hz0:Nat.ble 1 (P.cellsOf E)=true)(he:Rdb P E enc ok):
 Rdb P T (eL enc) (fun l=>∀a∈l,ok a) where
 read h:=by
  have hz:=Nat.le_of_ble_eq_true hz0;rename_i H encH w fuel cs x;rcases DataW.trod_slice ht h with⟨rfl,_⟩ |⟨a,len,cap,elems,rest,n,rfl,rfl,_,_,hl,_,hlen,hel,_⟩
  ·exact⟨[],by simp,by simp[eL,RL,R],by simp[Value.oneCell']⟩
  ·have hget:∀i,i<len→∃c,w.cells? 0 (a.add (i*P.cellsOf E)) (P.cellsOf E)=some c∧∃b,ok b∧RL (Gh.bare w) w (enc b) c∧∀y∈c,y.oneCell'=true:=by
    intro i hi;have h1:=hel i hi;obtain⟨y,hy⟩:∃y,elems[i]? =some y:=⟨_,List.getElem?_eq_getElem (by omega)⟩
    rw[hy]at h1;obtain⟨c,hc1,hc2⟩:=Option.bind_eq_some_iff.1 h1;obtain⟨b,hb⟩:=he.read hc2;exact⟨c,hc1,b,hb⟩
   obtain⟨l,hll,hp⟩:=choose_list (n:=len) (p:=fun i b=>∃c,w.cells? 0 (a.add (i*P.cellsOf E)) (P.cellsOf E)=some c∧ok b∧RL (Gh.bare w) w (enc b) c∧∀y∈c,y.oneCell'=true)
    fun i hi=>let⟨c,h1,b,h2⟩:=hget i hi;⟨b,c,h1,h2⟩
   refine⟨l,fun b hb=>?_,?_,by simp[Value.oneCell']⟩
   ·obtain⟨i,hi⟩:=List.getElem?_of_mem hb;grind
   ·simp only[eL,RL,R];refine⟨_,[],rfl,⟨some a,cap,by simp[hll],by simp[hll,hl],?_⟩,rfl⟩
    by_cases h0:l.length=0
    ·left;simp[h0]
    ·right;obtain⟨k,o,sp⟩:=a;have hsp:sp=none:=by
      obtain⟨c,h1,_⟩:=hget 0 (by omega)
      obtain⟨h2,h3⟩:=cells?_some h1;have h4:=h3 0 hz;obtain⟨y,hy⟩:∃y,c[0]? =some y:=⟨_,List.getElem?_eq_getElem (by omega)⟩
      rw[hy]at h4;simpa[Addr.add]using World.cell?_spot h4
     subst hsp;refine⟨k,o,P.cellsOf E,rfl,RR_of fun i r hr=>?_⟩
     obtain⟨b,hb,rfl⟩:∃b,l[i]? =some b∧enc b=r:=by simpa using hr
     refine⟨he.len b,he.pure b,RC_of fun j v hv=>?_⟩
     obtain⟨c,h1,_,h2,h3⟩:=hp i b hb;obtain⟨h4,h5⟩:=cells?_some h1;obtain⟨h6,h7⟩:=RL_get _ _ h2;obtain⟨y,hy,hr⟩:=h7 j v hv;have hj:j<P.cellsOf E:=by rw[← he.len b];exact(List.getElem?_eq_some_iff.1 hv).1
     have hcell:=h5 j hj;rw[hy]at hcell;simp only[Go.WideShapes.add_plain]at hcell;exact⟨bare_lt hcell,y,hcell,h3 y (List.mem_of_getElem? hy),hr⟩
 pure _:=rfl
 len _:=by simp[eL,hc]
inductive Flds (P:Program):List Field→(α:Type)→(α→List AVal)→(α→Prop)→Prop
 |nil:Flds P [] Unit (fun _=>[]) (fun _=>True)
 |cons {f:Field} {fs:List Field} {α β:Type} {enc:α→List AVal} {ok:α→Prop} {encs:β→List AVal} {oks:β→Prop} (h:Rdb P f.type enc ok) (hs:Flds P fs β encs oks):
  Flds P (f::fs) (α×β) (fun x=>enc x.1++encs x.2) (fun x=>ok x.1∧oks x.2)
theorem Flds.pure{fs:List Field}{α:Type}{enc:α→List AVal}{ok:α→Prop}(h:Flds P fs α enc ok):∀a,AVal.pureL (enc a)=true:=by
 have happ:∀(a b:List AVal),AVal.pureL a=true→AVal.pureL b=true→AVal.pureL (a++b)=true:=by
  intro a b h1 h2;induction a with
  |nil=>exact h2
  |cons x xs ih=>grind [AVal.pureL]
 induction h with
 |nil=>exact fun _=>rfl
 |cons h _ ih=>exact fun a=>happ _ _ (h.pure a.1) (ih a.2)
theorem Flds.len{fs:List Field}{α:Type}{enc:α→List AVal}{ok:α→Prop}(h:Flds P fs α enc ok):∀a,(enc a).length=(fs.map fun f=>P.cellsOf f.type).sum:=by
 induction h with
 |nil=>exact fun _=>rfl
 |cons h _ ih=>exact fun a=>by simp[h.len a.1,ih a.2]
theorem Flds.read{H:Type}{encH:TypeId×Value→H}{w:World}{n:Nat}{fs:List Field}{α:Type}{enc:α→List AVal}{ok:α→Prop}(h:Flds P fs α enc ok):∀(cs:List Value),cs.length=(fs.map fun f=>P.cellsOf f.type).sum→
 (∀i f,fs[i]? =some f→∃x,DataW.trod encH P w 0 (fun _=>true) true n f.type ((cs.drop ((fs.take i).map fun f=>P.cellsOf f.type).sum).take (P.cellsOf f.type))=some x)→
 ∃a,ok a∧RL (Gh.bare w) w (enc a) cs∧∀y∈cs,y.oneCell'=true:=by
 induction h with
 |nil=>
  intro cs hl _;have:cs=[]:=by simpa using hl
  subst this;exact⟨(),trivial,rfl,by simp⟩
 | @cons f fs α β enc ok encs oks h hs ih=>
  intro cs hl hf;simp only[List.map_cons,List.sum_cons]at hl;obtain⟨x,hx⟩:=hf 0 f rfl;simp only[List.take_zero,List.map_nil,List.sum_nil,List.drop_zero]at hx;obtain⟨a,h1,h2,h3⟩:=h.read hx;obtain⟨b,h4,h5,h6⟩:=ih (cs.drop (P.cellsOf f.type)) (by simp;omega) fun i f' hi=>by
   obtain⟨x,hx⟩:=hf (i+1) f' (by simpa using hi)
   simp_all
  refine⟨(a,b),⟨h1,h4⟩,?_,fun y hy=>?_⟩
  ·have:=RL_append h2 h5;rwa[List.take_append_drop]at this
  ·rw[← List.take_append_drop (P.cellsOf f.type) cs]at hy;grind
theorem Rdb.struct(hl:laidOutB P=true)(hT0:Nat.ble (T+1) P.types.size=true){fs:Array Field}(ht:P.underlying T=some (.struct fs)){β S:Type}{encs:β→List AVal}{oks:β→Prop}(h:Flds P fs.toList β encs oks){enc:S→List AVal}{ok:S→Prop}(conv:β→S)(back:S→β)
 (hconv:∀b,enc (conv b)=encs b) (hback:∀s,conv (back s)=s) (hok:∀b,oks b→ok (conv b)):Rdb P T enc ok where
 read hx:=by
  have hT:T<P.types.size:=Nat.le_of_ble_eq_true hT0;obtain⟨xs,n,rfl,_,hlen,hxl,hf⟩:=DataW.trod_struct ht hx;obtain⟨_,h2,h3⟩:=kid_struct hl hT ht;obtain⟨b,k1,k2,k3⟩:=h.read (n:=n) _ (by rw[hlen,h2]) fun i f hi=>by
   have:=hf i f (by simpa using hi)
   rw[h3 i f hi]at this;obtain⟨y,hy⟩:∃y,xs[i]? =some y:=⟨_,List.getElem?_eq_getElem (by
    grind)⟩
   exact⟨y,by rw[this,hy]⟩
  grind
 pure a:=by rw[← hback a,hconv];exact h.pure _
 len a:=by
  have hT:T<P.types.size:=Nat.le_of_ble_eq_true hT0;obtain⟨_,h2,_⟩:=kid_struct hl hT ht;rw[← hback a,hconv,h.len,h2]
end
theorem Rdb.one{P:Program}{T:TypeId}{α:Type}{enc:α→List AVal}{ok:α→Prop}(h:Rdb P T enc ok){H:Type}{encH:TypeId×Value→H}{w:World}{v:Value}{d:DataW H}{ps:List MemPlace}
 (hv:DataW.Trod encH P w 0 (fun _=>true) true T v d ps):∃a,ok a∧RL (Gh.bare w) w (enc a) v.cells.toList∧∀y∈v.cells.toList,y.oneCell'=true:=by
 obtain⟨fuel,hf⟩:=hv;exact h.read hf
section
variable {P:Program} {T:TypeId} [Globs] {α:Type} {enc:α→List AVal} {ok:α→Prop} {H:Type} {encH:TypeId×Value→H} {w:World} {v:Value} {d:DataW H} {ps:List MemPlace} {r:Reach} {base:Nat}
theorem Rdb.agg(h:Rdb P T enc ok){fs:Array Field}(ht:P.underlying T=some (.struct fs))(hval:Value.okWide P w r base T v)(hv:DataW.Trod encH P w 0 (fun _=>true) true T v d ps):∃a,ok a∧R (Gh.bare w) w (.agg (enc a)) v:=by
 obtain⟨a,h1,h2,h3⟩:=h.one hv;unfold Value.okWide at hval;rw[ht]at hval;obtain⟨cs,rfl,_⟩:=hval;exact⟨a,h1,by simp only[R];exact⟨cs.toList,by simp,by simpa[Value.cells]using h3,by simpa[Value.cells]using h2⟩⟩
def oneT(P:Program)(T:TypeId):Bool:=match P.underlying T with
 |some .bool=>true
 |some (.int _)=>true
 |some .string=>true
 |some (.slice _)=>true
 |_=>false
theorem Rdb.cell{c:α→AVal}(h:Rdb P T (fun a=>[c a]) ok)(ht:oneT P T=true)(hval:Value.okWide P w r base T v)(hv:DataW.Trod encH P w 0 (fun _=>true) true T v d ps):∃a,ok a∧R (Gh.bare w) w (c a) v:=by
 obtain⟨a,h1,h2,_⟩:=h.one hv;refine⟨a,h1,?_⟩;have hc:v.cells.toList=[v]:=by
  unfold oneT at ht;unfold Value.okWide at hval;split at ht
  case h_5=>cases ht
  all_goals
   rename_i hu;rw[hu]at hval;simp only at hval;unfold Cell.okWide at hval;rw[hu]at hval;cases v<;>simp_all [Cell.ok,Value.cells]
 grind [RL]
theorem trodAll_kept{w':World}{sp:Nat→Bool}(hl:laidOutB P=true)(hm:mapsRowed P=true)(hz:∀t e,t<P.types.size→P.underlying t=some (.slice e)→0<P.cellsOf e)(hb:Below w.heap.size w w'):
 ∀{ts:List TypeId} {vs:List Value} {ds:List (DataW H)} {ps:List MemPlace},(∀t∈ts,t<P.types.size)→DataW.TrodAll encH P w 0 (fun _=>true) true ts vs ds ps→(∀p∈ps,p.block<w.heap.size)→(∀p∈ps,sp p.block=true)→
  DataW.TrodAll encH P w' 0 sp true ts vs ds ps:=by
 intro ts vs ds ps hT h hlt hs
 replace h:=h.respare (kids_rows hl hm) hz hT hs
 clear hs hz
 revert hlt h
 induction ts generalizing vs ds ps with
 |nil=>intro hlt h;cases vs<;>cases ds<;>simp_all [DataW.TrodAll]
 |cons t ts ih=>
  intro hlt h;cases vs with
  |nil=>cases ds<;>simp[DataW.TrodAll]at h
  |cons v vs=>
   cases ds with
   |nil=>simp[DataW.TrodAll]at h
   |cons d ds=>
    obtain⟨p,q,⟨n,h1⟩,h2,rfl⟩:=h;refine⟨p,q,⟨n,DataW.trod_carry _ _ _ _ h1 fun x hx=>hb.same (hlt x (List.mem_append_left _ hx))⟩,ih (fun t ht=>hT t (List.mem_cons_of_mem _ ht)) (fun x hx=>hlt x (List.mem_append_right _ hx)) h2,rfl⟩
theorem law_top{f:FuncId}{args:List AVal}{v:Value}(h:FnVal P f args (.ret (.sc v)))(w:World)(hg:GlobsOk (Gh.bare w) w)(vs:Array Value)(hl:RL (Gh.bare w) w args vs.toList):
 Calls P f vs w fun e w'=>e=.returned v∧Below w.heap.size w w':=by
 refine(h.2 (Gh.bare w) w vs (Gh.bare_inv w hg) hl).mono ?_;rintro e w' ⟨g',_,hla,x,rfl,hr⟩;grind [R,later_below]
end
end Go.AM
end
section
namespace Go.AM
def scan{α σ τ:Type}(g:Nat→α→σ→σ⊕τ):Nat→List α→σ→σ⊕τ
 |_,[],s=>.inl s
 |i,x::xs,s=>match g i x s with
  | .inl s'=>scan g (i+1) xs s'
  | .inr t=>.inr t
theorem at?_nat{α:Type}(l:List α)(i:Nat):at? l (i:Int)=l[i]? :=by simp[at?]
theorem iterO_scan{α σ τ ST:Type}{f:ST→Option (ST⊕τ)}(mk:Nat→σ→ST)(g:Nat→α→σ→σ⊕τ)(fin:σ→τ)(l:List α)
 (hs:∀i x s,l[i]? =some x→f (mk i s)=some (match g i x s with | .inl s'=>.inl (mk (i+1) s') | .inr t=>.inr t)) (he:∀s,f (mk l.length s)=some (.inr (fin s))):
 ∀(n:Nat) (s0:σ),l.length<n→iterO f n (mk 0 s0)=some (match scan g 0 l s0 with | .inl s=>fin s | .inr t=>t):=by
 have key:∀(k:Nat) (i:Nat) (s:σ) (n:Nat),i+k=l.length→k<n→iterO f n (mk i s)=some (match scan g i (l.drop i) s with | .inl s=>fin s | .inr t=>t):=by
  intro k;induction k with
  |zero=>
   intro i s n hi hn;obtain⟨n,rfl⟩:∃m,n=m+1:=⟨n - 1,by omega⟩
   have:i=l.length:=by omega
   subst this;simp only[iterO,he,List.drop_length,scan]
  |succ k ih=>
   intro i s n hi hn;obtain⟨n,rfl⟩:∃m,n=m+1:=⟨n - 1,by omega⟩
   have hlt:i<l.length:=by omega
   rw[List.drop_eq_getElem_cons hlt];simp only[iterO,scan,hs i _ s (List.getElem?_eq_getElem hlt)];cases g i l[i] s with
   |inl s'=>simp only;exact ih (i+1) s' n (by omega) (by omega)
   |inr t=>rfl
 intro n s0 hn;have:=key l.length 0 s0 n (by omega) hn
 simpa using this
theorem wrap_i64{x:Int}(h1: -9223372036854775808≤x)(h2:x≤9223372036854775807):Go.IntKind.wrap .i64 x=x:=by
 rw[Go.IntKind.wrap_i64];omega
theorem wrap_nat{i:Nat}(h:i<9223372036854775807):Go.IntKind.wrap .i64 ((i:Int)+1)=((i+1:Nat):Int):=by
 rw[wrap_i64 (by omega) (by omega)];rfl
theorem emod_tmod{x k:Int}(hk:0<k):(x.tmod k+k).tmod k=x % k:=by
 have h1: -k<x.tmod k:=Int.lt_tmod_of_pos x hk;have h2:=Int.tmod_add_mul_tdiv x k;rw[Int.tmod_eq_emod_of_nonneg (by omega)]
 have:x.tmod k+k=x+k*(1 - x.tdiv k):=by
  rw[Int.mul_sub,Int.mul_one];omega
 rw[this,Int.add_mul_emod_self_left]
theorem wrap_tmod{x k:Int}(hk:0<k)(hk2:k≤4000000000000000000):Go.IntKind.wrap .i64 (x.tmod k+k)=x.tmod k+k:=by
 have h1: -k<x.tmod k:=Int.lt_tmod_of_pos x hk;have h2:=Int.tmod_lt_of_pos x hk;exact wrap_i64 (by omega) (by omega)
end Go.AM
namespace Go.AM
section
variable {X K V β:Type}
theorem lenO_bind(l:List X)(e:X→List AVal)(k:Unit→Option β):(lenO l e).run.bind k=k ():=rfl
theorem idxO_bind(l:List X)(e:X→List AVal)(n:Nat)(i:Int)(k:X→Option β):(idxO l e n i).run.bind k=(at? l i).bind k:=rfl
theorem mgetO_bind(m:List (K×V))(q:K)(ek:K→AVal)(ev:V→AVal)(eq:K→K→Bool)(d:V)(ks:List Kd)(ag ok:Bool)(b:Nat)(k:Unit→Option β):(mgetO m q ek ev eq d ks ag ok b).run.bind k=k ():=rfl
theorem msetO_bind(m:List (K×V))(q:K)(v:V)(ek:K→AVal)(ev:V→AVal)(eq:K→K→Bool)(ks:List Kd)(ag:Bool)(b:Nat)(k:Unit→Option β):(msetO m q v ek ev eq ks ag b).run.bind k=k ():=rfl
theorem mksO_bind(d:X)(e:X→List AVal)(n by_ nid:Nat)(i:Int)(k:Unit→Option β):(mksO d e n by_ nid i).run.bind k=if 0≤i∧roomy i.toNat by_=true then k ()else none:=by
 show(if 0≤i∧roomy i.toNat by_=true then some ()else none).bind k=_
 split<;>rfl
theorem idxS_bind(m n b ver:Nat)(i:Int)(k:Unit→Option β):(idxS m n b ver i).run.bind k=if 0≤i∧i<m then k ()else none:=by
 show(if 0≤i∧i<m then some ()else none).bind k=_
 split<;>rfl
theorem ldO_bind(l:List X)(e:X→List AVal)(n b ver i o:Nat)(val:X→AVal)(k:X→Option β):(ldO l e n b ver i o val).run.bind k=(l[i]?).bind k:=rfl
theorem appO_bind(len:Nat)(l m:List X)(e:X→List AVal)(n by_ b ver nid:Nat)(ids:List Nat)(k:Unit→Option β):(appO len l m e n by_ b ver nid ids).run.bind k=if len=l.length∧roomy (l.length+m.length) by_=true then k ()else none:=by
 show(if len=l.length∧roomy (l.length+m.length) by_=true then some ()else none).bind k=_
 split<;>rfl
end
end Go.AM
end
section
namespace Go.AM
variable [Globs] {P:Program}
theorem FnRef.behind{f:FuncId}{args:List AVal}{sz m:Nat}{rows:List (List AVal)}(h:FnRef P f args [] (.ret (.sl 0 0 sz 0 m)) [.row 0 sz rows])(ha:AVal.pureL args=true)(hp:rows.all AVal.pureL=true)(n:Nat):
 FnRef P f args (List.replicate n .dead) (.ret (.sl n 0 sz 0 m)) (List.replicate n .dead++[.row 0 sz rows]):=by
 refine⟨h.1,fun g w vs hi hl=>?_⟩
 let g0:Gh:=⟨fun _ _=>none,g.st⟩
 have hst0:∀k o,g.st k o→g0.st k o:=fun _ _ h=>h
 have hi0:Inv g0 [] w:=⟨fun b x hb=>by simp at hb,fun b b' x x' v v' k z z' h1=>by simp at h1,fun _ _ _=>rfl,fun b x v ver' hb=>by simp at hb,fun b x v k z o hb=>by simp at hb,hi.stold,fun i cs hc=>⟨(hi.globs i cs hc).1,RC_pure hst0 _ _ _ (hi.globs i cs hc).1 (hi.globs i cs hc).2⟩⟩
 refine(h.2 g0 w vs hi0 (RL_pure hst0 _ _ ha hl)).mono fun e w' ⟨g1,hi1,hla,x,he,hx⟩=>?_
 have low:∀b x,(List.replicate n ABlk.dead++[ABlk.row 0 sz rows])[b]? =some x→(b<n∧x=.dead)∨(b=n∧x=.row 0 sz rows):=fun b x hb=>by
  grind
 let g':Gh:=⟨fun b v=>if b<n then g.rho b v else g1.rho (b - n) v,g1.st⟩
 have hst1:∀k o,g1.st k o→g'.st k o:=fun _ _ h=>h
 have gn:∀v,g'.rho n v=g1.rho 0 v:=fun v=>by simp[g']
 have gl:∀b v,b<n→g'.rho b v=g.rho b v:=fun b v hb=>by simp[g',hb]
 have gh:∀b v,¬b<n→g'.rho b v=g1.rho (b - n) v:=fun b v hb=>by simp[g',hb]
 refine⟨g',⟨?_,?_,?_,?_,?_,hi1.stold,fun i cs hc=>⟨(hi1.globs i cs hc).1,RC_pure hst1 _ _ _ (hi1.globs i cs hc).1 (hi1.globs i cs hc).2⟩⟩,?_,x,he,?_⟩
 ·intro b y hb;rcases low b y hb with⟨_,rfl⟩ |⟨rfl,rfl⟩
  ·trivial
  ·rcases hi1.good 0 _ rfl with⟨k,c,e,h1,h2,h3,h4,h5⟩ |⟨h1,h2,h3⟩
   ·exact .inl ⟨k,c,e,by rw[gn];exact h1,h2,RowsAt_pure hst1 rows 0 hp h3,h4,h5⟩
   ·exact .inr ⟨h1,by rw[gn];exact h2,h3⟩
 ·intro b b' y y' v v' k z z' h1 h2 l1 l2 _ _;rcases low b y h1 with⟨_,rfl⟩ |⟨rfl,rfl⟩
  ·cases l1
  ·rcases low b' y' h2 with⟨_,rfl⟩ |⟨rfl,rfl⟩
   ·cases l2
   ·rfl
 ·intro b ver hc;have hbn:¬b<n:=by
   intro hb;rcases hc with hc |hc
   ·grind
   ·simp at hc;omega
  rw[gh b ver hbn];refine hi1.fresh (b - n) ver (.inr ?_);grind
 ·intro b y v ver' hb hv hlt;rcases low b y hb with⟨_,rfl⟩ |⟨rfl,rfl⟩
  ·cases hv
  ·rw[gn];exact hi1.next 0 _ v ver' rfl hv hlt
 ·intro b y v k z o hb hv hk;rcases low b y hb with⟨_,rfl⟩ |⟨rfl,rfl⟩
  ·cases hv
  ·rw[gn]at hk;exact hi1.free 0 _ v k z o rfl hv hk
 ·have noOwn:∀k,¬Owned g0 [] k:=fun k ⟨b,y,v,z,hb,_⟩=>by simp at hb
  refine⟨⟨fun b ver y hb=>?_,fun k o hk=>hla.ext.st k o hk,fun k o hk=>hla.ext.cell k o hk,fun k y hk=>hla.ext.shape k y hk⟩,hla.size,fun k hk _=>hla.keep k hk (noOwn k),fun k hk ho=>?_,by simp,hla.os,hla.tape,hla.output,fun k o hk h=>(hla.stk k o hk h).imp_right fun h=>absurd h.1 (noOwn k),fun b hb=>?_,fun b ver k z hk=>?_⟩
  ·have hbn:b<n:=Decidable.byContradiction fun hc=>by rw[hi.fresh b ver (.inr (by simp;omega))]at hb;cases hb
   rw[gl b ver hbn];exact hb
  ·obtain⟨b,y,v,z,hb,hv,hz⟩:=ho;rcases low b y hb with⟨_,rfl⟩ |⟨rfl,rfl⟩
   ·cases hv
   ·rw[gn]at hz;exact absurd (hla.own k hk ⟨0,_,v,z,rfl,hv,hz⟩) (noOwn k)
  ·grind
  ·by_cases hbn:b<n
   ·grind
   ·rw[gh b ver hbn]at hk;rcases hla.newk (b - n) ver k z hk with⟨v',z',h'⟩ |h'
    ·cases h'
    ·exact .inr h'
 grind [R]
def CtrR.fresh(P:Program)[Globs](f:FuncId)(X:Type)(args:X→List AVal)(α:Type)(sz:Nat)(enc:α→List AVal)(he:∀a,AVal.pureL (enc a)=true)(ha:∀x,AVal.pureL (args x)=true)(S:Nat→X→Option (List α))
 (ok:∀n x r,S n x=some r→FnRef P f (args x) [] (.ret (.sl 0 0 sz 0 r.length)) [.row 0 sz (r.map enc)]) (n:Nat):CtrR P where
 f:=f
 X:=X
 args:=args
 heap:=fun _=>List.replicate n .dead
 sh:=.one (List α)
 out:=fun(r:List α)=>.ret (.sl n 0 sz 0 r.length)
 outH:=fun _ (r:List α)=>List.replicate n .dead++[.row 0 sz (r.map enc)]
 S:=S
 ok:=fun m x (r:List α) h=>(ok m x r h).behind (ha x) (by
  grind) n
theorem FnVal.dead{f:FuncId}{sz:Nat}{rows:List (List AVal)}{rest:List AVal}{r:ARes}(h:FnVal P f (.lst rows::rest) r)(hp:rows.all AVal.pureL=true)(hrest:AVal.pureL rest=true)(hr:r.pureR=true):
 FnRef P f (.sl 0 0 sz 0 rows.length::rest) [.row 0 sz rows] r [.dead]:=by
 refine⟨h.1,fun g w vs hi hl=>?_⟩
 have h2:([ABlk.row 0 sz rows]:List ABlk)[0]? =some (.row 0 sz rows):=rfl;obtain⟨i1,i2,i3⟩:=frz1 hi hi (Later.refl g _ w) h2;have i2:Later g [.row 0 sz rows] w {rho:=g.rho,st:=fun k o=>g.st k o∨∃z,g.rho 0 0=some (k,z)} [.dead] w:=i2
 have hB:=i1.bare;have hst0:∀k o,g.st k o→g.st k o∨∃z,g.rho 0 0=some (k,z):=fun _ _ h=>.inl h
 have hl0:RL {rho:=fun _ _=>none,st:=fun k o=>g.st k o∨∃z,g.rho 0 0=some (k,z)} w (.lst rows::rest) vs.toList:=by
  simp only[RL]at hl ⊢;obtain⟨x,xs,e,hx,hxs⟩:=hl;refine⟨x,xs,e,?_,RL_pure hst0 _ _ hrest hxs⟩
  suffices hxF:R {rho:=g.rho,st:=fun k o=>g.st k o∨∃z,g.rho 0 0=some (k,z)} w (.lst rows) x from R_pure (g:={rho:=g.rho,st:=fun k o=>g.st k o∨∃z,g.rho 0 0=some (k,z)}) (g2:={rho:=fun _ _=>none,st:=fun k o=>g.st k o∨∃z,g.rho 0 0=some (k,z)}) (fun _ _ h=>h) (.lst rows) x rfl hxF
  simp only[R]at hx ⊢;rcases hx with⟨hn,rfl⟩ |⟨k,cap,e',sz2,hk,rfl,hsh,hcs,hm,hmax⟩
  ·grind
  ·obtain⟨k',c,e,r1,r2,r3,r4,r5,r6⟩:=hi.row 0 0 _ _ h2 hk;rw[hk]at r1;simp at r1;subst r1;refine⟨_,cap,rfl,by omega,.inr ⟨k,0*sz,sz,rfl,RR_of fun i r hr=>?_⟩⟩
   obtain⟨t1,t2⟩:=RowsAt_get _ _ _ _ r3 hr;grind [RC_of,CellsAt_get,R_mono,cell?_cells]
 refine(h.2 _ w vs hB hl0).mono fun e w' ⟨g1,hi1,hla,he⟩=>?_
 have noOwn:∀(g:Gh) k,¬Owned g [] k:=fun g k ⟨b,y,v,z,hb,_⟩=>by simp at hb
 have one:∀(b:Nat) (x:ABlk),([ABlk.dead]:List ABlk)[b]? =some x→x=.dead:=fun b x hb=>by
  grind
 have noOwnD:∀(g:Gh) k,¬Owned g [.dead] k:=fun g k ⟨b,y,v,z,hb,hv,_⟩=>by
  rw[one b y hb]at hv;cases hv
 refine⟨{rho:=g.rho,st:=g1.st},⟨fun b x hb=>?_,fun b b' x x' v v' k z z' h1 h2 l1=>?_,fun b ver hc=>?_,fun b x v ver' hb hv=>?_,fun b x v k z o hb hv=>?_,hi1.stold,fun i cs hc=>⟨(hi1.globs i cs hc).1,RC_pure (g:=g1) (g2:={rho:=g.rho,st:=g1.st}) (fun _ _ h=>h) _ _ _ (hi1.globs i cs hc).1 (hi1.globs i cs hc).2⟩⟩,i2.trans ⟨⟨fun _ _ _ h=>h,hla.ext.st,hla.ext.cell,hla.ext.shape⟩,hla.size,fun k hk _=>hla.keep k hk (noOwn _ k),fun k _ ho=>absurd ho (noOwnD _ k),Nat.le_refl _,hla.os,hla.tape,hla.output,fun k o hk hs=>(hla.stk k o hk hs).imp_right fun h=>absurd h.1 (noOwn _ k),fun b hb=>⟨hb,fun _=>rfl⟩,fun b ver k z hk=>.inl ⟨ver,z,hk⟩⟩,?_⟩
 ·rw[one b x hb];trivial
 ·rw[one b x h1]at l1;cases l1
 ·refine hi.fresh b ver (.inr ?_);grind
 ·rw[one b x hb]at hv;cases hv
 ·rw[one b x hb]at hv;cases hv
 ·cases r with
  |ret v=>
   obtain⟨x,h1,h3⟩:=he;exact⟨x,h1,R_pure (g:=g1) (g2:={rho:=g.rho,st:=g1.st}) (fun _ _ h=>h) v x hr h3⟩
  |pan v=>
   obtain⟨x,h1,h3⟩:=he;exact⟨x,h1,R_flat v x hr h3⟩
def Ctr1.dead(c:Ctr P)(X τ:Type)(sz:Nat)(enc:τ→List AVal)(rest:X→List AVal)(pack:List τ→X→c.X)
 (hargs:∀l x,c.args (pack l x)=.lst (l.map enc)::rest x) (he:∀a,AVal.pureL (enc a)=true) (hrest:∀x,AVal.pureL (rest x)=true) (hr:∀r,(c.out r).pureR=true) (ha:∀x n,AVal.only0L (.sl 0 0 sz 0 n::rest x)=true):Ctr1 P where
 f:=c.f
 X:=List τ×Nat×X
 args:=fun x=>.sl 0 0 sz 0 x.2.1::rest x.2.2
 blk:=fun x=>.row 0 sz (x.1.map enc)
 sh:=c.sh
 out:=c.out
 outB:=fun _ _=>.dead
 S:=fun n x=>if x.2.1=x.1.length then c.S n (pack x.1 x.2.2)else none
 a0:=fun x=>ha x.2.2 x.2.1
 b0:=fun x=>by simp[ABlk.row0,he]
 b1:=fun _ _=>.inr rfl
 r0:=fun r=>ARes.okR_of (hr r)
 ok:=fun n x r h=>by
  split at h
  ·rename_i hn;have h1:=c.ok n _ r h;rw[hargs]at h1;have h2:=h1.dead (sz:=sz) (by
    grind) (hrest x.2.2) (hr r)
   rw[hn];simpa using h2
  ·cases h
theorem FnVal.apart{f:FuncId}{args:List AVal}{r:ARes}(h:FnVal P f args r)(ha:AVal.pureL args=true)(hr:r.pureR=true)(n:Nat):
 FnRef P f args (List.replicate n .dead) r (List.replicate n .dead):=by
 refine⟨h.1,fun g w vs hi hl=>?_⟩
 have hl0:RL {rho:=fun _ _=>none,st:=g.st} w args vs.toList:=RL_pure (g:=g) (g2:={rho:=fun _ _=>none,st:=g.st}) (fun _ _ h=>h) _ _ ha hl
 refine(h.2 _ w vs hi.bare hl0).mono fun e w' ⟨g1,hi1,hla,he⟩=>?_
 have noOwn:∀(g:Gh) k,¬Owned g [] k:=fun g k ⟨b,y,v,z,hb,_⟩=>by simp at hb
 have one:∀(b:Nat) (x:ABlk),(List.replicate n ABlk.dead)[b]? =some x→x=.dead:=fun b x hb=>by
  grind
 have noOwnD:∀(g:Gh) k,¬Owned g (List.replicate n .dead) k:=fun g k ⟨b,y,v,z,hb,hv,_⟩=>by
  rw[one b y hb]at hv;cases hv
 refine⟨{rho:=g.rho,st:=g1.st},⟨fun b x hb=>?_,fun b b' x x' v v' k z z' h1 h2 l1=>?_,fun b ver hc=>hi.fresh b ver hc,fun b x v ver' hb hv=>?_,fun b x v k z o hb hv=>?_,hi1.stold,fun i cs hc=>⟨(hi1.globs i cs hc).1,RC_pure (g:=g1) (g2:={rho:=g.rho,st:=g1.st}) (fun _ _ h=>h) _ _ _ (hi1.globs i cs hc).1 (hi1.globs i cs hc).2⟩⟩,⟨⟨fun _ _ _ h=>h,hla.ext.st,hla.ext.cell,hla.ext.shape⟩,hla.size,fun k hk _=>hla.keep k hk (noOwn _ k),fun k _ ho=>absurd ho (noOwnD _ k),Nat.le_refl _,hla.os,hla.tape,hla.output,fun k o hk hs=>(hla.stk k o hk hs).imp_right fun h=>absurd h.1 (noOwn _ k),fun b hb=>⟨hb,fun _=>rfl⟩,fun b ver k z hk=>.inl ⟨ver,z,hk⟩⟩,?_⟩
 ·rw[one b x hb];trivial
 ·rw[one b x h1]at l1;cases l1
 ·rw[one b x hb]at hv;cases hv
 ·rw[one b x hb]at hv;cases hv
 ·cases r with
  |ret v=>
   obtain⟨x,h1,h3⟩:=he;exact⟨x,h1,R_pure (g:=g1) (g2:={rho:=g.rho,st:=g1.st}) (fun _ _ h=>h) v x hr h3⟩
  |pan v=>
   obtain⟨x,h1,h3⟩:=he;exact⟨x,h1,R_flat v x hr h3⟩
def CtrR.apart(c:Ctr P)(ha:∀x,AVal.pureL (c.args x)=true)(hr:∀r,(c.out r).pureR=true)(n:Nat):CtrR P where
 f:=c.f
 X:=c.X
 args:=c.args
 heap:=fun _=>List.replicate n .dead
 sh:=c.sh
 out:=c.out
 outH:=fun _ _=>List.replicate n .dead
 S:=c.S
 ok:=fun m x r h=>(c.ok m x r h).apart (ha x) (hr r) n
def Wk1(a b:AVal):Prop:=a=b∨(a=.sc (.slice none 0 0)∧b=.lst [])
def WkC:List AVal→List AVal→Prop
 | [],[]=>True
 |a::as,b::bs=>Wk1 a b∧WkC as bs
 |_,_=>False
def WkR:List (List AVal)→List (List AVal)→Prop
 | [],[]=>True
 |a::as,b::bs=>WkC a b∧WkR as bs
 |_,_=>False
theorem WkC.refl:∀l:List AVal,WkC l l
 | []=>trivial
 |_::as=>⟨.inl rfl,WkC.refl as⟩
theorem WkC.length:∀{l l':List AVal},WkC l l'→l.length=l'.length
 | [],[],_=>rfl
 |_::_,_::_,h=>by simp[WkC.length h.2]
theorem WkC.pure:∀{l l':List AVal},WkC l l'→AVal.pureL l=true→AVal.pureL l'=true
 | [],[],_,h=>h
 |a::as,b::bs,h,hp=>by
  simp only[AVal.pureL,Bool.and_eq_true]at hp ⊢;refine⟨?_,WkC.pure h.2 hp.2⟩;rcases h.1 with rfl |⟨_,rfl⟩
  ·exact hp.1
  ·rfl
theorem WkC.rc{g:Gh}{w:World}{k:Nat}:∀{l l':List AVal} {o:Nat},WkC l l'→RC g w l k o→RC g w l' k o
 | [],[],_,_,_=>by simp[RC]
 |a::as,b::bs,o,h,hr=>by
  simp only[RC]at hr ⊢;refine⟨⟨hr.1.1,?_⟩,WkC.rc h.2 hr.2⟩;obtain⟨y,h1,h2,h3⟩:=hr.1.2;refine⟨y,h1,h2,?_⟩;rcases h.1 with rfl |⟨rfl,rfl⟩
  ·exact h3
  grind [R]
theorem WkR.length:∀{l l':List (List AVal)},WkR l l'→l.length=l'.length
 | [],[],_=>rfl
 |_::_,_::_,h=>by simp[WkR.length h.2]
theorem WkR.rr{g:Gh}{w:World}{k sz:Nat}:∀{l l':List (List AVal)} {o:Nat},WkR l l'→RR g w l k o sz→RR g w l' k o sz
 | [],[],_,_,_=>by simp[RR]
 |a::as,b::bs,o,h,hr=>by
  simp only[RR]at hr ⊢;exact⟨⟨by rw[← h.1.length];exact hr.1.1,h.1.pure hr.1.2.1,h.1.rc hr.1.2.2⟩,WkR.rr h.2 hr.2⟩
theorem WkR.append:∀{l l' m m':List (List AVal)},WkR l l'→WkR m m'→WkR (l++m) (l'++m')
 | [],[],_,_,_,h=>h
 |_::_,_::_,_,_,h,h'=>⟨h.1,WkR.append h.2 h'⟩
theorem WkR.map{α:Type}{e e':α→List AVal}(h:∀a,WkC (e a) (e' a)):∀l:List α,WkR (l.map e) (l.map e')
 | []=>trivial
 |a::l=>⟨h a,WkR.map h l⟩
end Go.AM
end
