/- Put together out of parts: Arguments read as data are plain data of ours; what is asked behind a call that writes nothing old. No program. No conditions. -/
import Derived.Test.YtpgpmlaafigpaaaGreatDoorAc
import Derived.ReadAgain
import Derived.Carry
import Derived.OpenShut
import Derived.IntWalk
import Derived.Maps.RangeRun
section
namespace Go.AM
open Go.ChangeShapes Go.WideShapes Go.ChangeAt Go.RowKit
structure ct(P:Program)(T:TypeId){α:Type}(enc:α→List AVal)(ok:α→Prop):Prop where
 read:∀{H:Type} {encH:TypeId×Value→H} {w:World} {fuel:Nat} {cs:List Value} {x:DataW H×List MemPlace},DataW.trod encH P w 0 (fun _=>true) true fuel T cs=some x→
  ∃a,ok a∧RL (Gh.bare w) w (enc a) cs∧∀y∈cs,y.oneCell'=true
 pure:∀a,AVal.aT (enc a)=true
 len:∀a,(enc a).length=P.cellsOf T
section
set_option linter.unusedSectionVars false
variable {P:Program} {T:TypeId} [aD]
theorem ct.bool(ht:P.underlying T=some .bool)(hc:P.cellsOf T=1):ct P T eB (fun _=>True) where
 read h:=by
  rename_i fuel cs x;cases fuel with
  |zero=>simp[DataW.trod]at h
  |succ n=>
   unfold DataW.trod at h;rw[ht]at h;split at h<;>simp_all
   simp[eB,RL,R,Value.oneCell']
 pure _:=rfl
 len _:=by simp[eB,hc]
theorem ct.int{k:IntKind}(ht:P.underlying T=some (.int k))(hc:P.cellsOf T=1):ct P T (eI k) (fun n=>(Lit.int k n).wf=true) where
 read h:=by
  rename_i fuel cs x;cases fuel with
  |zero=>simp[DataW.trod]at h
  |succ n=>
   unfold DataW.trod at h;rw[ht]at h;split at h<;>simp_all
   obtain⟨⟨rfl,hw⟩,_⟩:=h;exact⟨_,hw,by simp[eI,RL,R],rfl⟩
 pure _:=rfl
 len _:=by simp[eI,hc]
theorem ct.str(ht:P.underlying T=some .string)(hc:P.cellsOf T=1):ct P T eS (fun _=>True) where
 read h:=by
  rename_i fuel cs x;cases fuel with
  |zero=>simp[DataW.trod]at h
  |succ n=>
   unfold DataW.trod at h;rw[ht]at h;split at h<;>simp_all
   simp[eS,RL,R,Value.oneCell']
 pure _:=rfl
 len _:=by simp[eS,hc]
theorem cells?_some{w:World}{a:Addr}{n:Nat}{cs:List Value}(h:w.cells? 0 a n=some cs):cs.length=n∧∀i,i<n→w.cell? (a.add i)=cs[i]? :=by
 unfold World.cells? at h;simp only[Nat.zero_le,if_true]at h;exact⟨by simpa using mapM_some_length h,fun i hi=>mapM_some_get h i i (by simp[hi])⟩
theorem Uw{w:World}{k o:Nat}{y:Value}(h:w.cell? ⟨k,o,none⟩=some y):k<w.heap.size:=by
 unfold World.cell? at h;split at h
 ·rename_i he;exact(Array.getElem?_eq_some_iff.1 he).1
 ·cases h
theorem MX{α:Type}{n:Nat}{p:Nat→α→Prop}(h:∀i,i<n→∃a,p i a):∃l:List α,l.length=n∧∀i a,l[i]? =some a→p i a:=by
 induction n with
 |zero=>exact⟨[],rfl,fun i a h=>by simp at h⟩
 |succ n ih=>
  obtain⟨l,h1,h2⟩:=ih fun i hi=>h i (by omega)
  obtain⟨a,ha⟩:=h n (by omega)
  refine⟨l++[a],by simp[h1],fun i b hb=>?_⟩
  by_cases hi:i<l.length
  ·rw[List.getElem?_append_left hi]at hb;exact h2 i b hb
  ·rw[List.getElem?_append_right (by omega)]at hb
   have:i=n:=by
    have:=(List.getElem?_eq_some_iff.1 hb).1;simp at this;omega
   subst this;simp[h1]at hb;subst hb;exact ha
theorem ct.slice{E:TypeId}{α:Type}{enc:α→List AVal}{ok:α→Prop}(ht:P.underlying T=some (.slice E))(hc:P.cellsOf T=1)(hz0:Nat.ble 1 (P.cellsOf E)=true)(he:ct P E enc ok):
 ct P T (eL enc) (fun l=>∀a∈l,ok a) where
 read h:=by
  have hz:=Nat.le_of_ble_eq_true hz0;rename_i H encH w fuel cs x;rcases DataW.trod_slice ht h with⟨rfl,_⟩ |⟨a,len,cap,elems,rest,n,rfl,rfl,_,_,hl,_,hlen,hel,_⟩
  ·exact⟨[],by simp,by simp[eL,RL,R],by simp[Value.oneCell']⟩
  ·have hget:∀i,i<len→∃c,w.cells? 0 (a.add (i*P.cellsOf E)) (P.cellsOf E)=some c∧∃b,ok b∧RL (Gh.bare w) w (enc b) c∧∀y∈c,y.oneCell'=true:=by
    intro i hi;have h1:=hel i hi;obtain⟨y,hy⟩:∃y,elems[i]? =some y:=⟨_,List.getElem?_eq_getElem (by omega)⟩
    rw[hy]at h1;obtain⟨c,hc1,hc2⟩:=Option.bind_eq_some_iff.1 h1;obtain⟨b,hb⟩:=he.read hc2;exact⟨c,hc1,b,hb⟩
   obtain⟨l,hll,hp⟩:=MX (n:=len) (p:=fun i b=>∃c,w.cells? 0 (a.add (i*P.cellsOf E)) (P.cellsOf E)=some c∧ok b∧RL (Gh.bare w) w (enc b) c∧∀y∈c,y.oneCell'=true)
    fun i hi=>let⟨c,h1,b,h2⟩:=hget i hi;⟨b,c,h1,h2⟩
   refine⟨l,fun b hb=>?_,?_,by simp[Value.oneCell']⟩
   ·obtain⟨i,hi⟩:=List.getElem?_of_mem hb;obtain⟨c,_,h2,_⟩:=hp i b hi;exact h2
   ·simp only[eL,RL,R];refine⟨_,[],rfl,⟨some a,cap,by simp[hll],by simp[hll,hl],?_⟩,rfl⟩
    by_cases h0:l.length=0
    ·left;simp[h0]
    ·right;obtain⟨k,o,sp⟩:=a;have hsp:sp=none:=by
      obtain⟨c,h1,_⟩:=hget 0 (by omega)
      obtain⟨h2,h3⟩:=cells?_some h1;have h4:=h3 0 hz;obtain⟨y,hy⟩:∃y,c[0]? =some y:=⟨_,List.getElem?_eq_getElem (by omega)⟩
      rw[hy]at h4;simpa[Addr.add]using World.cell?_spot h4
     subst hsp;refine⟨k,o,P.cellsOf E,rfl,Fl fun i r hr=>?_⟩
     obtain⟨b,hb,rfl⟩:∃b,l[i]? =some b∧enc b=r:=by simpa using hr
     refine⟨he.len b,he.pure b,A9 fun j v hv=>?_⟩
     obtain⟨c,h1,_,h2,h3⟩:=hp i b hb;obtain⟨h4,h5⟩:=cells?_some h1;obtain⟨h6,h7⟩:=dD _ _ h2;obtain⟨y,hy,hr⟩:=h7 j v hv;have hj:j<P.cellsOf E:=by rw[← he.len b];exact(List.getElem?_eq_some_iff.1 hv).1
     have hcell:=h5 j hj;rw[hy]at hcell;simp only[Go.WideShapes.add_plain]at hcell;exact⟨Uw hcell,y,hcell,h3 y (List.mem_of_getElem? hy),hr⟩
 pure _:=rfl
 len _:=by simp[eL,hc]
inductive BV (P:Program):List Field→(α:Type)→(α→List AVal)→(α→Prop)→Prop
 |nil:BV P [] Unit (fun _=>[]) (fun _=>True)
 |cons {f:Field} {fs:List Field} {α β:Type} {enc:α→List AVal} {ok:α→Prop} {encs:β→List AVal} {oks:β→Prop} (h:ct P f.type enc ok) (hs:BV P fs β encs oks):
  BV P (f::fs) (α×β) (fun x=>enc x.1++encs x.2) (fun x=>ok x.1∧oks x.2)
theorem BV.pure{fs:List Field}{α:Type}{enc:α→List AVal}{ok:α→Prop}(h:BV P fs α enc ok):∀a,AVal.aT (enc a)=true:=by
 have happ:∀(a b:List AVal),AVal.aT a=true→AVal.aT b=true→AVal.aT (a++b)=true:=by
  intro a b h1 h2;induction a with
  |nil=>exact h2
  |cons x xs ih=>simp only[AVal.aT,Bool.and_eq_true,List.cons_append]at h1 ⊢;exact⟨h1.1,ih h1.2⟩
 induction h with
 |nil=>exact fun _=>rfl
 |cons h _ ih=>exact fun a=>happ _ _ (h.pure a.1) (ih a.2)
theorem BV.len{fs:List Field}{α:Type}{enc:α→List AVal}{ok:α→Prop}(h:BV P fs α enc ok):∀a,(enc a).length=(fs.map fun f=>P.cellsOf f.type).sum:=by
 induction h with
 |nil=>exact fun _=>rfl
 |cons h _ ih=>exact fun a=>by simp[h.len a.1,ih a.2]
theorem BV.read{H:Type}{encH:TypeId×Value→H}{w:World}{n:Nat}{fs:List Field}{α:Type}{enc:α→List AVal}{ok:α→Prop}(h:BV P fs α enc ok):∀(cs:List Value),cs.length=(fs.map fun f=>P.cellsOf f.type).sum→
 (∀i f,fs[i]? =some f→∃x,DataW.trod encH P w 0 (fun _=>true) true n f.type ((cs.drop ((fs.take i).map fun f=>P.cellsOf f.type).sum).take (P.cellsOf f.type))=some x)→
 ∃a,ok a∧RL (Gh.bare w) w (enc a) cs∧∀y∈cs,y.oneCell'=true:=by
 induction h with
 |nil=>
  intro cs hl _;have:cs=[]:=by simpa using hl
  subst this;exact⟨(),trivial,rfl,by simp⟩
 | @cons f fs α β enc ok encs oks h hs ih=>
  intro cs hl hf;simp only[List.map_cons,List.sum_cons]at hl;obtain⟨x,hx⟩:=hf 0 f rfl;simp only[List.take_zero,List.map_nil,List.sum_nil,List.drop_zero]at hx;obtain⟨a,h1,h2,h3⟩:=h.read hx;obtain⟨b,h4,h5,h6⟩:=ih (cs.drop (P.cellsOf f.type)) (by simp;omega) fun i f' hi=>by
   obtain⟨x,hx⟩:=hf (i+1) f' (by simpa using hi)
   refine⟨x,?_⟩;simp only[List.take_succ_cons,List.map_cons,List.sum_cons]at hx;rw[List.drop_drop];exact hx
  refine⟨(a,b),⟨h1,h4⟩,?_,fun y hy=>?_⟩
  ·have:=ez h2 h5;rwa[List.take_append_drop]at this
  ·rw[← List.take_append_drop (P.cellsOf f.type) cs]at hy;rcases List.mem_append.1 hy with hy |hy
   ·exact h3 y hy
   ·exact h6 y hy
theorem ct.struct(hl:laidOutB P=true)(hT0:Nat.ble (T+1) P.types.size=true){fs:Array Field}(ht:P.underlying T=some (.struct fs)){β S:Type}{encs:β→List AVal}{oks:β→Prop}(h:BV P fs.toList β encs oks){enc:S→List AVal}{ok:S→Prop}(conv:β→S)(back:S→β)
 (hconv:∀b,enc (conv b)=encs b) (hback:∀s,conv (back s)=s) (hok:∀b,oks b→ok (conv b)):ct P T enc ok where
 read hx:=by
  have hT:T<P.types.size:=Nat.le_of_ble_eq_true hT0;obtain⟨xs,n,rfl,_,hlen,hxl,hf⟩:=DataW.trod_struct ht hx;obtain⟨_,h2,h3⟩:=kid_struct hl hT ht;obtain⟨b,k1,k2,k3⟩:=h.read (n:=n) _ (by rw[hlen,h2]) fun i f hi=>by
   have:=hf i f (by simpa using hi)
   rw[h3 i f hi]at this;obtain⟨y,hy⟩:∃y,xs[i]? =some y:=⟨_,List.getElem?_eq_getElem (by
    have:=(List.getElem?_eq_some_iff.1 hi).1;simp at this;omega)⟩
   exact⟨y,by rw[this,hy]⟩
  exact⟨conv b,hok b k1,by rw[hconv];exact k2,k3⟩
 pure a:=by rw[← hback a,hconv];exact h.pure _
 len a:=by
  have hT:T<P.types.size:=Nat.le_of_ble_eq_true hT0;obtain⟨_,h2,_⟩:=kid_struct hl hT ht;rw[← hback a,hconv,h.len,h2]
theorem ct.Q3{n:Nat}{e:TypeId}{α:Type}{c:α→AVal}{ok:α→Prop}(ht:P.underlying T=some (.array n e))(hc:P.cellsOf e=1)(hT:P.cellsOf T=n)(he:ct P e (fun a=>[c a]) ok){H:Type}{encH:TypeId×Value→H}{w:World}{fuel:Nat}{cs:List Value}{x:DataW H×List MemPlace}
 (hx:DataW.trod encH P w 0 (fun _=>true) true fuel T cs=some x):∃l:List α,l.length=n∧(∀a∈l,ok a)∧RL (Gh.bare w) w (l.map c) cs∧∀y∈cs,y.oneCell'=true:=by
 obtain⟨xs,m,rfl,_,hlen,hxl,hf⟩:=DataW.trod_array ht hx;rw[hT]at hlen;have key:∀(k:Nat) (ds:List Value),ds.length=k→(∀i,i<k→∃y,DataW.trod encH P w 0 (fun _=>true) true m e ((ds.drop i).take 1)=some y)→
  ∃l:List α,l.length=k∧(∀a∈l,ok a)∧RL (Gh.bare w) w (l.map c) ds∧∀y∈ds,y.oneCell'=true:=by
  intro k;induction k with
  |zero=>
   intro ds hd _;have:ds=[]:=by simpa using hd
   subst this;exact⟨[],rfl,by simp,rfl,by simp⟩
  |succ k ih=>
   intro ds hd hr;obtain⟨d,ds,rfl⟩:∃d ds',ds=d::ds':=by cases ds with |nil=>simp at hd |cons d ds=>exact⟨d,ds,rfl⟩
   obtain⟨y,hy⟩:=hr 0 (by omega)
   simp only[List.drop_zero,List.take_succ_cons,List.take_zero]at hy;obtain⟨a,h1,h2,h3⟩:=he.read hy;obtain⟨l,q1,q2,q3,q4⟩:=ih ds (by simpa using hd) fun i hi=>by
    obtain⟨y,hy⟩:=hr (i+1) (by omega)
    exact⟨y,by simpa using hy⟩
   refine⟨a::l,by simp[q1],fun b hb=>?_,?_,fun z hz=>?_⟩
   ·rcases List.mem_cons.1 hb with rfl |hb
    ·exact h1
    ·exact q2 b hb
   ·simp only[RL]at h2;obtain⟨x1,xs1,e1,e2,e3⟩:=h2;simp only[List.cons.injEq]at e1;obtain⟨rfl,_⟩:=e1;simp only[List.map_cons,RL];exact⟨_,_,rfl,e2,q3⟩
   ·rcases List.mem_cons.1 hz with rfl |hz
    ·exact h3 _ (by simp)
    ·exact q4 z hz
 refine key n cs hlen fun i hi=>?_
 have:=hf i hi;rw[hc,Nat.mul_one]at this;obtain⟨y,hy⟩:∃y,xs[i]? =some y:=⟨_,List.getElem?_eq_getElem (by omega)⟩
 exact⟨y,by rw[this,hy]⟩
theorem ct.Ux{e:TypeId}{α:Type}{c:α→AVal}{ok:α→Prop}(ht:P.underlying T=some (.array 10 e))(hc:P.cellsOf e=1)(hT:P.cellsOf T=10)(he:ct P e (fun a=>[c a]) ok):
 ct P T (SY c) (fun x=>ok x.a0∧ok x.a1∧ok x.a2∧ok x.a3∧ok x.a4∧ok x.a5∧ok x.a6∧ok x.a7∧ok x.a8∧ok x.a9) where
 read hx:=by
  obtain⟨l,h1,h2,h3,h4⟩:=ct.Q3 ht hc hT he hx
  match l,h1,h2,h3 with
  | [b0,b1,b2,b3,b4,b5,b6,b7,b8,b9],_,h2,h3=>
   simp only[List.mem_cons,List.not_mem_nil,or_false,forall_eq_or_imp,forall_eq]at h2;exact⟨⟨b0,b1,b2,b3,b4,b5,b6,b7,b8,b9⟩,h2,h3,h4⟩
 pure a:=by
  have:∀x,(c x).pure=true:=fun x=>by have:=he.pure x;simpa[AVal.aT]using this
  simp[SY,AVal.aT,this]
 len a:=by simp[SY,hT]
theorem ct.Lz{e:TypeId}{α:Type}{c:α→AVal}{ok:α→Prop}(ht:P.underlying T=some (.array 8 e))(hc:P.cellsOf e=1)(hT:P.cellsOf T=8)(he:ct P e (fun a=>[c a]) ok):
 ct P T (ay c) (fun x=>ok x.a0∧ok x.a1∧ok x.a2∧ok x.a3∧ok x.a4∧ok x.a5∧ok x.a6∧ok x.a7) where
 read hx:=by
  obtain⟨l,h1,h2,h3,h4⟩:=ct.Q3 ht hc hT he hx
  match l,h1,h2,h3 with
  | [b0,b1,b2,b3,b4,b5,b6,b7],_,h2,h3=>
   simp only[List.mem_cons,List.not_mem_nil,or_false,forall_eq_or_imp,forall_eq]at h2;exact⟨⟨b0,b1,b2,b3,b4,b5,b6,b7⟩,h2,h3,h4⟩
 pure a:=by
  have:∀x,(c x).pure=true:=fun x=>by have:=he.pure x;simpa[AVal.aT]using this
  simp[ay,AVal.aT,this]
 len a:=by simp[ay,hT]
end
theorem ct.one{P:Program}{T:TypeId}{α:Type}{enc:α→List AVal}{ok:α→Prop}(h:ct P T enc ok){H:Type}{encH:TypeId×Value→H}{w:World}{v:Value}{d:DataW H}{ps:List MemPlace}
 (hv:DataW.Trod encH P w 0 (fun _=>true) true T v d ps):∃a,ok a∧RL (Gh.bare w) w (enc a) v.cells.toList∧∀y∈v.cells.toList,y.oneCell'=true:=by
 obtain⟨fuel,hf⟩:=hv;exact h.read hf
section
set_option linter.unusedSectionVars false
variable {P:Program} {T:TypeId} [aD] {α:Type} {enc:α→List AVal} {ok:α→Prop} {H:Type} {encH:TypeId×Value→H} {w:World} {v:Value} {d:DataW H} {ps:List MemPlace} {r:Reach} {base:Nat}
theorem ct.agg(h:ct P T enc ok){fs:Array Field}(ht:P.underlying T=some (.struct fs))(hval:Value.okWide P w r base T v)(hv:DataW.Trod encH P w 0 (fun _=>true) true T v d ps):∃a,ok a∧R (Gh.bare w) w (.agg (enc a)) v:=by
 obtain⟨a,h1,h2,h3⟩:=h.one hv;unfold Value.okWide at hval;rw[ht]at hval;obtain⟨cs,rfl,_⟩:=hval;exact⟨a,h1,by simp only[R];exact⟨cs.toList,by simp,by simpa[Value.cells]using h3,by simpa[Value.cells]using h2⟩⟩
def Vb(P:Program)(T:TypeId):Bool:=match P.underlying T with
 |some .bool=>true
 |some (.int _)=>true
 |some .string=>true
 |some (.slice _)=>true
 |_=>false
theorem ct.cell{c:α→AVal}(h:ct P T (fun a=>[c a]) ok)(ht:Vb P T=true)(hval:Value.okWide P w r base T v)(hv:DataW.Trod encH P w 0 (fun _=>true) true T v d ps):∃a,ok a∧R (Gh.bare w) w (c a) v:=by
 obtain⟨a,h1,h2,_⟩:=h.one hv;refine⟨a,h1,?_⟩;have hc:v.cells.toList=[v]:=by
  unfold Vb at ht;unfold Value.okWide at hval;split at ht
  case h_5=>cases ht
  all_goals
   rename_i hu;rw[hu]at hval;simp only at hval;unfold Cell.okWide at hval;rw[hu]at hval;cases v<;>simp_all [Cell.ok,Value.cells]
 rw[hc]at h2;simp only[RL]at h2;obtain⟨x,xs,hx,hr,hn⟩:=h2;simp only[List.cons.injEq]at hx;rw[hx.1];exact hr
theorem Ex{w':World}{sp:Nat→Bool}(hl:laidOutB P=true)(hm:mapsRowed P=true)(hz:∀t e,t<P.types.size→P.underlying t=some (.slice e)→0<P.cellsOf e)(hb:Below w.heap.size w w'):
 ∀{ts:List TypeId} {vs:List Value} {ds:List (DataW H)} {ps:List MemPlace},(∀t∈ts,t<P.types.size)→DataW.TrodAll encH P w 0 (fun _=>true) true ts vs ds ps→(∀p∈ps,p.block<w.heap.size)→(∀p∈ps,sp p.block=true)→
  DataW.TrodAll encH P w' 0 sp true ts vs ds ps:=by
 intro ts vs ds ps hT h hlt hs
 replace h:=h.respare (kids_rows hl hm) hz hT hs
 clear hs hz
 revert hlt h
 induction ts generalizing vs ds ps with
 |nil=>intro hlt h;cases vs<;>cases ds<;>simp_all [DataW.TrodAll]
 |cons t ts ih=>
  intro hlt h;cases vs with
  |nil=>cases ds<;>simp[DataW.TrodAll]at h
  |cons v vs=>
   cases ds with
   |nil=>simp[DataW.TrodAll]at h
   |cons d ds=>
    obtain⟨p,q,⟨n,h1⟩,h2,rfl⟩:=h;refine⟨p,q,⟨n,DataW.trod_carry _ _ _ _ h1 fun x hx=>hb.same (hlt x (List.mem_append_left _ hx))⟩,ih (fun t ht=>hT t (List.mem_cons_of_mem _ ht)) (fun x hx=>hlt x (List.mem_append_right _ hx)) h2,rfl⟩
theorem NU{f:FuncId}{args:List AVal}{v:Value}(h:iQ P f args (.ret (.sc v)))(w:World)(hg:og (Gh.bare w) w)(vs:Array Value)(hl:RL (Gh.bare w) w args vs.toList):
 Calls P f vs w fun e w'=>e=.returned v∧Below w.heap.size w w':=by
 refine(h.2 (Gh.bare w) w vs (Gh.SH w hg) hl).mono ?_;rintro e w' ⟨g',_,hla,x,rfl,hr⟩;simp only[R]at hr;subst hr;exact⟨rfl,MS hla⟩
end
end Go.AM
end
section
namespace Go.AM
def scan{α σ τ:Type}(g:Nat→α→σ→σ⊕τ):Nat→List α→σ→σ⊕τ
 |_,[],s=>.inl s
 |i,x::xs,s=>match g i x s with
  | .inl s'=>scan g (i+1) xs s'
  | .inr t=>.inr t
theorem bQ{α:Type}(l:List α)(i:Nat):gi l (i:Int)=l[i]? :=by simp[gi]
theorem Pm{α σ τ ST:Type}{f:ST→Option (ST⊕τ)}(mk:Nat→σ→ST)(g:Nat→α→σ→σ⊕τ)(fin:σ→τ)(l:List α)
 (hs:∀i x s,l[i]? =some x→f (mk i s)=some (match g i x s with | .inl s'=>.inl (mk (i+1) s') | .inr t=>.inr t)) (he:∀s,f (mk l.length s)=some (.inr (fin s))):
 ∀(n:Nat) (s0:σ),l.length<n→bZ f n (mk 0 s0)=some (match scan g 0 l s0 with | .inl s=>fin s | .inr t=>t):=by
 have key:∀(k:Nat) (i:Nat) (s:σ) (n:Nat),i+k=l.length→k<n→bZ f n (mk i s)=some (match scan g i (l.drop i) s with | .inl s=>fin s | .inr t=>t):=by
  intro k;induction k with
  |zero=>
   intro i s n hi hn;obtain⟨n,rfl⟩:∃m,n=m+1:=⟨n - 1,by omega⟩
   have:i=l.length:=by omega
   subst this;simp only[bZ,he,List.drop_length,scan]
  |succ k ih=>
   intro i s n hi hn;obtain⟨n,rfl⟩:∃m,n=m+1:=⟨n - 1,by omega⟩
   have hlt:i<l.length:=by omega
   rw[List.drop_eq_getElem_cons hlt];simp only[bZ,scan,hs i _ s (List.getElem?_eq_getElem hlt)];cases g i l[i] s with
   |inl s'=>simp only;exact ih (i+1) s' n (by omega) (by omega)
   |inr t=>rfl
 intro n s0 hn;have:=key l.length 0 s0 n (by omega) hn
 simpa using this
theorem wrap_i64{x:Int}(h1: -9223372036854775808≤x)(h2:x≤9223372036854775807):Go.IntKind.wrap .i64 x=x:=by
 rw[Go.IntKind.wrap_i64];omega
theorem eu{i:Nat}(h:i<9223372036854775807):Go.IntKind.wrap .i64 ((i:Int)+1)=((i+1:Nat):Int):=by
 rw[wrap_i64 (by omega) (by omega)];rfl
theorem Q4{x k:Int}(hk:0<k):(x.tmod k+k).tmod k=x % k:=by
 have h1: -k<x.tmod k:=Int.lt_tmod_of_pos x hk;have h2:=Int.tmod_add_mul_tdiv x k;rw[Int.tmod_eq_emod_of_nonneg (by omega)]
 have:x.tmod k+k=x+k*(1 - x.tdiv k):=by
  rw[Int.mul_sub,Int.mul_one];omega
 rw[this,Int.add_mul_emod_self_left]
theorem Q5{x k:Int}(hk:0<k)(hk2:k≤4000000000000000000):Go.IntKind.wrap .i64 (x.tmod k+k)=x.tmod k+k:=by
 have h1: -k<x.tmod k:=Int.lt_tmod_of_pos x hk;have h2:=Int.tmod_lt_of_pos x hk;exact wrap_i64 (by omega) (by omega)
end Go.AM
namespace Go.AM
section
variable {X K V β:Type}
theorem bD(l:List X)(e:X→List AVal)(k:Unit→Option β):(aM l e).run.bind k=k ():=rfl
theorem cn(l:List X)(e:X→List AVal)(n:Nat)(i:Int)(k:X→Option β):(aV l e n i).run.bind k=(gi l i).bind k:=rfl
theorem oD(m:List (K×V))(q:K)(ek:K→AVal)(ev:V→AVal)(eq:K→K→Bool)(d:V)(ks:List Kd)(ag ok:Bool)(b:Nat)(k:Unit→Option β):(rH m q ek ev eq d ks ag ok b).run.bind k=k ():=rfl
theorem oE(m:List (K×V))(q:K)(v:V)(ek:K→AVal)(ev:V→AVal)(eq:K→K→Bool)(ks:List Kd)(ag:Bool)(b:Nat)(k:Unit→Option β):(qz m q v ek ev eq ks ag b).run.bind k=k ():=rfl
theorem qo(d:X)(e:X→List AVal)(n by_ nid:Nat)(i:Int)(k:Unit→Option β):(Df d e n by_ nid i).run.bind k=if 0≤i∧roomy i.toNat by_=true then k ()else none:=by
 show(if 0≤i∧roomy i.toNat by_=true then some ()else none).bind k=_
 split<;>rfl
theorem cQ(m n b ai:Nat)(i:Int)(k:Unit→Option β):(aN m n b ai i).run.bind k=if 0≤i∧i<m then k ()else none:=by
 show(if 0≤i∧i<m then some ()else none).bind k=_
 split<;>rfl
theorem iq(l:List X)(e:X→List AVal)(n b ai i o:Nat)(val:X→AVal)(k:X→Option β):(bX l e n b ai i o val).run.bind k=(l[i]?).bind k:=rfl
theorem vc(len:Nat)(l m:List X)(e:X→List AVal)(n by_ b ai nid:Nat)(ids:List Nat)(k:Unit→Option β):(fu len l m e n by_ b ai nid ids).run.bind k=if len=l.length∧roomy (l.length+m.length) by_=true then k ()else none:=by
 show(if len=l.length∧roomy (l.length+m.length) by_=true then some ()else none).bind k=_
 split<;>rfl
end
end Go.AM
end
section
namespace Go.AM
variable [aD] {P:Program}
def cD.shrink(c:cD P)(α:Type)(sz:Nat)(enc:α→List AVal)(he:∀a,AVal.aT (enc a)=true)(k:c.sh.El→Nat)(l:c.sh.El→List α)(ho:∀r,c.out r=.ret (.sl 0 0 sz 0 (k r)))(hb:∀x r,c.o5 x r=.row 0 sz ((l r).map enc)):cD P where
 f:=c.f
 X:=c.X
 args:=c.args
 blk:=c.blk
 sh:=.one (List α)
 out:=fun(r:List α)=>.ret (.sl 0 0 sz 0 r.length)
 o5:=fun _ (r:List α)=>.row 0 sz (r.map enc)
 S:=fun n x=>(c.S n x).bind fun r=>if k r≤(l r).length then some ((l r).take (k r))else none
 a0:=c.a0
 b0:=c.b0
 b1:=fun _ (r:List α)=>.inl (by simp[aa.jt,he])
 r0:=fun _=>rfl
 ok:=fun n x (r:List α) h=>by
  obtain⟨r',h1,h2⟩:=Option.bind_eq_some_iff.1 h;split at h2
  ·rename_i hk;have h2:(l r').take (k r')=r:=Option.some.inj h2;subst h2;have:=c.ok n x r' h1;rw[ho,hb]at this;have:=this.shrink (k r');rw[← List.map_take]at this;rwa[show((l r').take (k r')).length=k r' by rw[List.length_take];omega]
  ·cases h2
def Pn{ρ:Type}(P:Program)[aD](cfg:dL)(L:Nat)(fn:Func)(H0:List aa)(out:ρ→aP×List aa)(g:G P ρ)(o:bu)(s:St):Prop:=
 match g with
 | .done ts r=>jS H0 ts s fun s=>pV P cfg L fn o s=some (out r)
 | .fail=>True
 |_=>Q0 P fn o s H0 out
def LA{ρ:Type}(P:Program)[aD](cfg:dL)(L:Nat)(f:FuncId)(args:List AVal)(H0:List aa)(out:ρ→aP×List aa)(g:G P ρ):Prop:=
 match P.funcs[f]? with
 |some fn=>match fn.body with
  |some c=>jP P (IG P cfg) H0 c g ⟨lX fn.ntmps args,H0,[]⟩ fun g o s=>Pn P cfg L fn H0 out g o s
  |none=>False
 |none=>False
theorem Q6{cfg:dL}{n L:Nat}{ρ:Type}{fn:Func}{H0:List aa}{out:ρ→aP×List aa}{g:G P ρ}{o:bu}{s:St}{r:ρ}(h:Pn P cfg L fn H0 out g o s)(hr:g.run n=some r):∃s',iJ H0 s s'∧pV P cfg L fn o s'=some (out r):=by
 unfold Pn at h;split at h
 ·simp only[G.run,Option.ite_none_right_eq_some,Option.some.injEq]at hr;obtain⟨hok,rfl⟩:=hr;exact dA hok h
 ·simp[G.run]at hr
 ·exact nomatch h
theorem Dj{cfg : dL}(hm : P.follows .mixedOrders = true)(hN : ∀ (f : FuncId) (fn : Func), P.funcs[f]? = some fn → fn.name ≠ "runtime.NumGoroutine"){L : Nat}{f : FuncId}{args : List AVal}{H0 : List aa}{ρ : Type}{out : ρ → aP × List aa}{g : G P ρ}
 (h:LA P cfg L f args H0 out g) {n:Nat} {r:ρ} (hr:g.run n=some r):bz P f args H0 (out r).1 (out r).2:=by
 unfold LA at h;split at h
 ·rename_i fn hf;split at h
  ·rename_i c hb;obtain⟨g',o,s1,h',hr',hd⟩:=w9 (X:=IG P cfg) hm (Ab hm hN 9) c r g _ _ h hr;obtain⟨s',hwk,hlo⟩:=Q6 h' hr';exact bz.of hm hN hf hb (fun g0 w0 hi=>hd none g0 w0 hi trivial) hwk hlo
  ·exact h.elim
 ·exact h.elim
theorem bz.Lt{f:FuncId}{H H1:List aa}{r:aP}(h0:bz P f [.nz true] H r H1)(h1:bz P f [.nz false] H r H1):bz P f [.aj []] H r H1:=by
 refine⟨h0.1,fun g w vs hi hl=>?_⟩
 obtain⟨x,xs,hv,hx,hl'⟩:=hl;simp only[R]at hx;obtain⟨a,cap,rfl,_,_⟩:=hx;by_cases ha:a.isNone=true
 ·exact h0.2 g w vs hi (by rw[hv];exact⟨_,_,rfl,by simp only[R];exact⟨a,cap,rfl,ha⟩,hl'⟩)
 ·exact h1.2 g w vs hi (by rw[hv];exact⟨_,_,rfl,by simp only[R];exact⟨a,cap,rfl,by cases a<;>simp_all⟩,hl'⟩)
theorem bz.behind{f:FuncId}{args:List AVal}{sz m:Nat}{rows:List (List AVal)}(h:bz P f args [] (.ret (.sl 0 0 sz 0 m)) [.row 0 sz rows])(ha:AVal.aT args=true)(hp:rows.all AVal.aT=true)(n:Nat):
 bz P f args (List.replicate n .dead) (.ret (.sl n 0 sz 0 m)) (List.replicate n .dead++[.row 0 sz rows]):=by
 refine⟨h.1,fun g w vs hi hl=>?_⟩
 let g0:Gh:=⟨fun _ _=>none,g.st⟩
 have hst0:∀k o,g.st k o→g0.st k o:=fun _ _ h=>h
 have hi0:Inv g0 [] w:=⟨fun b x hb=>by simp at hb,fun b b' x x' v v' k z z' h1=>by simp at h1,fun _ _ _=>rfl,fun b x v ver' hb=>by simp at hb,fun b x v k z o hb=>by simp at hb,hi.er,fun i cs hc=>⟨(hi.di i cs hc).1,k8 hst0 _ _ _ (hi.di i cs hc).1 (hi.di i cs hc).2⟩⟩
 refine(h.2 g0 w vs hi0 (ri hst0 _ _ ha hl)).mono fun e w' ⟨g1,hi1,hla,x,he,hx⟩=>?_
 have low:∀b x,(List.replicate n aa.dead++[aa.row 0 sz rows])[b]? =some x→(b<n∧x=.dead)∨(b=n∧x=.row 0 sz rows):=fun b x hb=>by
  by_cases hbn:b<n
  ·rw[List.getElem?_append_left (by simpa using hbn),List.getElem?_replicate,if_pos hbn]at hb
   exact .inl ⟨hbn,(Option.some.inj hb).symm⟩
  ·rw[List.getElem?_append_right (by simp;omega)]at hb
   simp only[List.length_replicate]at hb;obtain⟨hlt,he⟩:=List.getElem?_eq_some_iff.1 hb;simp only[List.length_singleton]at hlt;have:b=n:=by omega
   subst this;simp at he;exact .inr ⟨rfl,he.symm⟩
 let g':Gh:=⟨fun b v=>if b<n then g.ah b v else g1.ah (b - n) v,g1.st⟩
 have hst1:∀k o,g1.st k o→g'.st k o:=fun _ _ h=>h
 have gn:∀v,g'.ah n v=g1.ah 0 v:=fun v=>by simp[g']
 have gl:∀b v,b<n→g'.ah b v=g.ah b v:=fun b v hb=>by simp[g',hb]
 have gh:∀b v,¬b<n→g'.ah b v=g1.ah (b - n) v:=fun b v hb=>by simp[g',hb]
 refine⟨g',⟨?_,?_,?_,?_,?_,hi1.er,fun i cs hc=>⟨(hi1.di i cs hc).1,k8 hst1 _ _ _ (hi1.di i cs hc).1 (hi1.di i cs hc).2⟩⟩,?_,x,he,?_⟩
 ·intro b y hb;rcases low b y hb with⟨_,rfl⟩ |⟨rfl,rfl⟩
  ·trivial
  ·rcases hi1.good 0 _ rfl with⟨k,c,e,h1,h2,h3,h4,h5⟩ |⟨h1,h2,h3⟩
   ·exact .inl ⟨k,c,e,by rw[gn];exact h1,h2,uk hst1 rows 0 hp h3,h4,h5⟩
   ·exact .inr ⟨h1,by rw[gn];exact h2,h3⟩
 ·intro b b' y y' v v' k z z' h1 h2 l1 l2 _ _;rcases low b y h1 with⟨_,rfl⟩ |⟨rfl,rfl⟩
  ·cases l1
  ·rcases low b' y' h2 with⟨_,rfl⟩ |⟨rfl,rfl⟩
   ·cases l2
   ·rfl
 ·intro b ai hc;have hbn:¬b<n:=by
   intro hb;rcases hc with hc |hc
   ·rcases low b _ hc with⟨_,h⟩ |⟨_,h⟩<;>cases h
   ·simp at hc;omega
  rw[gh b ai hbn];refine hi1.fresh (b - n) ai (.inr ?_);rcases hc with hc |hc
  ·rcases low b _ hc with⟨_,h⟩ |⟨_,h⟩<;>cases h
  ·simp only[List.length_append,List.length_replicate,List.length_singleton]at hc;simp only[List.length_singleton];omega
 ·intro b y v ver' hb hv hlt;rcases low b y hb with⟨_,rfl⟩ |⟨rfl,rfl⟩
  ·cases hv
  ·rw[gn];exact hi1.next 0 _ v ver' rfl hv hlt
 ·intro b y v k z o hb hv hk;rcases low b y hb with⟨_,rfl⟩ |⟨rfl,rfl⟩
  ·cases hv
  ·rw[gn]at hk;exact hi1.free 0 _ v k z o rfl hv hk
 ·have noOwn:∀k,¬gG g0 [] k:=fun k ⟨b,y,v,z,hb,_⟩=>by simp at hb
  refine⟨⟨fun b ai y hb=>?_,fun k o hk=>hla.ext.st k o hk,fun k o hk=>hla.ext.cell k o hk,fun k y hk=>hla.ext.shape k y hk⟩,hla.size,fun k hk _=>hla.keep k hk (noOwn k),fun k hk ho=>?_,by simp,hla.os,hla.tape,hla.output,fun k o hk h=>(hla.stk k o hk h).imp_right fun h=>absurd h.1 (noOwn k),fun b hb=>?_,fun b ai k z hk=>?_⟩
  ·have hbn:b<n:=Decidable.byContradiction fun hc=>by rw[hi.fresh b ai (.inr (by simp;omega))]at hb;cases hb
   rw[gl b ai hbn];exact hb
  ·obtain⟨b,y,v,z,hb,hv,hz⟩:=ho;rcases low b y hb with⟨_,rfl⟩ |⟨rfl,rfl⟩
   ·cases hv
   ·rw[gn]at hz;exact absurd (hla.own k hk ⟨0,_,v,z,rfl,hv,hz⟩) (noOwn k)
  ·have hbn:b<n:=by
    have:=(List.getElem?_eq_some_iff.1 hb).1;simpa using this
   exact⟨by rw[List.getElem?_append_left (by simpa using hbn),List.getElem?_replicate,if_pos hbn],fun ai=>gl b ai hbn⟩
  ·by_cases hbn:b<n
   ·rw[gl b ai hbn]at hk;exact .inl ⟨ai,z,hk⟩
   ·rw[gh b ai hbn]at hk;rcases hla.rQ (b - n) ai k z hk with⟨v',z',h'⟩ |h'
    ·cases h'
    ·exact .inr h'
 ·simp only[R]at hx ⊢;rcases hx with hx |⟨k,cap,e,s,h1,h2⟩
  ·exact .inl hx
  ·exact .inr ⟨k,cap,e,s,by rw[gn];exact h1,h2⟩
def uG.fresh(P:Program)[aD](f:FuncId)(X:Type)(args:X→List AVal)(α:Type)(sz:Nat)(enc:α→List AVal)(he:∀a,AVal.aT (enc a)=true)(ha:∀x,AVal.aT (args x)=true)(S:Nat→X→Option (List α))
 (ok:∀n x r,S n x=some r→bz P f (args x) [] (.ret (.sl 0 0 sz 0 r.length)) [.row 0 sz (r.map enc)]) (n:Nat):uG P where
 f:=f
 X:=X
 args:=args
 heap:=fun _=>List.replicate n .dead
 sh:=.one (List α)
 out:=fun(r:List α)=>.ret (.sl n 0 sz 0 r.length)
 gC:=fun _ (r:List α)=>List.replicate n .dead++[.row 0 sz (r.map enc)]
 S:=S
 ok:=fun m x (r:List α) h=>(ok m x r h).behind (ha x) (by
  simp only[List.all_map,List.all_eq_true];intro y _;exact he y) n
theorem iQ.dead{f:FuncId}{sz:Nat}{rows:List (List AVal)}{rest:List AVal}{r:aP}(h:iQ P f (.aj rows::rest) r)(hp:rows.all AVal.aT=true)(hrest:AVal.aT rest=true)(hr:r.Fp=true):
 bz P f (.sl 0 0 sz 0 rows.length::rest) [.row 0 sz rows] r [.dead]:=by
 refine⟨h.1,fun g w vs hi hl=>?_⟩
 have h2:([aa.row 0 sz rows]:List aa)[0]? =some (.row 0 sz rows):=rfl;obtain⟨i1,i2,i3⟩:=U2 hi hi (aX.refl g _ w) h2;have i2:aX g [.row 0 sz rows] w {ah:=g.ah,st:=fun k o=>g.st k o∨∃z,g.ah 0 0=some (k,z)} [.dead] w:=i2
 have hB:=i1.bare;have hst0:∀k o,g.st k o→g.st k o∨∃z,g.ah 0 0=some (k,z):=fun _ _ h=>.inl h
 have hl0:RL {ah:=fun _ _=>none,st:=fun k o=>g.st k o∨∃z,g.ah 0 0=some (k,z)} w (.aj rows::rest) vs.toList:=by
  simp only[RL]at hl ⊢;obtain⟨x,xs,e,hx,hxs⟩:=hl;refine⟨x,xs,e,?_,ri hst0 _ _ hrest hxs⟩
  suffices hxF:R {ah:=g.ah,st:=fun k o=>g.st k o∨∃z,g.ah 0 0=some (k,z)} w (.aj rows) x from mY (g:={ah:=g.ah,st:=fun k o=>g.st k o∨∃z,g.ah 0 0=some (k,z)}) (g2:={ah:=fun _ _=>none,st:=fun k o=>g.st k o∨∃z,g.ah 0 0=some (k,z)}) (fun _ _ h=>h) (.aj rows) x rfl hxF
  simp only[R]at hx ⊢;rcases hx with⟨hn,rfl⟩ |⟨k,cap,e',sz2,hk,rfl,hsh,hcs,hm,hmax⟩
  ·exact⟨none,0,by rw[hn],by omega,.inl hn⟩
  ·obtain⟨k',c,e,r1,r2,r3,r4,r5,r6⟩:=hi.row 0 0 _ _ h2 hk;rw[hk]at r1;simp at r1;subst r1;refine⟨_,cap,rfl,by omega,.inr ⟨k,0*sz,sz,rfl,Fl fun i r hr=>?_⟩⟩
   obtain⟨t1,t2⟩:=cC _ _ _ _ r3 hr;refine⟨t1,List.all_eq_true.1 hp r (List.mem_of_getElem? hr),A9 fun j y hy=>?_⟩
   obtain⟨u,u1,u2,u3⟩:=lI _ _ j y t2 hy;refine⟨.inr ⟨_,hk⟩,u,?_,u2,qN i3 _ _ u3⟩;rw[kf r2];simpa[Nat.add_assoc]using u1
 refine(h.2 _ w vs hB hl0).mono fun e w' ⟨g1,hi1,hla,he⟩=>?_
 have noOwn:∀(g:Gh) k,¬gG g [] k:=fun g k ⟨b,y,v,z,hb,_⟩=>by simp at hb
 have one:∀(b:Nat) (x:aa),([aa.dead]:List aa)[b]? =some x→x=.dead:=fun b x hb=>by
  cases b with
  |zero=>exact(Option.some.inj hb).symm
  |succ b=>simp at hb
 have noOwnD:∀(g:Gh) k,¬gG g [.dead] k:=fun g k ⟨b,y,v,z,hb,hv,_⟩=>by
  rw[one b y hb]at hv;cases hv
 refine⟨{ah:=g.ah,st:=g1.st},⟨fun b x hb=>?_,fun b b' x x' v v' k z z' h1 h2 l1=>?_,fun b ai hc=>?_,fun b x v ver' hb hv=>?_,fun b x v k z o hb hv=>?_,hi1.er,fun i cs hc=>⟨(hi1.di i cs hc).1,k8 (g:=g1) (g2:={ah:=g.ah,st:=g1.st}) (fun _ _ h=>h) _ _ _ (hi1.di i cs hc).1 (hi1.di i cs hc).2⟩⟩,i2.trans ⟨⟨fun _ _ _ h=>h,hla.ext.st,hla.ext.cell,hla.ext.shape⟩,hla.size,fun k hk _=>hla.keep k hk (noOwn _ k),fun k _ ho=>absurd ho (noOwnD _ k),Nat.le_refl _,hla.os,hla.tape,hla.output,fun k o hk hs=>(hla.stk k o hk hs).imp_right fun h=>absurd h.1 (noOwn _ k),fun b hb=>⟨hb,fun _=>rfl⟩,fun b ai k z hk=>.inl ⟨ai,z,hk⟩⟩,?_⟩
 ·rw[one b x hb];trivial
 ·rw[one b x h1]at l1;cases l1
 ·refine hi.fresh b ai (.inr ?_);rcases hc with hc |hc
  ·have:=one b _ hc;cases this
  ·simpa using hc
 ·rw[one b x hb]at hv;cases hv
 ·rw[one b x hb]at hv;cases hv
 ·cases r with
  |ret v=>
   obtain⟨x,h1,h3⟩:=he;exact⟨x,h1,mY (g:=g1) (g2:={ah:=g.ah,st:=g1.st}) (fun _ _ h=>h) v x hr h3⟩
  |bf v=>
   obtain⟨x,h1,h3⟩:=he;exact⟨x,h1,lY v x hr h3⟩
def cD.dead(c:aA P)(X τ:Type)(sz:Nat)(enc:τ→List AVal)(rest:X→List AVal)(pack:List τ→X→c.X)
 (hargs:∀l x,c.args (pack l x)=.aj (l.map enc)::rest x) (he:∀a,AVal.aT (enc a)=true) (hrest:∀x,AVal.aT (rest x)=true) (hr:∀r,(c.out r).Fp=true) (ha:∀x n,AVal.mZ (.sl 0 0 sz 0 n::rest x)=true):cD P where
 f:=c.f
 X:=List τ×Nat×X
 args:=fun x=>.sl 0 0 sz 0 x.2.1::rest x.2.2
 blk:=fun x=>.row 0 sz (x.1.map enc)
 sh:=c.sh
 out:=c.out
 o5:=fun _ _=>.dead
 S:=fun n x=>if x.2.1=x.1.length then c.S n (pack x.1 x.2.2)else none
 a0:=fun x=>ha x.2.2 x.2.1
 b0:=fun x=>by simp[aa.jt,he]
 b1:=fun _ _=>.inr rfl
 r0:=fun r=>aP.QT (hr r)
 ok:=fun n x r h=>by
  split at h
  ·rename_i hn;have h1:=c.ok n _ r h;rw[hargs]at h1;have h2:=h1.dead (sz:=sz) (by
    simp only[List.all_map,List.all_eq_true];intro y _;exact he y) (hrest x.2.2) (hr r)
   rw[hn];simpa using h2
  ·cases h
theorem iQ.apart{f:FuncId}{args:List AVal}{r:aP}(h:iQ P f args r)(ha:AVal.aT args=true)(hr:r.Fp=true)(n:Nat):
 bz P f args (List.replicate n .dead) r (List.replicate n .dead):=by
 refine⟨h.1,fun g w vs hi hl=>?_⟩
 have hl0:RL {ah:=fun _ _=>none,st:=g.st} w args vs.toList:=ri (g:=g) (g2:={ah:=fun _ _=>none,st:=g.st}) (fun _ _ h=>h) _ _ ha hl
 refine(h.2 _ w vs hi.bare hl0).mono fun e w' ⟨g1,hi1,hla,he⟩=>?_
 have noOwn:∀(g:Gh) k,¬gG g [] k:=fun g k ⟨b,y,v,z,hb,_⟩=>by simp at hb
 have one:∀(b:Nat) (x:aa),(List.replicate n aa.dead)[b]? =some x→x=.dead:=fun b x hb=>by
  rw[List.getElem?_replicate]at hb;split at hb
  ·exact(Option.some.inj hb).symm
  ·cases hb
 have noOwnD:∀(g:Gh) k,¬gG g (List.replicate n .dead) k:=fun g k ⟨b,y,v,z,hb,hv,_⟩=>by
  rw[one b y hb]at hv;cases hv
 refine⟨{ah:=g.ah,st:=g1.st},⟨fun b x hb=>?_,fun b b' x x' v v' k z z' h1 h2 l1=>?_,fun b ai hc=>hi.fresh b ai hc,fun b x v ver' hb hv=>?_,fun b x v k z o hb hv=>?_,hi1.er,fun i cs hc=>⟨(hi1.di i cs hc).1,k8 (g:=g1) (g2:={ah:=g.ah,st:=g1.st}) (fun _ _ h=>h) _ _ _ (hi1.di i cs hc).1 (hi1.di i cs hc).2⟩⟩,⟨⟨fun _ _ _ h=>h,hla.ext.st,hla.ext.cell,hla.ext.shape⟩,hla.size,fun k hk _=>hla.keep k hk (noOwn _ k),fun k _ ho=>absurd ho (noOwnD _ k),Nat.le_refl _,hla.os,hla.tape,hla.output,fun k o hk hs=>(hla.stk k o hk hs).imp_right fun h=>absurd h.1 (noOwn _ k),fun b hb=>⟨hb,fun _=>rfl⟩,fun b ai k z hk=>.inl ⟨ai,z,hk⟩⟩,?_⟩
 ·rw[one b x hb];trivial
 ·rw[one b x h1]at l1;cases l1
 ·rw[one b x hb]at hv;cases hv
 ·rw[one b x hb]at hv;cases hv
 ·cases r with
  |ret v=>
   obtain⟨x,h1,h3⟩:=he;exact⟨x,h1,mY (g:=g1) (g2:={ah:=g.ah,st:=g1.st}) (fun _ _ h=>h) v x hr h3⟩
  |bf v=>
   obtain⟨x,h1,h3⟩:=he;exact⟨x,h1,lY v x hr h3⟩
def uG.apart(c:aA P)(ha:∀x,AVal.aT (c.args x)=true)(hr:∀r,(c.out r).Fp=true)(n:Nat):uG P where
 f:=c.f
 X:=c.X
 args:=c.args
 heap:=fun _=>List.replicate n .dead
 sh:=c.sh
 out:=c.out
 gC:=fun _ _=>List.replicate n .dead
 S:=c.S
 ok:=fun m x r h=>(c.ok m x r h).apart (ha x) (hr r) n
set_option linter.unusedSectionVars false
def Xa(a b:AVal):Prop:=a=b∨(a=.sc (.slice none 0 0)∧b=.aj [])
def Af:List AVal→List AVal→Prop
 | [],[]=>True
 |a::as,b::bs=>Xa a b∧Af as bs
 |_,_=>False
def Ag:List (List AVal)→List (List AVal)→Prop
 | [],[]=>True
 |a::as,b::bs=>Af a b∧Ag as bs
 |_,_=>False
theorem Af.refl:∀l:List AVal,Af l l
 | []=>trivial
 |_::as=>⟨.inl rfl,Af.refl as⟩
theorem Af.length:∀{l l':List AVal},Af l l'→l.length=l'.length
 | [],[],_=>rfl
 |_::_,_::_,h=>by simp[Af.length h.2]
theorem Af.pure:∀{l l':List AVal},Af l l'→AVal.aT l=true→AVal.aT l'=true
 | [],[],_,h=>h
 |a::as,b::bs,h,hp=>by
  simp only[AVal.aT,Bool.and_eq_true]at hp ⊢;refine⟨?_,Af.pure h.2 hp.2⟩;rcases h.1 with rfl |⟨_,rfl⟩
  ·exact hp.1
  ·rfl
theorem Af.rc{g:Gh}{w:World}{k:Nat}:∀{l l':List AVal} {o:Nat},Af l l'→RC g w l k o→RC g w l' k o
 | [],[],_,_,_=>by simp[RC]
 |a::as,b::bs,o,h,hr=>by
  simp only[RC]at hr ⊢;refine⟨⟨hr.1.1,?_⟩,Af.rc h.2 hr.2⟩;obtain⟨y,h1,h2,h3⟩:=hr.1.2;refine⟨y,h1,h2,?_⟩;rcases h.1 with rfl |⟨rfl,rfl⟩
  ·exact h3
  ·simp only[R]at h3 ⊢;exact⟨none,0,by rw[h3];rfl,by simp,.inl rfl⟩
theorem Ag.length:∀{l l':List (List AVal)},Ag l l'→l.length=l'.length
 | [],[],_=>rfl
 |_::_,_::_,h=>by simp[Ag.length h.2]
theorem Ag.rr{g:Gh}{w:World}{k sz:Nat}:∀{l l':List (List AVal)} {o:Nat},Ag l l'→RR g w l k o sz→RR g w l' k o sz
 | [],[],_,_,_=>by simp[RR]
 |a::as,b::bs,o,h,hr=>by
  simp only[RR]at hr ⊢;exact⟨⟨by rw[← h.1.length];exact hr.1.1,h.1.pure hr.1.2.1,h.1.rc hr.1.2.2⟩,Ag.rr h.2 hr.2⟩
theorem Ag.append:∀{l l' m m':List (List AVal)},Ag l l'→Ag m m'→Ag (l++m) (l'++m')
 | [],[],_,_,_,h=>h
 |_::_,_::_,_,_,h,h'=>⟨h.1,Ag.append h.2 h'⟩
theorem Ag.map{α:Type}{e e':α→List AVal}(h:∀a,Af (e a) (e' a)):∀l:List α,Ag (l.map e) (l.map e')
 | []=>trivial
 |a::l=>⟨h a,Ag.map h l⟩
end Go.AM
end
section
namespace Go.AM
section
set_option linter.unusedSectionVars false
variable [aD] {P:Program} {cfg:dL}
end
end Go.AM
end
section
namespace Go.AM
open Go.ChangeMaps (setBlock)
def zx{σ τ:Type}(f:σ→((σ⊕τ)→Prop)→Prop):Nat→σ→(τ→Prop)→Prop
 | 0,_,_=>False
 |n+1,a,q=>f a fun
  | .inl a'=>zx f n a' q
  | .inr t=>q t
section
variable {P:Program} [aD]
def G.can(n:Nat):{ρ:Type}→G P ρ→(ρ→Prop)→Prop
 |_,.stop,_=>False
 |_,.done ts r,p=>aI ts=true∧p r
 |_,.fail,_=>False
 |_,.skip _ g,p=>g.can n p
 |_,.br _ c t f,p=>if c then t.can n p else f.can n p
 |_,.F1 _ _ x c t f,p=>if x=c then t.can n p else f.can n p
 |_,.sp c t f,p=>if c then t.can n p else f.can n p
 |_,.op t k,p=>∃x,t.run=some x∧(k x).can n p
 |_,.call c x k,p=>∃r,c.S n x=some r∧(k r).can n p
 |_,.fK c x k,p=>∃r,c.S n x=some r∧(k r).can n p
 |_,.ax c _ _ _ x k,p=>∃r,c.S n x=some r∧(k r).can n p
 |_,.tidy l g,p=>aI l=true∧g.can n p
 |_,.loop _ hd _ _ a0 body k,p=>aI hd=true∧zx (fun a q=>(body a).can n q) n a0 fun t=>(k t).can n p
 |_,.fL _ g,p=>g.can n p
 |_,.xP _ _ g,p=>g.can n p
 |_,.join _ _ g k,p=>g.can n fun t=>(k t).can n p
 |_,.pick z seen k,p=>((∀i,i<z.n→i∈seen)→(k none).can n p)∧∀i,i<z.n→i∉seen→(k (some i)).can n p
 |_,.inl _ g,p=>g.can n p
theorem G.LB{ρ:Type}(n m:Nat)(g:G P ρ)(p:ρ→Prop):(G.less m g).can n p=g.can n p:=by cases m<;>simp[G.less,G.can]
end
section
set_option linter.unusedSectionVars false
variable [aD] {P:Program} {cfg:dL} {X:Env P}
def Dk(P:Program)[aD](f:FuncId)(args:List AVal)(H:List aa)(Φ:aP→List aa→Prop):Prop:=
 (∃ fn c, P.funcs[f]? = some fn ∧ fn.body = some c ∧ fn.name ≠ "runtime.NumGoroutine") ∧
 ∀g w (vs:Array Value),Inv g H w→RL g w args vs.toList→Calls P f vs w fun e w'=>∃a H1,Φ a H1∧eC g H w a H1 e w'
def Q7(P:Program)[aD](b:Nat)(args:List AVal)(H:List aa)(Φ:aP→List aa→Prop):Prop:=
 ∀g w (vs:Array Value) k sz,Inv g H w→RL g w args vs.toList→g.ah b 0=some (k,sz)→
  ∃rec,w.heap[k]? =some (.loop rec)∧vs.size=rec.params.size∧RoundIn Fence.wide 0 P k rec.fn (nE rec vs) rec.assign rec.body w fun e w'=>∃a H1,Φ a H1∧eC g H w a H1 e w'
structure pX(P:Program)[aD](N:BR P):Prop where
 fn:∀{ρ:Type} {n:Nat} {f:FuncId} {args:List AVal} {H:List aa} {g:G P ρ} {k:G P ρ→aP→List aa→Prop} {p:ρ→Prop},N.fn f args H g k→g.can n p→
  Dk P f args H fun a H1=>∃g',k g' a H1∧g'.can n p
 DF:∀{ρ:Type} {n:Nat} {b:Nat} {args:List AVal} {H:List aa} {g:G P ρ} {k:G P ρ→aP→List aa→Prop} {p:ρ→Prop},N.DF b args H g k→g.can n p→
  Q7 P b args H fun a H1=>∃g',k g' a H1∧g'.can n p
 lp:∀{σ:Type} {sh:Sh} {n:Nat} {ro:Option Nat} {H0:List aa} {b:Code} {g:G P (σ⊕sh.El)} {E:σ→St} {s:St} {Y:sh.El→bu×St} {p:σ⊕sh.El→Prop},N.lp ro H0 b g E s Y→g.can n p→
  ∀fro g0 w0,Inv g0 H0 w0→oV g0 ro fro→eP P fro g0 H0 w0 b s fun o s'=>∃(g':G P (σ⊕sh.El)),qQ H0 E Y g' o s'∧g'.can n p
variable {ops:Array Oper} {n0 nid:Nat} {o:Oper} {s:St}
theorem qB{n:Nat}{ρ:Type}{p:ρ→Prop}:∀{g:G P ρ} {s:St} {k:G P ρ→St→Prop},pI g s k→g.can n p→∃g',k g' s∧g'.can n p
 | .br d c t f,s,k,h,hr=>by
  simp only[pI,pP]at h;obtain⟨hd,h1,h2⟩:=h;have hset:s.A.set d (.sc (.bool c))=s.A:=by
   apply List.ext_getElem?;intro j;by_cases hj:d=j
   ·grind
   ·rw[List.getElem?_set_ne hj]
  cases c with
  |true=>
   rw[hset]at h1;simp only[G.can,if_true]at hr;exact qB h1 hr
  |false=>
   rw[hset]at h2;simp only[G.can,Bool.false_eq_true,if_false]at hr;exact qB h2 hr
 | .F1 d ik x c t f,s,k,h,hr=>by
  simp only[pI,pP]at h;obtain⟨hd,h1,h2⟩:=h;by_cases hx:x=c
  ·subst hx;have hset:s.A.set d (.sc (.int ik x))=s.A:=by
    apply List.ext_getElem?;intro j;by_cases hj:d=j
    ·grind
    ·rw[List.getElem?_set_ne hj]
   rw[hset]at h1;simp only[G.can,if_true]at hr;exact qB h1 hr
  ·simp only[G.can,hx,if_false]at hr;exact qB h2 hr
 | .sp c t f,s,k,h,hr=>by
  simp only[pI]at h;cases c with
  |true=>
   simp only[G.can,if_true]at hr;exact qB h.1 hr
  |false=>
   simp only[G.can,Bool.false_eq_true,if_false]at hr;exact qB h.2 hr
 | .fail,s,k,h,hr=>by simp[G.can]at hr
 | .stop,s,k,h,hr=>by simp[G.can]at hr
 | .done ..,s,k,h,hr=>⟨_,h,hr⟩
 | .skip ..,s,k,h,hr=>⟨_,h,hr⟩
 | .op ..,s,k,h,hr=>⟨_,h,hr⟩
 | .call ..,s,k,h,hr=>⟨_,h,hr⟩
 | .fK ..,s,k,h,hr=>⟨_,h,hr⟩
 | .ax ..,s,k,h,hr=>⟨_,h,hr⟩
 | .tidy ..,s,k,h,hr=>⟨_,h,hr⟩
 | .loop ..,s,k,h,hr=>⟨_,h,hr⟩
 | .fL ..,s,k,h,hr=>⟨_,h,hr⟩
 | .xP ..,s,k,h,hr=>⟨_,h,hr⟩
 | .join ..,s,k,h,hr=>⟨_,h,hr⟩
 | .pick ..,s,k,h,hr=>⟨_,h,hr⟩
 | .inl ..,s,k,h,hr=>⟨_,h,hr⟩
theorem Gx{H0:List aa}{n:Nat}{ρ:Type}{p:ρ→Prop}{g:G P ρ}{s:St}{k:G P ρ→St→Prop}(h:Gv H0 g s k)(hr:g.can n p):∃s' g',iJ H0 s s'∧k g' s'∧g'.can n p:=by
 unfold Gv at h;split at h
 ·grind [G.can,dA]
 ·exact⟨s,g,.refl _ _,h,hr⟩
theorem Po{pr:List Nat}{f:FuncId}{args:List AVal}{ids rs:List Nat}{Φ:aP→List aa→Prop}(hw:kJ ops s.A o=some true)(hx:Gu P cfg pr (dm s.A) o.op s.H=some (.inl f,args,ids,rs))(hfn:Dk P f args (mask ids s.H) Φ)
 {ro:Option Nat} {gg:Gh} {a:Act} {w:World} (hs:eD gg s a w) {i:Nat} (hi:ops[i]? =some o) (hcalm:Calm ro o) {K:Act→World→Prop} {Q:Exit→Act→World→Prop}
 (hK:∀a1 H1,Φ a1 H1→(∃e,eY s.H ids (some (a1,H1))=some (.ok e)∧rX Q K gg s a w (.ok {s with A:=iP s.A o.dst e.val,H:=e.apply s.H}))∨
  (∃v,eY s.H ids (some (a1,H1))=some (.bf v ids)∧rX Q K gg s a w (.bf v {s with H:=ids.foldl (fun H i=>H.set i .dead) s.H}))):wpOpIn (Fr ro) 0 P ops Q i K a w:=by
 unfold wpOpIn;simp only[hi];rw[rW hs hw];simp only[if_true];refine⟨fun _ _=>trivial,?_⟩
 rw[hcalm.semAt];unfold Gu at hx;split at hx
 ·rename_i _ fo as tys hop;split at hx
  ·rename_i n p q hf;split at hx
   ·rename_i fn hfx;split at hx
    ·split at hx
     ·simp only[Option.some.injEq,Prod.mk.injEq,Sum.inl.injEq]at hx;obtain⟨rfl,rfl,rfl,rfl⟩:=hx;have hev:=hs.eval fo;rw[hf]at hev;simp only[R]at hev;obtain⟨va,vb,hfo,l1,l2⟩:=hev;have hl:RL gg w (p++as.toList.map (dm s.A)++q) ((va.toArray++as.map a.eval)++vb.toArray).toList:=by
       simp only[Array.toList_append,Array.toList_map];exact ez (ez l1 (oT hs as)) l2
      obtain⟨⟨fn',c,k1,k2,k3⟩,hcalls⟩:=hfn;have hcalls:=hcalls gg w _ (qu hs.inv _) hl;have hex:(execOp a.eval o).run P w=.ok (.enter n ((va.toArray++as.map a.eval)++vb.toArray)) w:=by
       simp[execOp,hop,resolve,hfo,Deferred.ofValue,invoke,pT k1 k2 k3]
      rw[hex];simp only[Oper.uponIn];refine⟨qv ro,zU (hcalls.mono ?_)⟩;rintro en w' ⟨a1,H1,hΦ,hc⟩;rcases hK a1 H1 hΦ with⟨e,hm,hk⟩ |⟨v,hm,hk⟩
      ·obtain⟨r',H',he,hp⟩:=jA hs.inv hm;simp only[Option.some.injEq,Prod.mk.injEq]at he;obtain⟨rfl,rfl⟩:=he;rcases hp with⟨bw,he,hp⟩ |⟨v',he,_⟩
       ·cases he;obtain⟨x,g',rfl,hi',hr,hla⟩:=hp en w' hc;exact hk g' _ w' ⟨hi',pS (cc hla.ext _ _ hs.tmps) hr o.dst,by rw[put_defers];exact ej hla.ext _ _ hs.defs⟩ hla
       ·cases he
      ·obtain⟨r',H',he,hp⟩:=jA hs.inv hm;simp only[Option.some.injEq,Prod.mk.injEq]at he;obtain⟨rfl,rfl⟩:=he;rcases hp with⟨bw,he,hp⟩ |⟨v',he,hfl,hp⟩
       ·cases he
       ·cases he;obtain⟨x,rfl,hi',hr,hla⟩:=hp en w' hc;exact hk gg w' x hfl ⟨hi',cc hla.ext _ _ hs.tmps,ej hla.ext _ _ hs.defs⟩ hla hr
     ·cases hx
    ·cases hx
   ·cases hx
  ·grind
  ·cases hx
 ·cases hx
theorem MY{pr:List Nat}{b:Nat}{args:List AVal}{ids rs:List Nat}{Φ:aP→List aa→Prop}(hw:kJ ops s.A o=some true)(hx:Gu P cfg pr (dm s.A) o.op s.H=some (.inr b,args,ids,rs))(hfn:Q7 P b args (mask ids s.H) Φ)
 {ro:Option Nat} {gg:Gh} {a:Act} {w:World} (hs:eD gg s a w) {i:Nat} (hi:ops[i]? =some o) (hcalm:Calm ro o) {K:Act→World→Prop} {Q:Exit→Act→World→Prop}
 (hK:∀a1 H1,Φ a1 H1→(∃e,eY s.H ids (some (a1,H1))=some (.ok e)∧rX Q K gg s a w (.ok {s with A:=iP s.A o.dst e.val,H:=e.apply s.H}))∨
  (∃v,eY s.H ids (some (a1,H1))=some (.bf v ids)∧rX Q K gg s a w (.bf v {s with H:=ids.foldl (fun H i=>H.set i .dead) s.H}))):wpOpIn (Fr ro) 0 P ops Q i K a w:=by
 unfold wpOpIn;simp only[hi];rw[rW hs hw];simp only[if_true];refine⟨fun _ _=>trivial,?_⟩
 rw[hcalm.semAt];unfold Gu at hx;split at hx
 ·rename_i _ fo as tys hop;split at hx
  ·grind
  ·rename_i b' hf;split at hx
   ·simp only[Option.some.injEq,Prod.mk.injEq,Sum.inr.injEq]at hx;obtain⟨rfl,rfl,rfl,rfl⟩:=hx;have hev:=hs.eval fo;rw[hf]at hev;simp only[R]at hev;obtain⟨k,sz,hk0,hfo⟩:=hev;have hl:RL gg w (as.toList.map (dm s.A)) (as.map a.eval).toList:=by
     simp only[Array.toList_map];exact oT hs as
    obtain⟨rec,r1,r2,hround⟩:=hfn gg w _ k sz (qu hs.inv _) hl hk0;rw[BO hop hfo r1 r2];simp only[Oper.uponIn];refine⟨qv ro,Gn (hround.mono ?_)⟩;rintro en w' ⟨a1,H1,hΦ,hc⟩;rcases hK a1 H1 hΦ with⟨e,hm,hk⟩ |⟨v,hm,hk⟩
    ·obtain⟨r',H',he,hp⟩:=jA hs.inv hm;simp only[Option.some.injEq,Prod.mk.injEq]at he;obtain⟨rfl,rfl⟩:=he;rcases hp with⟨bw,he,hp⟩ |⟨v',he,_⟩
     ·cases he;obtain⟨x,g',rfl,hi',hr,hla⟩:=hp en w' hc;exact hk g' _ w' ⟨hi',pS (cc hla.ext _ _ hs.tmps) hr o.dst,by rw[put_defers];exact ej hla.ext _ _ hs.defs⟩ hla
     ·cases he
    ·obtain⟨r',H',he,hp⟩:=jA hs.inv hm;simp only[Option.some.injEq,Prod.mk.injEq]at he;obtain⟨rfl,rfl⟩:=he;rcases hp with⟨bw,he,hp⟩ |⟨v',he,hfl,hp⟩
     ·cases he
     ·cases he;obtain⟨x,rfl,hi',hr,hla⟩:=hp en w' hc;exact hk gg w' x hfl ⟨hi',cc hla.ext _ _ hs.tmps,ej hla.ext _ _ hs.defs⟩ hla hr
   ·cases hx
  ·cases hx
 ·cases hx
theorem SZ{z:PK}{seen:List Nat}{it:Operand}(ho:o.op=.next it false)(hw:kJ ops s.A o=some true)(hit:dm s.A it=.ptr z.b 0 0 0)(hb:s.H[z.b]? =some (.iter (.mp z.mb) z.n seen z.n))(hmb:s.H[z.mb]? =some (.map z.n z.es))
 {ro:Option Nat} {gg:Gh} {a:Act} {w:World} (hs:eD gg s a w) {i:Nat} (hi:ops[i]? =some o) (hcalm:Calm ro o) {K:Act→World→Prop} {Q:Exit→Act→World→Prop}
 (h0:(∀i,i<z.n→i∈seen)→rX Q K gg s a w (.ok {s with A:=iP s.A o.dst (.cw [.sc (.bool false)])}))
 (h1:∀i,i<z.n→i∉seen→rX Q K gg s a w (.ok {s with A:=iP s.A o.dst (.cw [.sc (.bool true),.af,.af]),H:=s.H.set z.b (.iter (.mp z.mb) z.n (seen++[i]) z.n)})):wpOpIn (Fr ro) 0 P ops Q i K a w:=by
 unfold wpOpIn;simp only[hi];rw[rW hs hw];simp only[if_true];refine⟨fun _ _=>trivial,?_⟩
 rw[hcalm.semAt];have hev:=hs.eval it;rw[hit]at hev;simp only[R,Nat.zero_mul,Nat.add_zero]at hev;obtain⟨k,sz,hk,hx⟩:=hev;obtain⟨k',mo,q1,q2,q3⟩:=hs.inv.good _ _ hb;rw[hk]at q1;simp only[Option.some.injEq,Prod.mk.injEq]at q1;obtain⟨rfl,rfl⟩:=q1;simp only[R]at q3;obtain⟨k2,z2,q4,q5⟩:=q3;obtain rfl:mo=some k2:=by simpa using q5
 obtain⟨k3,ents,r1,r2,r3⟩:=hs.inv.good _ _ hmb;rw[q4]at r1;simp only[Option.some.injEq,Prod.mk.injEq]at r1;obtain⟨rfl,rfl⟩:=r1;obtain⟨l1,l2⟩:=ow r3;have hborn:∀(j:Nat) e,ents.toList[j]? =some e→e.born=j:=by
  intro j e he;have hj:j<z.es.length:=by rw[l1];exact(List.getElem?_eq_some_iff.1 he).1
  obtain⟨e',f1,-,-,f4⟩:=l2 j z.es[j] (List.getElem?_eq_getElem hj);rw[he]at f1;cases f1;rw[f4,z.pf.2 j _ (List.getElem?_eq_getElem hj)]
 have hlen:ents.toList.length=z.n:=by rw[← l1,z.pf.1]
 have hold:∀x∈ents.toList,x.born<z.n:=by
  intro x hx;obtain⟨j,hj,rfl⟩:=List.getElem_of_mem hx;rw[hborn j _ (List.getElem?_eq_getElem hj)];omega
 have hexec:∀{v:Value} {w':World},(Instr.next (.pointer (some ⟨k,0,none⟩)) false o.type).run P w=.ok v w'→(execOp a.eval o).run P w=.ok (.value v) w':=by
  intro v w' h;simp[execOp,ho,hx,h,Result.andThen]
 rcases run_next_at w o.type k k2 z.n z.n seen.toArray ents z.n q2 r2 hold (Nat.le_refl _)with⟨hsz,hrun⟩ |⟨e,he,w1,hw1,hrun⟩
 ·rw[hexec hrun];simp only[Oper.uponIn];have hall:∀j,j<z.n→j∈seen:=by
   intro j hj;have hj':j<ents.toList.length:=by omega
   have:(leftOf ents seen.toArray)= #[]:=Array.eq_empty_of_size_eq_zero hsz;unfold leftOf at this;rw[Array.filter_eq_empty_iff]at this;have hm:=this ents.toList[j] (by simp)
   rw[hborn j _ (List.getElem?_eq_getElem hj')]at hm;simpa using hm
  have:=h0 hall gg (a.put o.dst (.tuple #[.bool false])) w ⟨hs.inv,pS hs.tmps (by grind [R,RL]) o.dst,by rw[put_defers];exact hs.defs⟩ (aX.refl _ _ _)
  exact this
 ·rw[hexec hrun];simp only[Oper.uponIn];unfold leftOf at he;simp only[Array.toList_filter,List.mem_filter,Bool.not_eq_true',List.contains_toArray]at he;obtain⟨hmem,hns⟩:=he;obtain⟨j,hj,rfl⟩:=List.getElem_of_mem hmem;have hbj:=hborn j _ (List.getElem?_eq_getElem hj);rw[hbj]at hns ⊢;have hns':j∉seen:=by
   intro hin;rw[List.contains_iff_mem.2 hin]at hns;cases hns
  have hheap:w1.heap=w.heap:=by rcases hw1 with rfl |rfl<;>rfl
  have hkl:k<w.heap.size:=(Array.getElem?_eq_some_iff.1 q2).1;obtain⟨i1,i2⟩:=hs.inv.Fh (w':=setBlock w1 k (.mapIter (some k2) z.n (seen.toArray.push j) z.n)) (y:=.iter (.mp z.mb) z.n (seen++[j]) z.n) hb rfl hk rfl
   (fun j' hj'=>by simp only[setBlock,hheap];grind) (by simp[setBlock,hheap])
   (fun j' x hx'=>by
    have hne:j'≠k:=by rintro rfl;simp[World.shape?,q2]at hx'
    simp only[World.shape?,setBlock,hheap,Array.getElem?_setIfInBounds_ne (Ne.symm hne)]at hx' ⊢;exact hx')
   (by rcases hw1 with rfl |rfl<;>rfl) (by rcases hw1 with rfl |rfl<;>exact⟨rfl,by first |exact Nat.le_refl _ |exact Nat.le_succ _⟩) (by rcases hw1 with rfl |rfl<;>rfl)
   (fun hext=>⟨k,some k2,hk,by simp[setBlock,hheap,hkl],by grind [R]⟩)
  exact h1 j (by omega) hns' gg _ _ ⟨i1,pS (cc i2.ext _ _ hs.tmps) (by grind [R,RL]) o.dst,by rw[put_defers];exact ej i2.ext _ _ hs.defs⟩ i2
def Env.still(X:Env P):Env P:={X with N:=uz P}
theorem Q8{ids:List Nat}{H H1:List aa}{a:aP}{k k':cU→List Nat→Bool→Prop}{kp kp':AVal→Prop}(hk:∀e ws nw,k e ws nw→k' e ws nw)(hp:∀v,kp v→kp' v)(h:Eo ids H a H1 k kp):Eo ids H a H1 k' kp':=by
 unfold Eo at h ⊢;split at h
 ·grind [mC]
 grind
theorem LC{ρ:Type}{n:Nat}{f:FuncId}{args:List AVal}{H:List aa}{c:uG P}{x:c.X}{kk:c.sh.El→G P ρ}{k:G P ρ→aP→List aa→Prop}{p:ρ→Prop}(h:O7 P f args H c x kk k)(hr:(G.fK c x kk).can n p):
 Dk P f args H fun a H1=>∃g',k g' a H1∧g'.can n p:=by
 obtain⟨_,he,h⟩:=h;simp only[Option.some.injEq,Prod.mk.injEq]at he;obtain⟨rfl,ha,rfl⟩:=he;obtain⟨q,hq,hr⟩:=hr;have hf:=bz.wk (args:=args) (by rw[ha];exact c.ok n x q hq)
 exact⟨hf.1,fun g w vs hi hl=>(hf.2 g w vs hi hl).mono fun e w' hc=>⟨_,_,⟨kk q,(c.sh.cG _).1 h q,hr⟩,hc⟩⟩
def Fw(X:Env P)(ops:Array Oper)(n0:Nat)(o:Oper)(nid:Nat)(s:St){ρ:Type}(n:Nat)(p:ρ→Prop)(k:G P ρ→ee→gH→Prop):Prop:=
 ∃orc,gI P orc∧∃res f g',eZ P X.cfg orc ops n0 o nid s=some (res,f)∧k g' res f∧g'.can n p
def IM(P:Program)[aD](ops:Array Oper)(o:Oper)(s:St){ρ:Type}(n:Nat)(p:ρ→Prop)(k:G P ρ→ee→gH→Prop):Prop:=
 ∀(ro:Option Nat) (gg:Gh) (a:Act) (w:World),eD gg s a w→∀i,ops[i]? =some o→Calm ro o→∀(K:Act→World→Prop) (Q:Exit→Act→World→Prop),
  (∀g' res f,k g' res f→g'.can n p→rX Q K gg s a w res)→wpOpIn (Fr ro) 0 P ops Q i K a w
theorem Fw.any{ρ:Type}{n:Nat}{p:ρ→Prop}{k:G P ρ→ee→gH→Prop}(h:Fw X ops n0 o nid s n p k):IM P ops o s n p k:=by
 intro ro gg a w hs i hi hcalm K Q hK;obtain⟨orc,ho,res,f,g',hst,hk,hr⟩:=h;grind [qw]
theorem Dl(hNe:pX P X.N){n:Nat}{ρ:Type}{p:ρ→Prop}{g:G P ρ}{draw:Bool}(hz:draw=true→X.N=uz P){H0:List aa}{k:G P ρ→ee→gH→Prop}(h:si P X draw H0 ops n0 o nid g s k)(hr:g.can n p):
 Fw X ops n0 o nid s n p k∨(draw=false∧IM P ops o s n p k):=by
 unfold si at h;split at h
 ·rename_i m g';split at h
  ·rename_i res f hs;exact .inl ⟨wV,tq,res,f,_,hs,h,by rw[G.LB];simpa[G.can]using hr⟩
  ·exact nomatch h
 ·rename_i Y t kk;obtain⟨x,hx,hr⟩:=hr;have h':si P X.still draw H0 ops n0 o nid (.op t (fun x=>.done [] x):G P Y) s (fun g' r f=>∃x,g'=.done [] x∧k (kk x) r f):=by
   refine⟨h.1,h.2.1,fun x=>?_⟩
   have:=h.2.2 x;simp only[mC,iF,fm]at this ⊢;exact⟨x,rfl,this⟩
  obtain⟨orc,ho,res,f,g',hs,⟨x',rfl,hk⟩,hr'⟩:=l5 (X:=X.still) (n:=n) (r:=x) wZ h' (by simp[G.run,hx,aI])
  obtain rfl:x'=x:=by simpa[G.run,aI]using hr'
  exact .inl ⟨orc,ho,res,f,_,hs,hk,hr⟩
 ·rename_i c x kk;obtain⟨q,hx,hr⟩:=hr;have h':si P X.still draw H0 ops n0 o nid (.call c x (fun q=>.done [] q):G P c.sh.El) s (fun g' r f=>∃x,g'=.done [] x∧k (kk x) r f):=by
   refine⟨h.1,h.2.1,(c.sh.cG _).2 fun q=>?_⟩
   have:=(c.sh.cG _).1 h.2.2 q;simp only[Env.still];split at this
   ·exact⟨q,rfl,this⟩
   ·exact nomatch this
  obtain⟨orc,ho,res,f,g',hs,⟨x',rfl,hk⟩,hr'⟩:=l5 (X:=X.still) (n:=n) (r:=q) wZ h' (by simp[G.run,hx,aI])
  obtain rfl:x'=q:=by simpa[G.run,aI]using hr'
  exact .inl ⟨orc,ho,res,f,_,hs,hk,hr⟩
 ·rename_i c x kk;obtain⟨q,hx,hr⟩:=hr;have h':si P X.still draw H0 ops n0 o nid (.fK c x (fun q=>.done [] q):G P c.sh.El) s (fun g' r f=>∃x,g'=.done [] x∧k (kk x) r f):=by
   refine⟨h.1,h.2.1,(c.sh.cG _).2 fun q=>?_⟩
   have:=(c.sh.cG _).1 h.2.2 q;simp only[Env.still];split at this
   ·exact⟨q,rfl,this⟩
   ·exact nomatch this
  obtain⟨orc,ho,res,f,g',hs,⟨x',rfl,hk⟩,hr'⟩:=l5 (X:=X.still) (n:=n) (r:=q) wZ h' (by simp[G.run,hx,aI])
  obtain rfl:x'=q:=by simpa[G.run,aI]using hr'
  exact .inl ⟨orc,ho,res,f,_,hs,hk,hr⟩
 ·rename_i c b v ex x kk;obtain⟨q,hx,hr⟩:=hr;have h':si P X.still draw H0 ops n0 o nid (.ax c b v ex x (fun q=>.done [] q):G P c.sh.El) s (fun g' r f=>∃x,g'=.done [] x∧k (kk x) r f):=by
   refine⟨h.1,h.2.1,h.2.2.1,(c.sh.cG _).2 fun q=>?_⟩
   have:=(c.sh.cG _).1 h.2.2.2 q;simp only[Env.still];split at this
   ·grind
   ·exact⟨q,rfl,this⟩
  obtain⟨orc,ho,res,f,g',hs,⟨x',rfl,hk⟩,hr'⟩:=l5 (X:=X.still) (n:=n) (r:=q) wZ h' (by simp[G.run,hx,aI])
  obtain rfl:x'=q:=by simpa[G.run,aI]using hr'
  exact .inl ⟨orc,ho,res,f,_,hs,hk,hr⟩
 ·rename_i pr g';obtain⟨hw,hpr,hc⟩:=h;simp only[G.can]at hr;cases draw with
  |true=>
   rw[hz rfl]at hc;split at hc
   ·rename_i f args ids rs hx;simp only[cO,uz]at hc;split at hc
    ·rename_i c x kk;obtain⟨q,hq,hr⟩:=hr;have h':si P X.still true H0 ops n0 o nid (.inl pr (.fK c x (fun q=>.done [] q)):G P c.sh.El) s (fun g' r f=>∃x,g'=.done [] x∧k (kk x) r f):=by
      refine⟨hw,hpr,?_⟩;simp only[Env.still,hx,cO,uz];refine⟨hc.1,hc.2.1,(c.sh.cG _).2 fun q=>?_⟩
      refine Q8 (fun e ws nw hk=>?_) (fun v hk=>?_) ((c.sh.cG _).1 hc.2.2 q)
      ·grind
      ·exact⟨q,rfl,hk⟩
     obtain⟨orc,ho,res,f,g',hs,⟨x',rfl,hk⟩,hr'⟩:=l5 (X:=X.still) (n:=n) (r:=q) wZ h' (by simp[G.run,hq,aI])
     obtain rfl:x'=q:=by simpa[G.run,aI]using hr'
     exact .inl ⟨orc,ho,res,f,_,hs,hk,hr⟩
    ·exact hc.elim
   ·grind [cO,uz]
   ·exact nomatch hc
  |false=>
   refine .inr ⟨rfl,?_⟩;intro ro gg a w hs i hi hcalm K Q hK;split at hc
   ·rename_i f args ids rs hx;simp only[cO]at hc;refine Po hw hx (hNe.fn hc hr) hs hi hcalm fun a1 H1 ⟨g2,hk,hr2⟩=>?_
    grind [wX,iF,fm]
   ·rename_i b args ids rs hx;simp only[cO]at hc;refine MY hw hx (hNe.DF hc hr) hs hi hcalm fun a1 H1 ⟨g2,hk,hr2⟩=>?_
    grind [wX,iF,fm]
   ·exact nomatch hc
 ·rename_i z seen kk;cases draw with
  |true=>exact h.elim
  |false=>
   refine .inr ⟨rfl,?_⟩;simp only[G.can]at hr;simp only at h;split at h
   ·rename_i it hop;obtain⟨hw,hit,hb,hmb,h0,h1⟩:=h;intro ro gg a w hs i hi hcalm K Q hK;simp only[iF]at h0;refine SZ hop hw hit hb hmb hs hi hcalm (fun hall=>hK _ _ _ h0 (hr.1 hall)) fun j hj hn=>?_
    have:=h1 j;grind [iF,fm,cU.apply]
   ·exact h.elim
 ·exact hr.elim
 ·exact nomatch h
 ·exact nomatch h
theorem Q9(hNe:pX P X.N)(hz:X.N=uz P){n:Nat}{ρ:Type}{p:ρ→Prop}{g:G P ρ}{H0:List aa}{k:G P ρ→ee→gH→Prop}(h:zq P X true H0 ops n0 o nid g s k)(hr:g.can n p):
 Fw X ops n0 o nid s n p k:=by
 unfold zq at h;grind [Dl]
theorem LD(hNe:pX P X.N)(hz:X.N=uz P){n:Nat}{ρ:Type}{p:ρ→Prop}{H0:List aa}:∀(l:List (Oper×Nat)) (i:Nat) (g:G P ρ) (s:St) (k:G P ρ→ee→List gH→Prop),BS P X true H0 ops n0 l g s k→g.can n p→
 ∃orcs:Nat→kr,(∀j,gI P (orcs j))∧∃res fs g',lW P X.cfg orcs ops n0 i l s=some (res,fs)∧k g' res fs∧g'.can n p
 | [],i,g,s,k,h,hr=>⟨fun _=>wV,fun _=>tq,.ok s,[],g,rfl,h,hr⟩
 | (o,nid)::rest,i,g,s,k,h,hr=>by
  simp only[BS]at h;obtain⟨g1,h,hr⟩:=qB h hr;obtain⟨orc,ho,res,f,g2,hs,h,hr⟩:=Q9 hNe hz h hr;cases res with
  |ok s'=>
   obtain⟨A,H,D⟩:=s';simp only[dz]at h;obtain⟨orcs,hos,res,fs,g3,hrun,hk,hr⟩:=LD hNe hz rest (i+1) g2 _ _ h hr;refine⟨fun j=>if j=i then orc else orcs j,fun j=>(by grind:gI P (if j=i then orc else orcs j)),res,f::fs,g3,?_,hk,hr⟩
   grind [lW,Aa]
  |bf v s'=>
   exact⟨fun _=>orc,fun _=>ho,.bf v s',[f],g2,by simp only[lW,hs],h,hr⟩
theorem MZ(hNe:pX P X.N)(hz:X.N=uz P){n:Nat}{ρ:Type}{p:ρ→Prop}{H0:List aa}{g:G P ρ}{s:St}{k:G P ρ→ee→Prop}(h:tn P X H0 ops true g s k)(hr:g.can n p):
 ∃orcs:Nat→kr,(∀j,gI P (orcs j))∧∃res g',u6 P X.cfg orcs ops true s=some res∧k g' res∧g'.can n p:=by
 simp only[tn,gY,rS]at h;obtain⟨orcs,ho,res,fs,g',hrun,hk,hr⟩:=LD hNe hz _ 0 _ _ _ h hr;refine⟨orcs,ho,?_⟩;simp only[u6,gY,rS,hrun];grind
theorem Ra(hNe:pX P X.N){n:Nat}{ρ:Type}{p:ρ→Prop}{g:G P ρ}{H0:List aa}{k:G P ρ→ee→gH→Prop}(h:zq P X false H0 ops n0 o nid g s k)(hr:g.can n p):
 ∃s2,iJ H0 s s2∧IM P ops o s2 n p k:=by
 unfold zq at h;split at h
 ·rename_i l g';simp only[G.can]at hr;obtain⟨s',hw,h⟩:=dA hr.1 h;refine⟨s',hw,?_⟩;rcases Dl hNe (fun e=>by cases e) h hr.2 with h |⟨_,h⟩
  ·exact h.any
  ·exact h
 ·refine⟨s,.refl _ _,?_⟩;rcases Dl hNe (fun e=>by cases e) h hr with h |⟨_,h⟩
  ·exact h.any
  ·exact h
theorem LF(hNe:pX P X.N){n:Nat}{ρ:Type}{p:ρ→Prop}{H0:List aa}:∀(l:List (Oper×Nat)) (i:Nat) (g:G P ρ) (s:St) (k:G P ρ→ee→List gH→Prop),BS P X false H0 ops n0 l g s k→g.can n p→
 (∀(j:Nat),(l[j]?).map (fun(p:Oper×Nat)=>p.1)=(ops.toList.drop i)[j]?)→
 ∀(fro:Option Nat),(∀(k:Nat) (o:Oper),ops[k]? =some o→Calm fro o)→∀(gg:Gh) (ww:World) (Q:Exit→Act→World→Prop),Inv gg H0 ww→∀(g1:Gh) (a:Act) (w:World),eD g1 s a w→aX gg H0 ww g1 s.H w→
  (∀g' res fs,k g' res fs→g'.can n p→rj Q gg H0 ww res)→wpOpsIn (Fr fro) 0 P ops Q (List.range' i l.length) a w
 | [],i,g,s,k,h,hr,_=>fun _ _ _ _ _ _ g1 a w hs hl hp=>hp g (.ok s) [] h hr g1 a w hs hl
 | (o,nid)::rest,i,g,s,k,h,hr,hj=>by
  intro fro hcalm gg ww Q hi0 g1 a w hs hl hp;have hi:ops[i]? =some o:=by
   have:=hj 0;simp at this;exact this.symm
  simp only[BS]at h;obtain⟨g',h,hr⟩:=qB h hr;obtain⟨s2,hw2,hany⟩:=Ra hNe h hr;simp only[List.length_cons,List.range'_succ,wpOpsIn_cons];obtain⟨g2,hs2,hl2⟩:=hw2 gg ww g1 a w hi0 hl hs;refine hany fro g2 a w hs2 i hi (hcalm i o hi) _ Q fun g3 res f hk hr3=>?_
  cases res with
  |ok s'=>
   obtain⟨A,H,D⟩:=s';simp only[dz]at hk;intro g5 a' w' hs' hla;exact LF hNe rest (i+1) g3 ⟨A,H,D⟩ _ hk hr3 (fun j=>by
    have:=hj (j+1);grind) fro hcalm gg ww Q hi0 g5 a' w' hs' (hl2.trans hla) (fun g' res fs h1 h2=>hp g' res _ h1 h2)
  |bf v s'=>exact fun g' w' x hv hs' hla hx=>hp g3 (.bf v s') _ hk hr3 g' a w' x hv hs' (hl2.trans hla) hx
theorem M0(hNe:pX P X.N){H0:List aa}{n:Nat}{ρ:Type}{p:ρ→Prop}{id:Nat}{g:G P ρ}{s:St}{k:G P ρ→ee→Prop}(h:tn P X H0 ops false g s k)(hr:g.can n p):
 ∀(fro:Option Nat),(∀(k:Nat) (o:Oper),ops[k]? =some o→Calm fro o)→∀(gg:Gh) (ww:World),Inv gg H0 ww→eP P fro gg H0 ww (.region id ops false) s fun o s'=>∃g' res,k g' res∧g'.can n p∧o=(Fo res).1∧s'=(Fo res).2:=by
 intro fro hcalm gg ww hi0 Q g1 a w hs hl hp;simp only[tn,gY,rS]at h;generalize (if nD ops.toList=0 then 0 else qq s.H)=t0 at h
 generalize nD ops.toList - t0=m0 at h;generalize s.H.length - t0=f0 at h;obtain⟨i1,i2⟩:=hs.inv.reserve m0;have hs0:eD g1 {s with H:=s.H++List.replicate m0 .aZ} a w:=⟨i1,hs.tmps,hs.defs⟩;refine wpIn_region ?_;rw[List.range_eq_range'];have:=LF hNe _ 0 _ _ _ h hr (fun j=>by rw[rZ];simp) fro hcalm gg ww Q hi0 g1 a w hs0 (hl.trans i2) (fun g' res fs hk hr'=>by
  simp only[Bool.not_false,if_true]at hk;have:=hp _ _ ⟨g',res,hk,hr',rfl,rfl⟩;cases res with
  |ok s'=>exact this
  |bf v s'=>exact this)
 grind [sg]
theorem Rb{f:FuncId}{pa qa:List AVal}{l:Nat}{H1:List aa}{D1:List tJ}{ids:List Nat}{Φ:aP→List aa→Prop}{ro fro:Option Nat}{fid:FuncId}{x:Operand}{ps:Array Tmp}{assign body:Code}{s:St}{gg:Gh}{a:Act}{w:World}{Q:Exit→Act→World→Prop}
 (hro:oV gg ro fro) (hf:dm s.A x=.fn (.func f) pa qa) (hen:Ee ro fid ps assign body s=some (l,H1,D1)) (hfn:Dk P f (pa++[.jd l]++qa) (mask ids H1) Φ) (hs:eD gg s a w)
 (hK:∀a1 H2,Φ a1 H2→(∃e out s',eY H1 ids (some (a1,H2))=some (.ok e)∧K5 l D1 s (e.apply H1)=some (out,s')∧eO Q gg s.H w s' out)∨
  (∃v,eY H1 ids (some (a1,H2))=some (.bf v ids)∧eO Q gg s.H w {s with H:=ids.foldl (fun H i=>H.set i .dead) H1,D:=D1} (.bf v))):(Code.rangeFunc x ps assign body).wpIn (Fr fro) 0 P Q a w:=by
 have hev:=hs.eval x;rw[hf]at hev;refine wpIn_rangeFunc fun fn _=>?_
 obtain⟨k,mark,w1,g1,hrun,i1,l1,rk,hd⟩:=FT (P:=P) hro hs hen fn;have hev1:=qN l1.ext _ _ hev;simp only[R]at hev1;obtain⟨va,vb,hfo,ra,rb⟩:=hev1;have hl:RL g1 w1 (pa++[.jd l]++qa) ((va.toArray++ #[Value.func (.yield k) #[] #[]])++vb.toArray).toList:=by
  simp only[Array.toList_append];refine ez (ez (by simpa using ra) ?_) (by simpa using rb)
  simp only[RL,R];exact⟨_,_,rfl,⟨k,0,rk,rfl⟩,rfl⟩
 have ht:=cc l1.ext _ _ hs.tmps;obtain⟨⟨fn1,c1,k1,k2,k3⟩,hcalls⟩:=hfn;have hcalls:=hcalls g1 w1 _ (qu i1 _) hl;refine⟨k,mark,w1,{target:=.fn (.func f) vb.toArray,args:=va.toArray++ #[Value.func (.yield k) #[] #[]]},w1,f,(va.toArray++ #[Value.func (.yield k) #[] #[]])++vb.toArray,w1,hrun,?_,fun _ _=>trivial,?_,qv fro,zU ?_⟩
 ·have hc:a.eval (.const (.func (.yield k) #[] #[]))=.func (.yield k) #[] #[]:=rfl;simp[resolve,hfo,Deferred.ofValue,hc]
 ·simp[invoke,pT k1 k2 k3]
 ·refine hcalls.mono ?_;rintro e w' ⟨a1,H2,hΦ,hc⟩;rcases hK a1 H2 hΦ with⟨ef,out,s',hm,hend,hpost⟩ |⟨v,hm,hpost⟩
  ·obtain⟨r',H',he,hp⟩:=jA i1 hm;simp only[Option.some.injEq,Prod.mk.injEq]at he;obtain⟨rfl,rfl⟩:=he;rcases hp with⟨bw,he,hp⟩ |⟨v',he,_⟩
   ·cases he;obtain⟨y,g',rfl,hi',_,hla⟩:=hp e w' hc;exact Jx (a:={a with defers:=mark++a.defers}) (hla.ext.ah _ _ _ rk) hi' (cc hla.ext _ _ ht) (ej hla.ext _ _ hd) hend (hpost.later (l1.trans hla))
   ·cases he
  ·obtain⟨r',H',he,hp⟩:=jA i1 hm;simp only[Option.some.injEq,Prod.mk.injEq]at he;obtain⟨rfl,rfl⟩:=he;rcases hp with⟨bw,he,hp⟩ |⟨v',he,hfl,hp⟩
   ·cases he
   ·cases he;obtain⟨y,rfl,hi',hr,hla⟩:=hp e w' hc;exact hpost g1 {a with defers:=mark++a.defers} w' y hfl ⟨hi',cc hla.ext _ _ ht,ej hla.ext _ _ hd⟩ (l1.trans hla) hr
def Comes(P:Program)[aD](ro:Option Nat)(H0:List aa)(c:Code)(s:St){ρ:Type}(n:Nat)(p:ρ→Prop)(k:G P ρ→bu→St→Prop):Prop:=
 ∀fro g0 w0,Inv g0 H0 w0→oV g0 ro fro→eP P fro g0 H0 w0 c s fun o s'=>∃g',k g' o s'∧g'.can n p
theorem Comes.weak{ro:Option Nat}{H0:List aa}{c:Code}{s s1:St}{ρ:Type}{n:Nat}{p:ρ→Prop}{k:G P ρ→bu→St→Prop}(hw:iJ H0 s s1)(h:Comes P ro H0 c s1 n p k):Comes P ro H0 c s n p k:=
 fun fro g0 w0 hi hro=>.weak hi hw (h fro g0 w0 hi hro)
theorem eP.post'{fro:Option Nat}{g0:Gh}{H0:List aa}{w0:World}(hi0:Inv g0 H0 w0){c:Code}{s:St}{Φ Ψ:bu→St→Prop}(h:eP P fro g0 H0 w0 c s Φ)(hw:∀o s1,Φ o s1→∃s2,iJ H0 s1 s2∧Ψ o s2):eP P fro g0 H0 w0 c s Ψ:=
 fun Q g a w hs hl hk=>h Q g a w hs hl fun o' s' hf=>let⟨_,h1,h2⟩:=hw o' s' hf;eO.weak hi0 h1 (hk _ _ h2)
theorem JG{H0:List aa}{sh:Sh}{Y:sh.El→bu×St}{n:Nat}{g:G P sh.El}{o:bu}{s:St}{q:sh.El→Prop}(h:Fu H0 Y g o s)(hr:g.can n q):∃s' t,iJ H0 s s'∧(o,s')=Y t∧q t:=by
 unfold Fu at h;split at h
 ·rename_i ts t';obtain⟨hok,hq⟩:=hr;grind [dA]
 ·exact hr.elim
 ·exact nomatch h
theorem Rc{n:Nat}{σ:Type}{sh:Sh}{H0:List aa}{E:σ→St}{Y:sh.El→bu×St}{g:G P (σ⊕sh.El)}{o:bu}{s:St}{q:σ⊕sh.El→Prop}(h:qQ H0 E Y g o s)(hr:g.can n q):
 ∃s' v,q v∧iJ H0 s s'∧match v with | .inl a=>o=.normal∧s'=E a | .inr t=>o≠ .normal∧(o,s')=Y t:=by
 unfold qQ at h;split at h
 ·rename_i ts a;obtain⟨hok,hq⟩:=hr;grind [dA]
 ·rename_i ts t;obtain⟨hok,hq⟩:=hr;grind [dA]
 ·exact hr.elim
 ·exact nomatch h
theorem Re(hNe:pX P X.N){H0:List aa}{n:Nat}{σ:Type}{sh:Sh}{b:Code}{E:σ→St}{s:St}{Y:sh.El→bu×St}{p:σ⊕sh.El→Prop}{f:G P (σ⊕sh.El)→Prop}
 (ih:∀g,f g→g.can n p→Comes P X.ro H0 b s n p (qQ H0 E Y)) {g:G P (σ⊕sh.El)} (h:Ho X.N X.ro H0 b E s Y g f) (hr:g.can n p):
 Comes P X.ro H0 b s n p (qQ H0 E Y):=by
 unfold Ho at h;split at h
 ·exact hNe.lp h hr
 ·exact ih _ h hr
theorem Cv(hm:P.follows .mixedOrders=true)(hNe:pX P X.N)(hnd:X.nd=true){H0:List aa}{n:Nat}:∀(c:Code) {ρ:Type} (p:ρ→Prop) (g:G P ρ) (s:St) (k:G P ρ→bu→St→Prop),jP P X H0 c g s k→g.can n p→Comes P X.ro H0 c s n p k:=by
 have hat:X.at true=X.still:=by simp[Env.at,hnd,Env.still]
 have hst:pX P X.still.N:=by
  refine⟨fun h hr=>?_,fun h=>h.elim,fun h=>h.elim⟩
  simp only[Env.still,uz]at h;split at h
  ·exact LC h hr
  ·exact h.elim
 intro c;induction c with
 |skip=>intro ρ p g s k h hr fro g0 w0 _ _;exact .skip ⟨g,h,hr⟩
 |region id ops draw=>
  intro ρ p g s k h hr;simp only[jP]at h;split at h
  ·exact h.elim
  rename_i hoff;obtain⟨s1,g1,hw,h,hr⟩:=Gx h hr;refine .weak hw ?_;cases draw with
  |false=>
   intro fro g0 w0 hi hro;refine(M0 (X:=X) hNe (id:=id) h hr fro (wY hro hoff) g0 w0 hi).mono ?_;rintro o s' ⟨g',res,hk,hr',rfl,rfl⟩;cases res with
   |ok s'=>exact⟨g',hk,hr'⟩
   |bf v s'=>exact⟨g',hk,hr'⟩
  |true=>
   rw[hat]at h;obtain⟨orcs,ho,res,g',hreg,h,hr⟩:=MZ hst rfl h hr;intro fro g0 w0 hi hro;cases res with
   |ok s'=>exact .region hm ho (wY hro hoff) hreg ⟨g',h,hr⟩
   |bf v s'=>exact .region hm ho (wY hro hoff) hreg ⟨g',h,hr⟩
 |seq a b iha ihb=>
  intro ρ p g s k h hr fro g0 w0 hi hro;simp only[jP]at h;refine .seq ((iha p g s _ h hr fro g0 w0 hi hro).mono ?_);rintro o s' ⟨g1,h1,hr1⟩;cases o with
  |normal=>exact ihb p g1 s' k h1 hr1 fro g0 w0 hi hro
  |exit id=>exact⟨g1,h1,hr1⟩
  |ret=>exact⟨g1,h1,hr1⟩
  |bf v=>exact⟨g1,h1,hr1⟩
 |cond c a b iha ihb=>
  have main:∀{ρ:Type} (p:ρ→Prop) (g:G P ρ) (s:St) (k:G P ρ→bu→St→Prop),Fv P X H0 c a b (fun g s k=>jP P X H0 a g s k) (fun g s k=>jP P X H0 b g s k) g s k→g.can n p→Comes P X.ro H0 (.cond c a b) s n p k:=by
   intro ρ p g s k h hr;unfold Fv at h;obtain⟨s1,g1,hw,h,hr⟩:=Gx h hr;obtain⟨g1,h,hr⟩:=qB h hr;refine .weak hw ?_;split at h
   ·rename_i m g2;have hr2:(G.less m g2).can n p:=by rw[G.LB];simpa[G.can]using hr
    split at h
    ·rename_i hc;exact fun fro g0 w0 hi hro=>.cond true hc (iha p _ _ k h hr2 fro g0 w0 hi hro)
    ·rename_i hc;exact fun fro g0 w0 hi hro=>.cond false hc (ihb p _ _ k h hr2 fro g0 w0 hi hro)
    ·exact h.elim
   ·exact hr.elim
   ·exact nomatch h
  intro ρ p g s k h hr;simp only[jP]at h;split at h
  ·rename_i sh Y g1 kk;intro fro g0 w0 hi hro;refine(main _ g1 s _ h.1 hr fro g0 w0 hi hro).post' hi ?_;rintro o s1 ⟨g',hj,hr'⟩;obtain⟨s2,t,hw,e,hq⟩:=JG hj hr';have e1:o=(Y t).1:=congrArg Prod.fst e;have e2:s2=(Y t).2:=congrArg Prod.snd e;refine⟨s2,hw,kk t,?_,hq⟩;rw[e1,e2];exact(sh.cG _).1 h.2 t
  ·exact main p g s k h hr
 |block id b ih=>
  have main:∀{ρ:Type} (p:ρ→Prop) (g:G P ρ) (s:St) (k:G P ρ→bu→St→Prop),jP P X H0 b g s (Cr id k)→g.can n p→Comes P X.ro H0 (.block id b) s n p k:=by
   intro ρ p g s k h hr fro g0 w0 hi hro;refine .block ((ih p g s _ h hr fro g0 w0 hi hro).mono ?_);rintro o s' ⟨g',h1,hr'⟩;refine⟨g',?_,hr'⟩;unfold Cr at h1;cases o with
   |exit id'=>
    grind [behind]
   |normal=>exact h1
   |ret=>exact h1
   |bf v=>exact h1
  intro ρ p g s k h hr;simp only[jP]at h;split at h
  ·rename_i sh Y g1 kk;intro fro g0 w0 hi hro;refine(main _ g1 s _ h.1 hr fro g0 w0 hi hro).post' hi ?_;rintro o s1 ⟨g',hj,hr'⟩;obtain⟨s2,t,hw,e,hq⟩:=JG hj hr';have e1:o=(Y t).1:=congrArg Prod.fst e;have e2:s2=(Y t).2:=congrArg Prod.snd e;refine⟨s2,hw,kk t,?_,hq⟩;rw[e1,e2];exact(sh.cG _).1 h.2 t
  ·exact main p g s k h hr
 |loop b ih=>
  intro ρ p g s k h hr;simp only[jP]at h;split at h
  ·rename_i m g1;simp only[G.can]at hr;intro fro g0 w0 hi hro;refine .loop hi (n:=m) (s0:=s) (fun m s=>∃g,Ft (fun g s k=>jP P X H0 b g s k) m g s k∧g.can n p) (fun s ⟨g,h,_⟩=>h.elim) (.refl _ _) ⟨g1,h,hr⟩ ?_
   rintro m s1 ⟨g2,h2,hr2⟩;simp only[Ft]at h2;refine(ih p g2 s1 _ h2 hr2 fro g0 w0 hi hro).mono ?_;rintro o s3 ⟨g3,h3,hr3⟩;refine⟨s3,.refl _ _,?_⟩;grind
  ·rename_i σ sh hd E Y a0 body kk;obtain⟨h0,hb,hx⟩:=h;obtain⟨hok,hr⟩:=hr;have hx:=(sh.cG _).1 hx;obtain⟨_,h0,rfl⟩:=dA hok h0;intro fro g0 w0 hi hro;refine .loop hi (n:=n) (s0:=E a0) (fun m s1=>∃a,s1=E a∧zx (fun a q=>(body a).can n q) m a fun t=>(kk t).can n p) (fun s ⟨a,_,h⟩=>by simp[zx]at h) h0 ⟨a0,rfl,hr⟩ ?_
   rintro m s1 ⟨a,rfl,hit⟩;simp only[zx]at hit;refine(Re hNe (fun g h hr=>ih _ g (E a) _ h hr) (hb a) hit fro g0 w0 hi hro).mono ?_
   grind [Rc]
  ·exact hr.elim
  ·exact nomatch h
 |exit id=>intro ρ p g s k h hr fro g0 w0 _ _;exact .exit ⟨g,h,hr⟩
 |ret=>intro ρ p g s k h hr fro g0 w0 _ _;exact .ret ⟨g,h,hr⟩
 |rangeFunc x ps as bd=>
  intro ρ p g s k h hr;simp only[jP]at h;obtain⟨s1,g1,hw,h,hr⟩:=Gx h hr;refine .weak hw ?_;split at h
  ·rename_i pr g2;obtain⟨_,h⟩:=h;simp only[G.can]at hr;split at h
   ·rename_i f pa qa hf;split at h
    ·rename_i l H1 D1 hen;rw[dz]at h;obtain⟨hpr,h⟩:=h;split at h
     ·rename_i ids rs hcl;simp only[cO]at h;have hfn:=hNe.fn h hr;intro fro g0 w0 hi hro Q g a w hs hl hp;refine Rb (hro.mono hl.ext) hf hen hfn hs ?_;rintro a1 H2 ⟨g3,hk,hr3⟩;rcases wX hk with⟨e,hmg,hk⟩ |⟨v,hmg,hk⟩
      ·simp only[fm]at hk;split at hk
       ·rename_i out s' hend;exact .inl ⟨e,out,s',hmg,hend,(hp _ _ ⟨g3,hk,hr3⟩).later hl⟩
       ·exact hk.elim
      ·exact .inr ⟨v,hmg,(hp _ _ ⟨g3,hk,hr3⟩).later hl⟩
     ·exact h.elim
    ·exact h.elim
   ·exact h.elim
  ·exact hr.elim
  ·exact nomatch h
 |_=>intro ρ p g s k h hr;exact h.elim
theorem eC.trim{g:Gh}{w w':World}{e:Ending}{H H1:List aa}{a:aP}{pr:List Nat}(hi:Inv g H w)(h:eC g H w a H1 e w')(hpan:∀v,a=.bf v→v.flat=true)(ha:a.gD H.length=true)(hl:BT pr H.length 0 (H1.take H.length)=true)
 (hp:∀i,pr.contains i=true→∃x,H1[i]? =some x∧vN x=true):eC g H w a (H1.take H.length) e w':=by
 obtain⟨g1,hi1,hla,he⟩:=h;have hlen:(H1.take H.length).length=H.length:=by rw[List.length_take];have:=hla.len;omega
 have hK:H1.take H.length++H1.drop H.length=H1:=List.take_append_drop _ _;obtain⟨i1,i2⟩:=Inv.drop (n:=H.length) (K:=H1.take H.length) (L:=H1.drop H.length) hi (by rw[hK];exact hi1) (by rw[hK];exact hla) hlen rfl fun b x hx=>.inl (by
  rcases Gw hl b x hx with hc |hc
  ·grind [Be,vG,lZ,um]
  ·exact hc)
 refine⟨g1.upto H.length,i1,i2,?_⟩;cases a with
 |ret v=>
  obtain⟨x,rfl,hx⟩:=he;exact⟨x,rfl,ox (n:=H.length) (g:=g1) (g2:=g1.upto H.length) (fun _ _ h=>h) (fun b ai x hb he=>by grind [Gh.upto]) v x ha hx⟩
 |bf v=>
  obtain⟨x,rfl,hx⟩:=he;exact⟨x,rfl,lY v x (hpan v rfl) hx⟩
theorem Dk.of(hm : P.follows .mixedOrders = true)(hN : ∀ (f : FuncId) (fn : Func), P.funcs[f]? = some fn → fn.name ≠ "runtime.NumGoroutine"){L : Nat}{f : FuncId}{fn : Func}{c : Code}{args : List AVal}{H0 : List aa}{Θ : bu → St → Prop}{Φ : aP → List aa → Prop}
 (hf:P.funcs[f]? =some fn) (hb:fn.body=some c) (hd:∀g0 w0,Inv g0 H0 w0→eP P none g0 H0 w0 c ⟨lX fn.ntmps args,H0,[]⟩ Θ)
 (hΘ:∀o s,Θ o s→∃s' a H1,iJ H0 s s'∧pV P cfg L fn o s'=some (a,H1)∧∃a' H1',Φ a' H1'∧∀g w e w',Inv g H0 w→eC g H0 w a H1 e w'→eC g H0 w a' H1' e w'):Dk P f args H0 Φ:=by
 refine⟨⟨fn,c,hf,hb,hN f fn hf⟩,fun gh w vs hi hl=>callsIn_wide.1 (callsIn_of_wp_marks (F:=Fr none) (n:=0) hf hb trivial ?_)⟩
 have hsim:eD gh ⟨lX fn.ntmps args,H0,[]⟩ {tmps:=vs++Array.replicate (fn.ntmps - vs.size) undef,defers:=[]} w:=⟨hi,wU hl _,rfl⟩;refine hd gh w hi _ gh _ w hsim (aX.refl _ _ _) fun o1 s1 ht=>?_
 obtain⟨s',a,H1,hwk,hlo,a',H1',hΦ,hcv⟩:=hΘ o1 s1 ht;refine eO.weak hi hwk ?_;have key:∀(m:Option AVal) (u:FrameMode),zu P cfg L fn m s'=some (a,H1)→∀g' a0 w',eD g' s' a0 w'→aX gh H0 w g' s'.H w'→oA g' w' m u→
  LeavesInM (Fr none) 0 P fn a0.tmps (fun e w'=>∃a H1,Φ a H1∧eC gh H0 w a H1 e w') a0.defers u w':=by
  intro m u hla g' a0 w' hs' hlat hmo;obtain⟨m',H',rr,h1,h2,h3,h4⟩:=JE hla;refine k9 ?_ (lP hm hN tq s'.D a0.defers m u s'.H g' w' m' H' hs'.defs hs'.inv hs'.tmps hmo h1 h2 hlat);rintro e w2 ⟨g2,hi2,hla2,he2⟩;refine⟨a',H1',hΦ,hcv gh w e w2 hi ⟨g2,hi2,hla2,?_⟩⟩;cases rr with
  |ret v=>rw[h3 v rfl];obtain⟨x,rfl,hx⟩:=he2;exact⟨x,rfl,Hj _ _ hx⟩
  |bf v=>rw[h4 v rfl];exact he2
 cases o1 with
 |normal=>exact fun g' a' w' hs' hlat=>key none .returning hlo g' a' w' hs' hlat rfl
 |ret=>exact fun g' a' w' hs' hlat=>key none .returning hlo g' a' w' hs' hlat rfl
 |exit id=>simp[pV]at hlo
 |bf v=>exact fun g' a' w' x hv hs' hlat hrx=>key (some v) (.panicking [{v:=x,recovered:=false}]) hlo g' a' w' hs' hlat ⟨hv,x,rfl,hrx⟩
theorem Ey(hm : P.follows .mixedOrders = true)(hN : ∀ (f : FuncId) (fn : Func), P.funcs[f]? = some fn → fn.name ≠ "runtime.NumGoroutine") : ∀ d, pX P (kU P cfg true d)
 | 0=>⟨fun h=>h.elim,fun h=>h.elim,fun h=>h.elim⟩
 |d+1=>by
  have ih:=Ey hm hN d;constructor
  ·intro ρ n f args H g k p h hr;simp only[kU,T6]at h;split at h
   ·exact LC h hr
   split at h
   ·rename_i fn hf;split at h
    ·rename_i c hb;have hd:=Cv (X:=⟨cfg,none,kU P cfg true d,true⟩) hm ih rfl c p g _ _ h hr;refine Dk.of (cfg:=cfg) (L:=10) hm hN hf hb (fun g0 w0 hi=>hd none g0 w0 hi trivial) ?_
     rintro o s1 ⟨g1,h,hr⟩;unfold SQ at h;split at h
     ·rename_i ts pr g2;obtain⟨hok,hr⟩:=hr;simp only[G.can]at hr;obtain⟨s',hw,h⟩:=dA hok h;split at h
      ·rename_i a H1 hla;obtain⟨_,hpr,h⟩:=h;grind [dz,eC.trim,F2,Cu]
      ·exact h.elim
     ·exact hr.elim
     ·exact nomatch h
    ·exact h.elim
   ·exact h.elim
  ·intro ρ n b args H g k p h hr;simp only[kU,SS]at h;split at h
   ·rename_i st pend fid A ps assign body hb;split at h
    ·rename_i hlen;have hlen:=Nat.eq_of_beq_eq_true hlen;have hd1:=Cv (X:=⟨cfg,some b,kU P cfg true d,true⟩) hm ih rfl assign p g _ _ h hr;intro gh w vs k1 sz hi hl hk;obtain⟨k0,tmps0,dk0,fn0,q1,q2,q3⟩:=hi.good b _ hb;rw[hk]at q1;simp only[Option.some.injEq,Prod.mk.injEq]at q1;obtain⟨rfl,rfl⟩:=q1;have hvs:=(dD _ _ hl).1;refine⟨_,q2,by grind,?_⟩
     rw[zW _ ps vs rfl];have hsim:eD gh ⟨ud A ps args,H,[]⟩ {tmps:=(ps.zip vs.toList).foldl (fun(tmps:Array Value) (p:Tmp×Value)=>tmps.setIfInBounds p.1 p.2) tmps0,defers:=[]} w:=
      ⟨hi,Bb ps args A _ tmps0 q3 hl,rfl⟩
     refine roundIn_of_wpIn trivial ?_;refine hd1 (some k1) gh w hi ⟨0,hk⟩ _ gh _ w hsim (aX.refl _ _ _) ?_;rintro oo ss ⟨g1,h1,hr1⟩;cases oo with
     |exit id=>exact h1.elim
     |ret=>exact h1.elim
     |bf v=>exact h1.elim
     |normal=>
      simp only at h1;split at h1
      ·rename_i pend1 fid1 A1 ps1 as1 bd1 hb1;rw[dz]at h1;have hd2:=Cv (X:=⟨cfg,some b,kU P cfg true d,true⟩) hm ih rfl body p g1 _ _ h1 hr1;intro gg1 a1 w1 hs1 hla1;have hk1:=hla1.ext.ah _ _ _ hk;obtain⟨k2,tmps1,dk1,fn1,u1,u2,u3⟩:=hs1.inv.good b _ hb1;rw[hk1]at u1;simp only[Option.some.injEq,Prod.mk.injEq]at u1;obtain⟨rfl,-⟩:=u1;refine⟨_,run_beginRound u2 rfl,?_⟩;obtain⟨i2,l2⟩:=hs1.inv.put (y:=.loop .busy pend1 fid1 A1 ps1 as1 bd1)
        (ob:=.loop {state:=.busy,pending:=pend1,fn:=fn1,tmps:=tmps1,params:=ps1.toArray,assign:=as1,body:=bd1,defers:=dk1}) hb1 rfl hk1 rfl (uf u2)
        fun hext=>⟨_,tmps1,dk1,fn1,hk1,World.putObj_heap_same (Array.getElem?_eq_some_iff.1 u2).1,cc hext _ _ u3⟩
       have hsim2:eD gg1 {ss with H:=ss.H.set b (.loop .busy pend1 fid1 A1 ps1 as1 bd1)} a1 (w1.putObj k1 (.loop {state:=.busy,pending:=pend1,fn:=fn1,tmps:=tmps1,params:=ps1.toArray,assign:=as1,body:=bd1,defers:=dk1})):=
        ⟨i2,cc l2.ext _ _ hs1.tmps,ej l2.ext _ _ hs1.defs⟩
       refine hd2 (some k1) gh w hi ⟨0,hk⟩ _ gg1 a1 _ hsim2 (hla1.trans l2) ?_;rintro oo2 ss2 ⟨g2,h2,hr2⟩;unfold SR at h2;split at h2
       ·rename_i j hj;split at h2
        ·rename_i ts g3;obtain⟨hok,hr2⟩:=hr2;obtain⟨s3,hw,h2⟩:=dA hok h2;split at h2
         ·rename_i H2 hmk;refine eO.weak hi hw ?_;have hend:∀g' a' w',eD g' s3 a' w'→aX gh H w g' s3.H w'→
           ∃v w'',(Instr.endRound k1 j).run P w'=.ok v w''∧∃a H1,(∃g',k g' a H1∧g'.can n p)∧eC gh H w a H1 (.returned v) w'':=by
           intro g' a' w' hs' hla';obtain⟨rr,e1,e2,e3⟩:=zX hs'.inv (hla'.ext.ah _ _ _ hk) hmk;exact⟨_,_,run_endRound j e1,_,_,⟨g3,h2,hr2⟩,g',e2,hla'.trans e3,_,rfl,by simp[R]⟩
          cases oo2 with
          |normal=>
           simp only[rU,Option.some.injEq]at hj;subst hj;exact fun g' a' w' h1 h2=>hend g' a' w' h1 h2
          |ret=>
           simp only[rU,Option.some.injEq]at hj;subst hj;exact fun g' a' w' h1 h2=>hend g' a' w' h1 h2
          |exit id=>
           simp only[rU,Option.some.injEq]at hj;subst hj;exact fun g' a' w' h1 h2=>hend g' a' w' h1 h2
          |bf v=>cases hj
         ·exact h2.elim
        ·exact hr2.elim
        ·exact nomatch h2
       ·exact h2.elim
      ·exact h1.elim
    ·exact h.elim
   ·exact h.elim
  ·intro σ sh n ro H0 b g E s Y p h hr;obtain⟨h⟩:=h;exact Cv (X:=⟨cfg,ro,kU P cfg true d,true⟩) hm ih rfl b p g s _ h hr
def S0{ρ:Type}(P:Program)[aD](cfg:dL)(L:Nat)(f:FuncId)(args:List AVal)(out:ρ→aP)(g:G P ρ):Prop:=
 match P.funcs[f]? with
 |some fn=>match fn.body with
  |some c=>jP P (U8 P cfg) [] c g ⟨lX fn.ntmps args,[],[]⟩ fun g o s=>II P cfg L fn out g o s
  |none=>False
 |none=>False
theorem S1{n L:Nat}{ρ:Type}{fn:Func}{out:ρ→aP}{g:G P ρ}{o:bu}{s:St}{p:ρ→Prop}(h:II P cfg L fn out g o s)(hr:g.can n p):∃s' r,p r∧iJ [] s s'∧Hs P cfg L fn o s'=some (out r):=by
 unfold II at h;split at h
 ·rename_i ts r;obtain⟨hok,hp⟩:=hr;grind [dA]
 ·exact hr.elim
 ·exact nomatch h
theorem Pp(hm : P.follows .mixedOrders = true)(hN : ∀ (f : FuncId) (fn : Func), P.funcs[f]? = some fn → fn.name ≠ "runtime.NumGoroutine"){L : Nat}{f : FuncId}{args : List AVal}{ρ : Type}{out : ρ → aP}{g : G P ρ}
 (h:S0 P cfg L f args out g) {n:Nat} {a:aP} (hr:g.can n fun x=>out x=a):iQ P f args a:=by
 unfold S0 at h;split at h
 ·rename_i fn hf;split at h
  ·rename_i c hb;refine⟨⟨fn,c,hf,hb,hN f fn hf⟩,fun gh w vs hi hl=>callsIn_wide.1 (callsIn_of_wp_marks (F:=Fr none) (n:=0) hf hb trivial ?_)⟩
   have hsim:eD gh ⟨lX fn.ntmps args,[],[]⟩ {tmps:=vs++Array.replicate (fn.ntmps - vs.size) undef,defers:=[]} w:=⟨hi,wU hl _,rfl⟩;have hd:=Cv (X:=U8 P cfg) hm (Ey hm hN 9) rfl c _ g _ _ h hr;refine hd none gh w hi trivial _ gh _ w hsim (aX.refl _ _ _) ?_;rintro o1 s1 ⟨g',h',hr'⟩;obtain⟨s',r',rfl,hwk,hlo⟩:=S1 h' hr';refine eO.weak hi hwk ?_;have key:∀(m:Option AVal) (u:FrameMode),Dc P cfg L fn m s'=some (out r')→∀g' a' w',eD g' s' a' w'→aX gh [] w g' s'.H w'→oA g' w' m u→
    LeavesInM (Fr none) 0 P fn a'.tmps (eC gh [] w (out r') []) a'.defers u w':=by
    intro m u hla g' a' w' hs' hlat hmo;obtain⟨m',H',rr,H1,h1,h2,h3⟩:=JF hla;refine k9 ?_ (lP hm hN tq s'.D a'.defers m u s'.H g' w' m' H' hs'.defs hs'.inv hs'.tmps hmo h1 h2 hlat);rintro e w2 ⟨g2,hi2,hla2,he2⟩;exact Hu hi hi2 hla2 h3 he2
   cases o1 with
   |normal=>exact fun g' a' w' hs' hlat=>key none .returning hlo g' a' w' hs' hlat rfl
   |ret=>exact fun g' a' w' hs' hlat=>key none .returning hlo g' a' w' hs' hlat rfl
   |exit id=>simp[Hs]at hlo
   |bf v=>exact fun g' a' w' x hv hs' hlat hrx=>key (some v) (.panicking [{v:=x,recovered:=false}]) hlo g' a' w' hs' hlat ⟨hv,x,rfl,hrx⟩
  ·exact h.elim
 ·exact h.elim
structure IQ(P:Program)[aD]:Type 1 where
 f:FuncId
 X:Type
 args:X→List AVal
 sh:Sh
 out:sh.El→aP
 g:X→G P sh.El
 ok:∀n x a,(g x).can n (fun y=>out y=a)→iQ P f (args x) a
def IQ.of[hp:Plain P](cfg:dL)(L:Nat)(f:FuncId)(X:Type)(args:X→List AVal)(sh:Sh)(out:sh.El→aP)(g:X→G P sh.El)(h:∀x,S0 P cfg L f (args x) out (g x)=(g x).dV (Ht out)):IQ P where
 f:=f
 X:=X
 args:=args
 sh:=sh
 out:=out
 g:=g
 ok:=fun n x a hr=>Pp hp.mixed hp.names (n:=n) (by rw[h x];exact G.bL (fun _=>rfl) (g x)) hr
def IQ.all(c:IQ P)(S:Nat→c.X→Option c.sh.El)(h:∀n x r,S n x=some r→∃m,(c.g x).can m fun y=>c.out y=c.out r):aA P where
 f:=c.f
 X:=c.X
 args:=c.args
 sh:=c.sh
 out:=c.out
 S:=S
 ok:=fun n x r hr=>let⟨m,hm⟩:=h n x r hr;c.ok m x (c.out r) hm
end
end Go.AM
end
section
namespace Go.AM
def pk{P:Program}[aD]{ρ:Type}(a:G P ρ)(f:Nat→G P ρ):Option Nat→G P ρ
 |none=>a
 |some i=>f i
section
variable {K V:Type}
theorem JH(ek:K→AVal)(ev:V→AVal):∀(m:List (K×V)) (b i:Nat) p,(bJ ek ev b m)[i]? =some p→p.2.2=b+i
 | [],_,_,_,h=>by simp[bJ]at h
 | (k,v)::m,b,0,p,h=>by simp[bJ]at h;subst h;rfl
 | (k,v)::m,b,i+1,p,h=>by
  simp only[bJ,List.getElem?_cons_succ]at h;have:=JH ek ev m (b+1) i p h;omega
def WI(b mb:Nat)(m:List (K×V))(ek:K→AVal)(ev:V→AVal):PK:=
 ⟨b,mb,m.length,bJ ek ev 0 m,BU ek ev m 0,fun i p h=>by have:=JH ek ev m 0 i p h;omega⟩
theorem JI(ek:K→AVal)(ev:V→AVal):∀(m:List (K×V)) (b i:Nat) (x:K×V),m[i]? =some x→(bJ ek ev b m).find? (fun p=>p.2.2==b+i)=some (ek x.1,ev x.2,b+i)
 | [],_,_,_,h=>by simp at h
 | (k,v)::m,b,0,x,h=>by simp at h;subst h;simp[bJ]
 | (k,v)::m,b,i+1,x,h=>by
  simp only[List.getElem?_cons_succ]at h;have:=JI ek ev m (b+1) i x h;simp only[bJ,List.find?_cons];have hne:(b==b+(i+1))=false:=by simp
  rw[hne,show b+(i+1)=b+1+i by omega]
  exact this
def Vc(m:List (K×V))(ek:K→AVal)(ev:V→AVal)(b mb:Nat)(seen:List Nat)(i:Nat):kO (K×V) where
 run:=m[i]?
 bw x:={val:=.cw [ek x.1,ev x.2]}
 ids:=[b,mb]
 nZ _ _ _ _ op ah H:=match op with
  | .entry x=>ah x=.ptr b 0 0 0∧H[b]? =some (.iter (.mp mb) m.length (seen++[i]) m.length)∧H[mb]? =some (.map m.length (bJ ek ev 0 m))
  |_=>False
 gR:=AVal.ptr b 0 0 0=AVal.ptr b 0 0 0∧some (aa.iter (.mp mb) m.length (seen++[i]) m.length)=some (aa.iter (.mp mb) m.length (seen++[i]) m.length)∧some (aa.map m.length (bJ ek ev 0 m))=some (aa.map m.length (bJ ek ev 0 m))
 holds:=⟨rfl,rfl,rfl⟩
 sound gl P cfg nid op ah H h x hx:=by
  cases op<;>try exact h.elim
  obtain⟨h1,h2,h3⟩:=h;have hf:=JI ek ev m 0 i x hx;rw[Nat.zero_add]at hf;have he:Ff (seen++[i]) (bJ ek ev 0 m)=some (.cw [ek x.1,ev x.2]):=by simp[Ff,hf]
  simp[bF,cH,cA,GS,h1,h2,h3,mapOf,Rd.bind,Rd.run,Rd.reads,he,yields]
end
section
variable {K V:Type}
set_option linter.unusedSimpArgs false
end
def xR(t:ByteArray)(i:Int):kO Int where
 run:=if 0≤i then(t[i.toNat]?).map fun b=>(b.toNat:Int)else none
 bw x:={val:=.sc (.int .u8 x)}
 ids:=[]
 nZ _ P _ _ op ah _:=match op with
  | .index T a b=>(match P.underlying T with |some .string=>true |_=>false)=true∧ah a=.sc (.string t)∧intOf (ah b)=some i
  |_=>False
 gR:=(@Eq Bool true true)∧AVal.sc (.string t)=AVal.sc (.string t)∧some i=some i
 holds:=⟨rfl,rfl,rfl⟩
 sound gl P cfg nid op ah H h x hx:=by
  cases op<;>try exact h.elim
  rename_i T a b;obtain⟨h1,h2,h3⟩:=h;split at h1
  ·rename_i hu;have hb:∃k,ah b=.sc (.int k i):=by
    unfold intOf at h3;split at h3
    ·rename_i k n hb;simp only[Option.some.injEq]at h3;subst h3;exact⟨k,hb⟩
    ·cases h3
   obtain⟨k,hb⟩:=hb;split at hx
   ·rename_i h0;obtain⟨q,hq,rfl⟩:=Option.map_eq_some_iff.1 hx;simp[bF,cH,cA,h2,hb,GR,hu,h0,hq,yields,Rd.bind,Rd.run,Rd.reads]
   ·cases hx
  ·cases h1
end Go.AM
end
section
namespace Go.AM
def Bl{α β:Type}:List α→(α→Option (List β))→Option (List β)
 | [],_=>some []
 |a::as,f=>match f a with
  |some l=>match Bl as f with
   |some m=>some (l++m)
   |none=>none
  |none=>none
theorem vO{α β:Type}{f:α→Option (List β)}:∀{l:List α} {m:List β},Bl l f=some m→∀a∈l,∃la,f a=some la∧∀x∈la,x∈m
 | [],_,_,a,ha=>by cases ha
 |b::l,m,h,a,ha=>by
  simp only[Bl]at h;split at h
  ·rename_i lb hb;split at h
   ·rename_i mm hm;simp only[Option.some.injEq]at h;subst h;rcases List.mem_cons.1 ha with rfl |ha
    ·exact⟨lb,hb,fun x hx=>List.mem_append_left _ hx⟩
    ·obtain⟨la,h1,h2⟩:=vO hm a ha;exact⟨la,h1,fun x hx=>List.mem_append_right _ (h2 x hx)⟩
   ·cases h
  ·cases h
def KA{σ τ:Type}(f:σ→Option (List (σ⊕τ))):Nat→σ→Option (List τ)
 | 0,_=>none
 |n+1,a=>match f a with
  |some l=>Bl l fun
   | .inl a'=>KA f n a'
   | .inr t=>some [t]
  |none=>none
theorem Hx{σ τ:Type}{f:σ→Option (List (σ⊕τ))}{F:σ→((σ⊕τ)→Prop)→Prop}(hF:∀a l (q:σ⊕τ→Prop),f a=some l→(∀x∈l,q x)→F a q):
 ∀(n:Nat) (a:σ) (l:List τ) (p:τ→Prop),KA f n a=some l→(∀t∈l,p t)→zx F n a p
 | 0,_,_,_,h,_=>by cases h
 |n+1,a,l,p,h,hp=>by
  simp only[KA]at h;split at h
  ·rename_i l0 h0;refine hF a l0 _ h0 fun x hx=>?_
   obtain⟨la,h1,h2⟩:=vO h x hx;cases x with
   |inl a'=>exact Hx hF n a' la p h1 fun t ht=>hp t (h2 t ht)
   |inr t=>
    simp only[Option.some.injEq]at h1;subst h1;exact hp t (h2 t (by simp))
  ·cases h
def KB(n:Nat)(seen:List Nat):List Nat:=(List.range n).filter fun i=> !seen.contains i
set_option linter.unusedSectionVars false
section
variable {P:Program} [aD]
def G.runs(n:Nat):{ρ:Type}→G P ρ→Option (List ρ)
 |_,.stop=>none
 |_,.done ts r=>if aI ts then some [r]else none
 |_,.fail=>none
 |_,.skip _ g=>g.runs n
 |_,.br _ c t f=>if c then t.runs n else f.runs n
 |_,.F1 _ _ x c t f=>if x=c then t.runs n else f.runs n
 |_,.sp c t f=>if c then t.runs n else f.runs n
 |_,.op t k=>t.run.bind fun x=>(k x).runs n
 |_,.call c x k=>(c.S n x).bind fun r=>(k r).runs n
 |_,.fK c x k=>(c.S n x).bind fun r=>(k r).runs n
 |_,.ax c _ _ _ x k=>(c.S n x).bind fun r=>(k r).runs n
 |_,.tidy l g=>if aI l then g.runs n else none
 |_,.loop _ hd _ _ a0 body k=>if aI hd then(KA (fun a=>(body a).runs n) n a0).bind fun ts=>Bl ts fun t=>(k t).runs n else none
 |_,.fL _ g=>g.runs n
 |_,.xP _ _ g=>g.runs n
 |_,.join _ _ g k=>(g.runs n).bind fun ts=>Bl ts fun t=>(k t).runs n
 |_,.pick z seen k=>match KB z.n seen with
  | []=>(k none).runs n
  |l=>Bl l fun i=>(k (some i)).runs n
 |_,.inl _ g=>g.runs n
theorem G.dQ(n:Nat):∀{ρ:Type} (g:G P ρ) {p q:ρ→Prop},(∀r,p r→q r)→g.can n p→g.can n q
 |_,.stop,_,_,_,h=>h
 |_,.done ts r,_,_,hpq,h=>⟨h.1,hpq _ h.2⟩
 |_,.fail,_,_,_,h=>h
 |_,.skip _ g,_,_,hpq,h=>G.dQ n g hpq h
 |_,.br _ c t f,_,_,hpq,h=>by
  simp only[G.can]at h ⊢;split at h
  ·rename_i hc;rw[if_pos hc];exact G.dQ n t hpq h
  ·rename_i hc;rw[if_neg hc];exact G.dQ n f hpq h
 |_,.F1 _ _ x c t f,_,_,hpq,h=>by
  simp only[G.can]at h ⊢;split at h
  ·rename_i hc;rw[if_pos hc];exact G.dQ n t hpq h
  ·rename_i hc;rw[if_neg hc];exact G.dQ n f hpq h
 |_,.sp c t f,_,_,hpq,h=>by
  simp only[G.can]at h ⊢;split at h
  ·rename_i hc;rw[if_pos hc];exact G.dQ n t hpq h
  ·rename_i hc;rw[if_neg hc];exact G.dQ n f hpq h
 |_,.op t k,_,_,hpq,h=>by
  obtain⟨x,h1,h2⟩:=h;exact⟨x,h1,G.dQ n (k x) hpq h2⟩
 |_,.call c x k,_,_,hpq,h=>by
  obtain⟨r,h1,h2⟩:=h;exact⟨r,h1,G.dQ n (k r) hpq h2⟩
 |_,.fK c x k,_,_,hpq,h=>by
  obtain⟨r,h1,h2⟩:=h;exact⟨r,h1,G.dQ n (k r) hpq h2⟩
 |_,.ax c _ _ _ x k,_,_,hpq,h=>by
  obtain⟨r,h1,h2⟩:=h;exact⟨r,h1,G.dQ n (k r) hpq h2⟩
 |_,.tidy l g,_,_,hpq,h=>⟨h.1,G.dQ n g hpq h.2⟩
 |_,.loop _ hd _ _ a0 body k,p,q,hpq,h=>by
  refine⟨h.1,?_⟩;have mono:∀(m:Nat) (a:_),zx (fun a q=>(body a).can n q) m a (fun t=>(k t).can n p)→zx (fun a q=>(body a).can n q) m a (fun t=>(k t).can n q):=by
   intro m;induction m with
   |zero=>exact fun a h=>h.elim
   |succ m ih=>
    intro a h;refine G.dQ n (body a) (fun v hv=>?_) h
    cases v with
    |inl a'=>exact ih a' hv
    |inr t=>exact G.dQ n (k t) hpq hv
  exact mono n a0 h.2
 |_,.fL _ g,_,_,hpq,h=>G.dQ n g hpq h
 |_,.xP _ _ g,_,_,hpq,h=>G.dQ n g hpq h
 |_,.join _ _ g k,_,_,hpq,h=>G.dQ n g (fun t ht=>G.dQ n (k t) hpq ht) h
 |_,.pick z seen k,_,_,hpq,h=>⟨fun ha=>G.dQ n (k none) hpq (h.1 ha),fun i hi hn=>G.dQ n (k (some i)) hpq (h.2 i hi hn)⟩
 |_,.inl _ g,_,_,hpq,h=>G.dQ n g hpq h
theorem G.fc(n:Nat):∀{ρ:Type} (g:G P ρ) (l:List ρ) (p:ρ→Prop),g.runs n=some l→(∀r∈l,p r)→g.can n p
 |_,.stop,_,_,h,_=>by cases h
 |_,.done ts r,l,p,h,hp=>by
  simp only[G.runs,Option.ite_none_right_eq_some,Option.some.injEq]at h;obtain⟨h1,rfl⟩:=h;exact⟨h1,hp r (by simp)⟩
 |_,.fail,_,_,h,_=>by cases h
 |_,.skip _ g,l,p,h,hp=>G.fc n g l p h hp
 |_,.br _ c t f,l,p,h,hp=>by
  simp only[G.runs]at h;simp only[G.can];split at h
  ·rename_i hc;rw[if_pos hc];exact G.fc n t l p h hp
  ·rename_i hc;rw[if_neg hc];exact G.fc n f l p h hp
 |_,.F1 _ _ x c t f,l,p,h,hp=>by
  simp only[G.runs]at h;simp only[G.can];split at h
  ·rename_i hc;rw[if_pos hc];exact G.fc n t l p h hp
  ·rename_i hc;rw[if_neg hc];exact G.fc n f l p h hp
 |_,.sp c t f,l,p,h,hp=>by
  simp only[G.runs]at h;simp only[G.can];split at h
  ·rename_i hc;rw[if_pos hc];exact G.fc n t l p h hp
  ·rename_i hc;rw[if_neg hc];exact G.fc n f l p h hp
 |_,.op t k,l,p,h,hp=>by
  obtain⟨x,h1,h2⟩:=Option.bind_eq_some_iff.1 (show t.run.bind (fun x=>(k x).runs n)=some l from h)
  exact⟨x,h1,G.fc n (k x) l p h2 hp⟩
 |_,.call c x k,l,p,h,hp=>by
  obtain⟨r,h1,h2⟩:=Option.bind_eq_some_iff.1 (show(c.S n x).bind (fun r=>(k r).runs n)=some l from h)
  exact⟨r,h1,G.fc n (k r) l p h2 hp⟩
 |_,.fK c x k,l,p,h,hp=>by
  obtain⟨r,h1,h2⟩:=Option.bind_eq_some_iff.1 (show(c.S n x).bind (fun r=>(k r).runs n)=some l from h)
  exact⟨r,h1,G.fc n (k r) l p h2 hp⟩
 |_,.ax c _ _ _ x k,l,p,h,hp=>by
  obtain⟨r,h1,h2⟩:=Option.bind_eq_some_iff.1 (show(c.S n x).bind (fun r=>(k r).runs n)=some l from h)
  exact⟨r,h1,G.fc n (k r) l p h2 hp⟩
 |_,.tidy ts g,l,p,h,hp=>by
  simp only[G.runs,Option.ite_none_right_eq_some]at h;exact⟨h.1,G.fc n g l p h.2 hp⟩
 |_,.loop _ hd _ _ a0 body k,l,p,h,hp=>by
  simp only[G.runs,Option.ite_none_right_eq_some]at h;obtain⟨h1,h⟩:=h;obtain⟨ts,h2,h3⟩:=Option.bind_eq_some_iff.1 h;refine⟨h1,Hx (fun a l q h hq=>G.fc n (body a) l q h hq) n a0 ts _ h2 fun t ht=>?_⟩
  obtain⟨la,h4,h5⟩:=vO h3 t ht;exact G.fc n (k t) la p h4 fun r hr=>hp r (h5 r hr)
 |_,.fL _ g,l,p,h,hp=>G.fc n g l p h hp
 |_,.xP _ _ g,l,p,h,hp=>G.fc n g l p h hp
 |_,.join _ _ g k,l,p,h,hp=>by
  obtain⟨ts,h2,h3⟩:=Option.bind_eq_some_iff.1 (show(g.runs n).bind (fun ts=>Bl ts fun t=>(k t).runs n)=some l from h)
  refine G.fc n g ts _ h2 fun t ht=>?_
  obtain⟨la,h4,h5⟩:=vO h3 t ht;exact G.fc n (k t) la p h4 fun r hr=>hp r (h5 r hr)
 |_,.pick z seen k,l,p,h,hp=>by
  have hm:∀i,i∈KB z.n seen↔i<z.n∧i∉seen:=fun i=>by simp[KB]
  simp only[G.runs]at h;refine⟨fun ha=>?_,fun i hi hn=>?_⟩
  ·have h0:KB z.n seen=[]:=by
    rw[List.eq_nil_iff_forall_not_mem];exact fun i hi=>((hm i).1 hi).2 (ha i ((hm i).1 hi).1)
   rw[h0]at h;exact G.fc n (k none) l p h hp
  ·have hin:=(hm i).2 ⟨hi,hn⟩;split at h
   ·rename_i h0;rw[h0]at hin;cases hin
   ·obtain⟨la,h4,h5⟩:=vO h i hin;exact G.fc n (k (some i)) la p h4 fun r hr=>hp r (h5 r hr)
 |_,.inl _ g,l,p,h,hp=>G.fc n g l p h hp
def KC:aP→aP→Bool
 | .ret a,.ret b=>same a b
 | .bf a,.bf b=>same a b
 |_,_=>false
theorem LG{a b:aP}(h:KC a b=true):a=b:=by
 cases a<;>cases b<;>simp only[KC,Bool.false_eq_true]at h
 ·rw[wP _ _ h]
 ·rw[wP _ _ h]
def oneOf{ρ:Type}(out:ρ→aP):List ρ→Option ρ
 | []=>none
 |r::rs=>if rs.all (fun x=>KC (out x) (out r))then some r else none
def IQ.one(c:IQ P):aA P:=c.all (fun n x=>((c.g x).runs n).bind (oneOf c.out)) fun n x r h=>by
 obtain⟨l,h1,h2⟩:=Option.bind_eq_some_iff.1 h;refine⟨n,G.fc n (c.g x) l _ h1 fun y hy=>?_⟩
 cases l with
 |nil=>cases h2
 |cons r0 rs=>
  simp only[oneOf,Option.ite_none_right_eq_some,Option.some.injEq]at h2;obtain⟨h2,rfl⟩:=h2;rcases List.mem_cons.1 hy with rfl |hy
  ·rfl
  ·exact LG (List.all_eq_true.1 h2 y hy)
end
end Go.AM
end
section
namespace Go.AM
section
set_option linter.unusedSectionVars false
variable [aD] {P:Program} {cfg:dL}
def rD(bs:List Nat)(n j:Nat):Nat:=match bs[j]? with
 |some b=>b
 |none=>n+(j - bs.length)
def xS(bs:List Nat)(n b:Nat):Option Nat:=match pH b bs 0 with
 |some j=>some j
 |none=>match Nat.blt b n with
  |true=>none
  |false=>some (bs.length+(b - n))
def vP(bs:List Nat)(n:Nat):Ren:=fun j v=>some (rD bs n j,v)
def LH(bs:List Nat)(n:Nat):Ren:=fun b v=>(xS bs n b).map fun j=>(j,v)
def Fx(bs:List Nat)(n m:Nat):Bool:=zY bs&&bs.all (fun b=>Nat.blt b n)&&Nat.beq bs.length m
theorem M1{bs:List Nat}{n m:Nat}(h:Fx bs n m=true):zY bs=true∧(∀b∈bs,b<n)∧bs.length=m:=by
 simp only[Fx,Bool.and_eq_true,List.all_eq_true,Nat.blt_eq]at h;exact⟨h.1.1,h.1.2,Nat.eq_of_beq_eq_true h.2⟩
theorem Dm{bs:List Nat}{n:Nat}(hn:zY bs=true)(hlt:∀b∈bs,b<n)(j:Nat):xS bs n (rD bs n j)=some j:=by
 unfold rD;split
 ·rename_i b hb;have:=BP 0 hn hb;simp only[Nat.zero_add]at this;simp[xS,this]
 ·rename_i hb;rw[List.getElem?_eq_none_iff]at hb;have hno:pH (n+(j - bs.length)) bs 0=none:=by
   cases hi:pH (n+(j - bs.length)) bs 0 with
   |none=>rfl
   |some i=>
    obtain⟨_,h2⟩:=u9 hi;have:=hlt _ (List.mem_of_getElem? h2);omega
  simp only[xS,hno];have:Nat.blt (n+(j - bs.length)) n=false:=by
   rw[← Bool.not_eq_true,Nat.blt_eq];omega
  rw[this];simp only[Option.some.injEq];omega
theorem xb{bs:List Nat}{n b j:Nat}(h:xS bs n b=some j):rD bs n j=b:=by
 unfold xS at h;split at h
 ·rename_i i hi;simp only[Option.some.injEq]at h;subst h;obtain⟨_,h2⟩:=u9 hi;simp only[Nat.sub_zero]at h2;simp[rD,h2]
 ·split at h
  ·cases h
  ·rename_i hb;rw[← Bool.not_eq_true,Nat.blt_eq]at hb;simp only[Option.some.injEq]at h;subst h;have:bs[bs.length+(b - n)]? =none:=by rw[List.getElem?_eq_none_iff];omega
   simp only[rD,this];omega
mutual
theorem Fy{f f':Ren}(h:∀b v,∃b',f b v=some (b',v)∧f' b' v=some (b,v)):∀(a:AVal),(a.jO f).jO f'=a
 | .sc _=>rfl
 | .agg cs=>by simp only[AVal.jO,sk h cs]
 | .cw cs=>by simp only[AVal.jO,sk h cs]
 | .ptr b v i o=>by obtain⟨b',h1,h2⟩:=h b v;simp[AVal.jO,h1,h2]
 | .bK .. =>rfl
 | .sl b v sz o n=>by obtain⟨b',h1,h2⟩:=h b v;simp[AVal.jO,h1,h2]
 | .aj _=>rfl
 | .fn g a b=>by simp only[AVal.jO,sk h a,sk h b]
 | .fF t v=>by simp only[AVal.jO,Fy h v]
 | .mp b=>by obtain⟨b',h1,h2⟩:=h b 0;simp[AVal.jO,h1,h2]
 | .jd b=>by obtain⟨b',h1,h2⟩:=h b 0;simp[AVal.jO,h1,h2]
 | .sa b v i o s n=>by obtain⟨b',h1,h2⟩:=h b v;simp[AVal.jO,h1,h2]
 | .gN .. =>rfl
 | .emp=>rfl
 | .nz _=>rfl
 | .af=>rfl
theorem sk{f f':Ren}(h:∀b v,∃b',f b v=some (b',v)∧f' b' v=some (b,v)):∀(l:List AVal),AVal.oW f' (AVal.oW f l)=l
 | []=>rfl
 |a::as=>by simp only[AVal.oW,Fy h a,sk h as]
end
def xd(f:Ren)(bs pu:List Nat)(H:List aa):Nat→Nat→List aa
 | 0,_=>[]
 |k+1,i=>(match pH i bs 0 with
  |some j=>jq f (pu.contains j) none (H.getD j .dead)
  |none=>.dead)::xd f bs pu H k (i+1)
def ve(f:Ren)(pu:List Nat):Nat→List aa→List aa
 |_,[]=>[]
 |j,x::xs=>jq f (pu.contains j) none x::ve f pu (j+1) xs
def qS(bs pu:List Nat)(n:Nat)(H:List aa):List aa:=xd (vP bs n) bs pu H n 0++ve (vP bs n) pu bs.length (H.drop bs.length)
theorem pY(f:Ren)(bs pu:List Nat)(H:List aa):∀(k i:Nat),(xd f bs pu H k i).length=k
 | 0,_=>rfl
 |k+1,i=>by simp[xd,pY f bs pu H k (i+1)]
theorem F4(f:Ren)(bs pu:List Nat)(H:List aa):∀(k i b:Nat),b<k→(xd f bs pu H k i)[b]? =some (match pH (i+b) bs 0 with |some j=>jq f (pu.contains j) none (H.getD j .dead) |none=>.dead)
 | 0,_,_,h=>by omega
 |k+1,i,0,_=>by simp[xd]
 |k+1,i,b+1,h=>by
  simp only[xd,List.getElem?_cons_succ];rw[F4 f bs pu H k (i+1) b (by omega),show i+1+b=i+(b+1)by omega]
theorem Cw(f:Ren)(pu:List Nat):∀(j:Nat) (l:List aa),(ve f pu j l).length=l.length
 |_,[]=>rfl
 |j,_::xs=>by simp[ve,Cw f pu (j+1) xs]
theorem F5(f:Ren)(pu:List Nat):∀(j:Nat) (l:List aa) (b:Nat),(ve f pu j l)[b]? =(l[b]?).map fun x=>jq f (pu.contains (j+b)) none x
 |_,[],_=>by simp[ve]
 |j,_::xs,0=>by simp[ve]
 |j,_::xs,b+1=>by
  simp only[ve,List.getElem?_cons_succ];rw[F5 f pu (j+1) xs b,show j+1+b=j+(b+1)by omega]
theorem DK(bs pu:List Nat)(n:Nat)(H:List aa):(qS bs pu n H).length=n+(H.length - bs.length):=by
 simp[qS,pY,Cw]
theorem Hy{bs pu:List Nat}{n:Nat}{H:List aa}(hlt:∀b∈bs,b<n)(hl:bs.length≤H.length)(b:Nat):
 (qS bs pu n H)[b]? =match xS bs n b with
  |some j=>(H[j]?).map fun x=>jq (vP bs n) (pu.contains j) none x
  |none=>some .dead:=by
 by_cases hb:b<n
 ·rw[qS,List.getElem?_append_left (by rw[pY];exact hb),F4 _ _ _ _ _ _ _ hb]
  simp only[Nat.zero_add,xS];cases hi:pH b bs 0 with
  |some j=>
   obtain⟨_,h2⟩:=u9 hi;have hj:j<bs.length:=by have:=(List.getElem?_eq_some_iff.1 h2).1;omega
   have:H[j]? =some H[j]:=List.getElem?_eq_getElem (by omega)
   simp[List.getD_eq_getElem?_getD,this]
  |none=>
   have:Nat.blt b n=true:=by rw[Nat.blt_eq];exact hb
   simp[this]
 ·have hno:pH b bs 0=none:=by
   cases hi:pH b bs 0 with
   |none=>rfl
   |some i=>
    obtain⟨_,h2⟩:=u9 hi;exact absurd (hlt _ (List.mem_of_getElem? h2)) hb
  have h2:Nat.blt b n=false:=by rw[← Bool.not_eq_true,Nat.blt_eq];exact hb
  rw[qS,List.getElem?_append_right (by rw[pY];omega),pY,F5]
  simp[xS,hno,h2,List.getElem?_drop]
theorem nJ(f:Ren)(p:Bool)(x:aa):(jq f p none x).live=x.live:=by cases x<;>rfl
theorem M3{f f':Ren}(h:∀b v,∃b',f b v=some (b',v)∧f' b' v=some (b,v))(p:Bool){x:aa}(hp:p=true→rq x=true)(hl:x.live≠none):Lk f' (jq f p none x) x:=by
 cases x with
 |aZ=>exact absurd rfl hl
 |dead=>exact absurd rfl hl
 |row v sz rows=>
  refine⟨rfl,?_⟩;cases p with
  |true=>exact .inl ⟨rfl,by simpa[rq]using hp rfl⟩
  |false=>exact .inr (by simp[List.map_map,Function.comp_def,sk h])
 |map c es=>
  refine⟨rfl,?_⟩;cases p with
  |true=>exact .inl ⟨rfl,by simpa[rq]using hp rfl⟩
  |false=>exact .inr (by simp[List.map_map,Function.comp_def,Fy h])
 |loop st pend fid A ps as bd=>exact⟨rfl,rfl,rfl,rfl,rfl,rfl,(sk h A).symm⟩
 |defs=>trivial
 |iter m since seen stepped=>exact⟨rfl,rfl,rfl,(Fy h m).symm⟩
def aP.Vd(f:Ren):aP→aP
 | .ret u=>.ret (u.jO f)
 | .bf u=>.bf u
open Classical in
theorem bz.place{f:FuncId}{args:List AVal}{H H1:List aa}{r:aP}(h:bz P f args H r H1){bs pu vQ:List Nat}{n:Nat}(hb:Fx bs n H.length=true)(hl1:H.length≤H1.length)(F0:En pu H)(hpo:En vQ H1)(hf:∀v,r=.bf v→v.flat=true):
 bz P f (AVal.oW (vP bs n) args) (qS bs pu n H) (r.Vd (vP bs n)) (qS bs vQ n H1):=by
 obtain⟨hn,hlt,hm⟩:=M1 hb;have hinv:∀b v,∃b',vP bs n b v=some (b',v)∧LH bs n b' v=some (b,v):=fun b v=>⟨_,rfl,by simp[LH,Dm hn hlt]⟩
 refine⟨h.1,fun g w vs hi hl=>?_⟩
 have hK:=Hy (pu:=pu) (H:=H) hlt (by omega)
 have hK1:=Hy (pu:=vQ) (H:=H1) hlt (by omega)
 have hKf:∀j,(qS bs pu n H)[rD bs n j]? =(H[j]?).map fun x=>jq (vP bs n) (pu.contains j) none x:=fun j=>by rw[hK,Dm hn hlt]
 have hKlen:=DK bs pu n H;have hK1len:=DK bs vQ n H1;generalize qS bs pu n H=K at*;generalize qS bs vQ n H1=K1 at*;have hpb:∀{j x},H[j]? =some x→pu.contains j=true→rq x=true:=fun hx hc=>F0 _ (by simpa using hc) _ hx
 have hpb1:∀{j x},H1[j]? =some x→vQ.contains j=true→rq x=true:=fun hx hc=>hpo _ (by simpa using hc) _ hx
 let g':Gh:=⟨fun j v=>g.ah (rD bs n j) v,g.st⟩
 have hi':Inv g' H w:=by
  refine hi.jO (f:=LH bs n) ⟨rfl,fun b v b' v' x hr hx=>?_,fun j x' hx=>?_,fun j v hj=>?_,fun j x' v v' hx hv hlt'=>?_⟩
  ·simp only[LH,Option.map_eq_some_iff,Prod.mk.injEq]at hr;obtain⟨j,hj,rfl,rfl⟩:=hr;show g.ah (rD bs n j) v=some x;rw[xb hj];exact hx
  ·by_cases hl:x'.live=none
   ·exact .inl hl
   ·obtain⟨v,hv⟩:=Option.ne_none_iff_exists'.1 hl;refine .inr ⟨rD bs n j,_,v,v,by rw[hKf,hx];rfl,by rw[nJ];exact hv,hv,by simp[LH,Dm hn hlt],rfl,M3 hinv _ (fun hc=>hpb hx hc) hl⟩
  ·show g.ah (rD bs n j) v=none;refine hi.fresh _ _ ?_;rcases hj with hj |hj
   ·left;rw[hKf,hj];rfl
   ·right;rw[← List.getElem?_eq_none_iff,hKf,List.getElem?_eq_none_iff.2 hj];rfl
  ·exact hi.next (rD bs n j) _ v v' (by rw[hKf,hx];rfl) (by rw[nJ];exact hv) hlt'
 have hl':RL g' w args vs.toList:=by
  have:=ug (g:=g) (g':=g') (f:=LH bs n) (fun _ _ h=>h) (fun b v b' v' x hr hx=>by
   simp only[LH,Option.map_eq_some_iff,Prod.mk.injEq]at hr;obtain⟨j,hj,rfl,rfl⟩:=hr;show g.ah (rD bs n j) v=some x;rw[xb hj];exact hx) _ _ hl
  rwa[sk hinv]at this
 refine(h.2 g' w vs hi' hl').mono fun e w' ⟨g1',hi1,hla,he⟩=>?_
 let g1:Gh:=⟨fun b v=>match xS bs n b with |some j=>g1'.ah j v |none=>g.ah b v,g1'.st⟩
 have g1f:∀j v,g1.ah (rD bs n j) v=g1'.ah j v:=fun j v=>by simp only[g1,Dm hn hlt]
 have own1:∀k,gG g' H k→gG g K k:=by
  rintro k ⟨j,x,v,z,hx,hv,hk⟩;exact⟨rD bs n j,_,v,z,by rw[hKf,hx];rfl,by rw[nJ];exact hv,hk⟩
 have own2:∀k,gG g1 K1 k→gG g1' H1 k:=by
  rintro k ⟨b,x,v,z,hx,hv,hk⟩;rw[hK1]at hx;simp only[g1]at hk;split at hx
  ·rename_i j hj;rw[hj]at hk;obtain⟨y,hy,rfl⟩:=Option.map_eq_some_iff.1 hx;exact⟨j,y,v,z,hy,by rw[nJ]at hv;exact hv,hk⟩
  ·simp only[Option.some.injEq]at hx;subst hx;cases hv
 have hinv1:Inv g1 K1 w':=by
  refine hi1.jO (f:=vP bs n) ⟨rfl,fun j v b' v' x hr hx=>?_,fun b x' hx=>?_,fun b v hb=>?_,fun b x' v v' hx hv hlt'=>?_⟩
  ·simp only[vP,Option.some.injEq,Prod.mk.injEq]at hr;obtain⟨rfl,rfl⟩:=hr;rw[g1f];exact hx
  ·rw[hK1]at hx;split at hx
   ·rename_i j hj;obtain⟨y,hy,rfl⟩:=Option.map_eq_some_iff.1 hx;by_cases hl:y.live=none
    ·exact .inl (by rw[nJ];exact hl)
    ·obtain⟨v,hv⟩:=Option.ne_none_iff_exists'.1 hl;refine .inr ⟨j,y,v,v,hy,hv,by rw[nJ];exact hv,by simp[vP,xb hj],by simp only[g1,hj],zn _ _ _ (fun hc=>hpb1 hy hc) hl⟩
   ·simp only[Option.some.injEq]at hx;subst hx;exact .inl rfl
  ·rcases hb with hb |hb
   ·rw[hK1]at hb;split at hb
    ·rename_i j hj;obtain⟨y,hy,he⟩:=Option.map_eq_some_iff.1 hb;have:y=.aZ:=by cases y<;>simp[jq]at he<;>rfl
     subst this;simp only[g1,hj];exact hi1.fresh j v (.inl hy)
    ·cases hb
   ·have hno:K1[b]? =none:=List.getElem?_eq_none_iff.2 hb;rw[hK1]at hno;split at hno
    ·rename_i j hj;simp only[g1,hj];exact hi1.fresh j v (.inr (by simpa using hno))
    ·cases hno
  ·rw[hK1]at hx;split at hx
   ·rename_i j hj;obtain⟨y,hy,rfl⟩:=Option.map_eq_some_iff.1 hx;rw[nJ]at hv;simp only[g1,hj];exact hi1.next j y v v' hy hv hlt'
   ·simp only[Option.some.injEq]at hx;subst hx;cases hv
 refine⟨g1,hinv1,⟨⟨fun b v y hy=>?_,hla.ext.st,hla.ext.cell,hla.ext.shape⟩,hla.size,fun k hk ho=>hla.keep k hk fun o=>ho (own1 k o),fun k hk ho=>own1 k (hla.own k hk (own2 k ho)),by omega,hla.os,hla.tape,hla.output,
  fun k o hk hs=>(hla.stk k o hk hs).imp_right fun h=>⟨own1 k h.1,fun o=>h.2 (own2 k o)⟩,fun b hb=>?_,fun b v k z hk=>?_⟩,?_⟩
 ·simp only[g1];split
  ·rename_i j hj;exact hla.ext.ah j v y (by show g.ah (rD bs n j) v=some y;rw[xb hj];exact hy)
  ·exact hy
 ·rw[hK]at hb;rw[hK1];split at hb
  ·rename_i j hj;obtain⟨y,hy,he⟩:=Option.map_eq_some_iff.1 hb;have:y=.dead:=by cases y<;>simp[jq]at he<;>rfl
   subst this;obtain⟨d1,d2⟩:=hla.sZ j hy;rw[d1];refine⟨rfl,fun v=>?_⟩
   simp only[g1,hj];rw[d2];show g.ah (rD bs n j) v=_;rw[xb hj]
  ·rename_i hj;exact⟨rfl,fun v=>by simp only[g1,hj]⟩
 ·simp only[g1]at hk;split at hk
  ·rename_i j hj;rcases hla.rQ j v k z hk with⟨v1,z1,h1⟩ |h1
   ·exact .inl ⟨v1,z1,by have h1:g.ah (rD bs n j) v1=_:=h1;rw[xb hj]at h1;exact h1⟩
   ·exact .inr h1
  ·exact .inl ⟨v,z,hk⟩
 ·cases r with
  |ret u=>
   obtain⟨y,rfl,hy⟩:=he;exact⟨y,rfl,Hh (g:=g1') (g':=g1) (f:=vP bs n) (fun _ _ h=>h) (fun j v b' v' x hr hx=>by
    simp only[vP,Option.some.injEq,Prod.mk.injEq]at hr;obtain⟨rfl,rfl⟩:=hr;rw[g1f];exact hx) _ _ hy⟩
  |bf u=>
   obtain⟨y,rfl,hy⟩:=he;exact⟨y,rfl,lY _ _ (hf u rfl) hy⟩
structure yC(P:Program)[aD]:Type 1 where
 c:uG P
 m:Nat
 pu:List Nat
 vQ:List Nat
 hl:∀x,(c.heap x).length=m
 ho:∀x r,m≤(c.gC x r).length
 hp:∀x,En pu (c.heap x)
 hq:∀x r,En vQ (c.gC x r)
 hf:∀r v,c.out r=.bf v→v.flat=true
def yC.at(c:yC P)(bs:List Nat)(n:Nat)(h:Fx bs n c.m=true):uG P where
 f:=c.c.f
 X:=c.c.X
 args:=fun x=>AVal.oW (vP bs n) (c.c.args x)
 heap:=fun x=>qS bs c.pu n (c.c.heap x)
 sh:=c.c.sh
 out:=fun r=>(c.c.out r).Vd (vP bs n)
 gC:=fun x r=>qS bs c.vQ n (c.c.gC x r)
 S:=c.c.S
 ok:=fun k x r hr=>bz.place (c.c.ok k x r hr) (by rw[c.hl];exact h) (by rw[c.hl];exact c.ho x r) (c.hp x) (c.hq x r) fun v hv=>c.hf r v hv
inductive Ve (P:Program) [aD] {ρ:Type} (a:aP) (H1:List aa) (out:ρ→aP×List aa):Prop
def Hz{ρ:Type}(P:Program)[aD](out:ρ→aP×List aa)(g:G P ρ)(a:aP)(H1:List aa):Prop:=
 match g with
 | .done _ r=>some (a,H1)=some (out r)
 | .fail=>True
 |_=>Ve P a H1 out
def T9{ρ:Type}(P:Program)[aD](cfg:dL)(nd:Bool)(f:FuncId)(args:List AVal)(H:List aa)(out:ρ→aP×List aa)(g:G P ρ):Prop:=
 T6 P cfg nd (kU P cfg nd 8) f args H g (Hz P out)
theorem Rf(hm : P.follows .mixedOrders = true)(hN : ∀ (f : FuncId) (fn : Func), P.funcs[f]? = some fn → fn.name ≠ "runtime.NumGoroutine"){nd : Bool}{f : FuncId}{args : List AVal}{H : List aa}{ρ : Type}{out : ρ → aP × List aa}{g : G P ρ}
 (h:T9 P cfg nd f args H out g) {n:Nat} {r:ρ} (hr:g.run n=some r):bz P f args H (out r).1 (out r).2:=by
 obtain⟨g',a,H1,hk,hr',hf⟩:=(Ab (cfg:=cfg) (nd:=nd) hm hN 9).fn (show(kU P cfg nd 9).fn f args H g (Hz P out)from h) hr;unfold Hz at hk;split at hk
 ·simp only[G.run,Option.ite_none_right_eq_some,Option.some.injEq]at hr';obtain⟨_,rfl⟩:=hr';simp only[Option.some.injEq]at hk;rw[← hk];exact hf
 ·simp[G.run]at hr'
 ·exact nomatch hk
theorem Uy(hm : P.follows .mixedOrders = true)(hN : ∀ (f : FuncId) (fn : Func), P.funcs[f]? = some fn → fn.name ≠ "runtime.NumGoroutine"){f : FuncId}{args : List AVal}{H : List aa}{ρ : Type}{out : ρ → aP × List aa}{g : G P ρ}
 (h:T9 P cfg true f args H out g) {n:Nat} {r:aP×List aa} (hr:g.can n fun y=>out y=r):bz P f args H r.1 r.2:=by
 have hf:=(Ey (cfg:=cfg) hm hN 9).fn (show(kU P cfg true 9).fn f args H g (Hz P out)from h) hr;refine⟨hf.1,fun g w vs hi hl=>(hf.2 g w vs hi hl).mono fun e w' ⟨a,H1,⟨g',hk,hr'⟩,hc⟩=>?_⟩
 unfold Hz at hk;split at hk
 ·obtain⟨_,rfl⟩:=hr';simp only[Option.some.injEq]at hk;rw[← hk];exact hc
 ·exact hr'.elim
 ·exact nomatch hk
def aP.Ua:aP→Bool
 | .ret _=>true
 | .bf v=>v.flat
theorem aP.JJ{r:aP}(h:r.Ua=true):∀v,r=.bf v→v.flat=true:=by
 rintro v rfl;exact h
theorem En.of{l:List PU}{pu:List Nat}{H:List aa}(h:NM l H)(e:l.map (·.b)=pu):En pu H:=e▸Lq h
structure S2(X:Type)(sh:Sh)(args:X→List AVal)(heap:X→List aa)(out:sh.El→aP)(gC:X→sh.El→List aa) where
 m:Nat
 pu:List Nat
 vQ:List Nat
 NV:X→List PU
 IU:X→sh.El→List PU
 hl:∀x,(heap x).length=m
 ho:∀x,sh.all fun r=>Nat.ble m (gC x r).length=true
 hp:∀x,NM (NV x) (heap x)
 F0:∀x,(NV x).map (·.b)=pu
 hq:∀x,sh.all fun r=>NM (IU x r) (gC x r)
 NW:∀x,sh.all fun r=>(IU x r).map (·.b)=vQ
 hf:sh.all fun r=>(out r).Ua=true
def yC.of[hp:Plain P](cfg:dL)(f:FuncId)(X:Type)(args:X→List AVal)(heap:X→List aa)(sh:Sh)(out:sh.El→aP)(gC:X→sh.El→List aa)(g:X→G P sh.El)(t:S2 X sh args heap out gC)
 (h:∀x,T9 P cfg false f (args x) (heap x) (fun r=>(out r,gC x r)) (g x)=(g x).dV (Bi fun r=>(out r,gC x r))):yC P where
 c:={
  f:=f
  X:=X
  args:=args
  heap:=heap
  sh:=sh
  out:=out
  gC:=gC
  S:=fun n x=>(g x).run n
  ok:=fun n x r hr=>Rf hp.mixed hp.names (out:=fun r=>(out r,gC x r)) (by rw[h x];exact G.bL (fun _=>rfl) (g x)) hr}
 m:=t.m
 pu:=t.pu
 vQ:=t.vQ
 hl:=t.hl
 ho:=fun x r=>Nat.le_of_ble_eq_true ((sh.cG _).1 (t.ho x) r)
 hp:=fun x=>.of (t.hp x) (t.F0 x)
 hq:=fun x r=>.of ((sh.cG _).1 (t.hq x) r) ((sh.cG _).1 (t.NW x) r)
 hf:=fun r=>aP.JJ ((sh.cG _).1 t.hf r)
structure xU(P:Program)[aD]:Type 1 where
 f:FuncId
 X:Type
 args:X→List AVal
 heap:X→List aa
 sh:Sh
 out:sh.El→aP
 gC:X→sh.El→List aa
 g:X→G P sh.El
 t:S2 X sh args heap out gC
 ok:∀n x r,(g x).can n (fun y=>(out y,gC x y)=r)→bz P f (args x) (heap x) r.1 r.2
def xU.of[hp:Plain P](cfg:dL)(f:FuncId)(X:Type)(args:X→List AVal)(heap:X→List aa)(sh:Sh)(out:sh.El→aP)(gC:X→sh.El→List aa)(g:X→G P sh.El)(t:S2 X sh args heap out gC)
 (h:∀x,T9 P cfg true f (args x) (heap x) (fun r=>(out r,gC x r)) (g x)=(g x).dV (Bi fun r=>(out r,gC x r))):xU P where
 f:=f
 X:=X
 args:=args
 heap:=heap
 sh:=sh
 out:=out
 gC:=gC
 g:=g
 t:=t
 ok:=fun n x r hr=>Uy hp.mixed hp.names (out:=fun r=>(out r,gC x r)) (by rw[h x];exact G.bL (fun _=>rfl) (g x)) hr
def xU.all(c:xU P)(S:Nat→c.X→Option c.sh.El)(h:∀n x r,S n x=some r→∃m,(c.g x).can m fun y=>(c.out y,c.gC x y)=(c.out r,c.gC x r)):yC P where
 c:={
  f:=c.f
  X:=c.X
  args:=c.args
  heap:=c.heap
  sh:=c.sh
  out:=c.out
  gC:=c.gC
  S:=S
  ok:=fun n x r hr=>let⟨m,hm⟩:=h n x r hr;c.ok m x (c.out r,c.gC x r) hm}
 m:=c.t.m
 pu:=c.t.pu
 vQ:=c.t.vQ
 hl:=c.t.hl
 ho:=fun x r=>Nat.le_of_ble_eq_true ((c.sh.cG _).1 (c.t.ho x) r)
 hp:=fun x=>.of (c.t.hp x) (c.t.F0 x)
 hq:=fun x r=>.of ((c.sh.cG _).1 (c.t.hq x) r) ((c.sh.cG _).1 (c.t.NW x) r)
 hf:=fun r=>aP.JJ ((c.sh.cG _).1 c.t.hf r)
end
end Go.AM
end
section
namespace Go.AM
section
set_option linter.unusedSectionVars false
variable [aD] {P:Program}
def KD:List aa→List aa→Bool
 | [],[]=>true
 |a::as,b::bs=>u0 a b&&KD as bs
 |_,_=>false
theorem LI:∀{a b:List aa},KD a b=true→a=b
 | [],[],_=>rfl
 |a::as,b::bs,h=>by
  simp only[KD,Bool.and_eq_true]at h;rw[GY h.1,LI h.2]
 | [],_::_,h=>by cases h
 |_::_,[],h=>by cases h
def Rg{ρ:Type}(out:ρ→aP)(gC:ρ→List aa):List ρ→Option ρ
 | []=>none
 |r::rs=>if rs.all (fun x=>KC (out x) (out r)&&KD (gC x) (gC r))then some r else none
def xU.one(c:xU P):yC P:=c.all (fun n x=>((c.g x).runs n).bind (Rg c.out (c.gC x))) fun n x r h=>by
 obtain⟨l,h1,h2⟩:=Option.bind_eq_some_iff.1 h;refine⟨n,G.fc n (c.g x) l _ h1 fun y hy=>?_⟩
 cases l with
 |nil=>cases h2
 |cons r0 rs=>
  simp only[Rg,Option.ite_none_right_eq_some,Option.some.injEq]at h2;obtain⟨h2,rfl⟩:=h2;rcases List.mem_cons.1 hy with rfl |hy
  ·rfl
  ·have:=List.all_eq_true.1 h2 y hy;simp only[Bool.and_eq_true]at this;rw[LG this.1,LI this.2]
end
end Go.AM
end
section
namespace Go.AM
set_option linter.unusedSectionVars false
set_option linter.unusedVariables false
set_option linter.unusedSimpArgs false
section
variable [aD] {P:Program}
theorem Bm{α β:Type}(H:List aa):∀(r:Rd α) (k:α→Rd β),(r.bind k).run H=(r.run H).bind fun x=>(k x).run H
 | .fail,_=>rfl
 | .done _,_=>rfl
 | .get b f,k=>by
  simp only[Rd.bind,Rd.run];cases H[b]? with
  |none=>rfl
  |some x=>exact Bm H (f x) k
theorem F6{n:Nat}{H:List aa}:∀(l:List AVal),AVal.aT l=true→(lM (snap (n+1)) l).run H=some l
 | [],_=>rfl
 |a::l,h=>by
  simp only[AVal.aT,Bool.and_eq_true]at h;have ih:=F6 (n:=n) (H:=H) l h.2;have h1:(snap (n+1) a).run H=some a:=by simp only[snap,h.1,if_true,Rd.run]
  simp only[lM,Bm,h1,ih,Option.bind_some,Rd.run]
theorem bz.Ub{f:FuncId}{rows:List (List AVal)}{sz:Nat}{rest:List AVal}{r:aP}(h:iQ P f (.aj rows::rest) r)(hp:rows.all AVal.aT=true)(hrest:AVal.aT rest=true)(hr:∀v,r=.ret v→v.flat=true)(hr2:∀v,r=.bf v→v.flat=true):
 bz P f (.sl 0 0 sz 0 rows.length::rest) [.row 0 sz rows] r [.row 0 sz rows]:=by
 refine⟨h.1,fun g w vs hi hl=>?_⟩
 have hs:(lM (snap kq) (.sl 0 0 sz 0 rows.length::rest)).run [.row 0 sz rows]=some (.aj rows::rest):=by
  have h2:=F6 (n:=8) (H:=[.row 0 sz rows]) rest hrest;have h1:(snap kq (.sl 0 0 sz 0 rows.length)).run [.row 0 sz rows]=some (.aj rows):=by
   rw[show kq=8+1 from rfl];unfold snap;simp only[AVal.pure,Bool.false_eq_true,if_false,Bm,rowOf,Rd.run,List.getElem?_cons_zero,if_true,Option.bind_some,true_and,Nat.zero_add,Nat.le_refl,List.drop_zero,List.take_length,hp]
  simp only[lM,Bm,h1,Option.bind_some,Rd.run];rw[show kq=8+1 from rfl,h2];rfl
 obtain⟨hl',_⟩:=BN hi hs hl;refine(h.2 (cN g _) w vs hi.cN hl').mono fun e w' ⟨g1,_,hla,he⟩=>?_
 obtain⟨i1,i2⟩:=hi.frame (fun k hk=>hla.keep k hk eU) hla.size hla.os hla.tape hla.output
 refine⟨g,i1,i2,?_⟩;cases r with
 |ret v=>
  obtain⟨x,rfl,hx⟩:=he;exact⟨x,rfl,lY v x (hr v rfl) hx⟩
 |bf v=>
  obtain⟨x,rfl,hx⟩:=he;exact⟨x,rfl,lY v x (hr2 v rfl) hx⟩
end
end Go.AM
end
section
namespace Go.AM
set_option linter.unusedSectionVars false
set_option linter.unusedVariables false
section
variable [aD] {P:Program}
def cD.look(c:aA P)(X τ:Type)(sz:Nat)(enc:τ→List AVal)(rest:X→List AVal)(pack:List τ→X→c.X)
 (hargs:∀l x,c.args (pack l x)=.aj (l.map enc)::rest x) (he:∀a,AVal.aT (enc a)=true) (hrest:∀x,AVal.aT (rest x)=true) (hr:∀r,(c.out r).Fp=true) (hf:∀r v,c.out r=.ret v∨c.out r=.bf v→v.flat=true) (ha:∀x n,AVal.mZ (.sl 0 0 sz 0 n::rest x)=true):cD P where
 f:=c.f
 X:=List τ×Nat×X
 args:=fun x=>.sl 0 0 sz 0 x.2.1::rest x.2.2
 blk:=fun x=>.row 0 sz (x.1.map enc)
 sh:=c.sh
 out:=c.out
 o5:=fun x _=>.row 0 sz (x.1.map enc)
 S:=fun n x=>if x.2.1=x.1.length then c.S n (pack x.1 x.2.2)else none
 a0:=fun x=>ha x.2.2 x.2.1
 b0:=fun x=>by simp[aa.jt,he]
 b1:=fun x _=>.inl (by simp[aa.jt,he])
 r0:=fun r=>aP.QT (hr r)
 ok:=fun n x r h=>by
  split at h
  ·rename_i hn;have h1:=c.ok n _ r h;rw[hargs]at h1;have hp:(x.1.map enc).all AVal.aT=true:=by
    simp only[List.all_map,List.all_eq_true];intro y _;exact he y
   have h2:=bz.Ub (sz:=sz) h1 hp (hrest x.2.2) (fun v hv=>hf r v (.inl hv)) (fun v hv=>hf r v (.inr hv))
   rw[hn];simpa using h2
  ·cases h
end
end Go.AM
end
