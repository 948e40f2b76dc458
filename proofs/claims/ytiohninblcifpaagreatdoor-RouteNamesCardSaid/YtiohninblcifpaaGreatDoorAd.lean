/- Parts put together. No conditions. -/
import Derived.Test.YtiohninblcifpaaGreatDoorAc
import Derived.ReadAgain
import Derived.Carry
import Derived.OpenShut
import Derived.IntWalk
import Derived.Maps.RangeRun
set_option linter.unusedSectionVars false
set_option linter.unusedSimpArgs false
set_option linter.unusedVariables false
section
namespace Go.AM
section
variable [ax] {P:Program} {a:Act} {o:Oper} {g:Gh} {H:List af} {w:World} {ai:Operand→AVal}
theorem G7{ST XT:TypeId}{sz bytes:Nat}(h:Bp P ST XT=some (sz,bytes)):∃e e' i,P.underlying ST=some (.slice e)∧P.underlying XT=some (.slice e')∧P.info? e=some i∧i.size=sz∧i.bytes=bytes∧0<sz∧jK i=true:=by
 grind [Bp]
theorem Jq{nid ST XT:Nat}{args:Array Operand}{ats:Array TypeId}{s x:Operand}{b ak sz bytes:Nat}{rows new:List (List AVal)}(hi:Inv g H w)(hρ:∀x,R g w (ai x) (a.eval x))(hn:H[nid]? =some .aR)
 (ho:o.op=.call {callee:=.builtin .append,args:=args,argTypes:=ats}) (h0:ats[0]? =some ST) (h1:ats[1]? =some XT) (hs0:args[0]? =some s) (hx0:args[1]? =some x) (hsz:args.size=2)
 (hT:Bp P ST XT=some (sz,bytes)) (es:ai s=.sl b ak sz 0 rows.length) (hrow:H[b]? =some (.row ak sz rows)) (hnew:(elems (ai x)).run H=some new) (hall:(new.all fun r=>r.length==sz)=true) (hpos:new.length≠0)
 (hroom:roomy (rows.length+new.length) bytes=true):
 ∃v w',(execOp a.eval o).run P w=.ok (.value v) w'∧
  ((R g w' (.sl b ak sz 0 (rows.length+new.length)) v∧Inv g (H.set b (.row ak sz (rows++new))) w'∧aK g H w g (H.set b (.row ak sz (rows++new))) w')∨
   ∃g',R g' w' (.sl nid 0 sz 0 (rows.length+new.length)) v∧Inv g' (H.set nid (.row 0 sz (rows++new))) w'∧aK g H w g' (H.set nid (.row 0 sz (rows++new))) w'):=by
 have hargs:args= #[s,x]:=by
  obtain⟨l⟩:=args
  match l,hsz with
  | [p,q],_=>simp at hs0 hx0;simp[hs0,hx0]
 have hexec:∀{v w'},(Builtin.append_ ats o.type #[a.eval s,a.eval x]).run P w=.ok v w'→(execOp a.eval o).run P w=.ok (.value v) w':=by
  intro v w' hr;simp[execOp,ho,resolve,invoke,builtin,hargs,hr]
 have hS:=hρ s;have hX:=hρ x;obtain⟨e,e',i,hus,hux,hinfo,rfl,rfl,hpz,hzf⟩:=G7 hT;have hall:=tN hall;obtain⟨ad,cap,news,ev,n1,n2,n3,n4⟩:=kC hi hX hnew hall;obtain⟨z,hz,hzs⟩:=ou hzf;obtain⟨rm1,rm2⟩:=pn hroom;rw[es]at hS;simp only[R]at hS;rcases hS with⟨hl0,evs⟩ |⟨k,scap,E',s',hk,evs,hsh,hcs,hns,hmax⟩
 ·have hr0:rows=[]:=List.eq_nil_of_length_eq_zero hl0;subst hr0;simp only[List.length_nil,Nat.zero_add,List.nil_append]at rm1 rm2 ⊢;rcases nh (P:=P) (w:=w) (ty:=o.type) (base:=none) (n:=0) (cap:=0) (olds:=[]) (E:=e) (cur:= #[]) (c:=cap) h0 h1 hus ⟨e',hux⟩ hinfo hz (by simp) (.inl rfl) n1 n4 n3 (by rw[Nat.zero_add];omega) (by omega) (.inl ⟨rfl,rfl⟩)with⟨hle,_⟩ |⟨_,nc,c1,c2,c3⟩
  ·omega
  ·simp only[Nat.zero_add]at c1 c3;have hcells:cC g w.drew (#[]++news.toArray++Builtin.zeroCells z.cells (nc - new.length)) new.flatten 0:=by
    refine cW (bq (Ext.draw g w) _ _ n2) n3 fun j hj=>?_
    simp[Array.getElem?_append];omega
   obtain⟨a1,a2,a3⟩:=hi.draw.alloc (e:=e) (c:= #[]++news.toArray++Builtin.zeroCells z.cells (nc - new.length)) (rows:=new) (sz:=i.size) hn (by omega) (dZ.2 ⟨hall,hcells⟩) (by simp[n1])
   refine⟨_,_,hexec (by rw[evs,ev];exact c3),.inr ⟨_,?_,a1,a2.draw⟩⟩
   simp only[R];refine .inr ⟨_,nc,e,(#[]++news.toArray++Builtin.zeroCells z.cells (nc - new.length)).size,a3,by simp,fO _ _ _,?_,c1,c2⟩
   have e5:(#[]++news.toArray++Builtin.zeroCells z.cells (nc - new.length):Array Value).size=new.length*i.size+(nc - new.length)*i.size:=by simp[size_zeroCells,hzs,n1]
   rw[e5,← Nat.add_mul];congr 1;omega
 obtain⟨k',cur,E,q1,q2,q3,q4,q5,q6⟩:=hi.row b ak _ _ hrow hk;rw[hk]at q1;simp at q1;obtain rfl:=q1;have hs':s'=cur.size∧E'=E:=by
  simp only[World.shape?,q2]at hsh;simp at hsh;exact⟨hsh.2.symm,hsh.1.symm⟩
 obtain⟨rfl,rfl⟩:=hs';simp only[Nat.zero_mul,Nat.zero_add]at evs hcs;obtain⟨fl1,fl2⟩:=dZ.1 q3;obtain⟨olds,o1,o2,o3,o4⟩:=dR fl2;generalize hnn:rows.length=n at*;have ol:olds.length=n*i.size:=by rw[o1,gz fl1,hnn]
 have hcat:RL g w (rows++new).flatten (olds++news):=by rw[List.flatten_append];exact dn o3 n2
 have hone2:∀y∈olds++news,y.oneCell'=true:=by
  intro y hy;rcases List.mem_append.1 hy with h |h
  ·exact o2 y h
  ·exact n3 y h
 have hlens:∀r∈rows++new,r.length=i.size:=by
  intro r hr;rcases List.mem_append.1 hr with h |h
  ·exact fl1 r h
  ·exact hall r h
 have ocur:∀j,j<olds.length→cur[j]? =olds[j]? :=fun j hj=>by simpa using o4 j hj
 rcases nh (P:=P) (w:=w) (ty:=o.type) (base:=some ⟨k,0,none⟩) (n:=n) (cap:=scap) (olds:=olds) (E:=E') (cur:=cur) (c:=cap) h0 h1 hus ⟨e',hux⟩ hinfo hz ol
  (.inr ⟨_,rfl,fun j u hu=>by
   grind [fN,fc]⟩) n1 n4 n3 (by omega) (by omega) (.inr ⟨k,rfl,q2,hcs⟩)with⟨hle,w',hr,hw⟩ |⟨hlt,nc,c1,c2,c3⟩
 ·have hcsz:n*i.size+news.length≤cur.size:=by rw[n1,← Nat.add_mul,← hcs];exact Nat.mul_le_mul_right _ hle
  have hw':w'=w.setRow k (cur.toList.take (n*i.size)++news++cur.toList.drop (n*i.size+news.length)).toArray:=by
   rcases hw with⟨hm,hw⟩ |⟨k2,hk2,hw⟩
   ·omega
   ·simp at hk2;subst hk2;exact hw
  have hsz':(cur.toList.take (n*i.size)++news++cur.toList.drop (n*i.size+news.length)).toArray.size=cur.size:=by simp;omega
  have hcells:cC g w (cur.toList.take (n*i.size)++news++cur.toList.drop (n*i.size+news.length)).toArray (rows++new).flatten 0:=by
   refine cW hcat hone2 fun j hj=>?_
   simp only[Nat.zero_add,List.getElem?_toArray];simp only[List.length_append]at hj;rw[List.append_assoc];by_cases hjo:j<olds.length
   ·grind
   ·grind
  obtain⟨s1,s2⟩:=hi.store (w':=w') (rows':=rows++new) hrow hk q2 (by rw[hw'];exact setRow_heap w k cur _ E' (0,0) q2) hsz' (fun j hj=>by rw[hw'];exact setRow_other w k j _ hj) (by rw[hw',setRow_size]) (by rw[hw'];rfl) (by simp_all) (by rw[hw'];rfl) (dZ.2 ⟨hlens,hcells⟩)
   (by rw[hsz',← hcs,List.length_append,hnn];exact Nat.mul_le_mul_right _ hle)
  refine⟨_,_,hexec (by rw[evs,ev,hr]),.inl ⟨?_,s1,s2⟩⟩
  simp only[R];refine .inr ⟨k,scap,E',cur.size,hk,by simp,?_,by simpa using hcs,by omega,hmax⟩
  rw[hw'];have:=setRow_heap w k cur (cur.toList.take (n*i.size)++news++cur.toList.drop (n*i.size+news.length)).toArray E' (0,0) q2;simp only[World.shape?,this,hsz']
 ·have hsz':(olds.toArray++news.toArray++Builtin.zeroCells z.cells (nc - (n+new.length))).size=nc*i.size:=by
   simp only[Array.size_append,size_zeroCells,hzs,List.size_toArray,n1,ol,← Nat.add_mul];congr 1;omega
  have hcells:cC g w.drew (olds.toArray++news.toArray++Builtin.zeroCells z.cells (nc - (n+new.length))) (rows++new).flatten 0:=by
   refine cW (bq (Ext.draw g w) _ _ hcat) hone2 fun j hj=>?_
   simp only[List.length_append]at hj;rw[Nat.zero_add,Array.getElem?_append_left (by simp;omega)]
   simp
  obtain⟨a1,a2,a3⟩:=hi.draw.alloc (e:=e) (c:=olds.toArray++news.toArray++Builtin.zeroCells z.cells (nc - (n+new.length))) (rows:=rows++new) (sz:=i.size) hn (by omega) (dZ.2 ⟨hlens,hcells⟩)
   (by rw[hsz',List.length_append,hnn];exact Nat.mul_le_mul_right _ c1)
  refine⟨_,_,hexec (by rw[evs,ev];exact c3),.inr ⟨_,?_,a1,a2.draw⟩⟩
  simp only[R];exact .inr ⟨w.heap.size,nc,e,nc*i.size,a3,by simp,by have:=fO w.drew (olds.toArray++news.toArray++Builtin.zeroCells z.cells (nc - (n+new.length))) e;rw[hsz']at this;exact this,by simp,c1,c2⟩
end
end Go.AM
end
section
namespace Go.AM
open Go.ChangeShapes Go.WideShapes Go.ChangeAt Go.RowKit
structure qp(P:Program)(T:TypeId){α:Type}(enc:α→List AVal)(ok:α→Prop):Prop where
 read:∀{H:Type} {encH:TypeId×Value→H} {w:World} {fuel:Nat} {cs:List Value} {x:DataW H×List MemPlace},DataW.trod encH P w 0 (fun _=>true) true fuel T cs=some x→
  ∃a,ok a∧RL (Gh.bare w) w (enc a) cs∧∀y∈cs,y.oneCell'=true
 pure:∀a,AVal.aO (enc a)=true
 len:∀a,(enc a).length=P.cellsOf T
section
variable {P:Program} {T:TypeId} [ax]
theorem qp.bool(ht:P.underlying T=some .bool)(hc:P.cellsOf T=1):qp P T eB (fun _=>True) where
 read h:=by
  rename_i fuel cs x;cases fuel with
  |zero=>simp[DataW.trod]at h
  |succ n=>
   unfold DataW.trod at h;rw[ht]at h;split at h<;>simp_all
   simp[eB,RL,R,Value.oneCell']
 pure _:=rfl
 len _:=by simp[eB,hc]
theorem qp.int{k:IntKind}(ht:P.underlying T=some (.int k))(hc:P.cellsOf T=1):qp P T (eI k) (fun n=>(Lit.int k n).wf=true) where
 read h:=by
  rename_i fuel cs x;cases fuel with
  |zero=>simp[DataW.trod]at h
  |succ n=>
   unfold DataW.trod at h;rw[ht]at h;split at h<;>simp_all
   obtain⟨⟨rfl,hw⟩,_⟩:=h;exact⟨_,hw,by simp[eI,RL,R],rfl⟩
 pure _:=rfl
 len _:=by simp[eI,hc]
theorem qp.str(ht:P.underlying T=some .string)(hc:P.cellsOf T=1):qp P T eS (fun _=>True) where
 read h:=by
  rename_i fuel cs x;cases fuel with
  |zero=>simp[DataW.trod]at h
  |succ n=>
   unfold DataW.trod at h;rw[ht]at h;split at h<;>simp_all
   simp[eS,RL,R,Value.oneCell']
 pure _:=rfl
 len _:=by simp[eS,hc]
theorem cells?_some{w:World}{a:Addr}{n:Nat}{cs:List Value}(h:w.cells? 0 a n=some cs):cs.length=n∧∀i,i<n→w.cell? (a.add i)=cs[i]? :=by
 unfold World.cells? at h;simp only[Nat.zero_le,if_true]at h;exact⟨by simpa using mapM_some_length h,fun i hi=>mapM_some_get h i i (by simp[hi])⟩
theorem Kq{w:World}{k o:Nat}{y:Value}(h:w.cell? ⟨k,o,none⟩=some y):k<w.heap.size:=by
 unfold World.cell? at h;grind
theorem FJ{α:Type}{n:Nat}{p:Nat→α→Prop}(h:∀i,i<n→∃a,p i a):∃l:List α,l.length=n∧∀i a,l[i]? =some a→p i a:=by
 induction n with
 |zero=>simp_all
 |succ n ih=>
  obtain⟨l,h1,h2⟩:=ih fun i hi=>h i (by omega)
  obtain⟨a,ha⟩:=h n (by omega)
  refine⟨l++[a],by simp[h1],fun i b hb=>?_⟩
  grind
theorem qp.slice{E:TypeId}{α:Type}{enc:α→List AVal}{ok:α→Prop}(ht:P.underlying T=some (.slice E))(hc:P.cellsOf T=1)(hz0:Nat.ble 1 (P.cellsOf E)=true)(he:qp P E enc ok):
 qp P T (eL enc) (fun l=>∀a∈l,ok a) where
 read h:=by
  have hz:=Nat.le_of_ble_eq_true hz0;rename_i H encH w fuel cs x;rcases DataW.trod_slice ht h with⟨rfl,_⟩ |⟨a,len,cap,elems,rest,n,rfl,rfl,_,_,hl,_,hlen,hel,_⟩
  ·exact⟨[],by simp,by simp[eL,RL,R],by simp[Value.oneCell']⟩
  ·have hget:∀i,i<len→∃c,w.cells? 0 (a.add (i*P.cellsOf E)) (P.cellsOf E)=some c∧∃b,ok b∧RL (Gh.bare w) w (enc b) c∧∀y∈c,y.oneCell'=true:=by
    intro i hi;have h1:=hel i hi;obtain⟨y,hy⟩:∃y,elems[i]? =some y:=⟨_,List.getElem?_eq_getElem (by omega)⟩
    rw[hy]at h1;obtain⟨c,hc1,hc2⟩:=Option.bind_eq_some_iff.1 h1;obtain⟨b,hb⟩:=he.read hc2;exact⟨c,hc1,b,hb⟩
   obtain⟨l,hll,hp⟩:=FJ (n:=len) (p:=fun i b=>∃c,w.cells? 0 (a.add (i*P.cellsOf E)) (P.cellsOf E)=some c∧ok b∧RL (Gh.bare w) w (enc b) c∧∀y∈c,y.oneCell'=true)
    fun i hi=>let⟨c,h1,b,h2⟩:=hget i hi;⟨b,c,h1,h2⟩
   refine⟨l,fun b hb=>?_,?_,by simp[Value.oneCell']⟩
   ·obtain⟨i,hi⟩:=List.getElem?_of_mem hb;grind
   ·simp only[eL,RL,R];refine⟨_,[],rfl,⟨some a,cap,by simp[hll],by simp[hll,hl],?_⟩,rfl⟩
    by_cases h0:l.length=0
    ·left;simp[h0]
    ·right;obtain⟨k,o,sp⟩:=a;have hsp:sp=none:=by
      obtain⟨c,h1,_⟩:=hget 0 (by omega)
      obtain⟨h2,h3⟩:=cells?_some h1;have h4:=h3 0 hz;obtain⟨y,hy⟩:∃y,c[0]? =some y:=⟨_,List.getElem?_eq_getElem (by omega)⟩
      rw[hy]at h4;simpa[Addr.add]using World.cell?_spot h4
     subst hsp;refine⟨k,o,P.cellsOf E,rfl,wQ fun i r hr=>?_⟩
     obtain⟨b,hb,rfl⟩:∃b,l[i]? =some b∧enc b=r:=by simpa using hr
     refine⟨he.len b,he.pure b,rz fun j v hv=>?_⟩
     obtain⟨c,h1,_,h2,h3⟩:=hp i b hb;obtain⟨h4,h5⟩:=cells?_some h1;obtain⟨h6,h7⟩:=cK _ _ h2;obtain⟨y,hy,hr⟩:=h7 j v hv;have hj:j<P.cellsOf E:=by rw[← he.len b];exact(List.getElem?_eq_some_iff.1 hv).1
     have hcell:=h5 j hj;rw[hy]at hcell;simp only[Go.WideShapes.add_plain]at hcell;exact⟨Kq hcell,y,hcell,h3 y (List.mem_of_getElem? hy),hr⟩
 pure _:=rfl
 len _:=by simp[eL,hc]
inductive vD (P:Program):List Field→(α:Type)→(α→List AVal)→(α→Prop)→Prop
 |nil:vD P [] Unit (fun _=>[]) (fun _=>True)
 |cons {f:Field} {fs:List Field} {α β:Type} {enc:α→List AVal} {ok:α→Prop} {encs:β→List AVal} {oks:β→Prop} (h:qp P f.type enc ok) (hs:vD P fs β encs oks):
  vD P (f::fs) (α×β) (fun x=>enc x.1++encs x.2) (fun x=>ok x.1∧oks x.2)
theorem vD.pure{fs:List Field}{α:Type}{enc:α→List AVal}{ok:α→Prop}(h:vD P fs α enc ok):∀a,AVal.aO (enc a)=true:=by
 have happ:∀(a b:List AVal),AVal.aO a=true→AVal.aO b=true→AVal.aO (a++b)=true:=by
  intro a b h1 h2;induction a with
  |nil=>exact h2
  |cons x xs ih=>grind [AVal.aO]
 induction h with
 |nil=>exact fun _=>rfl
 |cons h _ ih=>exact fun a=>happ _ _ (h.pure a.1) (ih a.2)
theorem vD.len{fs:List Field}{α:Type}{enc:α→List AVal}{ok:α→Prop}(h:vD P fs α enc ok):∀a,(enc a).length=(fs.map fun f=>P.cellsOf f.type).sum:=by
 induction h with
 |nil=>exact fun _=>rfl
 |cons h _ ih=>exact fun a=>by simp[h.len a.1,ih a.2]
theorem vD.read{H:Type}{encH:TypeId×Value→H}{w:World}{n:Nat}{fs:List Field}{α:Type}{enc:α→List AVal}{ok:α→Prop}(h:vD P fs α enc ok):∀(cs:List Value),cs.length=(fs.map fun f=>P.cellsOf f.type).sum→
 (∀i f,fs[i]? =some f→∃x,DataW.trod encH P w 0 (fun _=>true) true n f.type ((cs.drop ((fs.take i).map fun f=>P.cellsOf f.type).sum).take (P.cellsOf f.type))=some x)→
 ∃a,ok a∧RL (Gh.bare w) w (enc a) cs∧∀y∈cs,y.oneCell'=true:=by
 induction h with
 |nil=>
  intro cs hl _;have:cs=[]:=by simpa using hl
  subst this;exact⟨(),trivial,rfl,by simp⟩
 | @cons f fs α β enc ok encs oks h hs ih=>
  intro cs hl hf;simp only[List.map_cons,List.sum_cons]at hl;obtain⟨x,hx⟩:=hf 0 f rfl;simp only[List.take_zero,List.map_nil,List.sum_nil,List.drop_zero]at hx;obtain⟨a,h1,h2,h3⟩:=h.read hx;obtain⟨b,h4,h5,h6⟩:=ih (cs.drop (P.cellsOf f.type)) (by simp;omega) fun i f' hi=>by
   obtain⟨x,hx⟩:=hf (i+1) f' (by simpa using hi)
   simp_all
  refine⟨(a,b),⟨h1,h4⟩,?_,fun y hy=>?_⟩
  ·have:=dn h2 h5;rwa[List.take_append_drop]at this
  ·rw[← List.take_append_drop (P.cellsOf f.type) cs]at hy;grind
theorem qp.struct(hl:laidOutB P=true)(hT0:Nat.ble (T+1) P.types.size=true){fs:Array Field}(ht:P.underlying T=some (.struct fs)){β S:Type}{encs:β→List AVal}{oks:β→Prop}(h:vD P fs.toList β encs oks){enc:S→List AVal}{ok:S→Prop}(conv:β→S)(back:S→β)
 (hconv:∀b,enc (conv b)=encs b) (hback:∀s,conv (back s)=s) (hok:∀b,oks b→ok (conv b)):qp P T enc ok where
 read hx:=by
  have hT:T<P.types.size:=Nat.le_of_ble_eq_true hT0;obtain⟨xs,n,rfl,_,hlen,hxl,hf⟩:=DataW.trod_struct ht hx;obtain⟨_,h2,h3⟩:=kid_struct hl hT ht;obtain⟨b,k1,k2,k3⟩:=h.read (n:=n) _ (by rw[hlen,h2]) fun i f hi=>by
   have:=hf i f (by simpa using hi)
   rw[h3 i f hi]at this;obtain⟨y,hy⟩:∃y,xs[i]? =some y:=⟨_,List.getElem?_eq_getElem (by
    grind)⟩
   exact⟨y,by rw[this,hy]⟩
  grind
 pure a:=by rw[← hback a,hconv];exact h.pure _
 len a:=by
  have hT:T<P.types.size:=Nat.le_of_ble_eq_true hT0;obtain⟨_,h2,_⟩:=kid_struct hl hT ht;rw[← hback a,hconv,h.len,h2]
end
theorem qp.one{P:Program}{T:TypeId}{α:Type}{enc:α→List AVal}{ok:α→Prop}(h:qp P T enc ok){H:Type}{encH:TypeId×Value→H}{w:World}{v:Value}{d:DataW H}{ps:List MemPlace}
 (hv:DataW.Trod encH P w 0 (fun _=>true) true T v d ps):∃a,ok a∧RL (Gh.bare w) w (enc a) v.cells.toList∧∀y∈v.cells.toList,y.oneCell'=true:=by
 obtain⟨fuel,hf⟩:=hv;exact h.read hf
section
variable {P:Program} {T:TypeId} [ax] {α:Type} {enc:α→List AVal} {ok:α→Prop} {H:Type} {encH:TypeId×Value→H} {w:World} {v:Value} {d:DataW H} {ps:List MemPlace} {r:Reach} {base:Nat}
theorem qp.agg(h:qp P T enc ok){fs:Array Field}(ht:P.underlying T=some (.struct fs))(hval:Value.okWide P w r base T v)(hv:DataW.Trod encH P w 0 (fun _=>true) true T v d ps):∃a,ok a∧R (Gh.bare w) w (.agg (enc a)) v:=by
 obtain⟨a,h1,h2,h3⟩:=h.one hv;unfold Value.okWide at hval;rw[ht]at hval;obtain⟨cs,rfl,_⟩:=hval;exact⟨a,h1,by simp only[R];exact⟨cs.toList,by simp,by simpa[Value.cells]using h3,by simpa[Value.cells]using h2⟩⟩
def KZ(P:Program)(T:TypeId):Bool:=match P.underlying T with
 |some .bool=>true
 |some (.int _)=>true
 |some .string=>true
 |some (.slice _)=>true
 |_=>false
theorem qp.cell{c:α→AVal}(h:qp P T (fun a=>[c a]) ok)(ht:KZ P T=true)(hval:Value.okWide P w r base T v)(hv:DataW.Trod encH P w 0 (fun _=>true) true T v d ps):∃a,ok a∧R (Gh.bare w) w (c a) v:=by
 obtain⟨a,h1,h2,_⟩:=h.one hv;refine⟨a,h1,?_⟩;have hc:v.cells.toList=[v]:=by
  unfold KZ at ht;unfold Value.okWide at hval;split at ht
  case h_5=>cases ht
  all_goals
   rename_i hu;rw[hu]at hval;simp only at hval;unfold Cell.okWide at hval;rw[hu]at hval;cases v<;>simp_all [Cell.ok,Value.cells]
 grind [RL]
theorem EK{w':World}{sp:Nat→Bool}(hl:laidOutB P=true)(hm:mapsRowed P=true)(hz:∀t e,t<P.types.size→P.underlying t=some (.slice e)→0<P.cellsOf e)(hb:Below w.heap.size w w'):
 ∀{ts:List TypeId} {vs:List Value} {ds:List (DataW H)} {ps:List MemPlace},(∀t∈ts,t<P.types.size)→DataW.TrodAll encH P w 0 (fun _=>true) true ts vs ds ps→(∀p∈ps,p.block<w.heap.size)→(∀p∈ps,sp p.block=true)→
  DataW.TrodAll encH P w' 0 sp true ts vs ds ps:=by
 intro ts vs ds ps hT h hlt hs
 replace h:=h.respare (kids_rows hl hm) hz hT hs
 clear hs hz
 revert hlt h
 induction ts generalizing vs ds ps with
 |nil=>intro hlt h;cases vs<;>cases ds<;>simp_all [DataW.TrodAll]
 |cons t ts ih=>
  intro hlt h;cases vs with
  |nil=>cases ds<;>simp[DataW.TrodAll]at h
  |cons v vs=>
   cases ds with
   |nil=>simp[DataW.TrodAll]at h
   |cons d ds=>
    obtain⟨p,q,⟨n,h1⟩,h2,rfl⟩:=h;refine⟨p,q,⟨n,DataW.trod_carry _ _ _ _ h1 fun x hx=>hb.same (hlt x (List.mem_append_left _ hx))⟩,ih (fun t ht=>hT t (List.mem_cons_of_mem _ ht)) (fun x hx=>hlt x (List.mem_append_right _ hx)) h2,rfl⟩
theorem Kr{f:FuncId}{args:List AVal}{v:Value}(h:gG P f args (.ret (.sc v)))(w:World)(hg:kB (Gh.bare w) w)(vs:Array Value)(hl:RL (Gh.bare w) w args vs.toList):
 Calls P f vs w fun e w'=>e=.returned v∧Below w.heap.size w w':=by
 refine(h.2 (Gh.bare w) w vs (Gh.I7 w hg) hl).mono ?_;rintro e w' ⟨g',_,hla,x,rfl,hr⟩;grind [R,FE]
end
end Go.AM
end
section
namespace Go.AM
theorem qL{α:Type}(l:List α)(i:Nat):qn l (i:Int)=l[i]? :=by simp[qn]
theorem wrap_i64{x:Int}(h1: -9223372036854775808≤x)(h2:x≤9223372036854775807):Go.IntKind.wrap .i64 x=x:=by
 rw[Go.IntKind.wrap_i64];omega
theorem Jr{i:Nat}(h:i<9223372036854775807):Go.IntKind.wrap .i64 ((i:Int)+1)=((i+1:Nat):Int):=by
 rw[wrap_i64 (by omega) (by omega)];rfl
end Go.AM
namespace Go.AM
section
variable {X K V β:Type}
end
end Go.AM
end
section
namespace Go.AM
variable [ax] {P:Program}
theorem bB.behind{f:FuncId}{args:List AVal}{sz m:Nat}{rows:List (List AVal)}(h:bB P f args [] (.ret (.sl 0 0 sz 0 m)) [.row 0 sz rows])(ha:AVal.aO args=true)(hp:rows.all AVal.aO=true)(n:Nat):
 bB P f args (List.replicate n .dead) (.ret (.sl n 0 sz 0 m)) (List.replicate n .dead++[.row 0 sz rows]):=by
 refine⟨h.1,fun g w vs hi hl=>?_⟩
 let g0:Gh:=⟨fun _ _=>none,g.st⟩
 have hst0:∀k o,g.st k o→g0.st k o:=fun _ _ h=>h
 have hi0:Inv g0 [] w:=⟨fun b x hb=>by simp at hb,fun b b' x x' v v' k z z' h1=>by simp at h1,fun _ _ _=>rfl,fun b x v ver' hb=>by simp at hb,fun b x v k z o hb=>by simp at hb,hi.dc,fun i cs hc=>⟨(hi.b9 i cs hc).1,gI hst0 _ _ _ (hi.b9 i cs hc).1 (hi.b9 i cs hc).2⟩⟩
 refine(h.2 g0 w vs hi0 (jt hst0 _ _ ha hl)).mono fun e w' ⟨g1,hi1,hla,x,he,hx⟩=>?_
 have low:∀b x,(List.replicate n af.dead++[af.row 0 sz rows])[b]? =some x→(b<n∧x=.dead)∨(b=n∧x=.row 0 sz rows):=fun b x hb=>by
  grind
 let g':Gh:=⟨fun b v=>if b<n then g.ai b v else g1.ai (b - n) v,g1.st⟩
 have hst1:∀k o,g1.st k o→g'.st k o:=fun _ _ h=>h
 have gn:∀v,g'.ai n v=g1.ai 0 v:=fun v=>by simp[g']
 have gl:∀b v,b<n→g'.ai b v=g.ai b v:=fun b v hb=>by simp[g',hb]
 have gh:∀b v,¬b<n→g'.ai b v=g1.ai (b - n) v:=fun b v hb=>by simp[g',hb]
 refine⟨g',⟨?_,?_,?_,?_,?_,hi1.dc,fun i cs hc=>⟨(hi1.b9 i cs hc).1,gI hst1 _ _ _ (hi1.b9 i cs hc).1 (hi1.b9 i cs hc).2⟩⟩,?_,x,he,?_⟩
 ·intro b y hb;rcases low b y hb with⟨_,rfl⟩ |⟨rfl,rfl⟩
  ·trivial
  ·rcases hi1.good 0 _ rfl with⟨k,c,e,h1,h2,h3,h4,h5⟩ |⟨h1,h2,h3⟩
   ·exact .inl ⟨k,c,e,by rw[gn];exact h1,h2,oh hst1 rows 0 hp h3,h4,h5⟩
   ·exact .inr ⟨h1,by rw[gn];exact h2,h3⟩
 ·intro b b' y y' v v' k z z' h1 h2 l1 l2 _ _;rcases low b y h1 with⟨_,rfl⟩ |⟨rfl,rfl⟩
  ·cases l1
  ·rcases low b' y' h2 with⟨_,rfl⟩ |⟨rfl,rfl⟩
   ·cases l2
   ·rfl
 ·intro b ak hc;have hbn:¬b<n:=by
   intro hb;rcases hc with hc |hc
   ·grind
   ·simp at hc;omega
  rw[gh b ak hbn];refine hi1.fresh (b - n) ak (.inr ?_);grind
 ·intro b y v ver' hb hv hlt;rcases low b y hb with⟨_,rfl⟩ |⟨rfl,rfl⟩
  ·cases hv
  ·rw[gn];exact hi1.next 0 _ v ver' rfl hv hlt
 ·intro b y v k z o hb hv hk;rcases low b y hb with⟨_,rfl⟩ |⟨rfl,rfl⟩
  ·cases hv
  ·rw[gn]at hk;exact hi1.free 0 _ v k z o rfl hv hk
 ·have noOwn:∀k,¬eD g0 [] k:=fun k ⟨b,y,v,z,hb,_⟩=>by simp at hb
  refine⟨⟨fun b ak y hb=>?_,fun k o hk=>hla.ext.st k o hk,fun k o hk=>hla.ext.cell k o hk,fun k y hk=>hla.ext.shape k y hk⟩,hla.size,fun k hk _=>hla.keep k hk (noOwn k),fun k hk ho=>?_,by simp,hla.os,hla.tape,hla.output,fun k o hk h=>(hla.stk k o hk h).imp_right fun h=>absurd h.1 (noOwn k),fun b hb=>?_,fun b ak k z hk=>?_⟩
  ·have hbn:b<n:=Decidable.byContradiction fun hc=>by rw[hi.fresh b ak (.inr (by simp;omega))]at hb;cases hb
   rw[gl b ak hbn];exact hb
  ·obtain⟨b,y,v,z,hb,hv,hz⟩:=ho;rcases low b y hb with⟨_,rfl⟩ |⟨rfl,rfl⟩
   ·cases hv
   ·rw[gn]at hz;exact absurd (hla.own k hk ⟨0,_,v,z,rfl,hv,hz⟩) (noOwn k)
  ·grind
  ·by_cases hbn:b<n
   ·grind
   ·rw[gh b ak hbn]at hk;rcases hla.mz (b - n) ak k z hk with⟨v',z',h'⟩ |h'
    ·cases h'
    ·exact .inr h'
 grind [R]
def qF.fresh(P:Program)[ax](f:FuncId)(X:Type)(args:X→List AVal)(α:Type)(sz:Nat)(enc:α→List AVal)(he:∀a,AVal.aO (enc a)=true)(ha:∀x,AVal.aO (args x)=true)(S:Nat→X→Option (List α))
 (ok:∀n x r,S n x=some r→bB P f (args x) [] (.ret (.sl 0 0 sz 0 r.length)) [.row 0 sz (r.map enc)]) (n:Nat):qF P where
 f:=f
 X:=X
 args:=args
 heap:=fun _=>List.replicate n .dead
 sh:=.one (List α)
 out:=fun(r:List α)=>.ret (.sl n 0 sz 0 r.length)
 fu:=fun _ (r:List α)=>List.replicate n .dead++[.row 0 sz (r.map enc)]
 S:=S
 ok:=fun m x (r:List α) h=>(ok m x r h).behind (ha x) (by
  grind) n
theorem gG.dead{f:FuncId}{sz:Nat}{rows:List (List AVal)}{rest:List AVal}{r:aI}(h:gG P f (.aD rows::rest) r)(hp:rows.all AVal.aO=true)(hrest:AVal.aO rest=true)(hr:r.wX=true):
 bB P f (.sl 0 0 sz 0 rows.length::rest) [.row 0 sz rows] r [.dead]:=by
 refine⟨h.1,fun g w vs hi hl=>?_⟩
 have h2:([af.row 0 sz rows]:List af)[0]? =some (.row 0 sz rows):=rfl;obtain⟨i1,i2,i3⟩:=GQ hi hi (aK.refl g _ w) h2;have i2:aK g [.row 0 sz rows] w {ai:=g.ai,st:=fun k o=>g.st k o∨∃z,g.ai 0 0=some (k,z)} [.dead] w:=i2
 have hB:=i1.bare;have hst0:∀k o,g.st k o→g.st k o∨∃z,g.ai 0 0=some (k,z):=fun _ _ h=>.inl h
 have hl0:RL {ai:=fun _ _=>none,st:=fun k o=>g.st k o∨∃z,g.ai 0 0=some (k,z)} w (.aD rows::rest) vs.toList:=by
  simp only[RL]at hl ⊢;obtain⟨x,xs,e,hx,hxs⟩:=hl;refine⟨x,xs,e,?_,jt hst0 _ _ hrest hxs⟩
  suffices hxF:R {ai:=g.ai,st:=fun k o=>g.st k o∨∃z,g.ai 0 0=some (k,z)} w (.aD rows) x from gP (g:={ai:=g.ai,st:=fun k o=>g.st k o∨∃z,g.ai 0 0=some (k,z)}) (g2:={ai:=fun _ _=>none,st:=fun k o=>g.st k o∨∃z,g.ai 0 0=some (k,z)}) (fun _ _ h=>h) (.aD rows) x rfl hxF
  simp only[R]at hx ⊢;rcases hx with⟨hn,rfl⟩ |⟨k,cap,e',sz2,hk,rfl,hsh,hcs,hm,hmax⟩
  ·grind
  ·obtain⟨k',c,e,r1,r2,r3,r4,r5,r6⟩:=hi.row 0 0 _ _ h2 hk;rw[hk]at r1;simp at r1;subst r1;refine⟨_,cap,rfl,by omega,.inr ⟨k,0*sz,sz,rfl,wQ fun i r hr=>?_⟩⟩
   obtain⟨t1,t2⟩:=bR _ _ _ _ r3 hr;grind [rz,gW,jx,fc]
 refine(h.2 _ w vs hB hl0).mono fun e w' ⟨g1,hi1,hla,he⟩=>?_
 have noOwn:∀(g:Gh) k,¬eD g [] k:=fun g k ⟨b,y,v,z,hb,_⟩=>by simp at hb
 have one:∀(b:Nat) (x:af),([af.dead]:List af)[b]? =some x→x=.dead:=fun b x hb=>by
  grind
 have noOwnD:∀(g:Gh) k,¬eD g [.dead] k:=fun g k ⟨b,y,v,z,hb,hv,_⟩=>by
  rw[one b y hb]at hv;cases hv
 refine⟨{ai:=g.ai,st:=g1.st},⟨fun b x hb=>?_,fun b b' x x' v v' k z z' h1 h2 l1=>?_,fun b ak hc=>?_,fun b x v ver' hb hv=>?_,fun b x v k z o hb hv=>?_,hi1.dc,fun i cs hc=>⟨(hi1.b9 i cs hc).1,gI (g:=g1) (g2:={ai:=g.ai,st:=g1.st}) (fun _ _ h=>h) _ _ _ (hi1.b9 i cs hc).1 (hi1.b9 i cs hc).2⟩⟩,i2.trans ⟨⟨fun _ _ _ h=>h,hla.ext.st,hla.ext.cell,hla.ext.shape⟩,hla.size,fun k hk _=>hla.keep k hk (noOwn _ k),fun k _ ho=>absurd ho (noOwnD _ k),Nat.le_refl _,hla.os,hla.tape,hla.output,fun k o hk hs=>(hla.stk k o hk hs).imp_right fun h=>absurd h.1 (noOwn _ k),fun b hb=>⟨hb,fun _=>rfl⟩,fun b ak k z hk=>.inl ⟨ak,z,hk⟩⟩,?_⟩
 ·rw[one b x hb];trivial
 ·rw[one b x h1]at l1;cases l1
 ·refine hi.fresh b ak (.inr ?_);grind
 ·rw[one b x hb]at hv;cases hv
 ·rw[one b x hb]at hv;cases hv
 ·cases r with
  |ret v=>
   obtain⟨x,h1,h3⟩:=he;exact⟨x,h1,gP (g:=g1) (g2:={ai:=g.ai,st:=g1.st}) (fun _ _ h=>h) v x hr h3⟩
  |aM v=>
   obtain⟨x,h1,h3⟩:=he;exact⟨x,h1,hU v x hr h3⟩
def jV.dead(c:aA P)(X τ:Type)(sz:Nat)(enc:τ→List AVal)(rest:X→List AVal)(pack:List τ→X→c.X)
 (hargs:∀l x,c.args (pack l x)=.aD (l.map enc)::rest x) (he:∀a,AVal.aO (enc a)=true) (hrest:∀x,AVal.aO (rest x)=true) (hr:∀r,(c.out r).wX=true) (ha:∀x n,AVal.jH (.sl 0 0 sz 0 n::rest x)=true):jV P where
 f:=c.f
 X:=List τ×Nat×X
 args:=fun x=>.sl 0 0 sz 0 x.2.1::rest x.2.2
 blk:=fun x=>.row 0 sz (x.1.map enc)
 sh:=c.sh
 out:=c.out
 pM:=fun _ _=>.dead
 S:=fun n x=>if x.2.1=x.1.length then c.S n (pack x.1 x.2.2)else none
 a0:=fun x=>ha x.2.2 x.2.1
 b0:=fun x=>by simp[af.nI,he]
 b1:=fun _ _=>.inr rfl
 r0:=fun r=>aI.H8 (hr r)
 ok:=fun n x r h=>by
  split at h
  ·rename_i hn;have h1:=c.ok n _ r h;rw[hargs]at h1;have h2:=h1.dead (sz:=sz) (by
    grind) (hrest x.2.2) (hr r)
   rw[hn];simpa using h2
  ·cases h
theorem gG.apart{f:FuncId}{args:List AVal}{r:aI}(h:gG P f args r)(ha:AVal.aO args=true)(hr:r.wX=true)(n:Nat):
 bB P f args (List.replicate n .dead) r (List.replicate n .dead):=by
 refine⟨h.1,fun g w vs hi hl=>?_⟩
 have hl0:RL {ai:=fun _ _=>none,st:=g.st} w args vs.toList:=jt (g:=g) (g2:={ai:=fun _ _=>none,st:=g.st}) (fun _ _ h=>h) _ _ ha hl
 refine(h.2 _ w vs hi.bare hl0).mono fun e w' ⟨g1,hi1,hla,he⟩=>?_
 have noOwn:∀(g:Gh) k,¬eD g [] k:=fun g k ⟨b,y,v,z,hb,_⟩=>by simp at hb
 have one:∀(b:Nat) (x:af),(List.replicate n af.dead)[b]? =some x→x=.dead:=fun b x hb=>by
  grind
 have noOwnD:∀(g:Gh) k,¬eD g (List.replicate n .dead) k:=fun g k ⟨b,y,v,z,hb,hv,_⟩=>by
  rw[one b y hb]at hv;cases hv
 refine⟨{ai:=g.ai,st:=g1.st},⟨fun b x hb=>?_,fun b b' x x' v v' k z z' h1 h2 l1=>?_,fun b ak hc=>hi.fresh b ak hc,fun b x v ver' hb hv=>?_,fun b x v k z o hb hv=>?_,hi1.dc,fun i cs hc=>⟨(hi1.b9 i cs hc).1,gI (g:=g1) (g2:={ai:=g.ai,st:=g1.st}) (fun _ _ h=>h) _ _ _ (hi1.b9 i cs hc).1 (hi1.b9 i cs hc).2⟩⟩,⟨⟨fun _ _ _ h=>h,hla.ext.st,hla.ext.cell,hla.ext.shape⟩,hla.size,fun k hk _=>hla.keep k hk (noOwn _ k),fun k _ ho=>absurd ho (noOwnD _ k),Nat.le_refl _,hla.os,hla.tape,hla.output,fun k o hk hs=>(hla.stk k o hk hs).imp_right fun h=>absurd h.1 (noOwn _ k),fun b hb=>⟨hb,fun _=>rfl⟩,fun b ak k z hk=>.inl ⟨ak,z,hk⟩⟩,?_⟩
 ·rw[one b x hb];trivial
 ·rw[one b x h1]at l1;cases l1
 ·rw[one b x hb]at hv;cases hv
 ·rw[one b x hb]at hv;cases hv
 ·cases r with
  |ret v=>
   obtain⟨x,h1,h3⟩:=he;exact⟨x,h1,gP (g:=g1) (g2:={ai:=g.ai,st:=g1.st}) (fun _ _ h=>h) v x hr h3⟩
  |aM v=>
   obtain⟨x,h1,h3⟩:=he;exact⟨x,h1,hU v x hr h3⟩
def qF.apart(c:aA P)(ha:∀x,AVal.aO (c.args x)=true)(hr:∀r,(c.out r).wX=true)(n:Nat):qF P where
 f:=c.f
 X:=c.X
 args:=c.args
 heap:=fun _=>List.replicate n .dead
 sh:=c.sh
 out:=c.out
 fu:=fun _ _=>List.replicate n .dead
 S:=c.S
 ok:=fun m x r h=>(c.ok m x r h).apart (ha x) (hr r) n
def Mu(a b:AVal):Prop:=a=b∨(a=.sc (.slice none 0 0)∧b=.aD [])
def uj:List AVal→List AVal→Prop
 | [],[]=>True
 |a::as,b::bs=>Mu a b∧uj as bs
 |_,_=>False
def uk:List (List AVal)→List (List AVal)→Prop
 | [],[]=>True
 |a::as,b::bs=>uj a b∧uk as bs
 |_,_=>False
theorem uj.refl:∀l:List AVal,uj l l
 | []=>trivial
 |_::as=>⟨.inl rfl,uj.refl as⟩
theorem uj.length:∀{l l':List AVal},uj l l'→l.length=l'.length
 | [],[],_=>rfl
 |_::_,_::_,h=>by simp[uj.length h.2]
theorem uj.pure:∀{l l':List AVal},uj l l'→AVal.aO l=true→AVal.aO l'=true
 | [],[],_,h=>h
 |a::as,b::bs,h,hp=>by
  simp only[AVal.aO,Bool.and_eq_true]at hp ⊢;refine⟨?_,uj.pure h.2 hp.2⟩;rcases h.1 with rfl |⟨_,rfl⟩
  ·exact hp.1
  ·rfl
theorem uj.rc{g:Gh}{w:World}{k:Nat}:∀{l l':List AVal} {o:Nat},uj l l'→RC g w l k o→RC g w l' k o
 | [],[],_,_,_=>by simp[RC]
 |a::as,b::bs,o,h,hr=>by
  simp only[RC]at hr ⊢;refine⟨⟨hr.1.1,?_⟩,uj.rc h.2 hr.2⟩;obtain⟨y,h1,h2,h3⟩:=hr.1.2;refine⟨y,h1,h2,?_⟩;rcases h.1 with rfl |⟨rfl,rfl⟩
  ·exact h3
  grind [R]
theorem uk.length:∀{l l':List (List AVal)},uk l l'→l.length=l'.length
 | [],[],_=>rfl
 |_::_,_::_,h=>by simp[uk.length h.2]
theorem uk.rr{g:Gh}{w:World}{k sz:Nat}:∀{l l':List (List AVal)} {o:Nat},uk l l'→RR g w l k o sz→RR g w l' k o sz
 | [],[],_,_,_=>by simp[RR]
 |a::as,b::bs,o,h,hr=>by
  simp only[RR]at hr ⊢;exact⟨⟨by rw[← h.1.length];exact hr.1.1,h.1.pure hr.1.2.1,h.1.rc hr.1.2.2⟩,uk.rr h.2 hr.2⟩
theorem uk.append:∀{l l' m m':List (List AVal)},uk l l'→uk m m'→uk (l++m) (l'++m')
 | [],[],_,_,_,h=>h
 |_::_,_::_,_,_,h,h'=>⟨h.1,uk.append h.2 h'⟩
theorem uk.map{α:Type}{e e':α→List AVal}(h:∀a,uj (e a) (e' a)):∀l:List α,uk (l.map e) (l.map e')
 | []=>trivial
 |a::l=>⟨h a,uk.map h l⟩
end Go.AM
end
section
namespace Go.AM
section
variable [ax] {P:Program} {cfg:dV}
theorem EL{g:Gh}{w:World}:∀(a:List AVal) {b:List AVal} {vs:List Value},RL g w (a++b) vs→∃v1 v2,vs=v1++v2∧RL g w a v1∧RL g w b v2
 | [],b,vs,h=>⟨[],vs,rfl,rfl,h⟩
 |x::a,b,vs,h=>by
  simp only[List.cons_append,RL]at h;obtain⟨y,ys,rfl,h1,h2⟩:=h;obtain⟨v1,v2,rfl,h3,h4⟩:=EL a h2;exact⟨y::v1,v2,rfl,⟨y,v1,rfl,h1,h3⟩,h4⟩
theorem gG.EM{f:FuncId}{sz:Nat}{rows:List (List AVal)}{pre rest:List AVal}{r:aI}(h:gG P f (pre++ .aD rows::rest) r)(hp:rows.all AVal.aO=true)(hpre:AVal.aO pre=true)(hrest:AVal.aO rest=true)(hr:r.wX=true):
 bB P f (pre++ .sl 0 0 sz 0 rows.length::rest) [.row 0 sz rows] r [.dead]:=by
 refine⟨h.1,fun g w vs hi hl=>?_⟩
 have h2:([af.row 0 sz rows]:List af)[0]? =some (.row 0 sz rows):=rfl;obtain⟨i1,i2,i3⟩:=GQ hi hi (aK.refl g _ w) h2;have i2:aK g [.row 0 sz rows] w {ai:=g.ai,st:=fun k o=>g.st k o∨∃z,g.ai 0 0=some (k,z)} [.dead] w:=i2
 have hB:=i1.bare;have hst0:∀k o,g.st k o→g.st k o∨∃z,g.ai 0 0=some (k,z):=fun _ _ h=>.inl h
 have hl0:RL {ai:=fun _ _=>none,st:=fun k o=>g.st k o∨∃z,g.ai 0 0=some (k,z)} w (pre++ .aD rows::rest) vs.toList:=by
  obtain⟨v1,v2,e0,hl1,hl2⟩:=EL pre hl;rw[e0];refine dn (jt hst0 _ _ hpre hl1) ?_;simp only[RL]at hl2 ⊢;obtain⟨x,xs,e,hx,hxs⟩:=hl2;refine⟨x,xs,e,?_,jt hst0 _ _ hrest hxs⟩
  suffices hxF:R {ai:=g.ai,st:=fun k o=>g.st k o∨∃z,g.ai 0 0=some (k,z)} w (.aD rows) x from gP (g:={ai:=g.ai,st:=fun k o=>g.st k o∨∃z,g.ai 0 0=some (k,z)}) (g2:={ai:=fun _ _=>none,st:=fun k o=>g.st k o∨∃z,g.ai 0 0=some (k,z)}) (fun _ _ h=>h) (.aD rows) x rfl hxF
  simp only[R]at hx ⊢;rcases hx with⟨hn,rfl⟩ |⟨k,cap,e',sz2,hk,rfl,hsh,hcs,hm,hmax⟩
  ·grind
  ·obtain⟨k',c,e,r1,r2,r3,r4,r5,r6⟩:=hi.row 0 0 _ _ h2 hk;rw[hk]at r1;simp at r1;subst r1;refine⟨_,cap,rfl,by omega,.inr ⟨k,0*sz,sz,rfl,wQ fun i r hr=>?_⟩⟩
   obtain⟨t1,t2⟩:=bR _ _ _ _ r3 hr;grind [rz,gW,jx,fc]
 refine(h.2 _ w vs hB hl0).mono fun e w' ⟨g1,hi1,hla,he⟩=>?_
 have noOwn:∀(g:Gh) k,¬eD g [] k:=fun g k ⟨b,y,v,z,hb,_⟩=>by simp at hb
 have one:∀(b:Nat) (x:af),([af.dead]:List af)[b]? =some x→x=.dead:=fun b x hb=>by
  grind
 have noOwnD:∀(g:Gh) k,¬eD g [.dead] k:=fun g k ⟨b,y,v,z,hb,hv,_⟩=>by
  rw[one b y hb]at hv;cases hv
 refine⟨{ai:=g.ai,st:=g1.st},⟨fun b x hb=>?_,fun b b' x x' v v' k z z' h1 h2 l1=>?_,fun b ak hc=>?_,fun b x v ver' hb hv=>?_,fun b x v k z o hb hv=>?_,hi1.dc,fun i cs hc=>⟨(hi1.b9 i cs hc).1,gI (g:=g1) (g2:={ai:=g.ai,st:=g1.st}) (fun _ _ h=>h) _ _ _ (hi1.b9 i cs hc).1 (hi1.b9 i cs hc).2⟩⟩,i2.trans ⟨⟨fun _ _ _ h=>h,hla.ext.st,hla.ext.cell,hla.ext.shape⟩,hla.size,fun k hk _=>hla.keep k hk (noOwn _ k),fun k _ ho=>absurd ho (noOwnD _ k),Nat.le_refl _,hla.os,hla.tape,hla.output,fun k o hk hs=>(hla.stk k o hk hs).imp_right fun h=>absurd h.1 (noOwn _ k),fun b hb=>⟨hb,fun _=>rfl⟩,fun b ak k z hk=>.inl ⟨ak,z,hk⟩⟩,?_⟩
 ·rw[one b x hb];trivial
 ·rw[one b x h1]at l1;cases l1
 ·refine hi.fresh b ak (.inr ?_);grind
 ·rw[one b x hb]at hv;cases hv
 ·rw[one b x hb]at hv;cases hv
 ·cases r with
  |ret v=>
   obtain⟨x,h1,h3⟩:=he;exact⟨x,h1,gP (g:=g1) (g2:={ai:=g.ai,st:=g1.st}) (fun _ _ h=>h) v x hr h3⟩
  |aM v=>
   obtain⟨x,h1,h3⟩:=he;exact⟨x,h1,hU v x hr h3⟩
def jV.EM(c:aA P)(X τ:Type)(sz:Nat)(enc:τ→List AVal)(pre rest:X→List AVal)(pack:List τ→X→c.X)
 (hargs:∀l x,c.args (pack l x)=pre x++ .aD (l.map enc)::rest x) (he:∀a,AVal.aO (enc a)=true) (hpre:∀x,AVal.aO (pre x)=true) (hrest:∀x,AVal.aO (rest x)=true) (hr:∀r,(c.out r).wX=true) (ha:∀x n,AVal.jH (pre x++ .sl 0 0 sz 0 n::rest x)=true):jV P where
 f:=c.f
 X:=List τ×Nat×X
 args:=fun x=>pre x.2.2++ .sl 0 0 sz 0 x.2.1::rest x.2.2
 blk:=fun x=>.row 0 sz (x.1.map enc)
 sh:=c.sh
 out:=c.out
 pM:=fun _ _=>.dead
 S:=fun n x=>if x.2.1=x.1.length then c.S n (pack x.1 x.2.2)else none
 a0:=fun x=>ha x.2.2 x.2.1
 b0:=fun x=>by simp[af.nI,he]
 b1:=fun _ _=>.inr rfl
 r0:=fun r=>aI.H8 (hr r)
 ok:=fun n x r h=>by
  split at h
  ·rename_i hn;have h1:=c.ok n _ r h;rw[hargs]at h1;have h2:=h1.EM (sz:=sz) (by
    grind) (hpre x.2.2) (hrest x.2.2) (hr r)
   rw[hn];simpa using h2
  ·cases h
def jV.re(c:jV P)(Y:Type)(f:Y→c.X):jV P where
 f:=c.f
 X:=Y
 args:=fun y=>c.args (f y)
 blk:=fun y=>c.blk (f y)
 sh:=c.sh
 out:=c.out
 pM:=fun y r=>c.pM (f y) r
 S:=fun n y=>c.S n (f y)
 a0:=fun y=>c.a0 (f y)
 b0:=fun y=>c.b0 (f y)
 b1:=fun y r=>c.b1 (f y) r
 r0:=c.r0
 ok:=fun n y r h=>c.ok n (f y) r h
end
end Go.AM
end
section
namespace Go.AM
open Go.ChangeMaps (setBlock)
def lg{σ τ:Type}(f:σ→((σ⊕τ)→Prop)→Prop):Nat→σ→(τ→Prop)→Prop
 | 0,_,_=>False
 |n+1,a,q=>f a fun
  | .inl a'=>lg f n a' q
  | .inr t=>q t
section
variable {P:Program} [ax]
def G.can(n:Nat):{ρ:Type}→G P ρ→(ρ→Prop)→Prop
 |_,.stop,_=>False
 |_,.done ts r,p=>ej ts=true∧p r
 |_,.fail,_=>False
 |_,.skip _ g,p=>g.can n p
 |_,.br _ c t f,p=>if c then t.can n p else f.can n p
 |_,.z6 _ _ x c t f,p=>if x=c then t.can n p else f.can n p
 |_,.sp c t f,p=>if c then t.can n p else f.can n p
 |_,.op t k,p=>∃x,t.run=some x∧(k x).can n p
 |_,.call c x k,p=>∃r,c.S n x=some r∧(k r).can n p
 |_,.pO _ c x k,p=>∃r,c.S n x=some r∧(k r).can n p
 |_,.bz c x k,p=>∃r,c.S n x=some r∧(k r).can n p
 |_,.gM c _ _ _ x k,p=>∃r,c.S n x=some r∧(k r).can n p
 |_,.tidy l g,p=>ej l=true∧g.can n p
 |_,.loop _ hd _ _ a0 body k,p=>ej hd=true∧lg (fun a q=>(body a).can n q) n a0 fun t=>(k t).can n p
 |_,.jh _ _ hd _ _ a0 body k,p=>ej hd=true∧lg (fun a q=>(body a).can n q) n a0 fun t=>(k t).can n p
 |_,.eG _ g,p=>g.can n p
 |_,.rE _ _ g,p=>g.can n p
 |_,.join _ _ g k,p=>g.can n fun t=>(k t).can n p
 |_,.pick z seen k,p=>((∀i,i<z.n→i∈seen)→(k none).can n p)∧∀i,i<z.n→i∉seen→(k (some i)).can n p
 |_,.grow z k,p=>z.ok=true∧(k true).can n p∧(k false).can n p
 |_,.inl _ g,p=>g.can n p
theorem G.EN{ρ:Type}(n m:Nat)(g:G P ρ)(p:ρ→Prop):(G.less m g).can n p=g.can n p:=by cases m<;>simp[G.less,G.can]
end
section
variable [ax] {P:Program} {cfg:dV} {X:Env P}
def xe(P:Program)[ax](f:FuncId)(args:List AVal)(H:List af)(Φ:aI→List af→Prop):Prop:=
 (∃ fn c, P.funcs[f]? = some fn ∧ fn.body = some c ∧ fn.name ≠ "runtime.NumGoroutine") ∧
 ∀g w (vs:Array Value),Inv g H w→RL g w args vs.toList→Calls P f vs w fun e w'=>∃a H1,Φ a H1∧dL g H w a H1 e w'
def Ii(P:Program)[ax](b:Nat)(args:List AVal)(H:List af)(Φ:aI→List af→Prop):Prop:=
 ∀g w (vs:Array Value) k sz,Inv g H w→RL g w args vs.toList→g.ai b 0=some (k,sz)→
  ∃rec,w.heap[k]? =some (.loop rec)∧vs.size=rec.params.size∧RoundIn Fence.wide 0 P k rec.fn (iY rec vs) rec.assign rec.body w fun e w'=>∃a H1,Φ a H1∧dL g H w a H1 e w'
structure kN(P:Program)[ax](N:vB P):Prop where
 fn:∀{ρ:Type} {n:Nat} {f:FuncId} {args:List AVal} {H:List af} {g:G P ρ} {k:G P ρ→aI→List af→Prop} {p:ρ→Prop},N.fn f args H g k→g.can n p→
  xe P f args H fun a H1=>∃g',k g' a H1∧g'.can n p
 xE:∀{ρ:Type} {n:Nat} {b:Nat} {args:List AVal} {H:List af} {g:G P ρ} {k:G P ρ→aI→List af→Prop} {p:ρ→Prop},N.xE b args H g k→g.can n p→
  Ii P b args H fun a H1=>∃g',k g' a H1∧g'.can n p
 lp:∀{σ:Type} {sh:Sh} {n:Nat} {ro:Option Nat} {H0:List af} {b:Code} {g:G P (σ⊕sh.El)} {E:σ→St} {s:St} {Y:sh.El→aS×St} {p:σ⊕sh.El→Prop},N.lp ro H0 b g E s Y→g.can n p→
  ∀fro g0 w0,Inv g0 H0 w0→jR g0 ro fro→dO P fro g0 H0 w0 b s fun o s'=>∃(g':G P (σ⊕sh.El)),kK H0 E Y g' o s'∧g'.can n p
variable {ops:Array Oper} {n0 nid:Nat} {o:Oper} {s:St}
theorem lq{n:Nat}{ρ:Type}{p:ρ→Prop}:∀{g:G P ρ} {s:St} {k:G P ρ→St→Prop},ko g s k→g.can n p→∃g',k g' s∧g'.can n p
 | .br d c t f,s,k,h,hr=>by
  simp only[ko,kD]at h;obtain⟨hd,h1,h2⟩:=h;have hset:s.A.set d (.sc (.bool c))=s.A:=by
   apply List.ext_getElem?;intro j;by_cases hj:d=j
   ·grind
   ·rw[List.getElem?_set_ne hj]
  cases c with
  |true=>
   rw[hset]at h1;simp only[G.can,if_true]at hr;exact lq h1 hr
  |false=>
   rw[hset]at h2;simp only[G.can,Bool.false_eq_true,if_false]at hr;exact lq h2 hr
 | .z6 d ik x c t f,s,k,h,hr=>by
  simp only[ko,kD]at h;obtain⟨hd,h1,h2⟩:=h;by_cases hx:x=c
  ·subst hx;have hset:s.A.set d (.sc (.int ik x))=s.A:=by
    apply List.ext_getElem?;intro j;by_cases hj:d=j
    ·grind
    ·rw[List.getElem?_set_ne hj]
   rw[hset]at h1;simp only[G.can,if_true]at hr;exact lq h1 hr
  ·simp only[G.can,hx,if_false]at hr;exact lq h2 hr
 | .sp c t f,s,k,h,hr=>by
  simp only[ko]at h;cases c with
  |true=>
   simp only[G.can,if_true]at hr;exact lq h.1 hr
  |false=>
   simp only[G.can,Bool.false_eq_true,if_false]at hr;exact lq h.2 hr
 | .fail,s,k,h,hr=>by simp[G.can]at hr
 | .stop,s,k,h,hr=>by simp[G.can]at hr
 | .done ..,s,k,h,hr=>⟨_,h,hr⟩
 | .skip ..,s,k,h,hr=>⟨_,h,hr⟩
 | .op ..,s,k,h,hr=>⟨_,h,hr⟩
 | .call ..,s,k,h,hr=>⟨_,h,hr⟩
 | .bz ..,s,k,h,hr=>⟨_,h,hr⟩
 | .pO ..,s,k,h,hr=>⟨_,h,hr⟩
 | .gM ..,s,k,h,hr=>⟨_,h,hr⟩
 | .tidy ..,s,k,h,hr=>⟨_,h,hr⟩
 | .loop ..,s,k,h,hr=>⟨_,h,hr⟩
 | .jh ..,s,k,h,hr=>⟨_,h,hr⟩
 | .eG ..,s,k,h,hr=>⟨_,h,hr⟩
 | .rE ..,s,k,h,hr=>⟨_,h,hr⟩
 | .join ..,s,k,h,hr=>⟨_,h,hr⟩
 | .pick ..,s,k,h,hr=>⟨_,h,hr⟩
 | .grow ..,s,k,h,hr=>⟨_,h,hr⟩
 | .inl ..,s,k,h,hr=>⟨_,h,hr⟩
theorem AJ{H0:List af}{n:Nat}{ρ:Type}{p:ρ→Prop}{g:G P ρ}{s:St}{k:G P ρ→St→Prop}(h:AF H0 g s k)(hr:g.can n p):∃s' g',fK H0 s s'∧k g' s'∧g'.can n p:=by
 unfold AF at h;split at h
 ·grind [G.can,cu]
 ·exact⟨s,g,.refl _ _,h,hr⟩
theorem G8{pr:List Nat}{f:FuncId}{args:List AVal}{ids rs:List Nat}{Φ:aI→List af→Prop}(hw:fL ops s.A o=some true)(hx:AE P cfg pr (bQ s.A) o.op s.H=some (.inl f,args,ids,rs))(hfn:xe P f args (mask ids s.H) Φ)
 {ro:Option Nat} {gg:Gh} {a:Act} {w:World} (hs:dy gg s a w) {i:Nat} (hi:ops[i]? =some o) (hcalm:Calm ro o) {K:Act→World→Prop} {Q:Exit→Act→World→Prop}
 (hK:∀a1 H1,Φ a1 H1→(∃e,dW s.H ids (some (a1,H1))=some (.ok e)∧jP Q K gg s a w (.ok {s with A:=fG s.A o.dst e.val,H:=e.apply s.H}))∨
  (∃v,dW s.H ids (some (a1,H1))=some (.aM v ids)∧jP Q K gg s a w (.aM v {s with H:=ids.foldl (fun H i=>H.set i .dead) s.H}))):wpOpIn (Fr ro) 0 P ops Q i K a w:=by
 unfold wpOpIn;simp only[hi];rw[kH hs hw];simp only[if_true];refine⟨fun _ _=>trivial,?_⟩
 rw[hcalm.semAt];unfold AE at hx;split at hx
 ·rename_i _ fo as tys hop;split at hx
  ·rename_i n p q hf;split at hx
   ·rename_i fn hfx;split at hx
    ·split at hx
     ·simp only[Option.some.injEq,Prod.mk.injEq,Sum.inl.injEq]at hx;obtain⟨rfl,rfl,rfl,rfl⟩:=hx;have hev:=hs.eval fo;rw[hf]at hev;simp only[R]at hev;obtain⟨va,vb,hfo,l1,l2⟩:=hev;have hl:RL gg w (p++as.toList.map (bQ s.A)++q) ((va.toArray++as.map a.eval)++vb.toArray).toList:=by
       simp only[Array.toList_append,Array.toList_map];exact dn (dn l1 (jO hs as)) l2
      obtain⟨⟨fn',c,k1,k2,k3⟩,hcalls⟩:=hfn;have hcalls:=hcalls gg w _ (k4 hs.inv _) hl;have hex:(execOp a.eval o).run P w=.ok (.enter n ((va.toArray++as.map a.eval)++vb.toArray)) w:=by
       simp[execOp,hop,resolve,hfo,Deferred.ofValue,invoke,kI k1 k2 k3]
      rw[hex];simp only[Oper.uponIn];refine⟨k6 ro,tV (hcalls.mono ?_)⟩;rintro en w' ⟨a1,H1,hΦ,hc⟩;rcases hK a1 H1 hΦ with⟨e,hm,hk⟩ |⟨v,hm,hk⟩
      ·obtain⟨r',H',he,hp⟩:=gd hs.inv hm;simp only[Option.some.injEq,Prod.mk.injEq]at he;obtain⟨rfl,rfl⟩:=he;rcases hp with⟨aT,he,hp⟩ |⟨v',he,_⟩
       ·cases he;obtain⟨x,g',rfl,hi',hr,hla⟩:=hp en w' hc;exact hk g' _ w' ⟨hi',jb (bq hla.ext _ _ hs.tmps) hr o.dst,by rw[put_defers];exact cT hla.ext _ _ hs.defs⟩ hla
       ·cases he
      ·obtain⟨r',H',he,hp⟩:=gd hs.inv hm;simp only[Option.some.injEq,Prod.mk.injEq]at he;obtain⟨rfl,rfl⟩:=he;rcases hp with⟨aT,he,hp⟩ |⟨v',he,hfl,hp⟩
       ·cases he
       ·cases he;obtain⟨x,rfl,hi',hr,hla⟩:=hp en w' hc;exact hk gg w' x hfl ⟨hi',bq hla.ext _ _ hs.tmps,cT hla.ext _ _ hs.defs⟩ hla hr
     ·cases hx
    ·cases hx
   ·cases hx
  ·grind
  ·cases hx
 ·cases hx
theorem FK{pr:List Nat}{b:Nat}{args:List AVal}{ids rs:List Nat}{Φ:aI→List af→Prop}(hw:fL ops s.A o=some true)(hx:AE P cfg pr (bQ s.A) o.op s.H=some (.inr b,args,ids,rs))(hfn:Ii P b args (mask ids s.H) Φ)
 {ro:Option Nat} {gg:Gh} {a:Act} {w:World} (hs:dy gg s a w) {i:Nat} (hi:ops[i]? =some o) (hcalm:Calm ro o) {K:Act→World→Prop} {Q:Exit→Act→World→Prop}
 (hK:∀a1 H1,Φ a1 H1→(∃e,dW s.H ids (some (a1,H1))=some (.ok e)∧jP Q K gg s a w (.ok {s with A:=fG s.A o.dst e.val,H:=e.apply s.H}))∨
  (∃v,dW s.H ids (some (a1,H1))=some (.aM v ids)∧jP Q K gg s a w (.aM v {s with H:=ids.foldl (fun H i=>H.set i .dead) s.H}))):wpOpIn (Fr ro) 0 P ops Q i K a w:=by
 unfold wpOpIn;simp only[hi];rw[kH hs hw];simp only[if_true];refine⟨fun _ _=>trivial,?_⟩
 rw[hcalm.semAt];unfold AE at hx;split at hx
 ·rename_i _ fo as tys hop;split at hx
  ·grind
  ·rename_i b' hf;split at hx
   ·simp only[Option.some.injEq,Prod.mk.injEq,Sum.inr.injEq]at hx;obtain⟨rfl,rfl,rfl,rfl⟩:=hx;have hev:=hs.eval fo;rw[hf]at hev;simp only[R]at hev;obtain⟨k,sz,hk0,hfo⟩:=hev;have hl:RL gg w (as.toList.map (bQ s.A)) (as.map a.eval).toList:=by
     simp only[Array.toList_map];exact jO hs as
    obtain⟨rec,r1,r2,hround⟩:=hfn gg w _ k sz (k4 hs.inv _) hl hk0;rw[vt hop hfo r1 r2];simp only[Oper.uponIn];refine⟨k6 ro,Aw (hround.mono ?_)⟩;rintro en w' ⟨a1,H1,hΦ,hc⟩;rcases hK a1 H1 hΦ with⟨e,hm,hk⟩ |⟨v,hm,hk⟩
    ·obtain⟨r',H',he,hp⟩:=gd hs.inv hm;simp only[Option.some.injEq,Prod.mk.injEq]at he;obtain⟨rfl,rfl⟩:=he;rcases hp with⟨aT,he,hp⟩ |⟨v',he,_⟩
     ·cases he;obtain⟨x,g',rfl,hi',hr,hla⟩:=hp en w' hc;exact hk g' _ w' ⟨hi',jb (bq hla.ext _ _ hs.tmps) hr o.dst,by rw[put_defers];exact cT hla.ext _ _ hs.defs⟩ hla
     ·cases he
    ·obtain⟨r',H',he,hp⟩:=gd hs.inv hm;simp only[Option.some.injEq,Prod.mk.injEq]at he;obtain⟨rfl,rfl⟩:=he;rcases hp with⟨aT,he,hp⟩ |⟨v',he,hfl,hp⟩
     ·cases he
     ·cases he;obtain⟨x,rfl,hi',hr,hla⟩:=hp en w' hc;exact hk gg w' x hfl ⟨hi',bq hla.ext _ _ hs.tmps,cT hla.ext _ _ hs.defs⟩ hla hr
   ·cases hx
  ·cases hx
 ·cases hx
theorem Js{z:PK}{seen:List Nat}{it:Operand}(ho:o.op=.next it false)(hw:fL ops s.A o=some true)(hit:bQ s.A it=.ptr z.b 0 0 0)(hb:s.H[z.b]? =some (.iter (.mp z.mb) z.n seen z.n))(hmb:s.H[z.mb]? =some (.map z.n z.es))
 {ro:Option Nat} {gg:Gh} {a:Act} {w:World} (hs:dy gg s a w) {i:Nat} (hi:ops[i]? =some o) (hcalm:Calm ro o) {K:Act→World→Prop} {Q:Exit→Act→World→Prop}
 (h0:(∀i,i<z.n→i∈seen)→jP Q K gg s a w (.ok {s with A:=fG s.A o.dst (.bV [.sc (.bool false)])}))
 (h1:∀i,i<z.n→i∉seen→jP Q K gg s a w (.ok {s with A:=fG s.A o.dst (.bV [.sc (.bool true),.aq,.aq]),H:=s.H.set z.b (.iter (.mp z.mb) z.n (seen++[i]) z.n)})):wpOpIn (Fr ro) 0 P ops Q i K a w:=by
 unfold wpOpIn;simp only[hi];rw[kH hs hw];simp only[if_true];refine⟨fun _ _=>trivial,?_⟩
 rw[hcalm.semAt];have hev:=hs.eval it;rw[hit]at hev;simp only[R,Nat.zero_mul,Nat.add_zero]at hev;obtain⟨k,sz,hk,hx⟩:=hev;obtain⟨k',mo,q1,q2,q3⟩:=hs.inv.good _ _ hb;rw[hk]at q1;simp only[Option.some.injEq,Prod.mk.injEq]at q1;obtain⟨rfl,rfl⟩:=q1;simp only[R]at q3;obtain⟨k2,z2,q4,q5⟩:=q3;obtain rfl:mo=some k2:=by simpa using q5
 obtain⟨k3,ents,r1,r2,r3⟩:=hs.inv.good _ _ hmb;rw[q4]at r1;simp only[Option.some.injEq,Prod.mk.injEq]at r1;obtain⟨rfl,rfl⟩:=r1;obtain⟨l1,l2⟩:=jC r3;have hborn:∀(j:Nat) e,ents.toList[j]? =some e→e.born=j:=by
  intro j e he;have hj:j<z.es.length:=by rw[l1];exact(List.getElem?_eq_some_iff.1 he).1
  obtain⟨e',f1,-,-,f4⟩:=l2 j z.es[j] (List.getElem?_eq_getElem hj);rw[he]at f1;cases f1;rw[f4,z.pf.2 j _ (List.getElem?_eq_getElem hj)]
 have hlen:ents.toList.length=z.n:=by rw[← l1,z.pf.1]
 have hold:∀x∈ents.toList,x.born<z.n:=by
  intro x hx;obtain⟨j,hj,rfl⟩:=List.getElem_of_mem hx;rw[hborn j _ (List.getElem?_eq_getElem hj)];omega
 have hexec:∀{v:Value} {w':World},(Instr.next (.pointer (some ⟨k,0,none⟩)) false o.type).run P w=.ok v w'→(execOp a.eval o).run P w=.ok (.value v) w':=by
  intro v w' h;simp[execOp,ho,hx,h,Result.andThen]
 rcases run_next_at w o.type k k2 z.n z.n seen.toArray ents z.n q2 r2 hold (Nat.le_refl _)with⟨hsz,hrun⟩ |⟨e,he,w1,hw1,hrun⟩
 ·rw[hexec hrun];simp only[Oper.uponIn];have hall:∀j,j<z.n→j∈seen:=by
   intro j hj;have hj':j<ents.toList.length:=by omega
   have:(leftOf ents seen.toArray)= #[]:=Array.eq_empty_of_size_eq_zero hsz;unfold leftOf at this;rw[Array.filter_eq_empty_iff]at this;have hm:=this ents.toList[j] (by simp)
   rw[hborn j _ (List.getElem?_eq_getElem hj')]at hm;simpa using hm
  have:=h0 hall gg (a.put o.dst (.tuple #[.bool false])) w ⟨hs.inv,jb hs.tmps (by grind [R,RL]) o.dst,by rw[put_defers];exact hs.defs⟩ (aK.refl _ _ _)
  exact this
 ·rw[hexec hrun];simp only[Oper.uponIn];unfold leftOf at he;simp only[Array.toList_filter,List.mem_filter,Bool.not_eq_true',List.contains_toArray]at he;obtain⟨hmem,hns⟩:=he;obtain⟨j,hj,rfl⟩:=List.getElem_of_mem hmem;have hbj:=hborn j _ (List.getElem?_eq_getElem hj);rw[hbj]at hns ⊢;have hns':j∉seen:=by
   intro hin;rw[List.contains_iff_mem.2 hin]at hns;cases hns
  have hheap:w1.heap=w.heap:=by rcases hw1 with rfl |rfl<;>rfl
  have hkl:k<w.heap.size:=(Array.getElem?_eq_some_iff.1 q2).1;obtain⟨i1,i2⟩:=hs.inv.za (w':=setBlock w1 k (.mapIter (some k2) z.n (seen.toArray.push j) z.n)) (y:=.iter (.mp z.mb) z.n (seen++[j]) z.n) hb rfl hk rfl
   (fun j' hj'=>by simp only[setBlock,hheap];grind) (by simp[setBlock,hheap])
   (fun j' x hx'=>by
    have hne:j'≠k:=by rintro rfl;simp[World.shape?,q2]at hx'
    simp only[World.shape?,setBlock,hheap,Array.getElem?_setIfInBounds_ne (Ne.symm hne)]at hx' ⊢;exact hx')
   (by rcases hw1 with rfl |rfl<;>rfl) (by rcases hw1 with rfl |rfl<;>exact⟨rfl,by first |exact Nat.le_refl _ |exact Nat.le_succ _⟩) (by rcases hw1 with rfl |rfl<;>rfl)
   (fun hext=>⟨k,some k2,hk,by simp[setBlock,hheap,hkl],by grind [R]⟩)
  exact h1 j (by omega) hns' gg _ _ ⟨i1,jb (bq i2.ext _ _ hs.tmps) (by grind [R,RL]) o.dst,by rw[put_defers];exact cT i2.ext _ _ hs.defs⟩ i2
theorem Jt{z:GK}{ST XT:TypeId}{args:Array Operand}{ats:Array TypeId}{sx x:Operand}(ho:o.op=.call {callee:=.builtin .append,args:=args,argTypes:=ats})(h0:ats[0]? =some ST)(h1:ats[1]? =some XT)(hs0:args[0]? =some sx)(hx0:args[1]? =some x)
 (hw:fL ops s.A o=some true) (hn:s.H[nid]? =some .aR) (hsz:args.size=2) (hT:Bp P ST XT=some (z.n,z.bytes)) (es:bQ s.A sx=.sl z.b z.ak z.n 0 z.len) (hrow:s.H[z.b]? =some (.row z.ak z.n (z.l.map z.enc)))
 (hnew:(elems (bQ s.A x)).run s.H=some (z.m.map z.enc)) (hall:∀x,(z.enc x).length=z.n) (hpos:z.m.isEmpty=false) (hok:z.ok=true)
 {ro:Option Nat} {gg:Gh} {a:Act} {w:World} (hs:dy gg s a w) {i:Nat} (hi:ops[i]? =some o) (hcalm:Calm ro o) {K:Act→World→Prop} {Q:Exit→Act→World→Prop}
 (k1:jP Q K gg s a w (.ok {s with A:=fG s.A o.dst (.sl z.b z.ak z.n 0 (z.l++z.m).length),H:=s.H.set z.b (.row z.ak z.n ((z.l++z.m).map z.enc))}))
 (k2:jP Q K gg s a w (.ok {s with A:=fG s.A o.dst (.sl nid 0 z.n 0 (z.l++z.m).length),H:=s.H.set nid (.row 0 z.n ((z.l++z.m).map z.enc))})):wpOpIn (Fr ro) 0 P ops Q i K a w:=by
 unfold wpOpIn;simp only[hi];rw[kH hs hw];simp only[if_true];refine⟨fun _ _=>trivial,?_⟩
 rw[hcalm.semAt];unfold GK.ok at hok;simp only[Bool.and_eq_true,decide_eq_true_eq]at hok;obtain⟨hlen,hroom⟩:=hok;have hml:(z.m.map z.enc).length≠0:=by
  cases hm:z.m with
  |nil=>rw[hm]at hpos;cases hpos
  |cons _ _=>simp
 obtain⟨v,w',hrun,hc⟩:=Jq (ai:=bQ s.A) (a:=a) (o:=o) (b:=z.b) (ak:=z.ak) (rows:=z.l.map z.enc) hs.inv hs.eval hn ho h0 h1 hs0 hx0 hsz hT (by rw[es,hlen,List.length_map]) hrow hnew
  (List.all_eq_true.2 fun r hr=>by obtain⟨y,_,rfl⟩:=List.mem_map.1 hr;simp[hall y]) hml (by simpa using hroom)
 rw[hrun];simp only[Oper.uponIn];simp only[List.length_map,← List.length_append,← List.map_append]at hc;rcases hc with⟨r1,r2,r3⟩ |⟨g',r1,r2,r3⟩
 ·exact k1 gg _ _ ⟨r2,jb (bq r3.ext _ _ hs.tmps) r1 o.dst,by rw[put_defers];exact cT r3.ext _ _ hs.defs⟩ r3
 ·exact k2 g' _ _ ⟨r2,jb (bq r3.ext _ _ hs.tmps) r1 o.dst,by rw[put_defers];exact cT r3.ext _ _ hs.defs⟩ r3
def Env.still(X:Env P):Env P:={X with N:=oy P}
theorem Ij{ids:List Nat}{H H1:List af}{a:aI}{k k':cF→List Nat→Bool→Prop}{kp kp':AVal→Prop}(hk:∀e ws nw,k e ws nw→k' e ws nw)(hp:∀v,kp v→kp' v)(h:yq ids H a H1 k kp):yq ids H a H1 k' kp':=by
 unfold yq at h ⊢;split at h
 ·grind [gR]
 grind
theorem EO{ρ:Type}{n:Nat}{f:FuncId}{args:List AVal}{H:List af}{c:qF P}{x:c.X}{kk:c.sh.El→G P ρ}{k:G P ρ→aI→List af→Prop}{p:ρ→Prop}(h:GS P f args H c x kk k)(hr:(G.bz c x kk).can n p):
 xe P f args H fun a H1=>∃g',k g' a H1∧g'.can n p:=by
 obtain⟨_,he,h⟩:=h;simp only[Option.some.injEq,Prod.mk.injEq]at he;obtain⟨rfl,ha,rfl⟩:=he;obtain⟨q,hq,hr⟩:=hr;have hf:=bB.wk (args:=args) (by rw[ha];exact c.ok n x q hq)
 exact⟨hf.1,fun g w vs hi hl=>(hf.2 g w vs hi hl).mono fun e w' hc=>⟨_,_,⟨kk q,(c.sh.bC _).1 h q,hr⟩,hc⟩⟩
def zn(X:Env P)(ops:Array Oper)(n0:Nat)(o:Oper)(nid:Nat)(s:St){ρ:Type}(n:Nat)(p:ρ→Prop)(k:G P ρ→dw→eV→Prop):Prop:=
 ∃orc,eW P orc∧∃res f g',dx P X.cfg orc ops n0 o nid s=some (res,f)∧k g' res f∧g'.can n p
def Co(P:Program)[ax](ops:Array Oper)(o:Oper)(s:St){ρ:Type}(n:Nat)(p:ρ→Prop)(k:G P ρ→dw→eV→Prop):Prop:=
 ∀(ro:Option Nat) (gg:Gh) (a:Act) (w:World),dy gg s a w→∀i,ops[i]? =some o→Calm ro o→∀(K:Act→World→Prop) (Q:Exit→Act→World→Prop),
  (∀g' res f,k g' res f→g'.can n p→jP Q K gg s a w res)→wpOpIn (Fr ro) 0 P ops Q i K a w
theorem zn.any{ρ:Type}{n:Nat}{p:ρ→Prop}{k:G P ρ→dw→eV→Prop}(h:zn X ops n0 o nid s n p k):Co P ops o s n p k:=by
 intro ro gg a w hs i hi hcalm K Q hK;obtain⟨orc,ho,res,f,g',hst,hk,hr⟩:=h;grind [k7]
theorem xg(hNe:kN P X.N){n:Nat}{ρ:Type}{p:ρ→Prop}{g:G P ρ}{draw:Bool}(hz:draw=true→X.N=oy P){H0:List af}{k:G P ρ→dw→eV→Prop}(h:lR P X draw H0 ops n0 o nid g s k)(hr:g.can n p):
 zn X ops n0 o nid s n p k∨(draw=false∧Co P ops o s n p k):=by
 unfold lR at h;split at h
 ·rename_i m g';split at h
  ·rename_i res f hs;exact .inl ⟨qG,ny,res,f,_,hs,h,by rw[G.EN];simpa[G.can]using hr⟩
  ·exact nomatch h
 ·rename_i Y t kk;obtain⟨x,hx,hr⟩:=hr;have h':lR P X.still draw H0 ops n0 o nid (.op t (fun x=>.done [] x):G P Y) s (fun g' r f=>∃x,g'=.done [] x∧k (kk x) r f):=by
   refine⟨h.1,h.2.1,fun x=>?_⟩
   have:=h.2.2 x;simp only[gR,eu,dr]at this ⊢;exact⟨x,rfl,this⟩
  obtain⟨orc,ho,res,f,g',hs,⟨x',rfl,hk⟩,hr'⟩:=gH (X:=X.still) (n:=n) (r:=x) oJ h' (by simp[G.run,hx,ej])
  obtain rfl:x'=x:=by simpa[G.run,ej]using hr'
  exact .inl ⟨orc,ho,res,f,_,hs,hk,hr⟩
 ·rename_i c x kk;obtain⟨q,hx,hr⟩:=hr;have h':lR P X.still draw H0 ops n0 o nid (.call c x (fun q=>.done [] q):G P c.sh.El) s (fun g' r f=>∃x,g'=.done [] x∧k (kk x) r f):=by
   refine⟨h.1,h.2.1,(c.sh.bC _).2 fun q=>?_⟩
   have:=(c.sh.bC _).1 h.2.2 q;simp only[Env.still];split at this
   ·exact⟨q,rfl,this⟩
   ·exact nomatch this
  obtain⟨orc,ho,res,f,g',hs,⟨x',rfl,hk⟩,hr'⟩:=gH (X:=X.still) (n:=n) (r:=q) oJ h' (by simp[G.run,hx,ej])
  obtain rfl:x'=q:=by simpa[G.run,ej]using hr'
  exact .inl ⟨orc,ho,res,f,_,hs,hk,hr⟩
 ·rename_i z c x kk;obtain⟨q,hx,hr⟩:=hr;have h':lR P X.still draw H0 ops n0 o nid (.pO z c x (fun q=>.done [] q):G P c.sh.El) s (fun g' r f=>∃x,g'=.done [] x∧k (kk x) r f):=by
   refine⟨h.1,h.2.1,h.2.2.1,h.2.2.2.1,(c.sh.bC _).2 fun q=>?_⟩
   have:=(c.sh.bC _).1 h.2.2.2.2 q;split at this
   ·rename_i u hu;split at this
    ·rename_i hfl;simp only[hfl,eu]at this ⊢;exact⟨q,rfl,this⟩
    ·exact this.elim
   ·rename_i u hu;split at this
    ·rename_i hfl;simp only[hfl]at this ⊢;exact⟨q,rfl,this⟩
    ·exact this.elim
  obtain⟨orc,ho,res,f,g',hs,⟨x',rfl,hk⟩,hr'⟩:=gH (X:=X.still) (n:=n) (r:=q) oJ h' (by simp[G.run,hx,ej])
  obtain rfl:x'=q:=by simpa[G.run,ej]using hr'
  exact .inl ⟨orc,ho,res,f,_,hs,hk,hr⟩
 ·rename_i c x kk;obtain⟨q,hx,hr⟩:=hr;have h':lR P X.still draw H0 ops n0 o nid (.bz c x (fun q=>.done [] q):G P c.sh.El) s (fun g' r f=>∃x,g'=.done [] x∧k (kk x) r f):=by
   refine⟨h.1,h.2.1,(c.sh.bC _).2 fun q=>?_⟩
   have:=(c.sh.bC _).1 h.2.2 q;simp only[Env.still];split at this
   ·exact⟨q,rfl,this⟩
   ·exact nomatch this
  obtain⟨orc,ho,res,f,g',hs,⟨x',rfl,hk⟩,hr'⟩:=gH (X:=X.still) (n:=n) (r:=q) oJ h' (by simp[G.run,hx,ej])
  obtain rfl:x'=q:=by simpa[G.run,ej]using hr'
  exact .inl ⟨orc,ho,res,f,_,hs,hk,hr⟩
 ·rename_i c b v ex x kk;obtain⟨q,hx,hr⟩:=hr;have h':lR P X.still draw H0 ops n0 o nid (.gM c b v ex x (fun q=>.done [] q):G P c.sh.El) s (fun g' r f=>∃x,g'=.done [] x∧k (kk x) r f):=by
   refine⟨h.1,h.2.1,h.2.2.1,(c.sh.bC _).2 fun q=>?_⟩
   have:=(c.sh.bC _).1 h.2.2.2 q;simp only[Env.still];split at this
   ·grind
   ·exact⟨q,rfl,this⟩
  obtain⟨orc,ho,res,f,g',hs,⟨x',rfl,hk⟩,hr'⟩:=gH (X:=X.still) (n:=n) (r:=q) oJ h' (by simp[G.run,hx,ej])
  obtain rfl:x'=q:=by simpa[G.run,ej]using hr'
  exact .inl ⟨orc,ho,res,f,_,hs,hk,hr⟩
 ·rename_i pr g';obtain⟨hw,hpr,hc⟩:=h;simp only[G.can]at hr;cases draw with
  |true=>
   rw[hz rfl]at hc;split at hc
   ·rename_i f args ids rs hx;simp only[ct,oy]at hc;split at hc
    ·rename_i c x kk;obtain⟨q,hq,hr⟩:=hr;have h':lR P X.still true H0 ops n0 o nid (.inl pr (.bz c x (fun q=>.done [] q)):G P c.sh.El) s (fun g' r f=>∃x,g'=.done [] x∧k (kk x) r f):=by
      refine⟨hw,hpr,?_⟩;simp only[Env.still,hx,ct,oy];refine⟨hc.1,hc.2.1,(c.sh.bC _).2 fun q=>?_⟩
      refine Ij (fun e ws nw hk=>?_) (fun v hk=>?_) ((c.sh.bC _).1 hc.2.2 q)
      ·grind
      ·exact⟨q,rfl,hk⟩
     obtain⟨orc,ho,res,f,g',hs,⟨x',rfl,hk⟩,hr'⟩:=gH (X:=X.still) (n:=n) (r:=q) oJ h' (by simp[G.run,hq,ej])
     obtain rfl:x'=q:=by simpa[G.run,ej]using hr'
     exact .inl ⟨orc,ho,res,f,_,hs,hk,hr⟩
    ·exact hc.elim
   ·grind [ct,oy]
   ·exact nomatch hc
  |false=>
   refine .inr ⟨rfl,?_⟩;intro ro gg a w hs i hi hcalm K Q hK;split at hc
   ·rename_i f args ids rs hx;simp only[ct]at hc;refine G8 hw hx (hNe.fn hc hr) hs hi hcalm fun a1 H1 ⟨g2,hk,hr2⟩=>?_
    grind [qJ,eu,dr]
   ·rename_i b args ids rs hx;simp only[ct]at hc;refine FK hw hx (hNe.xE hc hr) hs hi hcalm fun a1 H1 ⟨g2,hk,hr2⟩=>?_
    grind [qJ,eu,dr]
   ·exact nomatch hc
 ·rename_i z seen kk;cases draw with
  |true=>exact h.elim
  |false=>
   refine .inr ⟨rfl,?_⟩;simp only[G.can]at hr;simp only at h;split at h
   ·rename_i it hop;obtain⟨hw,hit,hb,hmb,h0,h1⟩:=h;intro ro gg a w hs i hi hcalm K Q hK;simp only[eu]at h0;refine Js hop hw hit hb hmb hs hi hcalm (fun hall=>hK _ _ _ h0 (hr.1 hall)) fun j hj hn=>?_
    have:=h1 j;grind [eu,dr,cF.apply]
   ·exact h.elim
 ·rename_i z kk;cases draw with
  |true=>exact h.elim
  |false=>
   refine .inr ⟨rfl,?_⟩;simp only[G.can]at hr;simp only at h;split at h
   ·rename_i args ats hop;split at h
    ·rename_i ST XT sx x h0 h1 hs0 hx0;obtain⟨hw,hn,hsz,hT,es,hrow,hnew,hall,hpos,q1,q2⟩:=h;intro ro gg a w hs i hi hcalm K Q hK;simp only[eu,dr]at q1 q2;have p1:=hK _ _ _ q1 hr.2.1;have p2:=hK _ _ _ q2 hr.2.2;exact Jt hop h0 h1 hs0 hx0 hw hn (of_decide_eq_true hsz) hT es hrow hnew hall hpos hr.1 hs hi hcalm (by simpa[cF.apply]using p1) (by simpa[cF.apply]using p2)
    ·exact h.elim
   ·exact h.elim
 ·exact hr.elim
 ·exact nomatch h
 ·exact nomatch h
theorem Ik(hNe:kN P X.N)(hz:X.N=oy P){n:Nat}{ρ:Type}{p:ρ→Prop}{g:G P ρ}{H0:List af}{k:G P ρ→dw→eV→Prop}(h:tB P X true H0 ops n0 o nid g s k)(hr:g.can n p):
 zn X ops n0 o nid s n p k:=by
 unfold tB at h;grind [xg]
theorem EP(hNe:kN P X.N)(hz:X.N=oy P){n:Nat}{ρ:Type}{p:ρ→Prop}{H0:List af}:∀(l:List (Oper×Nat)) (i:Nat) (g:G P ρ) (s:St) (k:G P ρ→dw→List eV→Prop),vC P X true H0 ops n0 l g s k→g.can n p→
 ∃orcs:Nat→gF,(∀j,eW P (orcs j))∧∃res fs g',hM P X.cfg orcs ops n0 i l s=some (res,fs)∧k g' res fs∧g'.can n p
 | [],i,g,s,k,h,hr=>⟨fun _=>qG,fun _=>ny,.ok s,[],g,rfl,h,hr⟩
 | (o,nid)::rest,i,g,s,k,h,hr=>by
  simp only[vC]at h;obtain⟨g1,h,hr⟩:=lq h hr;obtain⟨orc,ho,res,f,g2,hs,h,hr⟩:=Ik hNe hz h hr;cases res with
  |ok s'=>
   obtain⟨A,H,D⟩:=s';simp only[cR]at h;obtain⟨orcs,hos,res,fs,g3,hrun,hk,hr⟩:=EP hNe hz rest (i+1) g2 _ _ h hr;refine⟨fun j=>if j=i then orc else orcs j,fun j=>(by grind:eW P (if j=i then orc else orcs j)),res,f::fs,g3,?_,hk,hr⟩
   grind [hM,ug]
  |aM v s'=>
   exact⟨fun _=>orc,fun _=>ho,.aM v s',[f],g2,by simp only[hM,hs],h,hr⟩
theorem FL(hNe:kN P X.N)(hz:X.N=oy P){n:Nat}{ρ:Type}{p:ρ→Prop}{H0:List af}{g:G P ρ}{s:St}{k:G P ρ→dw→Prop}(h:nv P X H0 ops true g s k)(hr:g.can n p):
 ∃orcs:Nat→gF,(∀j,eW P (orcs j))∧∃res g',oP P X.cfg orcs ops true s=some res∧k g' res∧g'.can n p:=by
 simp only[nv,fe,mC]at h;obtain⟨orcs,ho,res,fs,g',hrun,hk,hr⟩:=EP hNe hz _ 0 _ _ _ h hr;refine⟨orcs,ho,?_⟩;simp only[oP,fe,mC,hrun];grind
theorem Il(hNe:kN P X.N){n:Nat}{ρ:Type}{p:ρ→Prop}{g:G P ρ}{H0:List af}{k:G P ρ→dw→eV→Prop}(h:tB P X false H0 ops n0 o nid g s k)(hr:g.can n p):
 ∃s2,fK H0 s s2∧Co P ops o s2 n p k:=by
 unfold tB at h;split at h
 ·rename_i l g';simp only[G.can]at hr;obtain⟨s',hw,h⟩:=cu hr.1 h;refine⟨s',hw,?_⟩;rcases xg hNe (fun e=>by cases e) h hr.2 with h |⟨_,h⟩
  ·exact h.any
  ·exact h
 ·refine⟨s,.refl _ _,?_⟩;rcases xg hNe (fun e=>by cases e) h hr with h |⟨_,h⟩
  ·exact h.any
  ·exact h
theorem ER(hNe:kN P X.N){n:Nat}{ρ:Type}{p:ρ→Prop}{H0:List af}:∀(l:List (Oper×Nat)) (i:Nat) (g:G P ρ) (s:St) (k:G P ρ→dw→List eV→Prop),vC P X false H0 ops n0 l g s k→g.can n p→
 (∀(j:Nat),(l[j]?).map (fun(p:Oper×Nat)=>p.1)=(ops.toList.drop i)[j]?)→
 ∀(fro:Option Nat),(∀(k:Nat) (o:Oper),ops[k]? =some o→Calm fro o)→∀(gg:Gh) (ww:World) (Q:Exit→Act→World→Prop),Inv gg H0 ww→∀(g1:Gh) (a:Act) (w:World),dy g1 s a w→aK gg H0 ww g1 s.H w→
  (∀g' res fs,k g' res fs→g'.can n p→lZ Q gg H0 ww res)→wpOpsIn (Fr fro) 0 P ops Q (List.range' i l.length) a w
 | [],i,g,s,k,h,hr,_=>fun _ _ _ _ _ _ g1 a w hs hl hp=>hp g (.ok s) [] h hr g1 a w hs hl
 | (o,nid)::rest,i,g,s,k,h,hr,hj=>by
  intro fro hcalm gg ww Q hi0 g1 a w hs hl hp;have hi:ops[i]? =some o:=by
   have:=hj 0;simp at this;exact this.symm
  simp only[vC]at h;obtain⟨g',h,hr⟩:=lq h hr;obtain⟨s2,hw2,hany⟩:=Il hNe h hr;simp only[List.length_cons,List.range'_succ,wpOpsIn_cons];obtain⟨g2,hs2,hl2⟩:=hw2 gg ww g1 a w hi0 hl hs;refine hany fro g2 a w hs2 i hi (hcalm i o hi) _ Q fun g3 res f hk hr3=>?_
  cases res with
  |ok s'=>
   obtain⟨A,H,D⟩:=s';simp only[cR]at hk;intro g5 a' w' hs' hla;exact ER hNe rest (i+1) g3 ⟨A,H,D⟩ _ hk hr3 (fun j=>by
    have:=hj (j+1);grind) fro hcalm gg ww Q hi0 g5 a' w' hs' (hl2.trans hla) (fun g' res fs h1 h2=>hp g' res _ h1 h2)
  |aM v s'=>exact fun g' w' x hv hs' hla hx=>hp g3 (.aM v s') _ hk hr3 g' a w' x hv hs' (hl2.trans hla) hx
theorem FM(hNe:kN P X.N){H0:List af}{n:Nat}{ρ:Type}{p:ρ→Prop}{id:Nat}{g:G P ρ}{s:St}{k:G P ρ→dw→Prop}(h:nv P X H0 ops false g s k)(hr:g.can n p):
 ∀(fro:Option Nat),(∀(k:Nat) (o:Oper),ops[k]? =some o→Calm fro o)→∀(gg:Gh) (ww:World),Inv gg H0 ww→dO P fro gg H0 ww (.region id ops false) s fun o s'=>∃g' res,k g' res∧g'.can n p∧o=(zg res).1∧s'=(zg res).2:=by
 intro fro hcalm gg ww hi0 Q g1 a w hs hl hp;simp only[nv,fe,mC]at h;generalize (if iX ops.toList=0 then 0 else kY s.H)=t0 at h
 generalize iX ops.toList - t0=m0 at h;generalize s.H.length - t0=f0 at h;obtain⟨i1,i2⟩:=hs.inv.reserve m0;have hs0:dy g1 {s with H:=s.H++List.replicate m0 .aR} a w:=⟨i1,hs.tmps,hs.defs⟩;refine wpIn_region ?_;rw[List.range_eq_range'];have:=ER hNe _ 0 _ _ _ h hr (fun j=>by rw[mH];simp) fro hcalm gg ww Q hi0 g1 a w hs0 (hl.trans i2) (fun g' res fs hk hr'=>by
  simp only[Bool.not_false,if_true]at hk;have:=hp _ _ ⟨g',res,hk,hr',rfl,rfl⟩;cases res with
  |ok s'=>exact this
  |aM v s'=>exact this)
 grind [pH]
theorem Im{f:FuncId}{pa qa:List AVal}{l:Nat}{H1:List af}{D1:List nG}{ids:List Nat}{Φ:aI→List af→Prop}{ro fro:Option Nat}{fid:FuncId}{x:Operand}{ps:Array Tmp}{assign body:Code}{s:St}{gg:Gh}{a:Act}{w:World}{Q:Exit→Act→World→Prop}
 (hro:jR gg ro fro) (hf:bQ s.A x=.fn (.func f) pa qa) (hen:yd ro fid ps assign body s=some (l,H1,D1)) (hfn:xe P f (pa++[.gj l]++qa) (mask ids H1) Φ) (hs:dy gg s a w)
 (hK:∀a1 H2,Φ a1 H2→(∃e out s',dW H1 ids (some (a1,H2))=some (.ok e)∧Ek l D1 s (e.apply H1)=some (out,s')∧dN Q gg s.H w s' out)∨
  (∃v,dW H1 ids (some (a1,H2))=some (.aM v ids)∧dN Q gg s.H w {s with H:=ids.foldl (fun H i=>H.set i .dead) H1,D:=D1} (.aM v))):(Code.rangeFunc x ps assign body).wpIn (Fr fro) 0 P Q a w:=by
 have hev:=hs.eval x;rw[hf]at hev;refine wpIn_rangeFunc fun fn _=>?_
 obtain⟨k,mark,w1,g1,hrun,i1,l1,rk,hd⟩:=zU (P:=P) hro hs hen fn;have hev1:=jx l1.ext _ _ hev;simp only[R]at hev1;obtain⟨va,vb,hfo,ra,rb⟩:=hev1;have hl:RL g1 w1 (pa++[.gj l]++qa) ((va.toArray++ #[Value.func (.yield k) #[] #[]])++vb.toArray).toList:=by
  simp only[Array.toList_append];refine dn (dn (by simpa using ra) ?_) (by simpa using rb)
  simp only[RL,R];exact⟨_,_,rfl,⟨k,0,rk,rfl⟩,rfl⟩
 have ht:=bq l1.ext _ _ hs.tmps;obtain⟨⟨fn1,c1,k1,k2,k3⟩,hcalls⟩:=hfn;have hcalls:=hcalls g1 w1 _ (k4 i1 _) hl;refine⟨k,mark,w1,{target:=.fn (.func f) vb.toArray,args:=va.toArray++ #[Value.func (.yield k) #[] #[]]},w1,f,(va.toArray++ #[Value.func (.yield k) #[] #[]])++vb.toArray,w1,hrun,?_,fun _ _=>trivial,?_,k6 fro,tV ?_⟩
 ·have hc:a.eval (.const (.func (.yield k) #[] #[]))=.func (.yield k) #[] #[]:=rfl;simp[resolve,hfo,Deferred.ofValue,hc]
 ·simp[invoke,kI k1 k2 k3]
 ·refine hcalls.mono ?_;rintro e w' ⟨a1,H2,hΦ,hc⟩;rcases hK a1 H2 hΦ with⟨ef,out,s',hm,hend,hpost⟩ |⟨v,hm,hpost⟩
  ·obtain⟨r',H',he,hp⟩:=gd i1 hm;simp only[Option.some.injEq,Prod.mk.injEq]at he;obtain⟨rfl,rfl⟩:=he;rcases hp with⟨aT,he,hp⟩ |⟨v',he,_⟩
   ·cases he;obtain⟨y,g',rfl,hi',_,hla⟩:=hp e w' hc;exact C2 (a:={a with defers:=mark++a.defers}) (hla.ext.ai _ _ _ rk) hi' (bq hla.ext _ _ ht) (cT hla.ext _ _ hd) hend (hpost.later (l1.trans hla))
   ·cases he
  ·obtain⟨r',H',he,hp⟩:=gd i1 hm;simp only[Option.some.injEq,Prod.mk.injEq]at he;obtain⟨rfl,rfl⟩:=he;rcases hp with⟨aT,he,hp⟩ |⟨v',he,hfl,hp⟩
   ·cases he
   ·cases he;obtain⟨y,rfl,hi',hr,hla⟩:=hp e w' hc;exact hpost g1 {a with defers:=mark++a.defers} w' y hfl ⟨hi',bq hla.ext _ _ ht,cT hla.ext _ _ hd⟩ (l1.trans hla) hr
def Comes(P:Program)[ax](ro:Option Nat)(H0:List af)(c:Code)(s:St){ρ:Type}(n:Nat)(p:ρ→Prop)(k:G P ρ→aS→St→Prop):Prop:=
 ∀fro g0 w0,Inv g0 H0 w0→jR g0 ro fro→dO P fro g0 H0 w0 c s fun o s'=>∃g',k g' o s'∧g'.can n p
theorem Comes.weak{ro:Option Nat}{H0:List af}{c:Code}{s s1:St}{ρ:Type}{n:Nat}{p:ρ→Prop}{k:G P ρ→aS→St→Prop}(hw:fK H0 s s1)(h:Comes P ro H0 c s1 n p k):Comes P ro H0 c s n p k:=
 fun fro g0 w0 hi hro=>.weak hi hw (h fro g0 w0 hi hro)
theorem dO.post'{fro:Option Nat}{g0:Gh}{H0:List af}{w0:World}(hi0:Inv g0 H0 w0){c:Code}{s:St}{Φ Ψ:aS→St→Prop}(h:dO P fro g0 H0 w0 c s Φ)(hw:∀o s1,Φ o s1→∃s2,fK H0 s1 s2∧Ψ o s2):dO P fro g0 H0 w0 c s Ψ:=
 fun Q g a w hs hl hk=>h Q g a w hs hl fun o' s' hf=>let⟨_,h1,h2⟩:=hw o' s' hf;dN.weak hi0 h1 (hk _ _ h2)
theorem Dd{H0:List af}{sh:Sh}{Y:sh.El→aS×St}{n:Nat}{g:G P sh.El}{o:aS}{s:St}{q:sh.El→Prop}(h:zk H0 Y g o s)(hr:g.can n q):∃s' t,fK H0 s s'∧(o,s')=Y t∧q t:=by
 unfold zk at h;split at h
 ·rename_i ts t';obtain⟨hok,hq⟩:=hr;grind [cu]
 ·exact hr.elim
 ·exact nomatch h
theorem De{n:Nat}{σ:Type}{sh:Sh}{H0:List af}{E:σ→St}{Y:sh.El→aS×St}{g:G P (σ⊕sh.El)}{o:aS}{s:St}{q:σ⊕sh.El→Prop}(h:kK H0 E Y g o s)(hr:g.can n q):
 ∃s' v,q v∧fK H0 s s'∧match v with | .inl a=>o=.normal∧s'=E a | .inr t=>o≠ .normal∧(o,s')=Y t:=by
 unfold kK at h;split at h
 ·rename_i ts a;obtain⟨hok,hq⟩:=hr;grind [cu]
 ·rename_i ts t;obtain⟨hok,hq⟩:=hr;grind [cu]
 ·exact hr.elim
 ·exact nomatch h
theorem Df(hNe:kN P X.N){H0:List af}{n:Nat}{σ:Type}{sh:Sh}{b:Code}{E:σ→St}{s:St}{Y:sh.El→aS×St}{p:σ⊕sh.El→Prop}{f:G P (σ⊕sh.El)→Prop}
 (ih:∀g,f g→g.can n p→Comes P X.ro H0 b s n p (kK H0 E Y)) {g:G P (σ⊕sh.El)} (h:zm X.N X.ro H0 b E s Y g f) (hr:g.can n p):
 Comes P X.ro H0 b s n p (kK H0 E Y):=by
 unfold zm at h;split at h
 ·exact hNe.lp h hr
 ·exact ih _ h hr
theorem wu(hm:P.follows .mixedOrders=true)(hNe:kN P X.N)(hnd:X.nd=true){H0:List af}{n:Nat}:∀(c:Code) {ρ:Type} (p:ρ→Prop) (g:G P ρ) (s:St) (k:G P ρ→aS→St→Prop),gv P X H0 c g s k→g.can n p→Comes P X.ro H0 c s n p k:=by
 have hat:X.at true=X.still:=by simp[Env.at,hnd,Env.still]
 have hst:kN P X.still.N:=by
  refine⟨fun h hr=>?_,fun h=>h.elim,fun h=>h.elim⟩
  simp only[Env.still,oy]at h;split at h
  ·exact EO h hr
  ·exact h.elim
 intro c;induction c with
 |skip=>intro ρ p g s k h hr fro g0 w0 _ _;exact .skip ⟨g,h,hr⟩
 |region id ops draw=>
  intro ρ p g s k h hr;simp only[gv]at h;split at h
  ·exact h.elim
  rename_i hoff;obtain⟨s1,g1,hw,h,hr⟩:=AJ h hr;refine .weak hw ?_;cases draw with
  |false=>
   intro fro g0 w0 hi hro;refine(FM (X:=X) hNe (id:=id) h hr fro (qK hro hoff) g0 w0 hi).mono ?_;rintro o s' ⟨g',res,hk,hr',rfl,rfl⟩;cases res with
   |ok s'=>exact⟨g',hk,hr'⟩
   |aM v s'=>exact⟨g',hk,hr'⟩
  |true=>
   rw[hat]at h;obtain⟨orcs,ho,res,g',hreg,h,hr⟩:=FL hst rfl h hr;intro fro g0 w0 hi hro;cases res with
   |ok s'=>exact .region hm ho (qK hro hoff) hreg ⟨g',h,hr⟩
   |aM v s'=>exact .region hm ho (qK hro hoff) hreg ⟨g',h,hr⟩
 |seq a b iha ihb=>
  intro ρ p g s k h hr fro g0 w0 hi hro;simp only[gv]at h;refine .seq ((iha p g s _ h hr fro g0 w0 hi hro).mono ?_);rintro o s' ⟨g1,h1,hr1⟩;cases o with
  |normal=>exact ihb p g1 s' k h1 hr1 fro g0 w0 hi hro
  |exit id=>exact⟨g1,h1,hr1⟩
  |ret=>exact⟨g1,h1,hr1⟩
  |aM v=>exact⟨g1,h1,hr1⟩
 |cond c a b iha ihb=>
  have main:∀{ρ:Type} (p:ρ→Prop) (g:G P ρ) (s:St) (k:G P ρ→aS→St→Prop),zl P X H0 c a b (fun g s k=>gv P X H0 a g s k) (fun g s k=>gv P X H0 b g s k) g s k→g.can n p→Comes P X.ro H0 (.cond c a b) s n p k:=by
   intro ρ p g s k h hr;unfold zl at h;obtain⟨s1,g1,hw,h,hr⟩:=AJ h hr;obtain⟨g1,h,hr⟩:=lq h hr;refine .weak hw ?_;split at h
   ·rename_i m g2;have hr2:(G.less m g2).can n p:=by rw[G.EN];simpa[G.can]using hr
    split at h
    ·rename_i hc;exact fun fro g0 w0 hi hro=>.cond true hc (iha p _ _ k h hr2 fro g0 w0 hi hro)
    ·rename_i hc;exact fun fro g0 w0 hi hro=>.cond false hc (ihb p _ _ k h hr2 fro g0 w0 hi hro)
    ·exact h.elim
   ·exact hr.elim
   ·exact nomatch h
  intro ρ p g s k h hr;simp only[gv]at h;split at h
  ·rename_i sh Y g1 kk;intro fro g0 w0 hi hro;refine(main _ g1 s _ h.1 hr fro g0 w0 hi hro).post' hi ?_;rintro o s1 ⟨g',hj,hr'⟩;obtain⟨s2,t,hw,e,hq⟩:=Dd hj hr';have e1:o=(Y t).1:=congrArg Prod.fst e;have e2:s2=(Y t).2:=congrArg Prod.snd e;refine⟨s2,hw,kk t,?_,hq⟩;rw[e1,e2];exact(sh.bC _).1 h.2 t
  ·exact main p g s k h hr
 |block id b ih=>
  have main:∀{ρ:Type} (p:ρ→Prop) (g:G P ρ) (s:St) (k:G P ρ→aS→St→Prop),gv P X H0 b g s (wm id k)→g.can n p→Comes P X.ro H0 (.block id b) s n p k:=by
   intro ρ p g s k h hr fro g0 w0 hi hro;refine .block ((ih p g s _ h hr fro g0 w0 hi hro).mono ?_);rintro o s' ⟨g',h1,hr'⟩;refine⟨g',?_,hr'⟩;unfold wm at h1;cases o with
   |exit id'=>
    grind [behind]
   |normal=>exact h1
   |ret=>exact h1
   |aM v=>exact h1
  intro ρ p g s k h hr;simp only[gv]at h;split at h
  ·rename_i sh Y g1 kk;intro fro g0 w0 hi hro;refine(main _ g1 s _ h.1 hr fro g0 w0 hi hro).post' hi ?_;rintro o s1 ⟨g',hj,hr'⟩;obtain⟨s2,t,hw,e,hq⟩:=Dd hj hr';have e1:o=(Y t).1:=congrArg Prod.fst e;have e2:s2=(Y t).2:=congrArg Prod.snd e;refine⟨s2,hw,kk t,?_,hq⟩;rw[e1,e2];exact(sh.bC _).1 h.2 t
  ·exact main p g s k h hr
 |loop b ih=>
  intro ρ p g s k h hr;simp only[gv]at h;split at h
  ·rename_i m g1;simp only[G.can]at hr;intro fro g0 w0 hi hro;refine .loop hi (n:=m) (s0:=s) (fun m s=>∃g,zj (fun g s k=>gv P X H0 b g s k) m g s k∧g.can n p) (fun s ⟨g,h,_⟩=>h.elim) (.refl _ _) ⟨g1,h,hr⟩ ?_
   rintro m s1 ⟨g2,h2,hr2⟩;simp only[zj]at h2;refine(ih p g2 s1 _ h2 hr2 fro g0 w0 hi hro).mono ?_;rintro o s3 ⟨g3,h3,hr3⟩;refine⟨s3,.refl _ _,?_⟩;grind
  ·rename_i σ sh hd E Y a0 body kk;obtain⟨h0,hb,hx⟩:=h;obtain⟨hok,hr⟩:=hr;have hx:=(sh.bC _).1 hx;obtain⟨_,h0,rfl⟩:=cu hok h0;intro fro g0 w0 hi hro;refine .loop hi (n:=n) (s0:=E a0) (fun m s1=>∃a,s1=E a∧lg (fun a q=>(body a).can n q) m a fun t=>(kk t).can n p) (fun s ⟨a,_,h⟩=>by simp[lg]at h) h0 ⟨a0,rfl,hr⟩ ?_
   rintro m s1 ⟨a,rfl,hit⟩;simp only[lg]at hit;refine(Df hNe (fun g h hr=>ih _ g (E a) _ h hr) (hb a) hit fro g0 w0 hi hro).mono ?_
   grind [De]
  ·rename_i hsh sh hd E Y a0 body kk;obtain⟨h0,hb,hx⟩:=h;have hb:=(hsh.bC _).1 hb;obtain⟨hok,hr⟩:=hr;have hx:=(sh.bC _).1 hx;obtain⟨_,h0,rfl⟩:=cu hok h0;intro fro g0 w0 hi hro;refine .loop hi (n:=n) (s0:=E a0) (fun m s1=>∃a,s1=E a∧lg (fun a q=>(body a).can n q) m a fun t=>(kk t).can n p) (fun s ⟨a,_,h⟩=>by simp[lg]at h) h0 ⟨a0,rfl,hr⟩ ?_
   rintro m s1 ⟨a,rfl,hit⟩;simp only[lg]at hit;refine(Df hNe (fun g h hr=>ih _ g (E a) _ h hr) (hb a) hit fro g0 w0 hi hro).mono ?_
   grind [De]
  ·exact hr.elim
  ·exact nomatch h
 |exit id=>intro ρ p g s k h hr fro g0 w0 _ _;exact .exit ⟨g,h,hr⟩
 |ret=>intro ρ p g s k h hr fro g0 w0 _ _;exact .ret ⟨g,h,hr⟩
 |rangeFunc x ps as bd=>
  intro ρ p g s k h hr;simp only[gv]at h;obtain⟨s1,g1,hw,h,hr⟩:=AJ h hr;refine .weak hw ?_;split at h
  ·rename_i pr g2;obtain⟨_,h⟩:=h;simp only[G.can]at hr;split at h
   ·rename_i f pa qa hf;split at h
    ·rename_i l H1 D1 hen;rw[cR]at h;obtain⟨hpr,h⟩:=h;split at h
     ·rename_i ids rs hcl;simp only[ct]at h;have hfn:=hNe.fn h hr;intro fro g0 w0 hi hro Q g a w hs hl hp;refine Im (hro.mono hl.ext) hf hen hfn hs ?_;rintro a1 H2 ⟨g3,hk,hr3⟩;rcases qJ hk with⟨e,hmg,hk⟩ |⟨v,hmg,hk⟩
      ·simp only[dr]at hk;split at hk
       ·rename_i out s' hend;exact .inl ⟨e,out,s',hmg,hend,(hp _ _ ⟨g3,hk,hr3⟩).later hl⟩
       ·exact hk.elim
      ·exact .inr ⟨v,hmg,(hp _ _ ⟨g3,hk,hr3⟩).later hl⟩
     ·exact h.elim
    ·exact h.elim
   ·exact h.elim
  ·exact hr.elim
  ·exact nomatch h
 |_=>intro ρ p g s k h hr;exact h.elim
theorem dL.trim{g:Gh}{w w':World}{e:Ending}{H H1:List af}{a:aI}{pr:List Nat}(hi:Inv g H w)(h:dL g H w a H1 e w')(hpan:∀v,a=.aM v→v.flat=true)(ha:a.eR H.length=true)(hl:AG pr H.length 0 (H1.take H.length)=true)
 (hp:∀i,pr.contains i=true→∃x,H1[i]? =some x∧pN x=true):dL g H w a (H1.take H.length) e w':=by
 obtain⟨g1,hi1,hla,he⟩:=h;have hlen:(H1.take H.length).length=H.length:=by rw[List.length_take];have:=hla.len;omega
 have hK:H1.take H.length++H1.drop H.length=H1:=List.take_append_drop _ _;obtain⟨i1,i2⟩:=Inv.drop (n:=H.length) (K:=H1.take H.length) (L:=H1.drop H.length) hi (by rw[hK];exact hi1) (by rw[hK];exact hla) hlen rfl fun b x hx=>.inl (by
  rcases AH hl b x hx with hc |hc
  ·grind [u6,ry,ia,rI]
  ·exact hc)
 refine⟨g1.upto H.length,i1,i2,?_⟩;cases a with
 |ret v=>
  obtain⟨x,rfl,hx⟩:=he;exact⟨x,rfl,jD (n:=H.length) (g:=g1) (g2:=g1.upto H.length) (fun _ _ h=>h) (fun b ak x hb he=>by grind [Gh.upto]) v x ha hx⟩
 |aM v=>
  obtain⟨x,rfl,hx⟩:=he;exact⟨x,rfl,hU v x (hpan v rfl) hx⟩
theorem xe.of(hm : P.follows .mixedOrders = true)(hN : ∀ (f : FuncId) (fn : Func), P.funcs[f]? = some fn → fn.name ≠ "runtime.NumGoroutine"){L : Nat}{f : FuncId}{fn : Func}{c : Code}{args : List AVal}{H0 : List af}{Θ : aS → St → Prop}{Φ : aI → List af → Prop}
 (hf:P.funcs[f]? =some fn) (hb:fn.body=some c) (hd:∀g0 w0,Inv g0 H0 w0→dO P none g0 H0 w0 c ⟨iF fn.ntmps args,H0,[]⟩ Θ)
 (hΘ:∀o s,Θ o s→∃s' a H1,fK H0 s s'∧mI P cfg L fn o s'=some (a,H1)∧∃a' H1',Φ a' H1'∧∀g w e w',Inv g H0 w→dL g H0 w a H1 e w'→dL g H0 w a' H1' e w'):xe P f args H0 Φ:=by
 refine⟨⟨fn,c,hf,hb,hN f fn hf⟩,fun gh w vs hi hl=>callsIn_wide.1 (callsIn_of_wp_marks (F:=Fr none) (n:=0) hf hb trivial ?_)⟩
 have hsim:dy gh ⟨iF fn.ntmps args,H0,[]⟩ {tmps:=vs++Array.replicate (fn.ntmps - vs.size) undef,defers:=[]} w:=⟨hi,qE hl _,rfl⟩;refine hd gh w hi _ gh _ w hsim (aK.refl _ _ _) fun o1 s1 ht=>?_
 obtain⟨s',a,H1,hwk,hlo,a',H1',hΦ,hcv⟩:=hΘ o1 s1 ht;refine dN.weak hi hwk ?_;have key:∀(m:Option AVal) (u:FrameMode),tC P cfg L fn m s'=some (a,H1)→∀g' a0 w',dy g' s' a0 w'→aK gh H0 w g' s'.H w'→jF g' w' m u→
  LeavesInM (Fr none) 0 P fn a0.tmps (fun e w'=>∃a H1,Φ a H1∧dL gh H0 w a H1 e w') a0.defers u w':=by
  intro m u hla g' a0 w' hs' hlat hmo;obtain⟨m',H',rr,h1,h2,h3,h4⟩:=Db hla;refine gT ?_ (gZ hm hN ny s'.D a0.defers m u s'.H g' w' m' H' hs'.defs hs'.inv hs'.tmps hmo h1 h2 hlat);rintro e w2 ⟨g2,hi2,hla2,he2⟩;refine⟨a',H1',hΦ,hcv gh w e w2 hi ⟨g2,hi2,hla2,?_⟩⟩;cases rr with
  |ret v=>rw[h3 v rfl];obtain⟨x,rfl,hx⟩:=he2;exact⟨x,rfl,zf _ _ hx⟩
  |aM v=>rw[h4 v rfl];exact he2
 cases o1 with
 |normal=>exact fun g' a' w' hs' hlat=>key none .returning hlo g' a' w' hs' hlat rfl
 |ret=>exact fun g' a' w' hs' hlat=>key none .returning hlo g' a' w' hs' hlat rfl
 |exit id=>simp[mI]at hlo
 |aM v=>exact fun g' a' w' x hv hs' hlat hrx=>key (some v) (.panicking [{v:=x,recovered:=false}]) hlo g' a' w' hs' hlat ⟨hv,x,rfl,hrx⟩
theorem yz(hm : P.follows .mixedOrders = true)(hN : ∀ (f : FuncId) (fn : Func), P.funcs[f]? = some fn → fn.name ≠ "runtime.NumGoroutine") : ∀ d, kN P (gN P cfg true d)
 | 0=>⟨fun h=>h.elim,fun h=>h.elim,fun h=>h.elim⟩
 |d+1=>by
  have ih:=yz hm hN d;constructor
  ·intro ρ n f args H g k p h hr;simp only[gN,JT]at h;split at h
   ·exact EO h hr
   split at h
   ·rename_i fn hf;split at h
    ·rename_i c hb;have hd:=wu (X:=⟨cfg,none,gN P cfg true d,true⟩) hm ih rfl c p g _ _ h hr;refine xe.of (cfg:=cfg) (L:=10) hm hN hf hb (fun g0 w0 hi=>hd none g0 w0 hi trivial) ?_
     rintro o s1 ⟨g1,h,hr⟩;unfold Ji at h;split at h
     ·rename_i ts pr g2;obtain⟨hok,hr⟩:=hr;simp only[G.can]at hr;obtain⟨s',hw,h⟩:=cu hok h;split at h
      ·rename_i a H1 hla;obtain⟨_,hpr,h⟩:=h;grind [cR,dL.trim,Aa,wq]
      ·exact h.elim
     ·exact hr.elim
     ·exact nomatch h
    ·exact h.elim
   ·exact h.elim
  ·intro ρ n b args H g k p h hr;simp only[gN,Jk]at h;split at h
   ·rename_i st pend fid A ps assign body hb;split at h
    ·rename_i hlen;have hlen:=Nat.eq_of_beq_eq_true hlen;have hd1:=wu (X:=⟨cfg,some b,gN P cfg true d,true⟩) hm ih rfl assign p g _ _ h hr;intro gh w vs k1 sz hi hl hk;obtain⟨k0,tmps0,dk0,fn0,q1,q2,q3⟩:=hi.good b _ hb;rw[hk]at q1;simp only[Option.some.injEq,Prod.mk.injEq]at q1;obtain⟨rfl,rfl⟩:=q1;have hvs:=(cK _ _ hl).1;refine⟨_,q2,by grind,?_⟩
     rw[tX _ ps vs rfl];have hsim:dy gh ⟨nZ A ps args,H,[]⟩ {tmps:=(ps.zip vs.toList).foldl (fun(tmps:Array Value) (p:Tmp×Value)=>tmps.setIfInBounds p.1 p.2) tmps0,defers:=[]} w:=
      ⟨hi,uZ ps args A _ tmps0 q3 hl,rfl⟩
     refine roundIn_of_wpIn trivial ?_;refine hd1 (some k1) gh w hi ⟨0,hk⟩ _ gh _ w hsim (aK.refl _ _ _) ?_;rintro oo ss ⟨g1,h1,hr1⟩;cases oo with
     |exit id=>exact h1.elim
     |ret=>exact h1.elim
     |aM v=>exact h1.elim
     |normal=>
      simp only at h1;split at h1
      ·rename_i pend1 fid1 A1 ps1 as1 bd1 hb1;rw[cR]at h1;have hd2:=wu (X:=⟨cfg,some b,gN P cfg true d,true⟩) hm ih rfl body p g1 _ _ h1 hr1;intro gg1 a1 w1 hs1 hla1;have hk1:=hla1.ext.ai _ _ _ hk;obtain⟨k2,tmps1,dk1,fn1,u1,u2,u3⟩:=hs1.inv.good b _ hb1;rw[hk1]at u1;simp only[Option.some.injEq,Prod.mk.injEq]at u1;obtain⟨rfl,-⟩:=u1;refine⟨_,run_beginRound u2 rfl,?_⟩;obtain⟨i2,l2⟩:=hs1.inv.put (y:=.loop .busy pend1 fid1 A1 ps1 as1 bd1)
        (ob:=.loop {state:=.busy,pending:=pend1,fn:=fn1,tmps:=tmps1,params:=ps1.toArray,assign:=as1,body:=bd1,defers:=dk1}) hb1 rfl hk1 rfl (oc u2)
        fun hext=>⟨_,tmps1,dk1,fn1,hk1,World.putObj_heap_same (Array.getElem?_eq_some_iff.1 u2).1,bq hext _ _ u3⟩
       have hsim2:dy gg1 {ss with H:=ss.H.set b (.loop .busy pend1 fid1 A1 ps1 as1 bd1)} a1 (w1.putObj k1 (.loop {state:=.busy,pending:=pend1,fn:=fn1,tmps:=tmps1,params:=ps1.toArray,assign:=as1,body:=bd1,defers:=dk1})):=
        ⟨i2,bq l2.ext _ _ hs1.tmps,cT l2.ext _ _ hs1.defs⟩
       refine hd2 (some k1) gh w hi ⟨0,hk⟩ _ gg1 a1 _ hsim2 (hla1.trans l2) ?_;rintro oo2 ss2 ⟨g2,h2,hr2⟩;unfold Jj at h2;split at h2
       ·rename_i j hj;split at h2
        ·rename_i ts g3;obtain⟨hok,hr2⟩:=hr2;obtain⟨s3,hw,h2⟩:=cu hok h2;split at h2
         ·rename_i H2 hmk;refine dN.weak hi hw ?_;have hend:∀g' a' w',dy g' s3 a' w'→aK gh H w g' s3.H w'→
           ∃v w'',(Instr.endRound k1 j).run P w'=.ok v w''∧∃a H1,(∃g',k g' a H1∧g'.can n p)∧dL gh H w a H1 (.returned v) w'':=by
           intro g' a' w' hs' hla';obtain⟨rr,e1,e2,e3⟩:=tY hs'.inv (hla'.ext.ai _ _ _ hk) hmk;exact⟨_,_,run_endRound j e1,_,_,⟨g3,h2,hr2⟩,g',e2,hla'.trans e3,_,rfl,by simp[R]⟩
          cases oo2 with
          |normal=>
           simp only[mF,Option.some.injEq]at hj;subst hj;exact fun g' a' w' h1 h2=>hend g' a' w' h1 h2
          |ret=>
           simp only[mF,Option.some.injEq]at hj;subst hj;exact fun g' a' w' h1 h2=>hend g' a' w' h1 h2
          |exit id=>
           simp only[mF,Option.some.injEq]at hj;subst hj;exact fun g' a' w' h1 h2=>hend g' a' w' h1 h2
          |aM v=>cases hj
         ·exact h2.elim
        ·exact hr2.elim
        ·exact nomatch h2
       ·exact h2.elim
      ·exact h1.elim
    ·exact h.elim
   ·exact h.elim
  ·intro σ sh n ro H0 b g E s Y p h hr;obtain⟨h⟩:=h;exact wu (X:=⟨cfg,ro,gN P cfg true d,true⟩) hm ih rfl b p g s _ h hr
def Ju{ρ:Type}(P:Program)[ax](cfg:dV)(L:Nat)(f:FuncId)(args:List AVal)(out:ρ→aI)(g:G P ρ):Prop:=
 match P.funcs[f]? with
 |some fn=>match fn.body with
  |some c=>gv P (KU P cfg) [] c g ⟨iF fn.ntmps args,[],[]⟩ fun g o s=>Ck P cfg L fn out g o s
  |none=>False
 |none=>False
theorem Jv{n L:Nat}{ρ:Type}{fn:Func}{out:ρ→aI}{g:G P ρ}{o:aS}{s:St}{p:ρ→Prop}(h:Ck P cfg L fn out g o s)(hr:g.can n p):∃s' r,p r∧fK [] s s'∧Bv P cfg L fn o s'=some (out r):=by
 unfold Ck at h;split at h
 ·rename_i ts r;obtain⟨hok,hp⟩:=hr;grind [cu]
 ·exact hr.elim
 ·exact nomatch h
theorem G9(hm : P.follows .mixedOrders = true)(hN : ∀ (f : FuncId) (fn : Func), P.funcs[f]? = some fn → fn.name ≠ "runtime.NumGoroutine"){L : Nat}{f : FuncId}{args : List AVal}{ρ : Type}{out : ρ → aI}{g : G P ρ}
 (h:Ju P cfg L f args out g) {n:Nat} {a:aI} (hr:g.can n fun x=>out x=a):gG P f args a:=by
 unfold Ju at h;split at h
 ·rename_i fn hf;split at h
  ·rename_i c hb;refine⟨⟨fn,c,hf,hb,hN f fn hf⟩,fun gh w vs hi hl=>callsIn_wide.1 (callsIn_of_wp_marks (F:=Fr none) (n:=0) hf hb trivial ?_)⟩
   have hsim:dy gh ⟨iF fn.ntmps args,[],[]⟩ {tmps:=vs++Array.replicate (fn.ntmps - vs.size) undef,defers:=[]} w:=⟨hi,qE hl _,rfl⟩;have hd:=wu (X:=KU P cfg) hm (yz hm hN 9) rfl c _ g _ _ h hr;refine hd none gh w hi trivial _ gh _ w hsim (aK.refl _ _ _) ?_;rintro o1 s1 ⟨g',h',hr'⟩;obtain⟨s',r',rfl,hwk,hlo⟩:=Jv h' hr';refine dN.weak hi hwk ?_;have key:∀(m:Option AVal) (u:FrameMode),w8 P cfg L fn m s'=some (out r')→∀g' a' w',dy g' s' a' w'→aK gh [] w g' s'.H w'→jF g' w' m u→
    LeavesInM (Fr none) 0 P fn a'.tmps (dL gh [] w (out r') []) a'.defers u w':=by
    intro m u hla g' a' w' hs' hlat hmo;obtain⟨m',H',rr,H1,h1,h2,h3⟩:=Dc hla;refine gT ?_ (gZ hm hN ny s'.D a'.defers m u s'.H g' w' m' H' hs'.defs hs'.inv hs'.tmps hmo h1 h2 hlat);rintro e w2 ⟨g2,hi2,hla2,he2⟩;exact Bw hi hi2 hla2 h3 he2
   cases o1 with
   |normal=>exact fun g' a' w' hs' hlat=>key none .returning hlo g' a' w' hs' hlat rfl
   |ret=>exact fun g' a' w' hs' hlat=>key none .returning hlo g' a' w' hs' hlat rfl
   |exit id=>simp[Bv]at hlo
   |aM v=>exact fun g' a' w' x hv hs' hlat hrx=>key (some v) (.panicking [{v:=x,recovered:=false}]) hlo g' a' w' hs' hlat ⟨hv,x,rfl,hrx⟩
  ·exact h.elim
 ·exact h.elim
structure yA(P:Program)[ax]:Type 1 where
 f:FuncId
 X:Type
 args:X→List AVal
 sh:Sh
 out:sh.El→aI
 g:X→G P sh.El
 ok:∀n x a,(g x).can n (fun y=>out y=a)→gG P f (args x) a
def yA.of[hp:Plain P](cfg:dV)(L:Nat)(f:FuncId)(X:Type)(args:X→List AVal)(sh:Sh)(out:sh.El→aI)(g:X→G P sh.El)(h:∀x,Ju P cfg L f (args x) out (g x)=(g x).dX (JW out)):yA P where
 f:=f
 X:=X
 args:=args
 sh:=sh
 out:=out
 g:=g
 ok:=fun n x a hr=>G9 hp.mixed hp.names (n:=n) (by rw[h x];exact G.bA (fun _=>rfl) (g x)) hr
def yA.all(c:yA P)(S:Nat→c.X→Option c.sh.El)(h:∀n x r,S n x=some r→∃m,(c.g x).can m fun y=>c.out y=c.out r):aA P where
 f:=c.f
 X:=c.X
 args:=c.args
 sh:=c.sh
 out:=c.out
 S:=S
 ok:=fun n x r hr=>let⟨m,hm⟩:=h n x r hr;c.ok m x (c.out r) hm
end
end Go.AM
end
section
namespace Go.AM
def pk{P:Program}[ax]{ρ:Type}(a:G P ρ)(f:Nat→G P ρ):Option Nat→G P ρ
 |none=>a
 |some i=>f i
section
variable {K V:Type}
theorem Dg(ek:K→AVal)(ev:V→AVal):∀(m:List (K×V)) (b i:Nat) p,(ay ek ev b m)[i]? =some p→p.2.2=b+i
 | [],_,_,_,h=>by simp[ay]at h
 | (k,v)::m,b,0,p,h=>by simp[ay]at h;subst h;rfl
 | (k,v)::m,b,i+1,p,h=>by
  simp only[ay,List.getElem?_cons_succ]at h;have:=Dg ek ev m (b+1) i p h;omega
def Mv(b mb:Nat)(m:List (K×V))(ek:K→AVal)(ev:V→AVal):PK:=
 ⟨b,mb,m.length,ay ek ev 0 m,rJ ek ev m 0,fun i p h=>by have:=Dg ek ev m 0 i p h;omega⟩
theorem Dh(ek:K→AVal)(ev:V→AVal):∀(m:List (K×V)) (b i:Nat) (x:K×V),m[i]? =some x→(ay ek ev b m).find? (fun p=>p.2.2==b+i)=some (ek x.1,ev x.2,b+i)
 | [],_,_,_,h=>by simp at h
 | (k,v)::m,b,0,x,h=>by simp at h;subst h;simp[ay]
 | (k,v)::m,b,i+1,x,h=>by
  simp only[List.getElem?_cons_succ]at h;have:=Dh ek ev m (b+1) i x h;simp only[ay,List.find?_cons];have hne:(b==b+(i+1))=false:=by simp
  rw[hne,show b+(i+1)=b+1+i by omega]
  exact this
def L9(m:List (K×V))(ek:K→AVal)(ev:V→AVal)(b mb:Nat)(seen:List Nat)(i:Nat):jo (K×V) where
 run:=m[i]?
 aT x:={val:=.bV [ek x.1,ev x.2]}
 ids:=[b,mb]
 kf _ _ _ _ op ai H:=match op with
  | .entry x=>ai x=.ptr b 0 0 0∧H[b]? =some (.iter (.mp mb) m.length (seen++[i]) m.length)∧H[mb]? =some (.map m.length (ay ek ev 0 m))
  |_=>False
 fI:=AVal.ptr b 0 0 0=AVal.ptr b 0 0 0∧some (af.iter (.mp mb) m.length (seen++[i]) m.length)=some (af.iter (.mp mb) m.length (seen++[i]) m.length)∧some (af.map m.length (ay ek ev 0 m))=some (af.map m.length (ay ek ev 0 m))
 holds:=⟨rfl,rfl,rfl⟩
 sound gl P cfg nid op ai H h x hx:=by
  cases op<;>try exact h.elim
  obtain⟨h1,h2,h3⟩:=h;have hf:=Dh ek ev m 0 i x hx;rw[Nat.zero_add]at hf;have he:y8 (seen++[i]) (ay ek ev 0 m)=some (.bV [ek x.1,ev x.2]):=by simp[y8,hf]
  simp[bf,cc,bN,A6,h1,h2,h3,mapOf,Rd.bind,Rd.run,Rd.reads,he,yields]
def JZ(m:List (K×V))(ek:K→AVal)(ev:V→AVal)(b:Nat):jo Unit where
 run:=some ()
 aT _:={val:=.sc (.int .i64 (m.length:Int))}
 ids:=[b]
 kf _ P _ _ op ai H:=match op with
  | .call {callee:=.builtin .len,args,argTypes}=>match argTypes[0]?,args[0]? with
   |some T,some x=>(match P.underlying T with |some (.map _ _)=>true |_=>false)=true∧ai x=.mp b∧H[b]? =some (.map m.length (ay ek ev 0 m))
   |_,_=>False
  |_=>False
 fI:=(@Eq Bool true true)∧AVal.mp b=AVal.mp b∧some (af.map m.length (ay ek ev 0 m))=some (af.map m.length (ay ek ev 0 m))
 holds:=⟨rfl,rfl,rfl⟩
 sound gl P cfg nid op ai H h x hx:=by
  cases op<;>try exact h.elim
  rename_i c;obtain⟨ce,args,ats⟩:=c;cases ce with
  |builtin bb=>
   cases bb
   case len=>
    simp only at h;split at h
    ·rename_i T x' e1 e2;obtain⟨h1,h2,h3⟩:=h;split at h1
     ·rename_i q1 q2 hu;simp[bf,cc,bN,e1,e2,hu,h2,mapOf,Rd.bind,Rd.run,Rd.reads,h3,rJ]
     ·cases h1
    ·exact h.elim
   all_goals exact h.elim
  |_=>exact h.elim
end
section
variable {K V:Type}
def LA(m:List (K×V))(k:K)(ek:K→AVal)(ev:V→AVal)(eq:K→K→Bool)(z:AVal)(ks:List Kd)(ag ok:Bool)(b:Nat):jo V where
 run:=(aW eq k m 0).map (·.2)
 aT v:={val:=match ok with
  |true=>.bV [ev v,.sc (.bool true)]
  |false=>ev v}
 ids:=[b]
 kf gl P cfg nid op ai H:=match op with
  | .lookup T x i ok'=>ok'=ok∧ai x=.mp b∧ai i=ek k∧H[b]? =some (.map m.length (ay ek ev 0 m))∧vc P T=some (some ks,ag,some z)∧(∀k,jB (ek k)=ag)∧∀k k',cz ks (ek k).cells (ek k').cells=some (eq k k')
  |_=>False
 fI:=ok=ok∧AVal.mp b=AVal.mp b∧ek k=ek k∧some (af.map m.length (ay ek ev 0 m))=some (af.map m.length (ay ek ev 0 m))∧some (some ks,ag,some z)=some (some ks,ag,some z)∧(∀_:K,ag=ag)∧∀k k',some (eq k k')=some (eq k k')
 holds:=⟨rfl,rfl,rfl,rfl,rfl,fun _=>rfl,fun _ _=>rfl⟩
 sound gl P cfg nid op ai H h x hx:=by
  cases op<;>try exact h.elim
  rename_i T a i ok';obtain⟨rfl,h1,h2,h3,h4,h5,h6⟩:=h;unfold vc at h4;split at h4
  ·rename_i TK TE hu;simp only[Option.some.injEq,Prod.mk.injEq]at h4;obtain⟨t1,t2,t3⟩:=h4;have hk:iw P TK (ek k)=some ks:=by simp[iw,t1,h5,t2]
   have hf:=pQ (ev:=ev) (eq:=eq) h5 h6 k m 0 0;simp only[bf,cc,bN,tM,hu,h2,hk,h1,mapOf,Rd.bind,Rd.run,Rd.reads,h3,h6,t2,hf,t3,if_false,Bool.false_eq_true];cases hfm:aW eq k m 0 with
   |none=>rw[hfm]at hx;cases hx
   |some q=>
    rw[hfm]at hx;simp only[Option.map_some,Option.some.injEq]at hx;subst hx;cases ok'<;>simp[Rd.bind,Rd.run,Rd.reads]
  ·cases h4
def LB(m:List (K×V))(k:K)(ek:K→AVal)(ev:V→AVal)(eq:K→K→Bool)(z:AVal)(ks:List Kd)(ag ok:Bool)(b:Nat):jo Unit where
 run:=if(aW eq k m 0).isSome then none else some ()
 aT _:={val:=match ok with
  |true=>.bV [z,.sc (.bool false)]
  |false=>z}
 ids:=[b]
 kf gl P cfg nid op ai H:=match op with
  | .lookup T x i ok'=>ok'=ok∧ai x=.mp b∧ai i=ek k∧H[b]? =some (.map m.length (ay ek ev 0 m))∧vc P T=some (some ks,ag,some z)∧(∀k,jB (ek k)=ag)∧∀k k',cz ks (ek k).cells (ek k').cells=some (eq k k')
  |_=>False
 fI:=ok=ok∧AVal.mp b=AVal.mp b∧ek k=ek k∧some (af.map m.length (ay ek ev 0 m))=some (af.map m.length (ay ek ev 0 m))∧some (some ks,ag,some z)=some (some ks,ag,some z)∧(∀_:K,ag=ag)∧∀k k',some (eq k k')=some (eq k k')
 holds:=⟨rfl,rfl,rfl,rfl,rfl,fun _=>rfl,fun _ _=>rfl⟩
 sound gl P cfg nid op ai H h x hx:=by
  cases op<;>try exact h.elim
  rename_i T a i ok';obtain⟨rfl,h1,h2,h3,h4,h5,h6⟩:=h;unfold vc at h4;split at h4
  ·rename_i TK TE hu;simp only[Option.some.injEq,Prod.mk.injEq]at h4;obtain⟨t1,t2,t3⟩:=h4;have hk:iw P TK (ek k)=some ks:=by simp[iw,t1,h5,t2]
   have hf:=pQ (ev:=ev) (eq:=eq) h5 h6 k m 0 0;simp only[bf,cc,bN,tM,hu,h2,hk,h1,mapOf,Rd.bind,Rd.run,Rd.reads,h3,h6,t2,hf,t3,if_false,Bool.false_eq_true];cases hfm:aW eq k m 0 with
   |none=>cases ok'<;>simp[Rd.bind,Rd.run,Rd.reads]
   |some q=>rw[hfm]at hx;simp at hx
  ·cases h4
end
def ve(t:ByteArray)(i:Int):jo Int where
 run:=if 0≤i then(t[i.toNat]?).map fun b=>(b.toNat:Int)else none
 aT x:={val:=.sc (.int .u8 x)}
 ids:=[]
 kf _ P _ _ op ai _:=match op with
  | .index T a b=>(match P.underlying T with |some .string=>true |_=>false)=true∧ai a=.sc (.string t)∧intOf (ai b)=some i
  |_=>False
 fI:=(@Eq Bool true true)∧AVal.sc (.string t)=AVal.sc (.string t)∧some i=some i
 holds:=⟨rfl,rfl,rfl⟩
 sound gl P cfg nid op ai H h x hx:=by
  cases op<;>try exact h.elim
  rename_i T a b;obtain⟨h1,h2,h3⟩:=h;split at h1
  ·rename_i hu;have hb:∃k,ai b=.sc (.int k i):=by
    unfold intOf at h3;split at h3
    ·rename_i k n hb;simp only[Option.some.injEq]at h3;subst h3;exact⟨k,hb⟩
    ·cases h3
   obtain⟨k,hb⟩:=hb;split at hx
   ·rename_i h0;obtain⟨q,hq,rfl⟩:=Option.map_eq_some_iff.1 hx;simp[bf,cc,bN,h2,hb,A5,hu,h0,hq,yields,Rd.bind,Rd.run,Rd.reads]
   ·cases hx
  ·cases h1
def Ma(n by_ nid0:Nat)(zs:List AVal)(c:Int):jo Unit where
 run:=if 0≤c∧roomy c.toNat by_=true then some ()else none
 aT _:={val:=.sl nid0 0 n 0 0,cZ:=[(nid0,.row 0 n [])]}
 ids:=[nid0]
 kf gl P cfg nid op ai H:=match op with
  | .makeSlice T a b=>nid=nid0∧H[nid]? =some .aR∧intOf (ai a)=some 0∧intOf (ai b)=some c∧uh P T=some (n,by_,true)∧(match P.underlying T with |some (.slice e)=>ga P e |_=>none)=some zs∧Nat.beq zs.length n=true∧decide (0<n)=true
  |_=>False
 fI:=nid0=nid0∧some af.aR=some af.aR∧some (0:Int)=some 0∧some c=some c∧some (n,by_,true)=some (n,by_,true)∧some zs=some zs∧ @Eq Bool true true∧ @Eq Bool true true
 holds:=by simp
 sound gl P cfg nid op ai H h x hx:=by
  cases op<;>try exact h.elim
  rename_i T a b;obtain⟨rfl,hunb,h1,h2,h3,h4,h5,h6⟩:=h;obtain⟨k1,h1⟩:=fM h1;obtain⟨k2,h2⟩:=fM h2;obtain⟨e,i,e1,e2,e3,e4,e5⟩:=sQ h3;rw[e1]at h4;simp only at h4;simp only[decide_eq_true_eq]at h6;have h5:=Nat.eq_of_beq_eq_true h5;split at hx
  ·rename_i h0;have hop:kW P nid T (ai a) (ai b)=some {val:=.sl nid 0 i.size 0 0,cZ:=[(nid,.row 0 i.size [])]}:=by
    rw[h1,h2];simp only[kW,e1,e2,h4];rw[if_pos ⟨Int.le_refl _,h0.1,by rw[e4];exact h0.2,by rw[h5,e3],by omega⟩]
    rfl
   simp[bf,cc,bN,hop,o5,Rd.bind,Rd.run,Rd.reads,hunb,e3]
  ·cases hx
end Go.AM
end
section
namespace Go.AM
def rK{α β:Type}:List α→(α→Option (List β))→Option (List β)
 | [],_=>some []
 |a::as,f=>match f a with
  |some l=>match rK as f with
   |some m=>some (l++m)
   |none=>none
  |none=>none
theorem jJ{α β:Type}{f:α→Option (List β)}:∀{l:List α} {m:List β},rK l f=some m→∀a∈l,∃la,f a=some la∧∀x∈la,x∈m
 | [],_,_,a,ha=>by cases ha
 |b::l,m,h,a,ha=>by
  simp only[rK]at h;split at h
  ·rename_i lb hb;split at h
   ·rename_i mm hm;simp only[Option.some.injEq]at h;subst h;rcases List.mem_cons.1 ha with rfl |ha
    ·grind
    ·obtain⟨la,h1,h2⟩:=jJ hm a ha;grind
   ·cases h
  ·cases h
def Bz{σ τ:Type}(f:σ→Option (List (σ⊕τ))):Nat→σ→Option (List τ)
 | 0,_=>none
 |n+1,a=>match f a with
  |some l=>rK l fun
   | .inl a'=>Bz f n a'
   | .inr t=>some [t]
  |none=>none
theorem xh{σ τ:Type}{f:σ→Option (List (σ⊕τ))}{F:σ→((σ⊕τ)→Prop)→Prop}(hF:∀a l (q:σ⊕τ→Prop),f a=some l→(∀x∈l,q x)→F a q):
 ∀(n:Nat) (a:σ) (l:List τ) (p:τ→Prop),Bz f n a=some l→(∀t∈l,p t)→lg F n a p
 | 0,_,_,_,h,_=>by cases h
 |n+1,a,l,p,h,hp=>by
  simp only[Bz]at h;split at h
  ·rename_i l0 h0;refine hF a l0 _ h0 fun x hx=>?_
   obtain⟨la,h1,h2⟩:=jJ h x hx;cases x with
   |inl a'=>exact xh hF n a' la p h1 fun t ht=>hp t (h2 t ht)
   |inr t=>
    grind
  ·cases h
def DZ(n:Nat)(seen:List Nat):List Nat:=(List.range n).filter fun i=> !seen.contains i
section
variable {P:Program} [ax]
def G.runs(n:Nat):{ρ:Type}→G P ρ→Option (List ρ)
 |_,.stop=>none
 |_,.done ts r=>if ej ts then some [r]else none
 |_,.fail=>none
 |_,.skip _ g=>g.runs n
 |_,.br _ c t f=>if c then t.runs n else f.runs n
 |_,.z6 _ _ x c t f=>if x=c then t.runs n else f.runs n
 |_,.sp c t f=>if c then t.runs n else f.runs n
 |_,.op t k=>t.run.bind fun x=>(k x).runs n
 |_,.call c x k=>(c.S n x).bind fun r=>(k r).runs n
 |_,.pO _ c x k=>(c.S n x).bind fun r=>(k r).runs n
 |_,.bz c x k=>(c.S n x).bind fun r=>(k r).runs n
 |_,.gM c _ _ _ x k=>(c.S n x).bind fun r=>(k r).runs n
 |_,.tidy l g=>if ej l then g.runs n else none
 |_,.loop _ hd _ _ a0 body k=>if ej hd then(Bz (fun a=>(body a).runs n) n a0).bind fun ts=>rK ts fun t=>(k t).runs n else none
 |_,.jh _ _ hd _ _ a0 body k=>if ej hd then(Bz (fun a=>(body a).runs n) n a0).bind fun ts=>rK ts fun t=>(k t).runs n else none
 |_,.eG _ g=>g.runs n
 |_,.rE _ _ g=>g.runs n
 |_,.join _ _ g k=>(g.runs n).bind fun ts=>rK ts fun t=>(k t).runs n
 |_,.grow z k=>if z.ok then rK [true,false] fun t=>(k t).runs n else none
 |_,.pick z seen k=>match DZ z.n seen with
  | []=>(k none).runs n
  |l=>rK l fun i=>(k (some i)).runs n
 |_,.inl _ g=>g.runs n
theorem G.bP(n:Nat):∀{ρ:Type} (g:G P ρ) {p q:ρ→Prop},(∀r,p r→q r)→g.can n p→g.can n q
 |_,.stop,_,_,_,h=>h
 |_,.done ts r,_,_,hpq,h=>⟨h.1,hpq _ h.2⟩
 |_,.fail,_,_,_,h=>h
 |_,.skip _ g,_,_,hpq,h=>G.bP n g hpq h
 |_,.br _ c t f,_,_,hpq,h=>by
  simp only[G.can]at h ⊢;split at h
  ·rename_i hc;rw[if_pos hc];exact G.bP n t hpq h
  ·rename_i hc;rw[if_neg hc];exact G.bP n f hpq h
 |_,.z6 _ _ x c t f,_,_,hpq,h=>by
  simp only[G.can]at h ⊢;split at h
  ·rename_i hc;rw[if_pos hc];exact G.bP n t hpq h
  ·rename_i hc;rw[if_neg hc];exact G.bP n f hpq h
 |_,.sp c t f,_,_,hpq,h=>by
  simp only[G.can]at h ⊢;split at h
  ·rename_i hc;rw[if_pos hc];exact G.bP n t hpq h
  ·rename_i hc;rw[if_neg hc];exact G.bP n f hpq h
 |_,.op t k,_,_,hpq,h=>by
  obtain⟨x,h1,h2⟩:=h;exact⟨x,h1,G.bP n (k x) hpq h2⟩
 |_,.call c x k,_,_,hpq,h=>by
  obtain⟨r,h1,h2⟩:=h;exact⟨r,h1,G.bP n (k r) hpq h2⟩
 |_,.pO _ c x k,_,_,hpq,h=>by
  obtain⟨r,h1,h2⟩:=h;exact⟨r,h1,G.bP n (k r) hpq h2⟩
 |_,.bz c x k,_,_,hpq,h=>by
  obtain⟨r,h1,h2⟩:=h;exact⟨r,h1,G.bP n (k r) hpq h2⟩
 |_,.gM c _ _ _ x k,_,_,hpq,h=>by
  obtain⟨r,h1,h2⟩:=h;exact⟨r,h1,G.bP n (k r) hpq h2⟩
 |_,.tidy l g,_,_,hpq,h=>⟨h.1,G.bP n g hpq h.2⟩
 |_,.loop _ hd _ _ a0 body k,p,q,hpq,h=>by
  refine⟨h.1,?_⟩;have mono:∀(m:Nat) (a:_),lg (fun a q=>(body a).can n q) m a (fun t=>(k t).can n p)→lg (fun a q=>(body a).can n q) m a (fun t=>(k t).can n q):=by
   intro m;induction m with
   |zero=>exact fun a h=>h.elim
   |succ m ih=>
    intro a h;refine G.bP n (body a) (fun v hv=>?_) h
    cases v with
    |inl a'=>exact ih a' hv
    |inr t=>exact G.bP n (k t) hpq hv
  exact mono n a0 h.2
 |_,.jh _ _ hd _ _ a0 body k,p,q,hpq,h=>by
  refine⟨h.1,?_⟩;have mono:∀(m:Nat) (a:_),lg (fun a q=>(body a).can n q) m a (fun t=>(k t).can n p)→lg (fun a q=>(body a).can n q) m a (fun t=>(k t).can n q):=by
   intro m;induction m with
   |zero=>exact fun a h=>h.elim
   |succ m ih=>
    intro a h;refine G.bP n (body a) (fun v hv=>?_) h
    cases v with
    |inl a'=>exact ih a' hv
    |inr t=>exact G.bP n (k t) hpq hv
  exact mono n a0 h.2
 |_,.eG _ g,_,_,hpq,h=>G.bP n g hpq h
 |_,.rE _ _ g,_,_,hpq,h=>G.bP n g hpq h
 |_,.join _ _ g k,_,_,hpq,h=>G.bP n g (fun t ht=>G.bP n (k t) hpq ht) h
 |_,.grow z k,_,_,hpq,h=>⟨h.1,G.bP n (k true) hpq h.2.1,G.bP n (k false) hpq h.2.2⟩
 |_,.pick z seen k,_,_,hpq,h=>⟨fun ha=>G.bP n (k none) hpq (h.1 ha),fun i hi hn=>G.bP n (k (some i)) hpq (h.2 i hi hn)⟩
 |_,.inl _ g,_,_,hpq,h=>G.bP n g hpq h
theorem G.cU(n:Nat):∀{ρ:Type} (g:G P ρ) (l:List ρ) (p:ρ→Prop),g.runs n=some l→(∀r∈l,p r)→g.can n p
 |_,.stop,_,_,h,_=>by cases h
 |_,.done ts r,l,p,h,hp=>by
  simp only[G.runs,Option.ite_none_right_eq_some,Option.some.injEq]at h;obtain⟨h1,rfl⟩:=h;exact⟨h1,hp r (by simp)⟩
 |_,.fail,_,_,h,_=>by cases h
 |_,.skip _ g,l,p,h,hp=>G.cU n g l p h hp
 |_,.br _ c t f,l,p,h,hp=>by
  simp only[G.runs]at h;simp only[G.can];split at h
  ·rename_i hc;rw[if_pos hc];exact G.cU n t l p h hp
  ·rename_i hc;rw[if_neg hc];exact G.cU n f l p h hp
 |_,.z6 _ _ x c t f,l,p,h,hp=>by
  simp only[G.runs]at h;simp only[G.can];split at h
  ·rename_i hc;rw[if_pos hc];exact G.cU n t l p h hp
  ·rename_i hc;rw[if_neg hc];exact G.cU n f l p h hp
 |_,.sp c t f,l,p,h,hp=>by
  simp only[G.runs]at h;simp only[G.can];split at h
  ·rename_i hc;rw[if_pos hc];exact G.cU n t l p h hp
  ·rename_i hc;rw[if_neg hc];exact G.cU n f l p h hp
 |_,.op t k,l,p,h,hp=>by
  obtain⟨x,h1,h2⟩:=Option.bind_eq_some_iff.1 (show t.run.bind (fun x=>(k x).runs n)=some l from h)
  exact⟨x,h1,G.cU n (k x) l p h2 hp⟩
 |_,.call c x k,l,p,h,hp=>by
  obtain⟨r,h1,h2⟩:=Option.bind_eq_some_iff.1 (show(c.S n x).bind (fun r=>(k r).runs n)=some l from h)
  exact⟨r,h1,G.cU n (k r) l p h2 hp⟩
 |_,.pO _ c x k,l,p,h,hp=>by
  obtain⟨r,h1,h2⟩:=Option.bind_eq_some_iff.1 (show(c.S n x).bind (fun r=>(k r).runs n)=some l from h)
  exact⟨r,h1,G.cU n (k r) l p h2 hp⟩
 |_,.bz c x k,l,p,h,hp=>by
  obtain⟨r,h1,h2⟩:=Option.bind_eq_some_iff.1 (show(c.S n x).bind (fun r=>(k r).runs n)=some l from h)
  exact⟨r,h1,G.cU n (k r) l p h2 hp⟩
 |_,.gM c _ _ _ x k,l,p,h,hp=>by
  obtain⟨r,h1,h2⟩:=Option.bind_eq_some_iff.1 (show(c.S n x).bind (fun r=>(k r).runs n)=some l from h)
  exact⟨r,h1,G.cU n (k r) l p h2 hp⟩
 |_,.tidy ts g,l,p,h,hp=>by
  simp only[G.runs,Option.ite_none_right_eq_some]at h;exact⟨h.1,G.cU n g l p h.2 hp⟩
 |_,.loop _ hd _ _ a0 body k,l,p,h,hp=>by
  simp only[G.runs,Option.ite_none_right_eq_some]at h;obtain⟨h1,h⟩:=h;obtain⟨ts,h2,h3⟩:=Option.bind_eq_some_iff.1 h;refine⟨h1,xh (fun a l q h hq=>G.cU n (body a) l q h hq) n a0 ts _ h2 fun t ht=>?_⟩
  obtain⟨la,h4,h5⟩:=jJ h3 t ht;exact G.cU n (k t) la p h4 fun r hr=>hp r (h5 r hr)
 |_,.jh _ _ hd _ _ a0 body k,l,p,h,hp=>by
  simp only[G.runs,Option.ite_none_right_eq_some]at h;obtain⟨h1,h⟩:=h;obtain⟨ts,h2,h3⟩:=Option.bind_eq_some_iff.1 h;refine⟨h1,xh (fun a l q h hq=>G.cU n (body a) l q h hq) n a0 ts _ h2 fun t ht=>?_⟩
  obtain⟨la,h4,h5⟩:=jJ h3 t ht;exact G.cU n (k t) la p h4 fun r hr=>hp r (h5 r hr)
 |_,.eG _ g,l,p,h,hp=>G.cU n g l p h hp
 |_,.rE _ _ g,l,p,h,hp=>G.cU n g l p h hp
 |_,.join _ _ g k,l,p,h,hp=>by
  obtain⟨ts,h2,h3⟩:=Option.bind_eq_some_iff.1 (show(g.runs n).bind (fun ts=>rK ts fun t=>(k t).runs n)=some l from h)
  refine G.cU n g ts _ h2 fun t ht=>?_
  obtain⟨la,h4,h5⟩:=jJ h3 t ht;exact G.cU n (k t) la p h4 fun r hr=>hp r (h5 r hr)
 |_,.grow z k,l,p,h,hp=>by
  simp only[G.runs]at h;split at h
  ·rename_i hz;obtain⟨la,h4,h5⟩:=jJ h true (by simp)
   obtain⟨lb,h6,h7⟩:=jJ h false (by simp)
   exact⟨hz,G.cU n (k true) la p h4 fun r hr=>hp r (h5 r hr),G.cU n (k false) lb p h6 fun r hr=>hp r (h7 r hr)⟩
  ·cases h
 |_,.pick z seen k,l,p,h,hp=>by
  have hm:∀i,i∈DZ z.n seen↔i<z.n∧i∉seen:=fun i=>by simp[DZ]
  simp only[G.runs]at h;refine⟨fun ha=>?_,fun i hi hn=>?_⟩
  ·have h0:DZ z.n seen=[]:=by
    rw[List.eq_nil_iff_forall_not_mem];exact fun i hi=>((hm i).1 hi).2 (ha i ((hm i).1 hi).1)
   rw[h0]at h;exact G.cU n (k none) l p h hp
  ·have hin:=(hm i).2 ⟨hi,hn⟩;split at h
   ·rename_i h0;rw[h0]at hin;cases hin
   ·obtain⟨la,h4,h5⟩:=jJ h i hin;exact G.cU n (k (some i)) la p h4 fun r hr=>hp r (h5 r hr)
 |_,.inl _ g,l,p,h,hp=>G.cU n g l p h hp
def He:aI→aI→Bool
 | .ret a,.ret b=>same a b
 | .aM a,.aM b=>same a b
 |_,_=>false
theorem Jw{a b:aI}(h:He a b=true):a=b:=by
 cases a<;>cases b<;>simp only[He,Bool.false_eq_true]at h
 ·rw[qy _ _ h]
 ·rw[qy _ _ h]
def oneOf{ρ:Type}(out:ρ→aI):List ρ→Option ρ
 | []=>none
 |r::rs=>if rs.all (fun x=>He (out x) (out r))then some r else none
def yA.one(c:yA P):aA P:=c.all (fun n x=>((c.g x).runs n).bind (oneOf c.out)) fun n x r h=>by
 obtain⟨l,h1,h2⟩:=Option.bind_eq_some_iff.1 h;refine⟨n,G.cU n (c.g x) l _ h1 fun y hy=>?_⟩
 cases l with
 |nil=>cases h2
 |cons r0 rs=>
  grind [oneOf,Jw]
end
end Go.AM
end
section
namespace Go.AM
section
variable [ax] {P:Program} {cfg:dV}
def l9(bs:List Nat)(n j:Nat):Nat:=match bs[j]? with
 |some b=>b
 |none=>n+(j - bs.length)
def rL(bs:List Nat)(n b:Nat):Option Nat:=match ki b bs 0 with
 |some j=>some j
 |none=>match Nat.blt b n with
  |true=>none
  |false=>some (bs.length+(b - n))
def pS(bs:List Nat)(n:Nat):Ren:=fun j v=>some (l9 bs n j,v)
def ES(bs:List Nat)(n:Nat):Ren:=fun b v=>(rL bs n b).map fun j=>(j,v)
def zo(bs:List Nat)(n m:Nat):Bool:=tZ bs&&bs.all (fun b=>Nat.blt b n)&&Nat.beq bs.length m
theorem FN{bs:List Nat}{n m:Nat}(h:zo bs n m=true):tZ bs=true∧(∀b∈bs,b<n)∧bs.length=m:=by
 simp only[zo,Bool.and_eq_true,List.all_eq_true,Nat.blt_eq]at h;simp_all
theorem xk{bs:List Nat}{n:Nat}(hn:tZ bs=true)(hlt:∀b∈bs,b<n)(j:Nat):rL bs n (l9 bs n j)=some j:=by
 unfold l9;split
 ·rename_i b hb;have:=vv 0 hn hb;grind [rL]
 ·rename_i hb;rw[List.getElem?_eq_none_iff]at hb;have hno:ki (n+(j - bs.length)) bs 0=none:=by
   cases hi:ki (n+(j - bs.length)) bs 0 with
   |none=>rfl
   |some i=>
    obtain⟨_,h2⟩:=oQ hi;have:=hlt _ (List.mem_of_getElem? h2);omega
  simp only[rL,hno];have:Nat.blt (n+(j - bs.length)) n=false:=by
   rw[← Bool.not_eq_true,Nat.blt_eq];omega
  grind
theorem qM{bs:List Nat}{n b j:Nat}(h:rL bs n b=some j):l9 bs n j=b:=by
 unfold rL at h;split at h
 ·rename_i i hi;simp only[Option.some.injEq]at h;subst h;obtain⟨_,h2⟩:=oQ hi;grind [l9]
 ·split at h
  ·cases h
  ·rename_i hb;rw[← Bool.not_eq_true,Nat.blt_eq]at hb;grind [l9]
mutual
theorem zq{f f':Ren}(h:∀b v,∃b',f b v=some (b',v)∧f' b' v=some (b,v)):∀(a:AVal),(a.gu f).gu f'=a
 | .sc _=>rfl
 | .agg cs=>by simp only[AVal.gu,mJ h cs]
 | .bV cs=>by simp only[AVal.gu,mJ h cs]
 | .ptr b v i o=>by obtain⟨b',h1,h2⟩:=h b v;simp[AVal.gu,h1,h2]
 | .bp .. =>rfl
 | .sl b v sz o n=>by obtain⟨b',h1,h2⟩:=h b v;simp[AVal.gu,h1,h2]
 | .aD _=>rfl
 | .fn g a b=>by simp only[AVal.gu,mJ h a,mJ h b]
 | .ei t v=>by simp only[AVal.gu,zq h v]
 | .mp b=>by obtain⟨b',h1,h2⟩:=h b 0;simp[AVal.gu,h1,h2]
 | .gj b=>by obtain⟨b',h1,h2⟩:=h b 0;simp[AVal.gu,h1,h2]
 | .sa b v i o s n=>by obtain⟨b',h1,h2⟩:=h b v;simp[AVal.gu,h1,h2]
 | .eU .. =>rfl
 | .emp=>rfl
 | .nz _=>rfl
 | .aq=>rfl
theorem mJ{f f':Ren}(h:∀b v,∃b',f b v=some (b',v)∧f' b' v=some (b,v)):∀(l:List AVal),AVal.jS f' (AVal.jS f l)=l
 | []=>rfl
 |a::as=>by simp only[AVal.jS,zq h a,mJ h as]
end
def qN(f:Ren)(bs pu:List Nat)(H:List af):Nat→Nat→List af
 | 0,_=>[]
 |k+1,i=>(match ki i bs 0 with
  |some j=>fU f (pu.contains j) none (H.getD j .dead)
  |none=>.dead)::qN f bs pu H k (i+1)
def oR(f:Ren)(pu:List Nat):Nat→List af→List af
 |_,[]=>[]
 |j,x::xs=>fU f (pu.contains j) none x::oR f pu (j+1) xs
def lU(bs pu:List Nat)(n:Nat)(H:List af):List af:=qN (pS bs n) bs pu H n 0++oR (pS bs n) pu bs.length (H.drop bs.length)
theorem nA(f:Ren)(bs pu:List Nat)(H:List af):∀(k i:Nat),(qN f bs pu H k i).length=k
 | 0,_=>rfl
 |k+1,i=>by simp[qN,nA f bs pu H k (i+1)]
theorem Ac(f:Ren)(bs pu:List Nat)(H:List af):∀(k i b:Nat),b<k→(qN f bs pu H k i)[b]? =some (match ki (i+b) bs 0 with |some j=>fU f (pu.contains j) none (H.getD j .dead) |none=>.dead)
 | 0,_,_,h=>by omega
 |k+1,i,0,_=>by simp[qN]
 |k+1,i,b+1,h=>by
  simp only[qN,List.getElem?_cons_succ];rw[Ac f bs pu H k (i+1) b (by omega),show i+1+b=i+(b+1)by omega]
theorem wv(f:Ren)(pu:List Nat):∀(j:Nat) (l:List af),(oR f pu j l).length=l.length
 |_,[]=>rfl
 |j,_::xs=>by simp[oR,wv f pu (j+1) xs]
theorem Ad(f:Ren)(pu:List Nat):∀(j:Nat) (l:List af) (b:Nat),(oR f pu j l)[b]? =(l[b]?).map fun x=>fU f (pu.contains (j+b)) none x
 |_,[],_=>by simp[oR]
 |j,_::xs,0=>by simp[oR]
 |j,_::xs,b+1=>by
  simp only[oR,List.getElem?_cons_succ];rw[Ad f pu (j+1) xs b,show j+1+b=j+(b+1)by omega]
theorem xH(bs pu:List Nat)(n:Nat)(H:List af):(lU bs pu n H).length=n+(H.length - bs.length):=by
 simp[lU,nA,wv]
theorem BA{bs pu:List Nat}{n:Nat}{H:List af}(hlt:∀b∈bs,b<n)(hl:bs.length≤H.length)(b:Nat):
 (lU bs pu n H)[b]? =match rL bs n b with
  |some j=>(H[j]?).map fun x=>fU (pS bs n) (pu.contains j) none x
  |none=>some .dead:=by
 by_cases hb:b<n
 ·rw[lU,List.getElem?_append_left (by rw[nA];exact hb),Ac _ _ _ _ _ _ _ hb]
  simp only[Nat.zero_add,rL];cases hi:ki b bs 0 with
  |some j=>
   obtain⟨_,h2⟩:=oQ hi;grind
  |none=>
   have:Nat.blt b n=true:=by rw[Nat.blt_eq];exact hb
   simp[this]
 ·have hno:ki b bs 0=none:=by
   cases hi:ki b bs 0 with
   |none=>rfl
   |some i=>
    obtain⟨_,h2⟩:=oQ hi;exact absurd (hlt _ (List.mem_of_getElem? h2)) hb
  have h2:Nat.blt b n=false:=by rw[← Bool.not_eq_true,Nat.blt_eq];exact hb
  grind [lU,nA,Ad,rL]
theorem jf(f:Ren)(p:Bool)(x:af):(fU f p none x).live=x.live:=by cases x<;>rfl
theorem FO{f f':Ren}(h:∀b v,∃b',f b v=some (b',v)∧f' b' v=some (b,v))(p:Bool){x:af}(hp:p=true→l5 x=true)(hl:x.live≠none):Ey f' (fU f p none x) x:=by
 cases x with
 |aR=>exact absurd rfl hl
 |dead=>exact absurd rfl hl
 |row v sz rows=>
  refine⟨rfl,?_⟩;cases p with
  |true=>grind [l5]
  |false=>exact .inr (by simp[List.map_map,Function.comp_def,mJ h])
 |map c es=>
  refine⟨rfl,?_⟩;cases p with
  |true=>grind [l5]
  |false=>exact .inr (by simp[List.map_map,Function.comp_def,zq h])
 |loop st pend fid A ps as bd=>exact⟨rfl,rfl,rfl,rfl,rfl,rfl,(mJ h A).symm⟩
 |defs=>trivial
 |iter m since seen stepped=>exact⟨rfl,rfl,rfl,(zq h m).symm⟩
def aI.K0(f:Ren):aI→aI
 | .ret u=>.ret (u.gu f)
 | .aM u=>.aM u
open Classical in
theorem bB.place{f:FuncId}{args:List AVal}{H H1:List af}{r:aI}(h:bB P f args H r H1){bs pu mK:List Nat}{n:Nat}(hb:zo bs n H.length=true)(hl1:H.length≤H1.length)(u0:yo pu H)(hpo:yo mK H1)(hf:∀v,r=.aM v→v.flat=true):
 bB P f (AVal.jS (pS bs n) args) (lU bs pu n H) (r.K0 (pS bs n)) (lU bs mK n H1):=by
 obtain⟨hn,hlt,hm⟩:=FN hb;have hinv:∀b v,∃b',pS bs n b v=some (b',v)∧ES bs n b' v=some (b,v):=fun b v=>⟨_,rfl,by simp[ES,xk hn hlt]⟩
 refine⟨h.1,fun g w vs hi hl=>?_⟩
 have hK:=BA (pu:=pu) (H:=H) hlt (by omega)
 have hK1:=BA (pu:=mK) (H:=H1) hlt (by omega)
 have hKf:∀j,(lU bs pu n H)[l9 bs n j]? =(H[j]?).map fun x=>fU (pS bs n) (pu.contains j) none x:=fun j=>by rw[hK,xk hn hlt]
 have hKlen:=xH bs pu n H;have hK1len:=xH bs mK n H1;generalize lU bs pu n H=K at*;generalize lU bs mK n H1=K1 at*;have hpb:∀{j x},H[j]? =some x→pu.contains j=true→l5 x=true:=fun hx hc=>u0 _ (by simpa using hc) _ hx
 have hpb1:∀{j x},H1[j]? =some x→mK.contains j=true→l5 x=true:=fun hx hc=>hpo _ (by simpa using hc) _ hx
 let g':Gh:=⟨fun j v=>g.ai (l9 bs n j) v,g.st⟩
 have hi':Inv g' H w:=by
  refine hi.gu (f:=ES bs n) ⟨rfl,fun b v b' v' x hr hx=>?_,fun j x' hx=>?_,fun j v hj=>?_,fun j x' v v' hx hv hlt'=>?_⟩
  ·simp only[ES,Option.map_eq_some_iff,Prod.mk.injEq]at hr;grind [l9,qM]
  ·by_cases hl:x'.live=none
   ·exact .inl hl
   ·obtain⟨v,hv⟩:=Option.ne_none_iff_exists'.1 hl;refine .inr ⟨l9 bs n j,_,v,v,by rw[hKf,hx];rfl,by rw[jf];exact hv,hv,by simp[ES,xk hn hlt],rfl,FO hinv _ (fun hc=>hpb hx hc) hl⟩
  ·show g.ai (l9 bs n j) v=none;refine hi.fresh _ _ ?_;rcases hj with hj |hj
   ·left;rw[hKf,hj];rfl
   grind
  ·exact hi.next (l9 bs n j) _ v v' (by rw[hKf,hx];rfl) (by rw[jf];exact hv) hlt'
 have hl':RL g' w args vs.toList:=by
  have:=od (g:=g) (g':=g') (f:=ES bs n) (fun _ _ h=>h) (fun b v b' v' x hr hx=>by
   simp only[ES,Option.map_eq_some_iff,Prod.mk.injEq]at hr;grind [l9,qM]) _ _ hl
  rwa[mJ hinv]at this
 refine(h.2 g' w vs hi' hl').mono fun e w' ⟨g1',hi1,hla,he⟩=>?_
 let g1:Gh:=⟨fun b v=>match rL bs n b with |some j=>g1'.ai j v |none=>g.ai b v,g1'.st⟩
 have g1f:∀j v,g1.ai (l9 bs n j) v=g1'.ai j v:=fun j v=>by simp only[g1,xk hn hlt]
 have own1:∀k,eD g' H k→eD g K k:=by
  rintro k ⟨j,x,v,z,hx,hv,hk⟩;exact⟨l9 bs n j,_,v,z,by rw[hKf,hx];rfl,by rw[jf];exact hv,hk⟩
 have own2:∀k,eD g1 K1 k→eD g1' H1 k:=by
  rintro k ⟨b,x,v,z,hx,hv,hk⟩;rw[hK1]at hx;simp only[g1]at hk;split at hx
  ·rename_i j hj;rw[hj]at hk;obtain⟨y,hy,rfl⟩:=Option.map_eq_some_iff.1 hx;exact⟨j,y,v,z,hy,by rw[jf]at hv;exact hv,hk⟩
  ·simp only[Option.some.injEq]at hx;subst hx;cases hv
 have hinv1:Inv g1 K1 w':=by
  refine hi1.gu (f:=pS bs n) ⟨rfl,fun j v b' v' x hr hx=>?_,fun b x' hx=>?_,fun b v hb=>?_,fun b x' v v' hx hv hlt'=>?_⟩
  ·grind [pS]
  ·rw[hK1]at hx;split at hx
   ·rename_i j hj;obtain⟨y,hy,rfl⟩:=Option.map_eq_some_iff.1 hx;by_cases hl:y.live=none
    ·grind [jf]
    ·obtain⟨v,hv⟩:=Option.ne_none_iff_exists'.1 hl;grind [jf,pS,qM,tA]
   ·simp only[Option.some.injEq]at hx;subst hx;exact .inl rfl
  ·rcases hb with hb |hb
   ·rw[hK1]at hb;split at hb
    ·rename_i j hj;obtain⟨y,hy,he⟩:=Option.map_eq_some_iff.1 hb;have:y=.aR:=by cases y<;>simp[fU]at he<;>rfl
     subst this;simp only[g1,hj];exact hi1.fresh j v (.inl hy)
    ·cases hb
   ·have hno:K1[b]? =none:=List.getElem?_eq_none_iff.2 hb;rw[hK1]at hno;split at hno
    ·rename_i j hj;simp only[g1,hj];exact hi1.fresh j v (.inr (by simpa using hno))
    ·cases hno
  ·rw[hK1]at hx;split at hx
   ·rename_i j hj;obtain⟨y,hy,rfl⟩:=Option.map_eq_some_iff.1 hx;rw[jf]at hv;simp only[g1,hj];exact hi1.next j y v v' hy hv hlt'
   ·simp only[Option.some.injEq]at hx;subst hx;cases hv
 refine⟨g1,hinv1,⟨⟨fun b v y hy=>?_,hla.ext.st,hla.ext.cell,hla.ext.shape⟩,hla.size,fun k hk ho=>hla.keep k hk fun o=>ho (own1 k o),fun k hk ho=>own1 k (hla.own k hk (own2 k ho)),by omega,hla.os,hla.tape,hla.output,
  fun k o hk hs=>(hla.stk k o hk hs).imp_right fun h=>⟨own1 k h.1,fun o=>h.2 (own2 k o)⟩,fun b hb=>?_,fun b v k z hk=>?_⟩,?_⟩
 ·simp only[g1];split
  ·rename_i j hj;exact hla.ext.ai j v y (by grind [l9,qM])
  ·exact hy
 ·rw[hK]at hb;rw[hK1];split at hb
  ·rename_i j hj;obtain⟨y,hy,he⟩:=Option.map_eq_some_iff.1 hb;have:y=.dead:=by cases y<;>simp[fU]at he<;>rfl
   subst this;obtain⟨d1,d2⟩:=hla.ot j hy;rw[d1];refine⟨rfl,fun v=>?_⟩
   grind [l9,qM]
  grind
 ·simp only[g1]at hk;split at hk
  ·rename_i j hj;rcases hla.mz j v k z hk with⟨v1,z1,h1⟩ |h1
   ·grind [l9,qM]
   ·exact .inr h1
  ·exact .inl ⟨v,z,hk⟩
 ·cases r with
  |ret u=>
   obtain⟨y,rfl,hy⟩:=he;exact⟨y,rfl,Bn (g:=g1') (g':=g1) (f:=pS bs n) (fun _ _ h=>h) (fun j v b' v' x hr hx=>by
    grind [pS]) _ _ hy⟩
  |aM u=>
   obtain⟨y,rfl,hy⟩:=he;exact⟨y,rfl,hU _ _ (hf u rfl) hy⟩
structure lu(P:Program)[ax]:Type 1 where
 c:qF P
 m:Nat
 pu:List Nat
 mK:List Nat
 hl:∀x,(c.heap x).length=m
 ho:∀x r,m≤(c.fu x r).length
 hp:∀x,yo pu (c.heap x)
 hq:∀x r,yo mK (c.fu x r)
 hf:∀r v,c.out r=.aM v→v.flat=true
def lu.at(c:lu P)(bs:List Nat)(n:Nat)(h:zo bs n c.m=true):qF P where
 f:=c.c.f
 X:=c.c.X
 args:=fun x=>AVal.jS (pS bs n) (c.c.args x)
 heap:=fun x=>lU bs c.pu n (c.c.heap x)
 sh:=c.c.sh
 out:=fun r=>(c.c.out r).K0 (pS bs n)
 fu:=fun x r=>lU bs c.mK n (c.c.fu x r)
 S:=c.c.S
 ok:=fun k x r hr=>bB.place (c.c.ok k x r hr) (by rw[c.hl];exact h) (by rw[c.hl];exact c.ho x r) (c.hp x) (c.hq x r) fun v hv=>c.hf r v hv
inductive K2 (P:Program) [ax] {ρ:Type} (a:aI) (H1:List af) (out:ρ→aI×List af):Prop
def BB{ρ:Type}(P:Program)[ax](out:ρ→aI×List af)(g:G P ρ)(a:aI)(H1:List af):Prop:=
 match g with
 | .done _ r=>some (a,H1)=some (out r)
 | .fail=>True
 |_=>K2 P a H1 out
def J1{ρ:Type}(P:Program)[ax](cfg:dV)(nd:Bool)(f:FuncId)(args:List AVal)(H:List af)(out:ρ→aI×List af)(g:G P ρ):Prop:=
 JT P cfg nd (gN P cfg nd 8) f args H g (BB P out)
theorem Io(hm : P.follows .mixedOrders = true)(hN : ∀ (f : FuncId) (fn : Func), P.funcs[f]? = some fn → fn.name ≠ "runtime.NumGoroutine"){nd : Bool}{f : FuncId}{args : List AVal}{H : List af}{ρ : Type}{out : ρ → aI × List af}{g : G P ρ}
 (h:J1 P cfg nd f args H out g) {n:Nat} {r:ρ} (hr:g.run n=some r):bB P f args H (out r).1 (out r).2:=by
 obtain⟨g',a,H1,hk,hr',hf⟩:=(w6 (cfg:=cfg) (nd:=nd) hm hN 9).fn (show(gN P cfg nd 9).fn f args H g (BB P out)from h) hr;unfold BB at hk;split at hk
 ·grind [G.run]
 ·simp[G.run]at hr'
 ·exact nomatch hk
theorem Ks(hm : P.follows .mixedOrders = true)(hN : ∀ (f : FuncId) (fn : Func), P.funcs[f]? = some fn → fn.name ≠ "runtime.NumGoroutine"){f : FuncId}{args : List AVal}{H : List af}{ρ : Type}{out : ρ → aI × List af}{g : G P ρ}
 (h:J1 P cfg true f args H out g) {n:Nat} {r:aI×List af} (hr:g.can n fun y=>out y=r):bB P f args H r.1 r.2:=by
 have hf:=(yz (cfg:=cfg) hm hN 9).fn (show(gN P cfg true 9).fn f args H g (BB P out)from h) hr;refine⟨hf.1,fun g w vs hi hl=>(hf.2 g w vs hi hl).mono fun e w' ⟨a,H1,⟨g',hk,hr'⟩,hc⟩=>?_⟩
 unfold BB at hk;split at hk
 ·obtain⟨_,rfl⟩:=hr';grind
 ·exact hr'.elim
 ·exact nomatch hk
def aI.J2:aI→Bool
 | .ret _=>true
 | .aM v=>v.flat
theorem aI.Di{r:aI}(h:r.J2=true):∀v,r=.aM v→v.flat=true:=by
 rintro v rfl;exact h
theorem yo.of{l:List PU}{pu:List Nat}{H:List af}(h:Gb l H)(e:l.map (·.b)=pu):yo pu H:=e▸EG h
structure Jx(X:Type)(sh:Sh)(args:X→List AVal)(heap:X→List af)(out:sh.El→aI)(fu:X→sh.El→List af) where
 m:Nat
 pu:List Nat
 mK:List Nat
 Ae:X→List PU
 vE:X→sh.El→List PU
 hl:∀x,(heap x).length=m
 ho:∀x,sh.all fun r=>Nat.ble m (fu x r).length=true
 hp:∀x,Gb (Ae x) (heap x)
 u0:∀x,(Ae x).map (·.b)=pu
 hq:∀x,sh.all fun r=>Gb (vE x r) (fu x r)
 Af:∀x,sh.all fun r=>(vE x r).map (·.b)=mK
 hf:sh.all fun r=>(out r).J2=true
def lu.of[hp:Plain P](cfg:dV)(f:FuncId)(X:Type)(args:X→List AVal)(heap:X→List af)(sh:Sh)(out:sh.El→aI)(fu:X→sh.El→List af)(g:X→G P sh.El)(t:Jx X sh args heap out fu)
 (h:∀x,J1 P cfg false f (args x) (heap x) (fun r=>(out r,fu x r)) (g x)=(g x).dX (G0 fun r=>(out r,fu x r))):lu P where
 c:={
  f:=f
  X:=X
  args:=args
  heap:=heap
  sh:=sh
  out:=out
  fu:=fu
  S:=fun n x=>(g x).run n
  ok:=fun n x r hr=>Io hp.mixed hp.names (out:=fun r=>(out r,fu x r)) (by rw[h x];exact G.bA (fun _=>rfl) (g x)) hr}
 m:=t.m
 pu:=t.pu
 mK:=t.mK
 hl:=t.hl
 ho:=fun x r=>Nat.le_of_ble_eq_true ((sh.bC _).1 (t.ho x) r)
 hp:=fun x=>.of (t.hp x) (t.u0 x)
 hq:=fun x r=>.of ((sh.bC _).1 (t.hq x) r) ((sh.bC _).1 (t.Af x) r)
 hf:=fun r=>aI.Di ((sh.bC _).1 t.hf r)
structure zu(P:Program)[ax]:Type 1 where
 f:FuncId
 X:Type
 args:X→List AVal
 heap:X→List af
 sh:Sh
 out:sh.El→aI
 fu:X→sh.El→List af
 g:X→G P sh.El
 t:Jx X sh args heap out fu
 ok:∀n x r,(g x).can n (fun y=>(out y,fu x y)=r)→bB P f (args x) (heap x) r.1 r.2
def zu.of[hp:Plain P](cfg:dV)(f:FuncId)(X:Type)(args:X→List AVal)(heap:X→List af)(sh:Sh)(out:sh.El→aI)(fu:X→sh.El→List af)(g:X→G P sh.El)(t:Jx X sh args heap out fu)
 (h:∀x,J1 P cfg true f (args x) (heap x) (fun r=>(out r,fu x r)) (g x)=(g x).dX (G0 fun r=>(out r,fu x r))):zu P where
 f:=f
 X:=X
 args:=args
 heap:=heap
 sh:=sh
 out:=out
 fu:=fu
 g:=g
 t:=t
 ok:=fun n x r hr=>Ks hp.mixed hp.names (out:=fun r=>(out r,fu x r)) (by rw[h x];exact G.bA (fun _=>rfl) (g x)) hr
def zu.all(c:zu P)(S:Nat→c.X→Option c.sh.El)(h:∀n x r,S n x=some r→∃m,(c.g x).can m fun y=>(c.out y,c.fu x y)=(c.out r,c.fu x r)):lu P where
 c:={
  f:=c.f
  X:=c.X
  args:=c.args
  heap:=c.heap
  sh:=c.sh
  out:=c.out
  fu:=c.fu
  S:=S
  ok:=fun n x r hr=>let⟨m,hm⟩:=h n x r hr;c.ok m x (c.out r,c.fu x r) hm}
 m:=c.t.m
 pu:=c.t.pu
 mK:=c.t.mK
 hl:=c.t.hl
 ho:=fun x r=>Nat.le_of_ble_eq_true ((c.sh.bC _).1 (c.t.ho x) r)
 hp:=fun x=>.of (c.t.hp x) (c.t.u0 x)
 hq:=fun x r=>.of ((c.sh.bC _).1 (c.t.hq x) r) ((c.sh.bC _).1 (c.t.Af x) r)
 hf:=fun r=>aI.Di ((c.sh.bC _).1 c.t.hf r)
end
end Go.AM
end
section
namespace Go.AM
section
variable [ax] {P:Program}
end
end Go.AM
end
