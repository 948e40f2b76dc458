/- Parts put together. No conditions. -/
import Derived.Test.YtiohninblcifpaaGreatDoorAc
import Derived.ReadAgain
import Derived.Carry
import Derived.OpenShut
import Derived.IntWalk
import Derived.Maps.RangeRun
set_option linter.unusedSectionVars false
set_option linter.unusedSimpArgs false
set_option linter.unusedVariables false
section
namespace Go.AM
section
variable [aH] {P:Program} {a:Act} {o:Oper} {g:Gh} {H:List ah} {w:World} {ai:Operand→AVal}
theorem LY{ST XT:TypeId}{sz bytes:Nat}(h:Fj P ST XT=some (sz,bytes)):∃e e' i,P.underlying ST=some (.slice e)∧P.underlying XT=some (.slice e')∧P.info? e=some i∧i.size=sz∧i.bytes=bytes∧0<sz∧nZ i=true:=by
 grind [Fj]
theorem OX{nid ST XT:Nat}{args:Array Operand}{ats:Array TypeId}{s x:Operand}{b aq sz bytes:Nat}{rows new:List (List AVal)}(hi:Inv g H w)(hρ:∀x,R g w (ai x) (a.eval x))(hn:H[nid]? =some .bw)
 (ho:o.op=.call {callee:=.builtin .append,args:=args,argTypes:=ats}) (h0:ats[0]? =some ST) (h1:ats[1]? =some XT) (hs0:args[0]? =some s) (hx0:args[1]? =some x) (hsz:args.size=2)
 (hT:Fj P ST XT=some (sz,bytes)) (es:ai s=.sl b aq sz 0 rows.length) (hrow:H[b]? =some (.row aq sz rows)) (hnew:(elems (ai x)).run H=some new) (hall:(new.all fun r=>r.length==sz)=true) (hpos:new.length≠0)
 (hroom:roomy (rows.length+new.length) bytes=true):
 ∃v w',(execOp a.eval o).run P w=.ok (.value v) w'∧
  ((R g w' (.sl b aq sz 0 (rows.length+new.length)) v∧Inv g (H.set b (.row aq sz (rows++new))) w'∧aW g H w g (H.set b (.row aq sz (rows++new))) w')∨
   ∃g',R g' w' (.sl nid 0 sz 0 (rows.length+new.length)) v∧Inv g' (H.set nid (.row 0 sz (rows++new))) w'∧aW g H w g' (H.set nid (.row 0 sz (rows++new))) w'):=by
 have hargs:args= #[s,x]:=by
  obtain⟨l⟩:=args
  match l,hsz with
  | [p,q],_=>simp at hs0 hx0;simp[hs0,hx0]
 have hexec:∀{v w'},(Builtin.append_ ats o.type #[a.eval s,a.eval x]).run P w=.ok v w'→(execOp a.eval o).run P w=.ok (.value v) w':=by
  intro v w' hr;simp[execOp,ho,resolve,invoke,builtin,hargs,hr]
 have hS:=hρ s;have hX:=hρ x;obtain⟨e,e',i,hus,hux,hinfo,rfl,rfl,hpz,hzf⟩:=LY hT;have hall:=yH hall;obtain⟨ad,cap,news,ev,n1,n2,n3,n4⟩:=oQ hi hX hnew hall;obtain⟨z,hz,hzs⟩:=tW hzf;obtain⟨rm1,rm2⟩:=uS hroom;rw[es]at hS;simp only[R]at hS;rcases hS with⟨hl0,evs⟩ |⟨k,scap,E',s',hk,evs,hsh,hcs,hns,hmax⟩
 ·have hr0:rows=[]:=List.eq_nil_of_length_eq_zero hl0;subst hr0;simp only[List.length_nil,Nat.zero_add,List.nil_append]at rm1 rm2 ⊢;rcases sA (P:=P) (w:=w) (ty:=o.type) (base:=none) (n:=0) (cap:=0) (olds:=[]) (E:=e) (cur:= #[]) (c:=cap) h0 h1 hus ⟨e',hux⟩ hinfo hz (by simp) (.inl rfl) n1 n4 n3 (by rw[Nat.zero_add];omega) (by omega) (.inl ⟨rfl,rfl⟩)with⟨hle,_⟩ |⟨_,nc,c1,c2,c3⟩
  ·omega
  ·simp only[Nat.zero_add]at c1 c3;have hcells:dP g w.drew (#[]++news.toArray++Builtin.zeroCells z.cells (nc - new.length)) new.flatten 0:=by
    refine dZ (bU (Ext.draw g w) _ _ n2) n3 fun j hj=>?_
    simp[Array.getElem?_append];omega
   obtain⟨a1,a2,a3⟩:=hi.draw.alloc (e:=e) (c:= #[]++news.toArray++Builtin.zeroCells z.cells (nc - new.length)) (rows:=new) (sz:=i.size) hn (by omega) (fG.2 ⟨hall,hcells⟩) (by simp[n1])
   refine⟨_,_,hexec (by rw[evs,ev];exact c3),.inr ⟨_,?_,a1,a2.draw⟩⟩
   simp only[R];refine .inr ⟨_,nc,e,(#[]++news.toArray++Builtin.zeroCells z.cells (nc - new.length)).size,a3,by simp,iF _ _ _,?_,c1,c2⟩
   have e5:(#[]++news.toArray++Builtin.zeroCells z.cells (nc - new.length):Array Value).size=new.length*i.size+(nc - new.length)*i.size:=by simp[size_zeroCells,hzs,n1]
   rw[e5,← Nat.add_mul];congr 1;omega
 obtain⟨k',cur,E,q1,q2,q3,q4,q5,q6⟩:=hi.row b aq _ _ hrow hk;rw[hk]at q1;simp at q1;obtain rfl:=q1;have hs':s'=cur.size∧E'=E:=by
  simp only[World.shape?,q2]at hsh;simp at hsh;exact⟨hsh.2.symm,hsh.1.symm⟩
 obtain⟨rfl,rfl⟩:=hs';simp only[Nat.zero_mul,Nat.zero_add]at evs hcs;obtain⟨fl1,fl2⟩:=fG.1 q3;obtain⟨olds,o1,o2,o3,o4⟩:=fk fl2;generalize hnn:rows.length=n at*;have ol:olds.length=n*i.size:=by rw[o1,jC fl1,hnn]
 have hcat:RL g w (rows++new).flatten (olds++news):=by rw[List.flatten_append];exact eD o3 n2
 have hone2:∀y∈olds++news,y.oneCell'=true:=by
  intro y hy;rcases List.mem_append.1 hy with h |h
  ·exact o2 y h
  ·exact n3 y h
 have hlens:∀r∈rows++new,r.length=i.size:=by
  intro r hr;rcases List.mem_append.1 hr with h |h
  ·exact fl1 r h
  ·exact hall r h
 have ocur:∀j,j<olds.length→cur[j]? =olds[j]? :=fun j hj=>by simpa using o4 j hj
 rcases sA (P:=P) (w:=w) (ty:=o.type) (base:=some ⟨k,0,none⟩) (n:=n) (cap:=scap) (olds:=olds) (E:=E') (cur:=cur) (c:=cap) h0 h1 hus ⟨e',hux⟩ hinfo hz ol
  (.inr ⟨_,rfl,fun j u hu=>by
   grind [iB,gX]⟩) n1 n4 n3 (by omega) (by omega) (.inr ⟨k,rfl,q2,hcs⟩)with⟨hle,w',hr,hw⟩ |⟨hlt,nc,c1,c2,c3⟩
 ·have hcsz:n*i.size+news.length≤cur.size:=by rw[n1,← Nat.add_mul,← hcs];exact Nat.mul_le_mul_right _ hle
  have hw':w'=w.setRow k (cur.toList.take (n*i.size)++news++cur.toList.drop (n*i.size+news.length)).toArray:=by
   rcases hw with⟨hm,hw⟩ |⟨k2,hk2,hw⟩
   ·omega
   ·simp at hk2;subst hk2;exact hw
  have hsz':(cur.toList.take (n*i.size)++news++cur.toList.drop (n*i.size+news.length)).toArray.size=cur.size:=by simp;omega
  have hcells:dP g w (cur.toList.take (n*i.size)++news++cur.toList.drop (n*i.size+news.length)).toArray (rows++new).flatten 0:=by
   refine dZ hcat hone2 fun j hj=>?_
   simp only[Nat.zero_add,List.getElem?_toArray];simp only[List.length_append]at hj;rw[List.append_assoc];by_cases hjo:j<olds.length
   ·grind
   ·grind
  obtain⟨s1,s2⟩:=hi.store (w':=w') (rows':=rows++new) hrow hk q2 (by rw[hw'];exact setRow_heap w k cur _ E' (0,0) q2) hsz' (fun j hj=>by rw[hw'];exact setRow_other w k j _ hj) (by rw[hw',setRow_size]) (by rw[hw'];rfl) (by simp_all) (by rw[hw'];rfl) (fG.2 ⟨hlens,hcells⟩)
   (by rw[hsz',← hcs,List.length_append,hnn];exact Nat.mul_le_mul_right _ hle)
  refine⟨_,_,hexec (by rw[evs,ev,hr]),.inl ⟨?_,s1,s2⟩⟩
  simp only[R];refine .inr ⟨k,scap,E',cur.size,hk,by simp,?_,by simpa using hcs,by omega,hmax⟩
  rw[hw'];have:=setRow_heap w k cur (cur.toList.take (n*i.size)++news++cur.toList.drop (n*i.size+news.length)).toArray E' (0,0) q2;simp only[World.shape?,this,hsz']
 ·have hsz':(olds.toArray++news.toArray++Builtin.zeroCells z.cells (nc - (n+new.length))).size=nc*i.size:=by
   simp only[Array.size_append,size_zeroCells,hzs,List.size_toArray,n1,ol,← Nat.add_mul];congr 1;omega
  have hcells:dP g w.drew (olds.toArray++news.toArray++Builtin.zeroCells z.cells (nc - (n+new.length))) (rows++new).flatten 0:=by
   refine dZ (bU (Ext.draw g w) _ _ hcat) hone2 fun j hj=>?_
   simp only[List.length_append]at hj;rw[Nat.zero_add,Array.getElem?_append_left (by simp;omega)]
   simp
  obtain⟨a1,a2,a3⟩:=hi.draw.alloc (e:=e) (c:=olds.toArray++news.toArray++Builtin.zeroCells z.cells (nc - (n+new.length))) (rows:=rows++new) (sz:=i.size) hn (by omega) (fG.2 ⟨hlens,hcells⟩)
   (by rw[hsz',List.length_append,hnn];exact Nat.mul_le_mul_right _ c1)
  refine⟨_,_,hexec (by rw[evs,ev];exact c3),.inr ⟨_,?_,a1,a2.draw⟩⟩
  simp only[R];exact .inr ⟨w.heap.size,nc,e,nc*i.size,a3,by simp,by have:=iF w.drew (olds.toArray++news.toArray++Builtin.zeroCells z.cells (nc - (n+new.length))) e;rw[hsz']at this;exact this,by simp,c1,c2⟩
end
end Go.AM
end
section
namespace Go.AM
open Go.ChangeShapes Go.WideShapes Go.ChangeAt Go.RowKit
structure mR(P:Program)(T:TypeId){α:Type}(enc:α→List AVal)(ok:α→Prop):Prop where
 read:∀{H:Type} {encH:TypeId×Value→H} {w:World} {fuel:Nat} {cs:List Value} {x:DataW H×List MemPlace},DataW.trod encH P w 0 (fun _=>true) true fuel T cs=some x→
  ∃a,ok a∧RL (Gh.bare w) w (enc a) cs∧∀y∈cs,y.oneCell'=true
 pure:∀a,AVal.bp (enc a)=true
 len:∀a,(enc a).length=P.cellsOf T
section
variable {P:Program} {T:TypeId} [aH]
theorem mR.bool(ht:P.underlying T=some .bool)(hc:P.cellsOf T=1):mR P T eB (fun _=>True) where
 read h:=by
  rename_i fuel cs x;cases fuel with
  |zero=>simp[DataW.trod]at h
  |succ n=>
   unfold DataW.trod at h;rw[ht]at h;split at h<;>simp_all
   simp[eB,RL,R,Value.oneCell']
 pure _:=rfl
 len _:=by simp[eB,hc]
theorem mR.int{k:IntKind}(ht:P.underlying T=some (.int k))(hc:P.cellsOf T=1):mR P T (eI k) (fun n=>(Lit.int k n).wf=true) where
 read h:=by
  rename_i fuel cs x;cases fuel with
  |zero=>simp[DataW.trod]at h
  |succ n=>
   unfold DataW.trod at h;rw[ht]at h;split at h<;>simp_all
   obtain⟨⟨rfl,hw⟩,_⟩:=h;exact⟨_,hw,by simp[eI,RL,R],rfl⟩
 pure _:=rfl
 len _:=by simp[eI,hc]
theorem mR.str(ht:P.underlying T=some .string)(hc:P.cellsOf T=1):mR P T eS (fun _=>True) where
 read h:=by
  rename_i fuel cs x;cases fuel with
  |zero=>simp[DataW.trod]at h
  |succ n=>
   unfold DataW.trod at h;rw[ht]at h;split at h<;>simp_all
   simp[eS,RL,R,Value.oneCell']
 pure _:=rfl
 len _:=by simp[eS,hc]
theorem cells?_some{w:World}{a:Addr}{n:Nat}{cs:List Value}(h:w.cells? 0 a n=some cs):cs.length=n∧∀i,i<n→w.cell? (a.add i)=cs[i]? :=by
 unfold World.cells? at h;simp only[Nat.zero_le,if_true]at h;exact⟨by simpa using mapM_some_length h,fun i hi=>mapM_some_get h i i (by simp[hi])⟩
theorem Qk{w:World}{k o:Nat}{y:Value}(h:w.cell? ⟨k,o,none⟩=some y):k<w.heap.size:=by
 unfold World.cell? at h;grind
theorem Ke{α:Type}{n:Nat}{p:Nat→α→Prop}(h:∀i,i<n→∃a,p i a):∃l:List α,l.length=n∧∀i a,l[i]? =some a→p i a:=by
 induction n with
 |zero=>simp_all
 |succ n ih=>
  obtain⟨l,h1,h2⟩:=ih fun i hi=>h i (by omega)
  obtain⟨a,ha⟩:=h n (by omega)
  refine⟨l++[a],by simp[h1],fun i b hb=>?_⟩
  grind
theorem mR.slice{E:TypeId}{α:Type}{enc:α→List AVal}{ok:α→Prop}(ht:P.underlying T=some (.slice E))(hc:P.cellsOf T=1)(hz0:Nat.ble 1 (P.cellsOf E)=true)(he:mR P E enc ok):
 mR P T (eL enc) (fun l=>∀a∈l,ok a) where
 read h:=by
  have hz:=Nat.le_of_ble_eq_true hz0;rename_i H encH w fuel cs x;rcases DataW.trod_slice ht h with⟨rfl,_⟩ |⟨a,len,cap,elems,rest,n,rfl,rfl,_,_,hl,_,hlen,hel,_⟩
  ·exact⟨[],by simp,by simp[eL,RL,R],by simp[Value.oneCell']⟩
  ·have hget:∀i,i<len→∃c,w.cells? 0 (a.add (i*P.cellsOf E)) (P.cellsOf E)=some c∧∃b,ok b∧RL (Gh.bare w) w (enc b) c∧∀y∈c,y.oneCell'=true:=by
    intro i hi;have h1:=hel i hi;obtain⟨y,hy⟩:∃y,elems[i]? =some y:=⟨_,List.getElem?_eq_getElem (by omega)⟩
    rw[hy]at h1;obtain⟨c,hc1,hc2⟩:=Option.bind_eq_some_iff.1 h1;obtain⟨b,hb⟩:=he.read hc2;exact⟨c,hc1,b,hb⟩
   obtain⟨l,hll,hp⟩:=Ke (n:=len) (p:=fun i b=>∃c,w.cells? 0 (a.add (i*P.cellsOf E)) (P.cellsOf E)=some c∧ok b∧RL (Gh.bare w) w (enc b) c∧∀y∈c,y.oneCell'=true)
    fun i hi=>let⟨c,h1,b,h2⟩:=hget i hi;⟨b,c,h1,h2⟩
   refine⟨l,fun b hb=>?_,?_,by simp[Value.oneCell']⟩
   ·obtain⟨i,hi⟩:=List.getElem?_of_mem hb;grind
   ·simp only[eL,RL,R];refine⟨_,[],rfl,⟨some a,cap,by simp[hll],by simp[hll,hl],?_⟩,rfl⟩
    by_cases h0:l.length=0
    ·left;simp[h0]
    ·right;obtain⟨k,o,sp⟩:=a;have hsp:sp=none:=by
      obtain⟨c,h1,_⟩:=hget 0 (by omega)
      obtain⟨h2,h3⟩:=cells?_some h1;have h4:=h3 0 hz;obtain⟨y,hy⟩:∃y,c[0]? =some y:=⟨_,List.getElem?_eq_getElem (by omega)⟩
      rw[hy]at h4;simpa[Addr.add]using World.cell?_spot h4
     subst hsp;refine⟨k,o,P.cellsOf E,rfl,Bt fun i r hr=>?_⟩
     obtain⟨b,hb,rfl⟩:∃b,l[i]? =some b∧enc b=r:=by simpa using hr
     refine⟨he.len b,he.pure b,yt fun j v hv=>?_⟩
     obtain⟨c,h1,_,h2,h3⟩:=hp i b hb;obtain⟨h4,h5⟩:=cells?_some h1;obtain⟨h6,h7⟩:=dM _ _ h2;obtain⟨y,hy,hr⟩:=h7 j v hv;have hj:j<P.cellsOf E:=by rw[← he.len b];exact(List.getElem?_eq_some_iff.1 hv).1
     have hcell:=h5 j hj;rw[hy]at hcell;simp only[Go.WideShapes.add_plain]at hcell;exact⟨Qk hcell,y,hcell,h3 y (List.mem_of_getElem? hy),hr⟩
 pure _:=rfl
 len _:=by simp[eL,hc]
inductive Av (P:Program):List Field→(α:Type)→(α→List AVal)→(α→Prop)→Prop
 |nil:Av P [] Unit (fun _=>[]) (fun _=>True)
 |cons {f:Field} {fs:List Field} {α β:Type} {enc:α→List AVal} {ok:α→Prop} {encs:β→List AVal} {oks:β→Prop} (h:mR P f.type enc ok) (hs:Av P fs β encs oks):
  Av P (f::fs) (α×β) (fun x=>enc x.1++encs x.2) (fun x=>ok x.1∧oks x.2)
theorem Av.pure{fs:List Field}{α:Type}{enc:α→List AVal}{ok:α→Prop}(h:Av P fs α enc ok):∀a,AVal.bp (enc a)=true:=by
 have happ:∀(a b:List AVal),AVal.bp a=true→AVal.bp b=true→AVal.bp (a++b)=true:=by
  intro a b h1 h2;induction a with
  |nil=>exact h2
  |cons x xs ih=>grind [AVal.bp]
 induction h with
 |nil=>exact fun _=>rfl
 |cons h _ ih=>exact fun a=>happ _ _ (h.pure a.1) (ih a.2)
theorem Av.len{fs:List Field}{α:Type}{enc:α→List AVal}{ok:α→Prop}(h:Av P fs α enc ok):∀a,(enc a).length=(fs.map fun f=>P.cellsOf f.type).sum:=by
 induction h with
 |nil=>exact fun _=>rfl
 |cons h _ ih=>exact fun a=>by simp[h.len a.1,ih a.2]
theorem Av.read{H:Type}{encH:TypeId×Value→H}{w:World}{n:Nat}{fs:List Field}{α:Type}{enc:α→List AVal}{ok:α→Prop}(h:Av P fs α enc ok):∀(cs:List Value),cs.length=(fs.map fun f=>P.cellsOf f.type).sum→
 (∀i f,fs[i]? =some f→∃x,DataW.trod encH P w 0 (fun _=>true) true n f.type ((cs.drop ((fs.take i).map fun f=>P.cellsOf f.type).sum).take (P.cellsOf f.type))=some x)→
 ∃a,ok a∧RL (Gh.bare w) w (enc a) cs∧∀y∈cs,y.oneCell'=true:=by
 induction h with
 |nil=>
  intro cs hl _;have:cs=[]:=by simpa using hl
  subst this;exact⟨(),trivial,rfl,by simp⟩
 | @cons f fs α β enc ok encs oks h hs ih=>
  intro cs hl hf;simp only[List.map_cons,List.sum_cons]at hl;obtain⟨x,hx⟩:=hf 0 f rfl;simp only[List.take_zero,List.map_nil,List.sum_nil,List.drop_zero]at hx;obtain⟨a,h1,h2,h3⟩:=h.read hx;obtain⟨b,h4,h5,h6⟩:=ih (cs.drop (P.cellsOf f.type)) (by simp;omega) fun i f' hi=>by
   obtain⟨x,hx⟩:=hf (i+1) f' (by simpa using hi)
   simp_all
  refine⟨(a,b),⟨h1,h4⟩,?_,fun y hy=>?_⟩
  ·have:=eD h2 h5;rwa[List.take_append_drop]at this
  ·rw[← List.take_append_drop (P.cellsOf f.type) cs]at hy;grind
theorem mR.struct(hl:laidOutB P=true)(hT0:Nat.ble (T+1) P.types.size=true){fs:Array Field}(ht:P.underlying T=some (.struct fs)){β S:Type}{encs:β→List AVal}{oks:β→Prop}(h:Av P fs.toList β encs oks){enc:S→List AVal}{ok:S→Prop}(conv:β→S)(back:S→β)
 (hconv:∀b,enc (conv b)=encs b) (hback:∀s,conv (back s)=s) (hok:∀b,oks b→ok (conv b)):mR P T enc ok where
 read hx:=by
  have hT:T<P.types.size:=Nat.le_of_ble_eq_true hT0;obtain⟨xs,n,rfl,_,hlen,hxl,hf⟩:=DataW.trod_struct ht hx;obtain⟨_,h2,h3⟩:=kid_struct hl hT ht;obtain⟨b,k1,k2,k3⟩:=h.read (n:=n) _ (by rw[hlen,h2]) fun i f hi=>by
   have:=hf i f (by simpa using hi)
   rw[h3 i f hi]at this;obtain⟨y,hy⟩:∃y,xs[i]? =some y:=⟨_,List.getElem?_eq_getElem (by
    grind)⟩
   exact⟨y,by rw[this,hy]⟩
  grind
 pure a:=by rw[← hback a,hconv];exact h.pure _
 len a:=by
  have hT:T<P.types.size:=Nat.le_of_ble_eq_true hT0;obtain⟨_,h2,_⟩:=kid_struct hl hT ht;rw[← hback a,hconv,h.len,h2]
end
theorem mR.one{P:Program}{T:TypeId}{α:Type}{enc:α→List AVal}{ok:α→Prop}(h:mR P T enc ok){H:Type}{encH:TypeId×Value→H}{w:World}{v:Value}{d:DataW H}{ps:List MemPlace}
 (hv:DataW.Trod encH P w 0 (fun _=>true) true T v d ps):∃a,ok a∧RL (Gh.bare w) w (enc a) v.cells.toList∧∀y∈v.cells.toList,y.oneCell'=true:=by
 obtain⟨fuel,hf⟩:=hv;exact h.read hf
section
variable {P:Program} {T:TypeId} [aH] {α:Type} {enc:α→List AVal} {ok:α→Prop} {H:Type} {encH:TypeId×Value→H} {w:World} {v:Value} {d:DataW H} {ps:List MemPlace} {r:Reach} {base:Nat}
theorem mR.agg(h:mR P T enc ok){fs:Array Field}(ht:P.underlying T=some (.struct fs))(hval:Value.okWide P w r base T v)(hv:DataW.Trod encH P w 0 (fun _=>true) true T v d ps):∃a,ok a∧R (Gh.bare w) w (.agg (enc a)) v:=by
 obtain⟨a,h1,h2,h3⟩:=h.one hv;unfold Value.okWide at hval;rw[ht]at hval;obtain⟨cs,rfl,_⟩:=hval;exact⟨a,h1,by simp only[R];exact⟨cs.toList,by simp,by simpa[Value.cells]using h3,by simpa[Value.cells]using h2⟩⟩
def Q9(P:Program)(T:TypeId):Bool:=match P.underlying T with
 |some .bool=>true
 |some (.int _)=>true
 |some .string=>true
 |some (.slice _)=>true
 |_=>false
theorem mR.cell{c:α→AVal}(h:mR P T (fun a=>[c a]) ok)(ht:Q9 P T=true)(hval:Value.okWide P w r base T v)(hv:DataW.Trod encH P w 0 (fun _=>true) true T v d ps):∃a,ok a∧R (Gh.bare w) w (c a) v:=by
 obtain⟨a,h1,h2,_⟩:=h.one hv;refine⟨a,h1,?_⟩;have hc:v.cells.toList=[v]:=by
  unfold Q9 at ht;unfold Value.okWide at hval;split at ht
  case h_5=>cases ht
  all_goals
   rename_i hu;rw[hu]at hval;simp only at hval;unfold Cell.okWide at hval;rw[hu]at hval;cases v<;>simp_all [Cell.ok,Value.cells]
 grind [RL]
theorem Ja{w':World}{sp:Nat→Bool}(hl:laidOutB P=true)(hm:mapsRowed P=true)(hz:∀t e,t<P.types.size→P.underlying t=some (.slice e)→0<P.cellsOf e)(hb:Below w.heap.size w w'):
 ∀{ts:List TypeId} {vs:List Value} {ds:List (DataW H)} {ps:List MemPlace},(∀t∈ts,t<P.types.size)→DataW.TrodAll encH P w 0 (fun _=>true) true ts vs ds ps→(∀p∈ps,p.block<w.heap.size)→(∀p∈ps,sp p.block=true)→
  DataW.TrodAll encH P w' 0 sp true ts vs ds ps:=by
 intro ts vs ds ps hT h hlt hs
 replace h:=h.respare (kids_rows hl hm) hz hT hs
 clear hs hz
 revert hlt h
 induction ts generalizing vs ds ps with
 |nil=>intro hlt h;cases vs<;>cases ds<;>simp_all [DataW.TrodAll]
 |cons t ts ih=>
  intro hlt h;cases vs with
  |nil=>cases ds<;>simp[DataW.TrodAll]at h
  |cons v vs=>
   cases ds with
   |nil=>simp[DataW.TrodAll]at h
   |cons d ds=>
    obtain⟨p,q,⟨n,h1⟩,h2,rfl⟩:=h;refine⟨p,q,⟨n,DataW.trod_carry _ _ _ _ h1 fun x hx=>hb.same (hlt x (List.mem_append_left _ hx))⟩,ih (fun t ht=>hT t (List.mem_cons_of_mem _ ht)) (fun x hx=>hlt x (List.mem_append_right _ hx)) h2,rfl⟩
theorem Ql{f:FuncId}{args:List AVal}{v:Value}(h:jX P f args (.ret (.sc v)))(w:World)(hg:oP (Gh.bare w) w)(vs:Array Value)(hl:RL (Gh.bare w) w args vs.toList):
 Calls P f vs w fun e w'=>e=.returned v∧Below w.heap.size w w':=by
 refine(h.2 (Gh.bare w) w vs (Gh.OE w hg) hl).mono ?_;rintro e w' ⟨g',_,hla,x,rfl,hr⟩;grind [R,J8]
end
end Go.AM
end
section
namespace Go.AM
def scan{α σ τ:Type}(g:Nat→α→σ→σ⊕τ):Nat→List α→σ→σ⊕τ
 |_,[],s=>.inl s
 |i,x::xs,s=>match g i x s with
  | .inl s'=>scan g (i+1) xs s'
  | .inr t=>.inr t
theorem bq{α:Type}(l:List α)(i:Nat):fN l (i:Int)=l[i]? :=by simp[fN]
theorem LZ{α σ τ ST:Type}{f:ST→Option (ST⊕τ)}(mk:Nat→σ→ST)(g:Nat→α→σ→σ⊕τ)(fin:σ→τ)(l:List α)
 (hs:∀i x s,l[i]? =some x→f (mk i s)=some (match g i x s with | .inl s'=>.inl (mk (i+1) s') | .inr t=>.inr t)) (he:∀s,f (mk l.length s)=some (.inr (fin s))):
 ∀(n:Nat) (s0:σ),l.length<n→dx f n (mk 0 s0)=some (match scan g 0 l s0 with | .inl s=>fin s | .inr t=>t):=by
 have key:∀(k:Nat) (i:Nat) (s:σ) (n:Nat),i+k=l.length→k<n→dx f n (mk i s)=some (match scan g i (l.drop i) s with | .inl s=>fin s | .inr t=>t):=by
  intro k;induction k with
  |zero=>
   intro i s n hi hn;obtain⟨n,rfl⟩:∃m,n=m+1:=⟨n - 1,by omega⟩
   have:i=l.length:=by omega
   subst this;simp only[dx,he,List.drop_length,scan]
  |succ k ih=>
   intro i s n hi hn;obtain⟨n,rfl⟩:∃m,n=m+1:=⟨n - 1,by omega⟩
   have hlt:i<l.length:=by omega
   rw[List.drop_eq_getElem_cons hlt];simp only[dx,scan,hs i _ s (List.getElem?_eq_getElem hlt)];cases g i l[i] s with
   |inl s'=>simp only;exact ih (i+1) s' n (by omega) (by omega)
   |inr t=>rfl
 intro n s0 hn;have:=key l.length 0 s0 n (by omega) hn
 simpa using this
theorem wrap_i64{x:Int}(h1: -9223372036854775808≤x)(h2:x≤9223372036854775807):Go.IntKind.wrap .i64 x=x:=by
 rw[Go.IntKind.wrap_i64];omega
theorem bL{i:Nat}(h:i<9223372036854775807):Go.IntKind.wrap .i64 ((i:Int)+1)=((i+1:Nat):Int):=by
 rw[wrap_i64 (by omega) (by omega)];rfl
theorem Nu{x k:Int}(hk:0<k):(x.tmod k+k).tmod k=x % k:=by
 have h1: -k<x.tmod k:=Int.lt_tmod_of_pos x hk;have h2:=Int.tmod_add_mul_tdiv x k;rw[Int.tmod_eq_emod_of_nonneg (by omega)]
 have:x.tmod k+k=x+k*(1 - x.tdiv k):=by
  rw[Int.mul_sub,Int.mul_one];omega
 rw[this,Int.add_mul_emod_self_left]
theorem Nv{x k:Int}(hk:0<k)(hk2:k≤4000000000000000000):Go.IntKind.wrap .i64 (x.tmod k+k)=x.tmod k+k:=by
 have h1: -k<x.tmod k:=Int.lt_tmod_of_pos x hk;have h2:=Int.tmod_lt_of_pos x hk;exact wrap_i64 (by omega) (by omega)
end Go.AM
namespace Go.AM
section
variable {X K V β:Type}
theorem bu(l:List X)(e:X→List AVal)(k:Unit→Option β):(bB l e).run.bind k=k ():=rfl
theorem bF(l:List X)(e:X→List AVal)(n:Nat)(i:Int)(k:X→Option β):(bt l e n i).run.bind k=(fN l i).bind k:=rfl
theorem nN(m:List (K×V))(q:K)(ek:K→AVal)(ev:V→AVal)(eq:K→K→Bool)(d:V)(ks:List Kd)(ag ok:Bool)(b:Nat)(k:Unit→Option β):(mh m q ek ev eq d ks ag ok b).run.bind k=k ():=rfl
theorem nO(m:List (K×V))(q:K)(v:V)(ek:K→AVal)(ev:V→AVal)(eq:K→K→Bool)(ks:List Kd)(ag:Bool)(b:Nat)(k:Unit→Option β):(lg m q v ek ev eq ks ag b).run.bind k=k ():=rfl
theorem pK(d:X)(e:X→List AVal)(n by_ nid:Nat)(i:Int)(k:Unit→Option β):(Au d e n by_ nid i).run.bind k=if 0≤i∧roomy i.toNat by_=true then k ()else none:=by
 show(if 0≤i∧roomy i.toNat by_=true then some ()else none).bind k=_
 split<;>rfl
theorem mG(m n b aq:Nat)(i:Int)(k:Unit→Option β):(hU m n b aq i).run.bind k=if 0≤i∧i<m then k ()else none:=by
 show(if 0≤i∧i<m then some ()else none).bind k=_
 split<;>rfl
theorem OY(l:List X)(e:X→List AVal)(n b aq i o:Nat)(val:X→AVal)(k:X→Option β):(s6 l e n b aq i o val).run.bind k=(l[i]?).bind k:=rfl
theorem zY(len:Nat)(l m:List X)(e:X→List AVal)(n by_ b aq nid:Nat)(ids:List Nat)(k:Unit→Option β):(vc len l m e n by_ b aq nid ids).run.bind k=if len=l.length∧roomy (l.length+m.length) by_=true then k ()else none:=by
 show(if len=l.length∧roomy (l.length+m.length) by_=true then some ()else none).bind k=_
 split<;>rfl
end
end Go.AM
end
section
namespace Go.AM
variable [aH] {P:Program}
theorem cg.behind{f:FuncId}{args:List AVal}{sz m:Nat}{rows:List (List AVal)}(h:cg P f args [] (.ret (.sl 0 0 sz 0 m)) [.row 0 sz rows])(ha:AVal.bp args=true)(hp:rows.all AVal.bp=true)(n:Nat):
 cg P f args (List.replicate n .dead) (.ret (.sl n 0 sz 0 m)) (List.replicate n .dead++[.row 0 sz rows]):=by
 refine⟨h.1,fun g w vs hi hl=>?_⟩
 let g0:Gh:=⟨fun _ _=>none,g.st⟩
 have hst0:∀k o,g.st k o→g0.st k o:=fun _ _ h=>h
 have hi0:Inv g0 [] w:=⟨fun b x hb=>by simp at hb,fun b b' x x' v v' k z z' h1=>by simp at h1,fun _ _ _=>rfl,fun b x v ver' hb=>by simp at hb,fun b x v k z o hb=>by simp at hb,hi.eN,fun i cs hc=>⟨(hi.dw i cs hc).1,jQ hst0 _ _ _ (hi.dw i cs hc).1 (hi.dw i cs hc).2⟩⟩
 refine(h.2 g0 w vs hi0 (nC hst0 _ _ ha hl)).mono fun e w' ⟨g1,hi1,hla,x,he,hx⟩=>?_
 have low:∀b x,(List.replicate n ah.dead++[ah.row 0 sz rows])[b]? =some x→(b<n∧x=.dead)∨(b=n∧x=.row 0 sz rows):=fun b x hb=>by
  grind
 let g':Gh:=⟨fun b v=>if b<n then g.ai b v else g1.ai (b - n) v,g1.st⟩
 have hst1:∀k o,g1.st k o→g'.st k o:=fun _ _ h=>h
 have gn:∀v,g'.ai n v=g1.ai 0 v:=fun v=>by simp[g']
 have gl:∀b v,b<n→g'.ai b v=g.ai b v:=fun b v hb=>by simp[g',hb]
 have gh:∀b v,¬b<n→g'.ai b v=g1.ai (b - n) v:=fun b v hb=>by simp[g',hb]
 refine⟨g',⟨?_,?_,?_,?_,?_,hi1.eN,fun i cs hc=>⟨(hi1.dw i cs hc).1,jQ hst1 _ _ _ (hi1.dw i cs hc).1 (hi1.dw i cs hc).2⟩⟩,?_,x,he,?_⟩
 ·intro b y hb;rcases low b y hb with⟨_,rfl⟩ |⟨rfl,rfl⟩
  ·trivial
  ·rcases hi1.good 0 _ rfl with⟨k,c,e,h1,h2,h3,h4,h5⟩ |⟨h1,h2,h3⟩
   ·exact .inl ⟨k,c,e,by rw[gn];exact h1,h2,tJ hst1 rows 0 hp h3,h4,h5⟩
   ·exact .inr ⟨h1,by rw[gn];exact h2,h3⟩
 ·intro b b' y y' v v' k z z' h1 h2 l1 l2 _ _;rcases low b y h1 with⟨_,rfl⟩ |⟨rfl,rfl⟩
  ·cases l1
  ·rcases low b' y' h2 with⟨_,rfl⟩ |⟨rfl,rfl⟩
   ·cases l2
   ·rfl
 ·intro b aq hc;have hbn:¬b<n:=by
   intro hb;rcases hc with hc |hc
   ·grind
   ·simp at hc;omega
  rw[gh b aq hbn];refine hi1.fresh (b - n) aq (.inr ?_);grind
 ·intro b y v ver' hb hv hlt;rcases low b y hb with⟨_,rfl⟩ |⟨rfl,rfl⟩
  ·cases hv
  ·rw[gn];exact hi1.next 0 _ v ver' rfl hv hlt
 ·intro b y v k z o hb hv hk;rcases low b y hb with⟨_,rfl⟩ |⟨rfl,rfl⟩
  ·cases hv
  ·rw[gn]at hk;exact hi1.free 0 _ v k z o rfl hv hk
 ·have noOwn:∀k,¬ga g0 [] k:=fun k ⟨b,y,v,z,hb,_⟩=>by simp at hb
  refine⟨⟨fun b aq y hb=>?_,fun k o hk=>hla.ext.st k o hk,fun k o hk=>hla.ext.cell k o hk,fun k y hk=>hla.ext.shape k y hk⟩,hla.size,fun k hk _=>hla.keep k hk (noOwn k),fun k hk ho=>?_,by simp,hla.os,hla.tape,hla.output,fun k o hk h=>(hla.stk k o hk h).imp_right fun h=>absurd h.1 (noOwn k),fun b hb=>?_,fun b aq k z hk=>?_⟩
  ·have hbn:b<n:=Decidable.byContradiction fun hc=>by rw[hi.fresh b aq (.inr (by simp;omega))]at hb;cases hb
   rw[gl b aq hbn];exact hb
  ·obtain⟨b,y,v,z,hb,hv,hz⟩:=ho;rcases low b y hb with⟨_,rfl⟩ |⟨rfl,rfl⟩
   ·cases hv
   ·rw[gn]at hz;exact absurd (hla.own k hk ⟨0,_,v,z,rfl,hv,hz⟩) (noOwn k)
  ·grind
  ·by_cases hbn:b<n
   ·grind
   ·rw[gh b aq hbn]at hk;rcases hla.s9 (b - n) aq k z hk with⟨v',z',h'⟩ |h'
    ·cases h'
    ·exact .inr h'
 grind [R]
def u7.fresh(P:Program)[aH](f:FuncId)(X:Type)(args:X→List AVal)(α:Type)(sz:Nat)(enc:α→List AVal)(he:∀a,AVal.bp (enc a)=true)(ha:∀x,AVal.bp (args x)=true)(S:Nat→X→Option (List α))
 (ok:∀n x r,S n x=some r→cg P f (args x) [] (.ret (.sl 0 0 sz 0 r.length)) [.row 0 sz (r.map enc)]) (n:Nat):u7 P where
 f:=f
 X:=X
 args:=args
 heap:=fun _=>List.replicate n .dead
 sh:=.one (List α)
 out:=fun(r:List α)=>.ret (.sl n 0 sz 0 r.length)
 gM:=fun _ (r:List α)=>List.replicate n .dead++[.row 0 sz (r.map enc)]
 S:=S
 ok:=fun m x (r:List α) h=>(ok m x r h).behind (ha x) (by
  grind) n
theorem jX.dead{f:FuncId}{sz:Nat}{rows:List (List AVal)}{rest:List AVal}{r:aR}(h:jX P f (.aB rows::rest) r)(hp:rows.all AVal.bp=true)(hrest:AVal.bp rest=true)(hr:r.BC=true):
 cg P f (.sl 0 0 sz 0 rows.length::rest) [.row 0 sz rows] r [.dead]:=by
 refine⟨h.1,fun g w vs hi hl=>?_⟩
 have h2:([ah.row 0 sz rows]:List ah)[0]? =some (.row 0 sz rows):=rfl;obtain⟨i1,i2,i3⟩:=ON hi hi (aW.refl g _ w) h2;have i2:aW g [.row 0 sz rows] w {ai:=g.ai,st:=fun k o=>g.st k o∨∃z,g.ai 0 0=some (k,z)} [.dead] w:=i2
 have hB:=i1.bare;have hst0:∀k o,g.st k o→g.st k o∨∃z,g.ai 0 0=some (k,z):=fun _ _ h=>.inl h
 have hl0:RL {ai:=fun _ _=>none,st:=fun k o=>g.st k o∨∃z,g.ai 0 0=some (k,z)} w (.aB rows::rest) vs.toList:=by
  simp only[RL]at hl ⊢;obtain⟨x,xs,e,hx,hxs⟩:=hl;refine⟨x,xs,e,?_,nC hst0 _ _ hrest hxs⟩
  suffices hxF:R {ai:=g.ai,st:=fun k o=>g.st k o∨∃z,g.ai 0 0=some (k,z)} w (.aB rows) x from ko (g:={ai:=g.ai,st:=fun k o=>g.st k o∨∃z,g.ai 0 0=some (k,z)}) (g2:={ai:=fun _ _=>none,st:=fun k o=>g.st k o∨∃z,g.ai 0 0=some (k,z)}) (fun _ _ h=>h) (.aB rows) x rfl hxF
  simp only[R]at hx ⊢;rcases hx with⟨hn,rfl⟩ |⟨k,cap,e',sz2,hk,rfl,hsh,hcs,hm,hmax⟩
  ·grind
  ·obtain⟨k',c,e,r1,r2,r3,r4,r5,r6⟩:=hi.row 0 0 _ _ h2 hk;rw[hk]at r1;simp at r1;subst r1;refine⟨_,cap,rfl,by omega,.inr ⟨k,0*sz,sz,rfl,Bt fun i r hr=>?_⟩⟩
   obtain⟨t1,t2⟩:=dh _ _ _ _ r3 hr;grind [yt,mB,oN,gX]
 refine(h.2 _ w vs hB hl0).mono fun e w' ⟨g1,hi1,hla,he⟩=>?_
 have noOwn:∀(g:Gh) k,¬ga g [] k:=fun g k ⟨b,y,v,z,hb,_⟩=>by simp at hb
 have one:∀(b:Nat) (x:ah),([ah.dead]:List ah)[b]? =some x→x=.dead:=fun b x hb=>by
  grind
 have noOwnD:∀(g:Gh) k,¬ga g [.dead] k:=fun g k ⟨b,y,v,z,hb,hv,_⟩=>by
  rw[one b y hb]at hv;cases hv
 refine⟨{ai:=g.ai,st:=g1.st},⟨fun b x hb=>?_,fun b b' x x' v v' k z z' h1 h2 l1=>?_,fun b aq hc=>?_,fun b x v ver' hb hv=>?_,fun b x v k z o hb hv=>?_,hi1.eN,fun i cs hc=>⟨(hi1.dw i cs hc).1,jQ (g:=g1) (g2:={ai:=g.ai,st:=g1.st}) (fun _ _ h=>h) _ _ _ (hi1.dw i cs hc).1 (hi1.dw i cs hc).2⟩⟩,i2.trans ⟨⟨fun _ _ _ h=>h,hla.ext.st,hla.ext.cell,hla.ext.shape⟩,hla.size,fun k hk _=>hla.keep k hk (noOwn _ k),fun k _ ho=>absurd ho (noOwnD _ k),Nat.le_refl _,hla.os,hla.tape,hla.output,fun k o hk hs=>(hla.stk k o hk hs).imp_right fun h=>absurd h.1 (noOwn _ k),fun b hb=>⟨hb,fun _=>rfl⟩,fun b aq k z hk=>.inl ⟨aq,z,hk⟩⟩,?_⟩
 ·rw[one b x hb];trivial
 ·rw[one b x h1]at l1;cases l1
 ·refine hi.fresh b aq (.inr ?_);grind
 ·rw[one b x hb]at hv;cases hv
 ·rw[one b x hb]at hv;cases hv
 ·cases r with
  |ret v=>
   obtain⟨x,h1,h3⟩:=he;exact⟨x,h1,ko (g:=g1) (g2:={ai:=g.ai,st:=g1.st}) (fun _ _ h=>h) v x hr h3⟩
  |bg v=>
   obtain⟨x,h1,h3⟩:=he;exact⟨x,h1,lT v x hr h3⟩
def gU.dead(c:aK P)(X τ:Type)(sz:Nat)(enc:τ→List AVal)(rest:X→List AVal)(pack:List τ→X→c.X)
 (hargs:∀l x,c.args (pack l x)=.aB (l.map enc)::rest x) (he:∀a,AVal.bp (enc a)=true) (hrest:∀x,AVal.bp (rest x)=true) (hr:∀r,(c.out r).BC=true) (ha:∀x n,AVal.mO (.sl 0 0 sz 0 n::rest x)=true):gU P where
 f:=c.f
 X:=List τ×Nat×X
 args:=fun x=>.sl 0 0 sz 0 x.2.1::rest x.2.2
 blk:=fun x=>.row 0 sz (x.1.map enc)
 sh:=c.sh
 out:=c.out
 uk:=fun _ _=>.dead
 S:=fun n x=>if x.2.1=x.1.length then c.S n (pack x.1 x.2.2)else none
 a0:=fun x=>ha x.2.2 x.2.1
 b0:=fun x=>by simp[ah.pS,he]
 b1:=fun _ _=>.inr rfl
 r0:=fun r=>aR.Nk (hr r)
 ok:=fun n x r h=>by
  split at h
  ·rename_i hn;have h1:=c.ok n _ r h;rw[hargs]at h1;have h2:=h1.dead (sz:=sz) (by
    grind) (hrest x.2.2) (hr r)
   rw[hn];simpa using h2
  ·cases h
theorem jX.apart{f:FuncId}{args:List AVal}{r:aR}(h:jX P f args r)(ha:AVal.bp args=true)(hr:r.BC=true)(n:Nat):
 cg P f args (List.replicate n .dead) r (List.replicate n .dead):=by
 refine⟨h.1,fun g w vs hi hl=>?_⟩
 have hl0:RL {ai:=fun _ _=>none,st:=g.st} w args vs.toList:=nC (g:=g) (g2:={ai:=fun _ _=>none,st:=g.st}) (fun _ _ h=>h) _ _ ha hl
 refine(h.2 _ w vs hi.bare hl0).mono fun e w' ⟨g1,hi1,hla,he⟩=>?_
 have noOwn:∀(g:Gh) k,¬ga g [] k:=fun g k ⟨b,y,v,z,hb,_⟩=>by simp at hb
 have one:∀(b:Nat) (x:ah),(List.replicate n ah.dead)[b]? =some x→x=.dead:=fun b x hb=>by
  grind
 have noOwnD:∀(g:Gh) k,¬ga g (List.replicate n .dead) k:=fun g k ⟨b,y,v,z,hb,hv,_⟩=>by
  rw[one b y hb]at hv;cases hv
 refine⟨{ai:=g.ai,st:=g1.st},⟨fun b x hb=>?_,fun b b' x x' v v' k z z' h1 h2 l1=>?_,fun b aq hc=>hi.fresh b aq hc,fun b x v ver' hb hv=>?_,fun b x v k z o hb hv=>?_,hi1.eN,fun i cs hc=>⟨(hi1.dw i cs hc).1,jQ (g:=g1) (g2:={ai:=g.ai,st:=g1.st}) (fun _ _ h=>h) _ _ _ (hi1.dw i cs hc).1 (hi1.dw i cs hc).2⟩⟩,⟨⟨fun _ _ _ h=>h,hla.ext.st,hla.ext.cell,hla.ext.shape⟩,hla.size,fun k hk _=>hla.keep k hk (noOwn _ k),fun k _ ho=>absurd ho (noOwnD _ k),Nat.le_refl _,hla.os,hla.tape,hla.output,fun k o hk hs=>(hla.stk k o hk hs).imp_right fun h=>absurd h.1 (noOwn _ k),fun b hb=>⟨hb,fun _=>rfl⟩,fun b aq k z hk=>.inl ⟨aq,z,hk⟩⟩,?_⟩
 ·rw[one b x hb];trivial
 ·rw[one b x h1]at l1;cases l1
 ·rw[one b x hb]at hv;cases hv
 ·rw[one b x hb]at hv;cases hv
 ·cases r with
  |ret v=>
   obtain⟨x,h1,h3⟩:=he;exact⟨x,h1,ko (g:=g1) (g2:={ai:=g.ai,st:=g1.st}) (fun _ _ h=>h) v x hr h3⟩
  |bg v=>
   obtain⟨x,h1,h3⟩:=he;exact⟨x,h1,lT v x hr h3⟩
def u7.apart(c:aK P)(ha:∀x,AVal.bp (c.args x)=true)(hr:∀r,(c.out r).BC=true)(n:Nat):u7 P where
 f:=c.f
 X:=c.X
 args:=c.args
 heap:=fun _=>List.replicate n .dead
 sh:=c.sh
 out:=c.out
 gM:=fun _ _=>List.replicate n .dead
 S:=c.S
 ok:=fun m x r h=>(c.ok m x r h).apart (ha x) (hr r) n
def SB(a b:AVal):Prop:=a=b∨(a=.sc (.slice none 0 0)∧b=.aB [])
def y4:List AVal→List AVal→Prop
 | [],[]=>True
 |a::as,b::bs=>SB a b∧y4 as bs
 |_,_=>False
def y6:List (List AVal)→List (List AVal)→Prop
 | [],[]=>True
 |a::as,b::bs=>y4 a b∧y6 as bs
 |_,_=>False
theorem y4.refl:∀l:List AVal,y4 l l
 | []=>trivial
 |_::as=>⟨.inl rfl,y4.refl as⟩
theorem y4.length:∀{l l':List AVal},y4 l l'→l.length=l'.length
 | [],[],_=>rfl
 |_::_,_::_,h=>by simp[y4.length h.2]
theorem y4.pure:∀{l l':List AVal},y4 l l'→AVal.bp l=true→AVal.bp l'=true
 | [],[],_,h=>h
 |a::as,b::bs,h,hp=>by
  simp only[AVal.bp,Bool.and_eq_true]at hp ⊢;refine⟨?_,y4.pure h.2 hp.2⟩;rcases h.1 with rfl |⟨_,rfl⟩
  ·exact hp.1
  ·rfl
theorem y4.rc{g:Gh}{w:World}{k:Nat}:∀{l l':List AVal} {o:Nat},y4 l l'→RC g w l k o→RC g w l' k o
 | [],[],_,_,_=>by simp[RC]
 |a::as,b::bs,o,h,hr=>by
  simp only[RC]at hr ⊢;refine⟨⟨hr.1.1,?_⟩,y4.rc h.2 hr.2⟩;obtain⟨y,h1,h2,h3⟩:=hr.1.2;refine⟨y,h1,h2,?_⟩;rcases h.1 with rfl |⟨rfl,rfl⟩
  ·exact h3
  grind [R]
theorem y6.length:∀{l l':List (List AVal)},y6 l l'→l.length=l'.length
 | [],[],_=>rfl
 |_::_,_::_,h=>by simp[y6.length h.2]
theorem y6.rr{g:Gh}{w:World}{k sz:Nat}:∀{l l':List (List AVal)} {o:Nat},y6 l l'→RR g w l k o sz→RR g w l' k o sz
 | [],[],_,_,_=>by simp[RR]
 |a::as,b::bs,o,h,hr=>by
  simp only[RR]at hr ⊢;exact⟨⟨by rw[← h.1.length];exact hr.1.1,h.1.pure hr.1.2.1,h.1.rc hr.1.2.2⟩,y6.rr h.2 hr.2⟩
theorem y6.append:∀{l l' m m':List (List AVal)},y6 l l'→y6 m m'→y6 (l++m) (l'++m')
 | [],[],_,_,_,h=>h
 |_::_,_::_,_,_,h,h'=>⟨h.1,y6.append h.2 h'⟩
theorem y6.map{α:Type}{e e':α→List AVal}(h:∀a,y4 (e a) (e' a)):∀l:List α,y6 (l.map e) (l.map e')
 | []=>trivial
 |a::l=>⟨h a,y6.map h l⟩
end Go.AM
end
section
namespace Go.AM
section
variable [aH] {P:Program} {cfg:fF}
theorem Jb{g:Gh}{w:World}:∀(a:List AVal) {b:List AVal} {vs:List Value},RL g w (a++b) vs→∃v1 v2,vs=v1++v2∧RL g w a v1∧RL g w b v2
 | [],b,vs,h=>⟨[],vs,rfl,rfl,h⟩
 |x::a,b,vs,h=>by
  simp only[List.cons_append,RL]at h;obtain⟨y,ys,rfl,h1,h2⟩:=h;obtain⟨v1,v2,rfl,h3,h4⟩:=Jb a h2;exact⟨y::v1,v2,rfl,⟨y,v1,rfl,h1,h3⟩,h4⟩
theorem jX.Jc{f:FuncId}{sz:Nat}{rows:List (List AVal)}{pre rest:List AVal}{r:aR}(h:jX P f (pre++ .aB rows::rest) r)(hp:rows.all AVal.bp=true)(hpre:AVal.bp pre=true)(hrest:AVal.bp rest=true)(hr:r.BC=true):
 cg P f (pre++ .sl 0 0 sz 0 rows.length::rest) [.row 0 sz rows] r [.dead]:=by
 refine⟨h.1,fun g w vs hi hl=>?_⟩
 have h2:([ah.row 0 sz rows]:List ah)[0]? =some (.row 0 sz rows):=rfl;obtain⟨i1,i2,i3⟩:=ON hi hi (aW.refl g _ w) h2;have i2:aW g [.row 0 sz rows] w {ai:=g.ai,st:=fun k o=>g.st k o∨∃z,g.ai 0 0=some (k,z)} [.dead] w:=i2
 have hB:=i1.bare;have hst0:∀k o,g.st k o→g.st k o∨∃z,g.ai 0 0=some (k,z):=fun _ _ h=>.inl h
 have hl0:RL {ai:=fun _ _=>none,st:=fun k o=>g.st k o∨∃z,g.ai 0 0=some (k,z)} w (pre++ .aB rows::rest) vs.toList:=by
  obtain⟨v1,v2,e0,hl1,hl2⟩:=Jb pre hl;rw[e0];refine eD (nC hst0 _ _ hpre hl1) ?_;simp only[RL]at hl2 ⊢;obtain⟨x,xs,e,hx,hxs⟩:=hl2;refine⟨x,xs,e,?_,nC hst0 _ _ hrest hxs⟩
  suffices hxF:R {ai:=g.ai,st:=fun k o=>g.st k o∨∃z,g.ai 0 0=some (k,z)} w (.aB rows) x from ko (g:={ai:=g.ai,st:=fun k o=>g.st k o∨∃z,g.ai 0 0=some (k,z)}) (g2:={ai:=fun _ _=>none,st:=fun k o=>g.st k o∨∃z,g.ai 0 0=some (k,z)}) (fun _ _ h=>h) (.aB rows) x rfl hxF
  simp only[R]at hx ⊢;rcases hx with⟨hn,rfl⟩ |⟨k,cap,e',sz2,hk,rfl,hsh,hcs,hm,hmax⟩
  ·grind
  ·obtain⟨k',c,e,r1,r2,r3,r4,r5,r6⟩:=hi.row 0 0 _ _ h2 hk;rw[hk]at r1;simp at r1;subst r1;refine⟨_,cap,rfl,by omega,.inr ⟨k,0*sz,sz,rfl,Bt fun i r hr=>?_⟩⟩
   obtain⟨t1,t2⟩:=dh _ _ _ _ r3 hr;grind [yt,mB,oN,gX]
 refine(h.2 _ w vs hB hl0).mono fun e w' ⟨g1,hi1,hla,he⟩=>?_
 have noOwn:∀(g:Gh) k,¬ga g [] k:=fun g k ⟨b,y,v,z,hb,_⟩=>by simp at hb
 have one:∀(b:Nat) (x:ah),([ah.dead]:List ah)[b]? =some x→x=.dead:=fun b x hb=>by
  grind
 have noOwnD:∀(g:Gh) k,¬ga g [.dead] k:=fun g k ⟨b,y,v,z,hb,hv,_⟩=>by
  rw[one b y hb]at hv;cases hv
 refine⟨{ai:=g.ai,st:=g1.st},⟨fun b x hb=>?_,fun b b' x x' v v' k z z' h1 h2 l1=>?_,fun b aq hc=>?_,fun b x v ver' hb hv=>?_,fun b x v k z o hb hv=>?_,hi1.eN,fun i cs hc=>⟨(hi1.dw i cs hc).1,jQ (g:=g1) (g2:={ai:=g.ai,st:=g1.st}) (fun _ _ h=>h) _ _ _ (hi1.dw i cs hc).1 (hi1.dw i cs hc).2⟩⟩,i2.trans ⟨⟨fun _ _ _ h=>h,hla.ext.st,hla.ext.cell,hla.ext.shape⟩,hla.size,fun k hk _=>hla.keep k hk (noOwn _ k),fun k _ ho=>absurd ho (noOwnD _ k),Nat.le_refl _,hla.os,hla.tape,hla.output,fun k o hk hs=>(hla.stk k o hk hs).imp_right fun h=>absurd h.1 (noOwn _ k),fun b hb=>⟨hb,fun _=>rfl⟩,fun b aq k z hk=>.inl ⟨aq,z,hk⟩⟩,?_⟩
 ·rw[one b x hb];trivial
 ·rw[one b x h1]at l1;cases l1
 ·refine hi.fresh b aq (.inr ?_);grind
 ·rw[one b x hb]at hv;cases hv
 ·rw[one b x hb]at hv;cases hv
 ·cases r with
  |ret v=>
   obtain⟨x,h1,h3⟩:=he;exact⟨x,h1,ko (g:=g1) (g2:={ai:=g.ai,st:=g1.st}) (fun _ _ h=>h) v x hr h3⟩
  |bg v=>
   obtain⟨x,h1,h3⟩:=he;exact⟨x,h1,lT v x hr h3⟩
def gU.Jc(c:aK P)(X τ:Type)(sz:Nat)(enc:τ→List AVal)(pre rest:X→List AVal)(pack:List τ→X→c.X)
 (hargs:∀l x,c.args (pack l x)=pre x++ .aB (l.map enc)::rest x) (he:∀a,AVal.bp (enc a)=true) (hpre:∀x,AVal.bp (pre x)=true) (hrest:∀x,AVal.bp (rest x)=true) (hr:∀r,(c.out r).BC=true) (ha:∀x n,AVal.mO (pre x++ .sl 0 0 sz 0 n::rest x)=true):gU P where
 f:=c.f
 X:=List τ×Nat×X
 args:=fun x=>pre x.2.2++ .sl 0 0 sz 0 x.2.1::rest x.2.2
 blk:=fun x=>.row 0 sz (x.1.map enc)
 sh:=c.sh
 out:=c.out
 uk:=fun _ _=>.dead
 S:=fun n x=>if x.2.1=x.1.length then c.S n (pack x.1 x.2.2)else none
 a0:=fun x=>ha x.2.2 x.2.1
 b0:=fun x=>by simp[ah.pS,he]
 b1:=fun _ _=>.inr rfl
 r0:=fun r=>aR.Nk (hr r)
 ok:=fun n x r h=>by
  split at h
  ·rename_i hn;have h1:=c.ok n _ r h;rw[hargs]at h1;have h2:=h1.Jc (sz:=sz) (by
    grind) (hpre x.2.2) (hrest x.2.2) (hr r)
   rw[hn];simpa using h2
  ·cases h
def gU.re(c:gU P)(Y:Type)(f:Y→c.X):gU P where
 f:=c.f
 X:=Y
 args:=fun y=>c.args (f y)
 blk:=fun y=>c.blk (f y)
 sh:=c.sh
 out:=c.out
 uk:=fun y r=>c.uk (f y) r
 S:=fun n y=>c.S n (f y)
 a0:=fun y=>c.a0 (f y)
 b0:=fun y=>c.b0 (f y)
 b1:=fun y r=>c.b1 (f y) r
 r0:=c.r0
 ok:=fun n y r h=>c.ok n (f y) r h
end
end Go.AM
end
section
namespace Go.AM
open Go.ChangeMaps (setBlock)
def pV{σ τ:Type}(f:σ→((σ⊕τ)→Prop)→Prop):Nat→σ→(τ→Prop)→Prop
 | 0,_,_=>False
 |n+1,a,q=>f a fun
  | .inl a'=>pV f n a' q
  | .inr t=>q t
section
variable {P:Program} [aH]
def G.can(n:Nat):{ρ:Type}→G P ρ→(ρ→Prop)→Prop
 |_,.stop,_=>False
 |_,.done ts r,p=>aN ts=true∧p r
 |_,.fail,_=>False
 |_,.skip _ g,p=>g.can n p
 |_,.br _ c t f,p=>if c then t.can n p else f.can n p
 |_,.Ed _ _ x c t f,p=>if x=c then t.can n p else f.can n p
 |_,.sp c t f,p=>if c then t.can n p else f.can n p
 |_,.op t k,p=>∃x,t.run=some x∧(k x).can n p
 |_,.call c x k,p=>∃r,c.S n x=some r∧(k r).can n p
 |_,.cR c x k,p=>∃r,c.S n x=some r∧(k r).can n p
 |_,.cB c _ _ _ x k,p=>∃r,c.S n x=some r∧(k r).can n p
 |_,.tidy l g,p=>aN l=true∧g.can n p
 |_,.loop _ hd _ _ a0 body k,p=>aN hd=true∧pV (fun a q=>(body a).can n q) n a0 fun t=>(k t).can n p
 |_,.nr _ _ hd _ _ a0 body k,p=>aN hd=true∧pV (fun a q=>(body a).can n q) n a0 fun t=>(k t).can n p
 |_,.gm _ g,p=>g.can n p
 |_,.wV _ _ g,p=>g.can n p
 |_,.join _ _ g k,p=>g.can n fun t=>(k t).can n p
 |_,.pick z seen k,p=>((∀i,i<z.n→i∈seen)→(k none).can n p)∧∀i,i<z.n→i∉seen→(k (some i)).can n p
 |_,.grow z k,p=>z.ok=true∧(k true).can n p∧(k false).can n p
 |_,.inl _ g,p=>g.can n p
theorem G.Jd{ρ:Type}(n m:Nat)(g:G P ρ)(p:ρ→Prop):(G.less m g).can n p=g.can n p:=by cases m<;>simp[G.less,G.can]
end
section
variable [aH] {P:Program} {cfg:fF} {X:Env P}
def BL(P:Program)[aH](f:FuncId)(args:List AVal)(H:List ah)(Φ:aR→List ah→Prop):Prop:=
 (∃ fn c, P.funcs[f]? = some fn ∧ fn.body = some c ∧ fn.name ≠ "runtime.NumGoroutine") ∧
 ∀g w (vs:Array Value),Inv g H w→RL g w args vs.toList→Calls P f vs w fun e w'=>∃a H1,Φ a H1∧eX g H w a H1 e w'
def Nw(P:Program)[aH](b:Nat)(args:List AVal)(H:List ah)(Φ:aR→List ah→Prop):Prop:=
 ∀g w (vs:Array Value) k sz,Inv g H w→RL g w args vs.toList→g.ai b 0=some (k,sz)→
  ∃rec,w.heap[k]? =some (.loop rec)∧vs.size=rec.params.size∧RoundIn Fence.wide 0 P k rec.fn (mF rec vs) rec.assign rec.body w fun e w'=>∃a H1,Φ a H1∧eX g H w a H1 e w'
structure o6(P:Program)[aH](N:Ar P):Prop where
 fn:∀{ρ:Type} {n:Nat} {f:FuncId} {args:List AVal} {H:List ah} {g:G P ρ} {k:G P ρ→aR→List ah→Prop} {p:ρ→Prop},N.fn f args H g k→g.can n p→
  BL P f args H fun a H1=>∃g',k g' a H1∧g'.can n p
 Cd:∀{ρ:Type} {n:Nat} {b:Nat} {args:List AVal} {H:List ah} {g:G P ρ} {k:G P ρ→aR→List ah→Prop} {p:ρ→Prop},N.Cd b args H g k→g.can n p→
  Nw P b args H fun a H1=>∃g',k g' a H1∧g'.can n p
 lp:∀{σ:Type} {sh:Sh} {n:Nat} {ro:Option Nat} {H0:List ah} {b:Code} {g:G P (σ⊕sh.El)} {E:σ→St} {s:St} {Y:sh.El→bx×St} {p:σ⊕sh.El→Prop},N.lp ro H0 b g E s Y→g.can n p→
  ∀fro g0 w0,Inv g0 H0 w0→om g0 ro fro→fe P fro g0 H0 w0 b s fun o s'=>∃(g':G P (σ⊕sh.El)),oZ H0 E Y g' o s'∧g'.can n p
variable {ops:Array Oper} {n0 nid:Nat} {o:Oper} {s:St}
theorem pW{n:Nat}{ρ:Type}{p:ρ→Prop}:∀{g:G P ρ} {s:St} {k:G P ρ→St→Prop},oH g s k→g.can n p→∃g',k g' s∧g'.can n p
 | .br d c t f,s,k,h,hr=>by
  simp only[oH,oR]at h;obtain⟨hd,h1,h2⟩:=h;have hset:s.A.set d (.sc (.bool c))=s.A:=by
   apply List.ext_getElem?;intro j;by_cases hj:d=j
   ·grind
   ·rw[List.getElem?_set_ne hj]
  cases c with
  |true=>
   rw[hset]at h1;simp only[G.can,if_true]at hr;exact pW h1 hr
  |false=>
   rw[hset]at h2;simp only[G.can,Bool.false_eq_true,if_false]at hr;exact pW h2 hr
 | .Ed d ik x c t f,s,k,h,hr=>by
  simp only[oH,oR]at h;obtain⟨hd,h1,h2⟩:=h;by_cases hx:x=c
  ·subst hx;have hset:s.A.set d (.sc (.int ik x))=s.A:=by
    apply List.ext_getElem?;intro j;by_cases hj:d=j
    ·grind
    ·rw[List.getElem?_set_ne hj]
   rw[hset]at h1;simp only[G.can,if_true]at hr;exact pW h1 hr
  ·simp only[G.can,hx,if_false]at hr;exact pW h2 hr
 | .sp c t f,s,k,h,hr=>by
  simp only[oH]at h;cases c with
  |true=>
   simp only[G.can,if_true]at hr;exact pW h.1 hr
  |false=>
   simp only[G.can,Bool.false_eq_true,if_false]at hr;exact pW h.2 hr
 | .fail,s,k,h,hr=>by simp[G.can]at hr
 | .stop,s,k,h,hr=>by simp[G.can]at hr
 | .done ..,s,k,h,hr=>⟨_,h,hr⟩
 | .skip ..,s,k,h,hr=>⟨_,h,hr⟩
 | .op ..,s,k,h,hr=>⟨_,h,hr⟩
 | .call ..,s,k,h,hr=>⟨_,h,hr⟩
 | .cR ..,s,k,h,hr=>⟨_,h,hr⟩
 | .cB ..,s,k,h,hr=>⟨_,h,hr⟩
 | .tidy ..,s,k,h,hr=>⟨_,h,hr⟩
 | .loop ..,s,k,h,hr=>⟨_,h,hr⟩
 | .nr ..,s,k,h,hr=>⟨_,h,hr⟩
 | .gm ..,s,k,h,hr=>⟨_,h,hr⟩
 | .wV ..,s,k,h,hr=>⟨_,h,hr⟩
 | .join ..,s,k,h,hr=>⟨_,h,hr⟩
 | .pick ..,s,k,h,hr=>⟨_,h,hr⟩
 | .grow ..,s,k,h,hr=>⟨_,h,hr⟩
 | .inl ..,s,k,h,hr=>⟨_,h,hr⟩
theorem EM{H0:List ah}{n:Nat}{ρ:Type}{p:ρ→Prop}{g:G P ρ}{s:St}{k:G P ρ→St→Prop}(h:EI H0 g s k)(hr:g.can n p):∃s' g',gZ H0 s s'∧k g' s'∧g'.can n p:=by
 unfold EI at h;split at h
 ·grind [G.can,dI]
 ·exact⟨s,g,.refl _ _,h,hr⟩
theorem L0{pr:List Nat}{f:FuncId}{args:List AVal}{ids rs:List Nat}{Φ:aR→List ah→Prop}(hw:iN ops s.A o=some true)(hx:EH P cfg pr (cQ s.A) o.op s.H=some (.inl f,args,ids,rs))(hfn:BL P f args (mask ids s.H) Φ)
 {ro:Option Nat} {gg:Gh} {a:Act} {w:World} (hs:eH gg s a w) {i:Nat} (hi:ops[i]? =some o) (hcalm:Calm ro o) {K:Act→World→Prop} {Q:Exit→Act→World→Prop}
 (hK:∀a1 H1,Φ a1 H1→(∃e,fu s.H ids (some (a1,H1))=some (.ok e)∧og Q K gg s a w (.ok {s with A:=gL s.A o.dst e.val,H:=e.apply s.H}))∨
  (∃v,fu s.H ids (some (a1,H1))=some (.bg v ids)∧og Q K gg s a w (.bg v {s with H:=ids.foldl (fun H i=>H.set i .dead) s.H}))):wpOpIn (Fr ro) 0 P ops Q i K a w:=by
 unfold wpOpIn;simp only[hi];rw[oU hs hw];simp only[if_true];refine⟨fun _ _=>trivial,?_⟩
 rw[hcalm.semAt];unfold EH at hx;split at hx
 ·rename_i _ fo as tys hop;split at hx
  ·rename_i n p q hf;split at hx
   ·rename_i fn hfx;split at hx
    ·split at hx
     ·simp only[Option.some.injEq,Prod.mk.injEq,Sum.inl.injEq]at hx;obtain⟨rfl,rfl,rfl,rfl⟩:=hx;have hev:=hs.eval fo;rw[hf]at hev;simp only[R]at hev;obtain⟨va,vb,hfo,l1,l2⟩:=hev;have hl:RL gg w (p++as.toList.map (cQ s.A)++q) ((va.toArray++as.map a.eval)++vb.toArray).toList:=by
       simp only[Array.toList_append,Array.toList_map];exact eD (eD l1 (oe hs as)) l2
      obtain⟨⟨fn',c,k1,k2,k3⟩,hcalls⟩:=hfn;have hcalls:=hcalls gg w _ (pP hs.inv _) hl;have hex:(execOp a.eval o).run P w=.ok (.enter n ((va.toArray++as.map a.eval)++vb.toArray)) w:=by
       simp[execOp,hop,resolve,hfo,Deferred.ofValue,invoke,oV k1 k2 k3]
      rw[hex];simp only[Oper.uponIn];refine⟨pQ ro,yN (hcalls.mono ?_)⟩;rintro en w' ⟨a1,H1,hΦ,hc⟩;rcases hK a1 H1 hΦ with⟨e,hm,hk⟩ |⟨v,hm,hk⟩
      ·obtain⟨r',H',he,hp⟩:=iZ hs.inv hm;simp only[Option.some.injEq,Prod.mk.injEq]at he;obtain⟨rfl,rfl⟩:=he;rcases hp with⟨bA,he,hp⟩ |⟨v',he,_⟩
       ·cases he;obtain⟨x,g',rfl,hi',hr,hla⟩:=hp en w' hc;exact hk g' _ w' ⟨hi',mJ (bU hla.ext _ _ hs.tmps) hr o.dst,by rw[put_defers];exact ee hla.ext _ _ hs.defs⟩ hla
       ·cases he
      ·obtain⟨r',H',he,hp⟩:=iZ hs.inv hm;simp only[Option.some.injEq,Prod.mk.injEq]at he;obtain⟨rfl,rfl⟩:=he;rcases hp with⟨bA,he,hp⟩ |⟨v',he,hfl,hp⟩
       ·cases he
       ·cases he;obtain⟨x,rfl,hi',hr,hla⟩:=hp en w' hc;exact hk gg w' x hfl ⟨hi',bU hla.ext _ _ hs.tmps,ee hla.ext _ _ hs.defs⟩ hla hr
     ·cases hx
    ·cases hx
   ·cases hx
  ·grind
  ·cases hx
 ·cases hx
theorem Kf{pr:List Nat}{b:Nat}{args:List AVal}{ids rs:List Nat}{Φ:aR→List ah→Prop}(hw:iN ops s.A o=some true)(hx:EH P cfg pr (cQ s.A) o.op s.H=some (.inr b,args,ids,rs))(hfn:Nw P b args (mask ids s.H) Φ)
 {ro:Option Nat} {gg:Gh} {a:Act} {w:World} (hs:eH gg s a w) {i:Nat} (hi:ops[i]? =some o) (hcalm:Calm ro o) {K:Act→World→Prop} {Q:Exit→Act→World→Prop}
 (hK:∀a1 H1,Φ a1 H1→(∃e,fu s.H ids (some (a1,H1))=some (.ok e)∧og Q K gg s a w (.ok {s with A:=gL s.A o.dst e.val,H:=e.apply s.H}))∨
  (∃v,fu s.H ids (some (a1,H1))=some (.bg v ids)∧og Q K gg s a w (.bg v {s with H:=ids.foldl (fun H i=>H.set i .dead) s.H}))):wpOpIn (Fr ro) 0 P ops Q i K a w:=by
 unfold wpOpIn;simp only[hi];rw[oU hs hw];simp only[if_true];refine⟨fun _ _=>trivial,?_⟩
 rw[hcalm.semAt];unfold EH at hx;split at hx
 ·rename_i _ fo as tys hop;split at hx
  ·grind
  ·rename_i b' hf;split at hx
   ·simp only[Option.some.injEq,Prod.mk.injEq,Sum.inr.injEq]at hx;obtain⟨rfl,rfl,rfl,rfl⟩:=hx;have hev:=hs.eval fo;rw[hf]at hev;simp only[R]at hev;obtain⟨k,sz,hk0,hfo⟩:=hev;have hl:RL gg w (as.toList.map (cQ s.A)) (as.map a.eval).toList:=by
     simp only[Array.toList_map];exact oe hs as
    obtain⟨rec,r1,r2,hround⟩:=hfn gg w _ k sz (pP hs.inv _) hl hk0;rw[Am hop hfo r1 r2];simp only[Oper.uponIn];refine⟨pQ ro,EB (hround.mono ?_)⟩;rintro en w' ⟨a1,H1,hΦ,hc⟩;rcases hK a1 H1 hΦ with⟨e,hm,hk⟩ |⟨v,hm,hk⟩
    ·obtain⟨r',H',he,hp⟩:=iZ hs.inv hm;simp only[Option.some.injEq,Prod.mk.injEq]at he;obtain⟨rfl,rfl⟩:=he;rcases hp with⟨bA,he,hp⟩ |⟨v',he,_⟩
     ·cases he;obtain⟨x,g',rfl,hi',hr,hla⟩:=hp en w' hc;exact hk g' _ w' ⟨hi',mJ (bU hla.ext _ _ hs.tmps) hr o.dst,by rw[put_defers];exact ee hla.ext _ _ hs.defs⟩ hla
     ·cases he
    ·obtain⟨r',H',he,hp⟩:=iZ hs.inv hm;simp only[Option.some.injEq,Prod.mk.injEq]at he;obtain⟨rfl,rfl⟩:=he;rcases hp with⟨bA,he,hp⟩ |⟨v',he,hfl,hp⟩
     ·cases he
     ·cases he;obtain⟨x,rfl,hi',hr,hla⟩:=hp en w' hc;exact hk gg w' x hfl ⟨hi',bU hla.ext _ _ hs.tmps,ee hla.ext _ _ hs.defs⟩ hla hr
   ·cases hx
  ·cases hx
 ·cases hx
theorem OZ{z:PK}{seen:List Nat}{it:Operand}(ho:o.op=.next it false)(hw:iN ops s.A o=some true)(hit:cQ s.A it=.ptr z.b 0 0 0)(hb:s.H[z.b]? =some (.iter (.mp z.mb) z.n seen z.n))(hmb:s.H[z.mb]? =some (.map z.n z.es))
 {ro:Option Nat} {gg:Gh} {a:Act} {w:World} (hs:eH gg s a w) {i:Nat} (hi:ops[i]? =some o) (hcalm:Calm ro o) {K:Act→World→Prop} {Q:Exit→Act→World→Prop}
 (h0:(∀i,i<z.n→i∈seen)→og Q K gg s a w (.ok {s with A:=gL s.A o.dst (.dg [.sc (.bool false)])}))
 (h1:∀i,i<z.n→i∉seen→og Q K gg s a w (.ok {s with A:=gL s.A o.dst (.dg [.sc (.bool true),.ak,.ak]),H:=s.H.set z.b (.iter (.mp z.mb) z.n (seen++[i]) z.n)})):wpOpIn (Fr ro) 0 P ops Q i K a w:=by
 unfold wpOpIn;simp only[hi];rw[oU hs hw];simp only[if_true];refine⟨fun _ _=>trivial,?_⟩
 rw[hcalm.semAt];have hev:=hs.eval it;rw[hit]at hev;simp only[R,Nat.zero_mul,Nat.add_zero]at hev;obtain⟨k,sz,hk,hx⟩:=hev;obtain⟨k',mo,q1,q2,q3⟩:=hs.inv.good _ _ hb;rw[hk]at q1;simp only[Option.some.injEq,Prod.mk.injEq]at q1;obtain⟨rfl,rfl⟩:=q1;simp only[R]at q3;obtain⟨k2,z2,q4,q5⟩:=q3;obtain rfl:mo=some k2:=by simpa using q5
 obtain⟨k3,ents,r1,r2,r3⟩:=hs.inv.good _ _ hmb;rw[q4]at r1;simp only[Option.some.injEq,Prod.mk.injEq]at r1;obtain⟨rfl,rfl⟩:=r1;obtain⟨l1,l2⟩:=nG r3;have hborn:∀(j:Nat) e,ents.toList[j]? =some e→e.born=j:=by
  intro j e he;have hj:j<z.es.length:=by rw[l1];exact(List.getElem?_eq_some_iff.1 he).1
  obtain⟨e',f1,-,-,f4⟩:=l2 j z.es[j] (List.getElem?_eq_getElem hj);rw[he]at f1;cases f1;rw[f4,z.pf.2 j _ (List.getElem?_eq_getElem hj)]
 have hlen:ents.toList.length=z.n:=by rw[← l1,z.pf.1]
 have hold:∀x∈ents.toList,x.born<z.n:=by
  intro x hx;obtain⟨j,hj,rfl⟩:=List.getElem_of_mem hx;rw[hborn j _ (List.getElem?_eq_getElem hj)];omega
 have hexec:∀{v:Value} {w':World},(Instr.next (.pointer (some ⟨k,0,none⟩)) false o.type).run P w=.ok v w'→(execOp a.eval o).run P w=.ok (.value v) w':=by
  intro v w' h;simp[execOp,ho,hx,h,Result.andThen]
 rcases run_next_at w o.type k k2 z.n z.n seen.toArray ents z.n q2 r2 hold (Nat.le_refl _)with⟨hsz,hrun⟩ |⟨e,he,w1,hw1,hrun⟩
 ·rw[hexec hrun];simp only[Oper.uponIn];have hall:∀j,j<z.n→j∈seen:=by
   intro j hj;have hj':j<ents.toList.length:=by omega
   have:(leftOf ents seen.toArray)= #[]:=Array.eq_empty_of_size_eq_zero hsz;unfold leftOf at this;rw[Array.filter_eq_empty_iff]at this;have hm:=this ents.toList[j] (by simp)
   rw[hborn j _ (List.getElem?_eq_getElem hj')]at hm;simpa using hm
  have:=h0 hall gg (a.put o.dst (.tuple #[.bool false])) w ⟨hs.inv,mJ hs.tmps (by grind [R,RL]) o.dst,by rw[put_defers];exact hs.defs⟩ (aW.refl _ _ _)
  exact this
 ·rw[hexec hrun];simp only[Oper.uponIn];unfold leftOf at he;simp only[Array.toList_filter,List.mem_filter,Bool.not_eq_true',List.contains_toArray]at he;obtain⟨hmem,hns⟩:=he;obtain⟨j,hj,rfl⟩:=List.getElem_of_mem hmem;have hbj:=hborn j _ (List.getElem?_eq_getElem hj);rw[hbj]at hns ⊢;have hns':j∉seen:=by
   intro hin;rw[List.contains_iff_mem.2 hin]at hns;cases hns
  have hheap:w1.heap=w.heap:=by rcases hw1 with rfl |rfl<;>rfl
  have hkl:k<w.heap.size:=(Array.getElem?_eq_some_iff.1 q2).1;obtain⟨i1,i2⟩:=hs.inv.Dr (w':=setBlock w1 k (.mapIter (some k2) z.n (seen.toArray.push j) z.n)) (y:=.iter (.mp z.mb) z.n (seen++[j]) z.n) hb rfl hk rfl
   (fun j' hj'=>by simp only[setBlock,hheap];grind) (by simp[setBlock,hheap])
   (fun j' x hx'=>by
    have hne:j'≠k:=by rintro rfl;simp[World.shape?,q2]at hx'
    simp only[World.shape?,setBlock,hheap,Array.getElem?_setIfInBounds_ne (Ne.symm hne)]at hx' ⊢;exact hx')
   (by rcases hw1 with rfl |rfl<;>rfl) (by rcases hw1 with rfl |rfl<;>exact⟨rfl,by first |exact Nat.le_refl _ |exact Nat.le_succ _⟩) (by rcases hw1 with rfl |rfl<;>rfl)
   (fun hext=>⟨k,some k2,hk,by simp[setBlock,hheap,hkl],by grind [R]⟩)
  exact h1 j (by omega) hns' gg _ _ ⟨i1,mJ (bU i2.ext _ _ hs.tmps) (by grind [R,RL]) o.dst,by rw[put_defers];exact ee i2.ext _ _ hs.defs⟩ i2
theorem O0{z:GK}{ST XT:TypeId}{args:Array Operand}{ats:Array TypeId}{sx x:Operand}(ho:o.op=.call {callee:=.builtin .append,args:=args,argTypes:=ats})(h0:ats[0]? =some ST)(h1:ats[1]? =some XT)(hs0:args[0]? =some sx)(hx0:args[1]? =some x)
 (hw:iN ops s.A o=some true) (hn:s.H[nid]? =some .bw) (hsz:args.size=2) (hT:Fj P ST XT=some (z.n,z.bytes)) (es:cQ s.A sx=.sl z.b z.aq z.n 0 z.len) (hrow:s.H[z.b]? =some (.row z.aq z.n (z.l.map z.enc)))
 (hnew:(elems (cQ s.A x)).run s.H=some (z.m.map z.enc)) (hall:∀x,(z.enc x).length=z.n) (hpos:z.m.isEmpty=false) (hok:z.ok=true)
 {ro:Option Nat} {gg:Gh} {a:Act} {w:World} (hs:eH gg s a w) {i:Nat} (hi:ops[i]? =some o) (hcalm:Calm ro o) {K:Act→World→Prop} {Q:Exit→Act→World→Prop}
 (k1:og Q K gg s a w (.ok {s with A:=gL s.A o.dst (.sl z.b z.aq z.n 0 (z.l++z.m).length),H:=s.H.set z.b (.row z.aq z.n ((z.l++z.m).map z.enc))}))
 (k2:og Q K gg s a w (.ok {s with A:=gL s.A o.dst (.sl nid 0 z.n 0 (z.l++z.m).length),H:=s.H.set nid (.row 0 z.n ((z.l++z.m).map z.enc))})):wpOpIn (Fr ro) 0 P ops Q i K a w:=by
 unfold wpOpIn;simp only[hi];rw[oU hs hw];simp only[if_true];refine⟨fun _ _=>trivial,?_⟩
 rw[hcalm.semAt];unfold GK.ok at hok;simp only[Bool.and_eq_true,decide_eq_true_eq]at hok;obtain⟨hlen,hroom⟩:=hok;have hml:(z.m.map z.enc).length≠0:=by
  cases hm:z.m with
  |nil=>rw[hm]at hpos;cases hpos
  |cons _ _=>simp
 obtain⟨v,w',hrun,hc⟩:=OX (ai:=cQ s.A) (a:=a) (o:=o) (b:=z.b) (aq:=z.aq) (rows:=z.l.map z.enc) hs.inv hs.eval hn ho h0 h1 hs0 hx0 hsz hT (by rw[es,hlen,List.length_map]) hrow hnew
  (List.all_eq_true.2 fun r hr=>by obtain⟨y,_,rfl⟩:=List.mem_map.1 hr;simp[hall y]) hml (by simpa using hroom)
 rw[hrun];simp only[Oper.uponIn];simp only[List.length_map,← List.length_append,← List.map_append]at hc;rcases hc with⟨r1,r2,r3⟩ |⟨g',r1,r2,r3⟩
 ·exact k1 gg _ _ ⟨r2,mJ (bU r3.ext _ _ hs.tmps) r1 o.dst,by rw[put_defers];exact ee r3.ext _ _ hs.defs⟩ r3
 ·exact k2 g' _ _ ⟨r2,mJ (bU r3.ext _ _ hs.tmps) r1 o.dst,by rw[put_defers];exact ee r3.ext _ _ hs.defs⟩ r3
def Env.still(X:Env P):Env P:={X with N:=ua P}
theorem Nx{ids:List Nat}{H H1:List ah}{a:aR}{k k':dL→List Nat→Bool→Prop}{kp kp':AVal→Prop}(hk:∀e ws nw,k e ws nw→k' e ws nw)(hp:∀v,kp v→kp' v)(h:CJ ids H a H1 k kp):CJ ids H a H1 k' kp':=by
 unfold CJ at h ⊢;split at h
 ·grind [k9]
 grind
theorem Je{ρ:Type}{n:Nat}{f:FuncId}{args:List AVal}{H:List ah}{c:u7 P}{x:c.X}{kk:c.sh.El→G P ρ}{k:G P ρ→aR→List ah→Prop}{p:ρ→Prop}(h:LK P f args H c x kk k)(hr:(G.cR c x kk).can n p):
 BL P f args H fun a H1=>∃g',k g' a H1∧g'.can n p:=by
 obtain⟨_,he,h⟩:=h;simp only[Option.some.injEq,Prod.mk.injEq]at he;obtain⟨rfl,ha,rfl⟩:=he;obtain⟨q,hq,hr⟩:=hr;have hf:=cg.wk (args:=args) (by rw[ha];exact c.ok n x q hq)
 exact⟨hf.1,fun g w vs hi hl=>(hf.2 g w vs hi hl).mono fun e w' hc=>⟨_,_,⟨kk q,(c.sh.cc _).1 h q,hr⟩,hc⟩⟩
def DE(X:Env P)(ops:Array Oper)(n0:Nat)(o:Oper)(nid:Nat)(s:St){ρ:Type}(n:Nat)(p:ρ→Prop)(k:G P ρ→eF→gw→Prop):Prop:=
 ∃orc,gx P orc∧∃res f g',fA P X.cfg orc ops n0 o nid s=some (res,f)∧k g' res f∧g'.can n p
def Gs(P:Program)[aH](ops:Array Oper)(o:Oper)(s:St){ρ:Type}(n:Nat)(p:ρ→Prop)(k:G P ρ→eF→gw→Prop):Prop:=
 ∀(ro:Option Nat) (gg:Gh) (a:Act) (w:World),eH gg s a w→∀i,ops[i]? =some o→Calm ro o→∀(K:Act→World→Prop) (Q:Exit→Act→World→Prop),
  (∀g' res f,k g' res f→g'.can n p→og Q K gg s a w res)→wpOpIn (Fr ro) 0 P ops Q i K a w
theorem DE.any{ρ:Type}{n:Nat}{p:ρ→Prop}{k:G P ρ→eF→gw→Prop}(h:DE X ops n0 o nid s n p k):Gs P ops o s n p k:=by
 intro ro gg a w hs i hi hcalm K Q hK;obtain⟨orc,ho,res,f,g',hst,hk,hr⟩:=h;grind [pR]
theorem BM(hNe:o6 P X.N){n:Nat}{ρ:Type}{p:ρ→Prop}{g:G P ρ}{draw:Bool}(hz:draw=true→X.N=ua P){H0:List ah}{k:G P ρ→eF→gw→Prop}(h:rF P X draw H0 ops n0 o nid g s k)(hr:g.can n p):
 DE X ops n0 o nid s n p k∨(draw=false∧Gs P ops o s n p k):=by
 unfold rF at h;split at h
 ·rename_i m g';split at h
  ·rename_i res f hs;exact .inl ⟨vZ,sK,res,f,_,hs,h,by rw[G.Jd];simpa[G.can]using hr⟩
  ·exact nomatch h
 ·rename_i Y t kk;obtain⟨x,hx,hr⟩:=hr;have h':rF P X.still draw H0 ops n0 o nid (.op t (fun x=>.done [] x):G P Y) s (fun g' r f=>∃x,g'=.done [] x∧k (kk x) r f):=by
   refine⟨h.1,h.2.1,fun x=>?_⟩
   have:=h.2.2 x;simp only[k9,gE,eW]at this ⊢;exact⟨x,rfl,this⟩
  obtain⟨orc,ho,res,f,g',hs,⟨x',rfl,hk⟩,hr'⟩:=kS (X:=X.still) (n:=n) (r:=x) wg h' (by simp[G.run,hx,aN])
  obtain rfl:x'=x:=by simpa[G.run,aN]using hr'
  exact .inl ⟨orc,ho,res,f,_,hs,hk,hr⟩
 ·rename_i c x kk;obtain⟨q,hx,hr⟩:=hr;have h':rF P X.still draw H0 ops n0 o nid (.call c x (fun q=>.done [] q):G P c.sh.El) s (fun g' r f=>∃x,g'=.done [] x∧k (kk x) r f):=by
   refine⟨h.1,h.2.1,(c.sh.cc _).2 fun q=>?_⟩
   have:=(c.sh.cc _).1 h.2.2 q;simp only[Env.still];split at this
   ·exact⟨q,rfl,this⟩
   ·exact nomatch this
  obtain⟨orc,ho,res,f,g',hs,⟨x',rfl,hk⟩,hr'⟩:=kS (X:=X.still) (n:=n) (r:=q) wg h' (by simp[G.run,hx,aN])
  obtain rfl:x'=q:=by simpa[G.run,aN]using hr'
  exact .inl ⟨orc,ho,res,f,_,hs,hk,hr⟩
 ·rename_i c x kk;obtain⟨q,hx,hr⟩:=hr;have h':rF P X.still draw H0 ops n0 o nid (.cR c x (fun q=>.done [] q):G P c.sh.El) s (fun g' r f=>∃x,g'=.done [] x∧k (kk x) r f):=by
   refine⟨h.1,h.2.1,(c.sh.cc _).2 fun q=>?_⟩
   have:=(c.sh.cc _).1 h.2.2 q;simp only[Env.still];split at this
   ·exact⟨q,rfl,this⟩
   ·exact nomatch this
  obtain⟨orc,ho,res,f,g',hs,⟨x',rfl,hk⟩,hr'⟩:=kS (X:=X.still) (n:=n) (r:=q) wg h' (by simp[G.run,hx,aN])
  obtain rfl:x'=q:=by simpa[G.run,aN]using hr'
  exact .inl ⟨orc,ho,res,f,_,hs,hk,hr⟩
 ·rename_i c b v ex x kk;obtain⟨q,hx,hr⟩:=hr;have h':rF P X.still draw H0 ops n0 o nid (.cB c b v ex x (fun q=>.done [] q):G P c.sh.El) s (fun g' r f=>∃x,g'=.done [] x∧k (kk x) r f):=by
   refine⟨h.1,h.2.1,h.2.2.1,(c.sh.cc _).2 fun q=>?_⟩
   have:=(c.sh.cc _).1 h.2.2.2 q;simp only[Env.still];split at this
   ·grind
   ·exact⟨q,rfl,this⟩
  obtain⟨orc,ho,res,f,g',hs,⟨x',rfl,hk⟩,hr'⟩:=kS (X:=X.still) (n:=n) (r:=q) wg h' (by simp[G.run,hx,aN])
  obtain rfl:x'=q:=by simpa[G.run,aN]using hr'
  exact .inl ⟨orc,ho,res,f,_,hs,hk,hr⟩
 ·rename_i pr g';obtain⟨hw,hpr,hc⟩:=h;simp only[G.can]at hr;cases draw with
  |true=>
   rw[hz rfl]at hc;split at hc
   ·rename_i f args ids rs hx;simp only[dA,ua]at hc;split at hc
    ·rename_i c x kk;obtain⟨q,hq,hr⟩:=hr;have h':rF P X.still true H0 ops n0 o nid (.inl pr (.cR c x (fun q=>.done [] q)):G P c.sh.El) s (fun g' r f=>∃x,g'=.done [] x∧k (kk x) r f):=by
      refine⟨hw,hpr,?_⟩;simp only[Env.still,hx,dA,ua];refine⟨hc.1,hc.2.1,(c.sh.cc _).2 fun q=>?_⟩
      refine Nx (fun e ws nw hk=>?_) (fun v hk=>?_) ((c.sh.cc _).1 hc.2.2 q)
      ·grind
      ·exact⟨q,rfl,hk⟩
     obtain⟨orc,ho,res,f,g',hs,⟨x',rfl,hk⟩,hr'⟩:=kS (X:=X.still) (n:=n) (r:=q) wg h' (by simp[G.run,hq,aN])
     obtain rfl:x'=q:=by simpa[G.run,aN]using hr'
     exact .inl ⟨orc,ho,res,f,_,hs,hk,hr⟩
    ·exact hc.elim
   ·grind [dA,ua]
   ·exact nomatch hc
  |false=>
   refine .inr ⟨rfl,?_⟩;intro ro gg a w hs i hi hcalm K Q hK;split at hc
   ·rename_i f args ids rs hx;simp only[dA]at hc;refine L0 hw hx (hNe.fn hc hr) hs hi hcalm fun a1 H1 ⟨g2,hk,hr2⟩=>?_
    grind [v8,gE,eW]
   ·rename_i b args ids rs hx;simp only[dA]at hc;refine Kf hw hx (hNe.Cd hc hr) hs hi hcalm fun a1 H1 ⟨g2,hk,hr2⟩=>?_
    grind [v8,gE,eW]
   ·exact nomatch hc
 ·rename_i z seen kk;cases draw with
  |true=>exact h.elim
  |false=>
   refine .inr ⟨rfl,?_⟩;simp only[G.can]at hr;simp only at h;split at h
   ·rename_i it hop;obtain⟨hw,hit,hb,hmb,h0,h1⟩:=h;intro ro gg a w hs i hi hcalm K Q hK;simp only[gE]at h0;refine OZ hop hw hit hb hmb hs hi hcalm (fun hall=>hK _ _ _ h0 (hr.1 hall)) fun j hj hn=>?_
    have:=h1 j;grind [gE,eW,dL.apply]
   ·exact h.elim
 ·rename_i z kk;cases draw with
  |true=>exact h.elim
  |false=>
   refine .inr ⟨rfl,?_⟩;simp only[G.can]at hr;simp only at h;split at h
   ·rename_i args ats hop;split at h
    ·rename_i ST XT sx x h0 h1 hs0 hx0;obtain⟨hw,hn,hsz,hT,es,hrow,hnew,hall,hpos,q1,q2⟩:=h;intro ro gg a w hs i hi hcalm K Q hK;simp only[gE,eW]at q1 q2;have p1:=hK _ _ _ q1 hr.2.1;have p2:=hK _ _ _ q2 hr.2.2;exact O0 hop h0 h1 hs0 hx0 hw hn (of_decide_eq_true hsz) hT es hrow hnew hall hpos hr.1 hs hi hcalm (by simpa[dL.apply]using p1) (by simpa[dL.apply]using p2)
    ·exact h.elim
   ·exact h.elim
 ·exact hr.elim
 ·exact nomatch h
 ·exact nomatch h
theorem Ny(hNe:o6 P X.N)(hz:X.N=ua P){n:Nat}{ρ:Type}{p:ρ→Prop}{g:G P ρ}{H0:List ah}{k:G P ρ→eF→gw→Prop}(h:yy P X true H0 ops n0 o nid g s k)(hr:g.can n p):
 DE X ops n0 o nid s n p k:=by
 unfold yy at h;grind [BM]
theorem Jf(hNe:o6 P X.N)(hz:X.N=ua P){n:Nat}{ρ:Type}{p:ρ→Prop}{H0:List ah}:∀(l:List (Oper×Nat)) (i:Nat) (g:G P ρ) (s:St) (k:G P ρ→eF→List gw→Prop),As P X true H0 ops n0 l g s k→g.can n p→
 ∃orcs:Nat→jI,(∀j,gx P (orcs j))∧∃res fs g',kQ P X.cfg orcs ops n0 i l s=some (res,fs)∧k g' res fs∧g'.can n p
 | [],i,g,s,k,h,hr=>⟨fun _=>vZ,fun _=>sK,.ok s,[],g,rfl,h,hr⟩
 | (o,nid)::rest,i,g,s,k,h,hr=>by
  simp only[As]at h;obtain⟨g1,h,hr⟩:=pW h hr;obtain⟨orc,ho,res,f,g2,hs,h,hr⟩:=Ny hNe hz h hr;cases res with
  |ok s'=>
   obtain⟨A,H,D⟩:=s';simp only[dS]at h;obtain⟨orcs,hos,res,fs,g3,hrun,hk,hr⟩:=Jf hNe hz rest (i+1) g2 _ _ h hr;refine⟨fun j=>if j=i then orc else orcs j,fun j=>(by grind:gx P (if j=i then orc else orcs j)),res,f::fs,g3,?_,hk,hr⟩
   grind [kQ,yX]
  |bg v s'=>
   exact⟨fun _=>orc,fun _=>ho,.bg v s',[f],g2,by simp only[kQ,hs],h,hr⟩
theorem Kg(hNe:o6 P X.N)(hz:X.N=ua P){n:Nat}{ρ:Type}{p:ρ→Prop}{H0:List ah}{g:G P ρ}{s:St}{k:G P ρ→eF→Prop}(h:sJ P X H0 ops true g s k)(hr:g.can n p):
 ∃orcs:Nat→jI,(∀j,gx P (orcs j))∧∃res g',uE P X.cfg orcs ops true s=some res∧k g' res∧g'.can n p:=by
 simp only[sJ,gD,rA]at h;obtain⟨orcs,ho,res,fs,g',hrun,hk,hr⟩:=Jf hNe hz _ 0 _ _ _ h hr;refine⟨orcs,ho,?_⟩;simp only[uE,gD,rA,hrun];grind
theorem Nz(hNe:o6 P X.N){n:Nat}{ρ:Type}{p:ρ→Prop}{g:G P ρ}{H0:List ah}{k:G P ρ→eF→gw→Prop}(h:yy P X false H0 ops n0 o nid g s k)(hr:g.can n p):
 ∃s2,gZ H0 s s2∧Gs P ops o s2 n p k:=by
 unfold yy at h;split at h
 ·rename_i l g';simp only[G.can]at hr;obtain⟨s',hw,h⟩:=dI hr.1 h;refine⟨s',hw,?_⟩;rcases BM hNe (fun e=>by cases e) h hr.2 with h |⟨_,h⟩
  ·exact h.any
  ·exact h
 ·refine⟨s,.refl _ _,?_⟩;rcases BM hNe (fun e=>by cases e) h hr with h |⟨_,h⟩
  ·exact h.any
  ·exact h
theorem Jg(hNe:o6 P X.N){n:Nat}{ρ:Type}{p:ρ→Prop}{H0:List ah}:∀(l:List (Oper×Nat)) (i:Nat) (g:G P ρ) (s:St) (k:G P ρ→eF→List gw→Prop),As P X false H0 ops n0 l g s k→g.can n p→
 (∀(j:Nat),(l[j]?).map (fun(p:Oper×Nat)=>p.1)=(ops.toList.drop i)[j]?)→
 ∀(fro:Option Nat),(∀(k:Nat) (o:Oper),ops[k]? =some o→Calm fro o)→∀(gg:Gh) (ww:World) (Q:Exit→Act→World→Prop),Inv gg H0 ww→∀(g1:Gh) (a:Act) (w:World),eH g1 s a w→aW gg H0 ww g1 s.H w→
  (∀g' res fs,k g' res fs→g'.can n p→qH Q gg H0 ww res)→wpOpsIn (Fr fro) 0 P ops Q (List.range' i l.length) a w
 | [],i,g,s,k,h,hr,_=>fun _ _ _ _ _ _ g1 a w hs hl hp=>hp g (.ok s) [] h hr g1 a w hs hl
 | (o,nid)::rest,i,g,s,k,h,hr,hj=>by
  intro fro hcalm gg ww Q hi0 g1 a w hs hl hp;have hi:ops[i]? =some o:=by
   have:=hj 0;simp at this;exact this.symm
  simp only[As]at h;obtain⟨g',h,hr⟩:=pW h hr;obtain⟨s2,hw2,hany⟩:=Nz hNe h hr;simp only[List.length_cons,List.range'_succ,wpOpsIn_cons];obtain⟨g2,hs2,hl2⟩:=hw2 gg ww g1 a w hi0 hl hs;refine hany fro g2 a w hs2 i hi (hcalm i o hi) _ Q fun g3 res f hk hr3=>?_
  cases res with
  |ok s'=>
   obtain⟨A,H,D⟩:=s';simp only[dS]at hk;intro g5 a' w' hs' hla;exact Jg hNe rest (i+1) g3 ⟨A,H,D⟩ _ hk hr3 (fun j=>by
    have:=hj (j+1);grind) fro hcalm gg ww Q hi0 g5 a' w' hs' (hl2.trans hla) (fun g' res fs h1 h2=>hp g' res _ h1 h2)
  |bg v s'=>exact fun g' w' x hv hs' hla hx=>hp g3 (.bg v s') _ hk hr3 g' a w' x hv hs' (hl2.trans hla) hx
theorem Kh(hNe:o6 P X.N){H0:List ah}{n:Nat}{ρ:Type}{p:ρ→Prop}{id:Nat}{g:G P ρ}{s:St}{k:G P ρ→eF→Prop}(h:sJ P X H0 ops false g s k)(hr:g.can n p):
 ∀(fro:Option Nat),(∀(k:Nat) (o:Oper),ops[k]? =some o→Calm fro o)→∀(gg:Gh) (ww:World),Inv gg H0 ww→fe P fro gg H0 ww (.region id ops false) s fun o s'=>∃g' res,k g' res∧g'.can n p∧o=(Dx res).1∧s'=(Dx res).2:=by
 intro fro hcalm gg ww hi0 Q g1 a w hs hl hp;simp only[sJ,gD,rA]at h;generalize (if mE ops.toList=0 then 0 else pN s.H)=t0 at h
 generalize mE ops.toList - t0=m0 at h;generalize s.H.length - t0=f0 at h;obtain⟨i1,i2⟩:=hs.inv.reserve m0;have hs0:eH g1 {s with H:=s.H++List.replicate m0 .bw} a w:=⟨i1,hs.tmps,hs.defs⟩;refine wpIn_region ?_;rw[List.range_eq_range'];have:=Jg hNe _ 0 _ _ _ h hr (fun j=>by rw[rE];simp) fro hcalm gg ww Q hi0 g1 a w hs0 (hl.trans i2) (fun g' res fs hk hr'=>by
  simp only[Bool.not_false,if_true]at hk;have:=hp _ _ ⟨g',res,hk,hr',rfl,rfl⟩;cases res with
  |ok s'=>exact this
  |bg v s'=>exact this)
 grind [uY]
theorem NA{f:FuncId}{pa qa:List AVal}{l:Nat}{H1:List ah}{D1:List ta}{ids:List Nat}{Φ:aR→List ah→Prop}{ro fro:Option Nat}{fid:FuncId}{x:Operand}{ps:Array Tmp}{assign body:Code}{s:St}{gg:Gh}{a:Act}{w:World}{Q:Exit→Act→World→Prop}
 (hro:om gg ro fro) (hf:cQ s.A x=.fn (.func f) pa qa) (hen:CA ro fid ps assign body s=some (l,H1,D1)) (hfn:BL P f (pa++[.jf l]++qa) (mask ids H1) Φ) (hs:eH gg s a w)
 (hK:∀a1 H2,Φ a1 H2→(∃e out s',fu H1 ids (some (a1,H2))=some (.ok e)∧IE l D1 s (e.apply H1)=some (out,s')∧fc Q gg s.H w s' out)∨
  (∃v,fu H1 ids (some (a1,H2))=some (.bg v ids)∧fc Q gg s.H w {s with H:=ids.foldl (fun H i=>H.set i .dead) H1,D:=D1} (.bg v))):(Code.rangeFunc x ps assign body).wpIn (Fr fro) 0 P Q a w:=by
 have hev:=hs.eval x;rw[hf]at hev;refine wpIn_rangeFunc fun fn _=>?_
 obtain⟨k,mark,w1,g1,hrun,i1,l1,rk,hd⟩:=D7 (P:=P) hro hs hen fn;have hev1:=oN l1.ext _ _ hev;simp only[R]at hev1;obtain⟨va,vb,hfo,ra,rb⟩:=hev1;have hl:RL g1 w1 (pa++[.jf l]++qa) ((va.toArray++ #[Value.func (.yield k) #[] #[]])++vb.toArray).toList:=by
  simp only[Array.toList_append];refine eD (eD (by simpa using ra) ?_) (by simpa using rb)
  simp only[RL,R];exact⟨_,_,rfl,⟨k,0,rk,rfl⟩,rfl⟩
 have ht:=bU l1.ext _ _ hs.tmps;obtain⟨⟨fn1,c1,k1,k2,k3⟩,hcalls⟩:=hfn;have hcalls:=hcalls g1 w1 _ (pP i1 _) hl;refine⟨k,mark,w1,{target:=.fn (.func f) vb.toArray,args:=va.toArray++ #[Value.func (.yield k) #[] #[]]},w1,f,(va.toArray++ #[Value.func (.yield k) #[] #[]])++vb.toArray,w1,hrun,?_,fun _ _=>trivial,?_,pQ fro,yN ?_⟩
 ·have hc:a.eval (.const (.func (.yield k) #[] #[]))=.func (.yield k) #[] #[]:=rfl;simp[resolve,hfo,Deferred.ofValue,hc]
 ·simp[invoke,oV k1 k2 k3]
 ·refine hcalls.mono ?_;rintro e w' ⟨a1,H2,hΦ,hc⟩;rcases hK a1 H2 hΦ with⟨ef,out,s',hm,hend,hpost⟩ |⟨v,hm,hpost⟩
  ·obtain⟨r',H',he,hp⟩:=iZ i1 hm;simp only[Option.some.injEq,Prod.mk.injEq]at he;obtain⟨rfl,rfl⟩:=he;rcases hp with⟨bA,he,hp⟩ |⟨v',he,_⟩
   ·cases he;obtain⟨y,g',rfl,hi',_,hla⟩:=hp e w' hc;exact GZ (a:={a with defers:=mark++a.defers}) (hla.ext.ai _ _ _ rk) hi' (bU hla.ext _ _ ht) (ee hla.ext _ _ hd) hend (hpost.later (l1.trans hla))
   ·cases he
  ·obtain⟨r',H',he,hp⟩:=iZ i1 hm;simp only[Option.some.injEq,Prod.mk.injEq]at he;obtain⟨rfl,rfl⟩:=he;rcases hp with⟨bA,he,hp⟩ |⟨v',he,hfl,hp⟩
   ·cases he
   ·cases he;obtain⟨y,rfl,hi',hr,hla⟩:=hp e w' hc;exact hpost g1 {a with defers:=mark++a.defers} w' y hfl ⟨hi',bU hla.ext _ _ ht,ee hla.ext _ _ hd⟩ (l1.trans hla) hr
def Comes(P:Program)[aH](ro:Option Nat)(H0:List ah)(c:Code)(s:St){ρ:Type}(n:Nat)(p:ρ→Prop)(k:G P ρ→bx→St→Prop):Prop:=
 ∀fro g0 w0,Inv g0 H0 w0→om g0 ro fro→fe P fro g0 H0 w0 c s fun o s'=>∃g',k g' o s'∧g'.can n p
theorem Comes.weak{ro:Option Nat}{H0:List ah}{c:Code}{s s1:St}{ρ:Type}{n:Nat}{p:ρ→Prop}{k:G P ρ→bx→St→Prop}(hw:gZ H0 s s1)(h:Comes P ro H0 c s1 n p k):Comes P ro H0 c s n p k:=
 fun fro g0 w0 hi hro=>.weak hi hw (h fro g0 w0 hi hro)
theorem fe.post'{fro:Option Nat}{g0:Gh}{H0:List ah}{w0:World}(hi0:Inv g0 H0 w0){c:Code}{s:St}{Φ Ψ:bx→St→Prop}(h:fe P fro g0 H0 w0 c s Φ)(hw:∀o s1,Φ o s1→∃s2,gZ H0 s1 s2∧Ψ o s2):fe P fro g0 H0 w0 c s Ψ:=
 fun Q g a w hs hl hk=>h Q g a w hs hl fun o' s' hf=>let⟨_,h1,h2⟩:=hw o' s' hf;fc.weak hi0 h1 (hk _ _ h2)
theorem G9{H0:List ah}{sh:Sh}{Y:sh.El→bx×St}{n:Nat}{g:G P sh.El}{o:bx}{s:St}{q:sh.El→Prop}(h:DB H0 Y g o s)(hr:g.can n q):∃s' t,gZ H0 s s'∧(o,s')=Y t∧q t:=by
 unfold DB at h;split at h
 ·rename_i ts t';obtain⟨hok,hq⟩:=hr;grind [dI]
 ·exact hr.elim
 ·exact nomatch h
theorem He{n:Nat}{σ:Type}{sh:Sh}{H0:List ah}{E:σ→St}{Y:sh.El→bx×St}{g:G P (σ⊕sh.El)}{o:bx}{s:St}{q:σ⊕sh.El→Prop}(h:oZ H0 E Y g o s)(hr:g.can n q):
 ∃s' v,q v∧gZ H0 s s'∧match v with | .inl a=>o=.normal∧s'=E a | .inr t=>o≠ .normal∧(o,s')=Y t:=by
 unfold oZ at h;split at h
 ·rename_i ts a;obtain⟨hok,hq⟩:=hr;grind [dI]
 ·rename_i ts t;obtain⟨hok,hq⟩:=hr;grind [dI]
 ·exact hr.elim
 ·exact nomatch h
theorem Hf(hNe:o6 P X.N){H0:List ah}{n:Nat}{σ:Type}{sh:Sh}{b:Code}{E:σ→St}{s:St}{Y:sh.El→bx×St}{p:σ⊕sh.El→Prop}{f:G P (σ⊕sh.El)→Prop}
 (ih:∀g,f g→g.can n p→Comes P X.ro H0 b s n p (oZ H0 E Y)) {g:G P (σ⊕sh.El)} (h:DD X.N X.ro H0 b E s Y g f) (hr:g.can n p):
 Comes P X.ro H0 b s n p (oZ H0 E Y):=by
 unfold DD at h;split at h
 ·exact hNe.lp h hr
 ·exact ih _ h hr
theorem A4(hm:P.follows .mixedOrders=true)(hNe:o6 P X.N)(hnd:X.nd=true){H0:List ah}{n:Nat}:∀(c:Code) {ρ:Type} (p:ρ→Prop) (g:G P ρ) (s:St) (k:G P ρ→bx→St→Prop),jo P X H0 c g s k→g.can n p→Comes P X.ro H0 c s n p k:=by
 have hat:X.at true=X.still:=by simp[Env.at,hnd,Env.still]
 have hst:o6 P X.still.N:=by
  refine⟨fun h hr=>?_,fun h=>h.elim,fun h=>h.elim⟩
  simp only[Env.still,ua]at h;split at h
  ·exact Je h hr
  ·exact h.elim
 intro c;induction c with
 |skip=>intro ρ p g s k h hr fro g0 w0 _ _;exact .skip ⟨g,h,hr⟩
 |region id ops draw=>
  intro ρ p g s k h hr;simp only[jo]at h;split at h
  ·exact h.elim
  rename_i hoff;obtain⟨s1,g1,hw,h,hr⟩:=EM h hr;refine .weak hw ?_;cases draw with
  |false=>
   intro fro g0 w0 hi hro;refine(Kh (X:=X) hNe (id:=id) h hr fro (we hro hoff) g0 w0 hi).mono ?_;rintro o s' ⟨g',res,hk,hr',rfl,rfl⟩;cases res with
   |ok s'=>exact⟨g',hk,hr'⟩
   |bg v s'=>exact⟨g',hk,hr'⟩
  |true=>
   rw[hat]at h;obtain⟨orcs,ho,res,g',hreg,h,hr⟩:=Kg hst rfl h hr;intro fro g0 w0 hi hro;cases res with
   |ok s'=>exact .region hm ho (we hro hoff) hreg ⟨g',h,hr⟩
   |bg v s'=>exact .region hm ho (we hro hoff) hreg ⟨g',h,hr⟩
 |seq a b iha ihb=>
  intro ρ p g s k h hr fro g0 w0 hi hro;simp only[jo]at h;refine .seq ((iha p g s _ h hr fro g0 w0 hi hro).mono ?_);rintro o s' ⟨g1,h1,hr1⟩;cases o with
  |normal=>exact ihb p g1 s' k h1 hr1 fro g0 w0 hi hro
  |exit id=>exact⟨g1,h1,hr1⟩
  |ret=>exact⟨g1,h1,hr1⟩
  |bg v=>exact⟨g1,h1,hr1⟩
 |cond c a b iha ihb=>
  have main:∀{ρ:Type} (p:ρ→Prop) (g:G P ρ) (s:St) (k:G P ρ→bx→St→Prop),DC P X H0 c a b (fun g s k=>jo P X H0 a g s k) (fun g s k=>jo P X H0 b g s k) g s k→g.can n p→Comes P X.ro H0 (.cond c a b) s n p k:=by
   intro ρ p g s k h hr;unfold DC at h;obtain⟨s1,g1,hw,h,hr⟩:=EM h hr;obtain⟨g1,h,hr⟩:=pW h hr;refine .weak hw ?_;split at h
   ·rename_i m g2;have hr2:(G.less m g2).can n p:=by rw[G.Jd];simpa[G.can]using hr
    split at h
    ·rename_i hc;exact fun fro g0 w0 hi hro=>.cond true hc (iha p _ _ k h hr2 fro g0 w0 hi hro)
    ·rename_i hc;exact fun fro g0 w0 hi hro=>.cond false hc (ihb p _ _ k h hr2 fro g0 w0 hi hro)
    ·exact h.elim
   ·exact hr.elim
   ·exact nomatch h
  intro ρ p g s k h hr;simp only[jo]at h;split at h
  ·rename_i sh Y g1 kk;intro fro g0 w0 hi hro;refine(main _ g1 s _ h.1 hr fro g0 w0 hi hro).post' hi ?_;rintro o s1 ⟨g',hj,hr'⟩;obtain⟨s2,t,hw,e,hq⟩:=G9 hj hr';have e1:o=(Y t).1:=congrArg Prod.fst e;have e2:s2=(Y t).2:=congrArg Prod.snd e;refine⟨s2,hw,kk t,?_,hq⟩;rw[e1,e2];exact(sh.cc _).1 h.2 t
  ·exact main p g s k h hr
 |block id b ih=>
  have main:∀{ρ:Type} (p:ρ→Prop) (g:G P ρ) (s:St) (k:G P ρ→bx→St→Prop),jo P X H0 b g s (AZ id k)→g.can n p→Comes P X.ro H0 (.block id b) s n p k:=by
   intro ρ p g s k h hr fro g0 w0 hi hro;refine .block ((ih p g s _ h hr fro g0 w0 hi hro).mono ?_);rintro o s' ⟨g',h1,hr'⟩;refine⟨g',?_,hr'⟩;unfold AZ at h1;cases o with
   |exit id'=>
    grind [behind]
   |normal=>exact h1
   |ret=>exact h1
   |bg v=>exact h1
  intro ρ p g s k h hr;simp only[jo]at h;split at h
  ·rename_i sh Y g1 kk;intro fro g0 w0 hi hro;refine(main _ g1 s _ h.1 hr fro g0 w0 hi hro).post' hi ?_;rintro o s1 ⟨g',hj,hr'⟩;obtain⟨s2,t,hw,e,hq⟩:=G9 hj hr';have e1:o=(Y t).1:=congrArg Prod.fst e;have e2:s2=(Y t).2:=congrArg Prod.snd e;refine⟨s2,hw,kk t,?_,hq⟩;rw[e1,e2];exact(sh.cc _).1 h.2 t
  ·exact main p g s k h hr
 |loop b ih=>
  intro ρ p g s k h hr;simp only[jo]at h;split at h
  ·rename_i m g1;simp only[G.can]at hr;intro fro g0 w0 hi hro;refine .loop hi (n:=m) (s0:=s) (fun m s=>∃g,DA (fun g s k=>jo P X H0 b g s k) m g s k∧g.can n p) (fun s ⟨g,h,_⟩=>h.elim) (.refl _ _) ⟨g1,h,hr⟩ ?_
   rintro m s1 ⟨g2,h2,hr2⟩;simp only[DA]at h2;refine(ih p g2 s1 _ h2 hr2 fro g0 w0 hi hro).mono ?_;rintro o s3 ⟨g3,h3,hr3⟩;refine⟨s3,.refl _ _,?_⟩;grind
  ·rename_i σ sh hd E Y a0 body kk;obtain⟨h0,hb,hx⟩:=h;obtain⟨hok,hr⟩:=hr;have hx:=(sh.cc _).1 hx;obtain⟨_,h0,rfl⟩:=dI hok h0;intro fro g0 w0 hi hro;refine .loop hi (n:=n) (s0:=E a0) (fun m s1=>∃a,s1=E a∧pV (fun a q=>(body a).can n q) m a fun t=>(kk t).can n p) (fun s ⟨a,_,h⟩=>by simp[pV]at h) h0 ⟨a0,rfl,hr⟩ ?_
   rintro m s1 ⟨a,rfl,hit⟩;simp only[pV]at hit;refine(Hf hNe (fun g h hr=>ih _ g (E a) _ h hr) (hb a) hit fro g0 w0 hi hro).mono ?_
   grind [He]
  ·rename_i hsh sh hd E Y a0 body kk;obtain⟨h0,hb,hx⟩:=h;have hb:=(hsh.cc _).1 hb;obtain⟨hok,hr⟩:=hr;have hx:=(sh.cc _).1 hx;obtain⟨_,h0,rfl⟩:=dI hok h0;intro fro g0 w0 hi hro;refine .loop hi (n:=n) (s0:=E a0) (fun m s1=>∃a,s1=E a∧pV (fun a q=>(body a).can n q) m a fun t=>(kk t).can n p) (fun s ⟨a,_,h⟩=>by simp[pV]at h) h0 ⟨a0,rfl,hr⟩ ?_
   rintro m s1 ⟨a,rfl,hit⟩;simp only[pV]at hit;refine(Hf hNe (fun g h hr=>ih _ g (E a) _ h hr) (hb a) hit fro g0 w0 hi hro).mono ?_
   grind [He]
  ·exact hr.elim
  ·exact nomatch h
 |exit id=>intro ρ p g s k h hr fro g0 w0 _ _;exact .exit ⟨g,h,hr⟩
 |ret=>intro ρ p g s k h hr fro g0 w0 _ _;exact .ret ⟨g,h,hr⟩
 |rangeFunc x ps as bd=>
  intro ρ p g s k h hr;simp only[jo]at h;obtain⟨s1,g1,hw,h,hr⟩:=EM h hr;refine .weak hw ?_;split at h
  ·rename_i pr g2;obtain⟨_,h⟩:=h;simp only[G.can]at hr;split at h
   ·rename_i f pa qa hf;split at h
    ·rename_i l H1 D1 hen;rw[dS]at h;obtain⟨hpr,h⟩:=h;split at h
     ·rename_i ids rs hcl;simp only[dA]at h;have hfn:=hNe.fn h hr;intro fro g0 w0 hi hro Q g a w hs hl hp;refine NA (hro.mono hl.ext) hf hen hfn hs ?_;rintro a1 H2 ⟨g3,hk,hr3⟩;rcases v8 hk with⟨e,hmg,hk⟩ |⟨v,hmg,hk⟩
      ·simp only[eW]at hk;split at hk
       ·rename_i out s' hend;exact .inl ⟨e,out,s',hmg,hend,(hp _ _ ⟨g3,hk,hr3⟩).later hl⟩
       ·exact hk.elim
      ·exact .inr ⟨v,hmg,(hp _ _ ⟨g3,hk,hr3⟩).later hl⟩
     ·exact h.elim
    ·exact h.elim
   ·exact h.elim
  ·exact hr.elim
  ·exact nomatch h
 |_=>intro ρ p g s k h hr;exact h.elim
theorem eX.trim{g:Gh}{w w':World}{e:Ending}{H H1:List ah}{a:aR}{pr:List Nat}(hi:Inv g H w)(h:eX g H w a H1 e w')(hpan:∀v,a=.bg v→v.flat=true)(ha:a.gq H.length=true)(hl:EJ pr H.length 0 (H1.take H.length)=true)
 (hp:∀i,pr.contains i=true→∃x,H1[i]? =some x∧u9 x=true):eX g H w a (H1.take H.length) e w':=by
 obtain⟨g1,hi1,hla,he⟩:=h;have hlen:(H1.take H.length).length=H.length:=by rw[List.length_take];have:=hla.len;omega
 have hK:H1.take H.length++H1.drop H.length=H1:=List.take_append_drop _ _;obtain⟨i1,i2⟩:=Inv.drop (n:=H.length) (K:=H1.take H.length) (L:=H1.drop H.length) hi (by rw[hK];exact hi1) (by rw[hK];exact hla) hlen rfl fun b x hx=>.inl (by
  rcases EK hl b x hx with hc |hc
  ·grind [zT,wS,kR,wX]
  ·exact hc)
 refine⟨g1.upto H.length,i1,i2,?_⟩;cases a with
 |ret v=>
  obtain⟨x,rfl,hx⟩:=he;exact⟨x,rfl,nI (n:=H.length) (g:=g1) (g2:=g1.upto H.length) (fun _ _ h=>h) (fun b aq x hb he=>by grind [Gh.upto]) v x ha hx⟩
 |bg v=>
  obtain⟨x,rfl,hx⟩:=he;exact⟨x,rfl,lT v x (hpan v rfl) hx⟩
theorem BL.of(hm : P.follows .mixedOrders = true)(hN : ∀ (f : FuncId) (fn : Func), P.funcs[f]? = some fn → fn.name ≠ "runtime.NumGoroutine"){L : Nat}{f : FuncId}{fn : Func}{c : Code}{args : List AVal}{H0 : List ah}{Θ : bx → St → Prop}{Φ : aR → List ah → Prop}
 (hf:P.funcs[f]? =some fn) (hb:fn.body=some c) (hd:∀g0 w0,Inv g0 H0 w0→fe P none g0 H0 w0 c ⟨lS fn.ntmps args,H0,[]⟩ Θ)
 (hΘ:∀o s,Θ o s→∃s' a H1,gZ H0 s s'∧rG P cfg L fn o s'=some (a,H1)∧∃a' H1',Φ a' H1'∧∀g w e w',Inv g H0 w→eX g H0 w a H1 e w'→eX g H0 w a' H1' e w'):BL P f args H0 Φ:=by
 refine⟨⟨fn,c,hf,hb,hN f fn hf⟩,fun gh w vs hi hl=>callsIn_wide.1 (callsIn_of_wp_marks (F:=Fr none) (n:=0) hf hb trivial ?_)⟩
 have hsim:eH gh ⟨lS fn.ntmps args,H0,[]⟩ {tmps:=vs++Array.replicate (fn.ntmps - vs.size) undef,defers:=[]} w:=⟨hi,vY hl _,rfl⟩;refine hd gh w hi _ gh _ w hsim (aW.refl _ _ _) fun o1 s1 ht=>?_
 obtain⟨s',a,H1,hwk,hlo,a',H1',hΦ,hcv⟩:=hΘ o1 s1 ht;refine fc.weak hi hwk ?_;have key:∀(m:Option AVal) (u:FrameMode),yz P cfg L fn m s'=some (a,H1)→∀g' a0 w',eH g' s' a0 w'→aW gh H0 w g' s'.H w'→nK g' w' m u→
  LeavesInM (Fr none) 0 P fn a0.tmps (fun e w'=>∃a H1,Φ a H1∧eX gh H0 w a H1 e w') a0.defers u w':=by
  intro m u hla g' a0 w' hs' hlat hmo;obtain⟨m',H',rr,h1,h2,h3,h4⟩:=G7 hla;refine kq ?_ (kL hm hN sK s'.D a0.defers m u s'.H g' w' m' H' hs'.defs hs'.inv hs'.tmps hmo h1 h2 hlat);rintro e w2 ⟨g2,hi2,hla2,he2⟩;refine⟨a',H1',hΦ,hcv gh w e w2 hi ⟨g2,hi2,hla2,?_⟩⟩;cases rr with
  |ret v=>rw[h3 v rfl];obtain⟨x,rfl,hx⟩:=he2;exact⟨x,rfl,Dw _ _ hx⟩
  |bg v=>rw[h4 v rfl];exact he2
 cases o1 with
 |normal=>exact fun g' a' w' hs' hlat=>key none .returning hlo g' a' w' hs' hlat rfl
 |ret=>exact fun g' a' w' hs' hlat=>key none .returning hlo g' a' w' hs' hlat rfl
 |exit id=>simp[rG]at hlo
 |bg v=>exact fun g' a' w' x hv hs' hlat hrx=>key (some v) (.panicking [{v:=x,recovered:=false}]) hlo g' a' w' hs' hlat ⟨hv,x,rfl,hrx⟩
theorem CO(hm : P.follows .mixedOrders = true)(hN : ∀ (f : FuncId) (fn : Func), P.funcs[f]? = some fn → fn.name ≠ "runtime.NumGoroutine") : ∀ d, o6 P (jY P cfg true d)
 | 0=>⟨fun h=>h.elim,fun h=>h.elim,fun h=>h.elim⟩
 |d+1=>by
  have ih:=CO hm hN d;constructor
  ·intro ρ n f args H g k p h hr;simp only[jY,PM]at h;split at h
   ·exact Je h hr
   split at h
   ·rename_i fn hf;split at h
    ·rename_i c hb;have hd:=A4 (X:=⟨cfg,none,jY P cfg true d,true⟩) hm ih rfl c p g _ _ h hr;refine BL.of (cfg:=cfg) (L:=10) hm hN hf hb (fun g0 w0 hi=>hd none g0 w0 hi trivial) ?_
     rintro o s1 ⟨g1,h,hr⟩;unfold OQ at h;split at h
     ·rename_i ts pr g2;obtain⟨hok,hr⟩:=hr;simp only[G.can]at hr;obtain⟨s',hw,h⟩:=dI hok h;split at h
      ·rename_i a H1 hla;obtain⟨_,hpr,h⟩:=h;grind [dS,eX.trim,Ef,A3]
      ·exact h.elim
     ·exact hr.elim
     ·exact nomatch h
    ·exact h.elim
   ·exact h.elim
  ·intro ρ n b args H g k p h hr;simp only[jY,OS]at h;split at h
   ·rename_i st pend fid A ps assign body hb;split at h
    ·rename_i hlen;have hlen:=Nat.eq_of_beq_eq_true hlen;have hd1:=A4 (X:=⟨cfg,some b,jY P cfg true d,true⟩) hm ih rfl assign p g _ _ h hr;intro gh w vs k1 sz hi hl hk;obtain⟨k0,tmps0,dk0,fn0,q1,q2,q3⟩:=hi.good b _ hb;rw[hk]at q1;simp only[Option.some.injEq,Prod.mk.injEq]at q1;obtain⟨rfl,rfl⟩:=q1;have hvs:=(dM _ _ hl).1;refine⟨_,q2,by grind,?_⟩
     rw[yP _ ps vs rfl];have hsim:eH gh ⟨tD A ps args,H,[]⟩ {tmps:=(ps.zip vs.toList).foldl (fun(tmps:Array Value) (p:Tmp×Value)=>tmps.setIfInBounds p.1 p.2) tmps0,defers:=[]} w:=
      ⟨hi,zR ps args A _ tmps0 q3 hl,rfl⟩
     refine roundIn_of_wpIn trivial ?_;refine hd1 (some k1) gh w hi ⟨0,hk⟩ _ gh _ w hsim (aW.refl _ _ _) ?_;rintro oo ss ⟨g1,h1,hr1⟩;cases oo with
     |exit id=>exact h1.elim
     |ret=>exact h1.elim
     |bg v=>exact h1.elim
     |normal=>
      simp only at h1;split at h1
      ·rename_i pend1 fid1 A1 ps1 as1 bd1 hb1;rw[dS]at h1;have hd2:=A4 (X:=⟨cfg,some b,jY P cfg true d,true⟩) hm ih rfl body p g1 _ _ h1 hr1;intro gg1 a1 w1 hs1 hla1;have hk1:=hla1.ext.ai _ _ _ hk;obtain⟨k2,tmps1,dk1,fn1,u1,u2,u3⟩:=hs1.inv.good b _ hb1;rw[hk1]at u1;simp only[Option.some.injEq,Prod.mk.injEq]at u1;obtain⟨rfl,-⟩:=u1;refine⟨_,run_beginRound u2 rfl,?_⟩;obtain⟨i2,l2⟩:=hs1.inv.put (y:=.loop .busy pend1 fid1 A1 ps1 as1 bd1)
        (ob:=.loop {state:=.busy,pending:=pend1,fn:=fn1,tmps:=tmps1,params:=ps1.toArray,assign:=as1,body:=bd1,defers:=dk1}) hb1 rfl hk1 rfl (tF u2)
        fun hext=>⟨_,tmps1,dk1,fn1,hk1,World.putObj_heap_same (Array.getElem?_eq_some_iff.1 u2).1,bU hext _ _ u3⟩
       have hsim2:eH gg1 {ss with H:=ss.H.set b (.loop .busy pend1 fid1 A1 ps1 as1 bd1)} a1 (w1.putObj k1 (.loop {state:=.busy,pending:=pend1,fn:=fn1,tmps:=tmps1,params:=ps1.toArray,assign:=as1,body:=bd1,defers:=dk1})):=
        ⟨i2,bU l2.ext _ _ hs1.tmps,ee l2.ext _ _ hs1.defs⟩
       refine hd2 (some k1) gh w hi ⟨0,hk⟩ _ gg1 a1 _ hsim2 (hla1.trans l2) ?_;rintro oo2 ss2 ⟨g2,h2,hr2⟩;unfold OR at h2;split at h2
       ·rename_i j hj;split at h2
        ·rename_i ts g3;obtain⟨hok,hr2⟩:=hr2;obtain⟨s3,hw,h2⟩:=dI hok h2;split at h2
         ·rename_i H2 hmk;refine fc.weak hi hw ?_;have hend:∀g' a' w',eH g' s3 a' w'→aW gh H w g' s3.H w'→
           ∃v w'',(Instr.endRound k1 j).run P w'=.ok v w''∧∃a H1,(∃g',k g' a H1∧g'.can n p)∧eX gh H w a H1 (.returned v) w'':=by
           intro g' a' w' hs' hla';obtain⟨rr,e1,e2,e3⟩:=yQ hs'.inv (hla'.ext.ai _ _ _ hk) hmk;exact⟨_,_,run_endRound j e1,_,_,⟨g3,h2,hr2⟩,g',e2,hla'.trans e3,_,rfl,by simp[R]⟩
          cases oo2 with
          |normal=>
           simp only[rC,Option.some.injEq]at hj;subst hj;exact fun g' a' w' h1 h2=>hend g' a' w' h1 h2
          |ret=>
           simp only[rC,Option.some.injEq]at hj;subst hj;exact fun g' a' w' h1 h2=>hend g' a' w' h1 h2
          |exit id=>
           simp only[rC,Option.some.injEq]at hj;subst hj;exact fun g' a' w' h1 h2=>hend g' a' w' h1 h2
          |bg v=>cases hj
         ·exact h2.elim
        ·exact hr2.elim
        ·exact nomatch h2
       ·exact h2.elim
      ·exact h1.elim
    ·exact h.elim
   ·exact h.elim
  ·intro σ sh n ro H0 b g E s Y p h hr;obtain⟨h⟩:=h;exact A4 (X:=⟨cfg,ro,jY P cfg true d,true⟩) hm ih rfl b p g s _ h hr
def O1{ρ:Type}(P:Program)[aH](cfg:fF)(L:Nat)(f:FuncId)(args:List AVal)(out:ρ→aR)(g:G P ρ):Prop:=
 match P.funcs[f]? with
 |some fn=>match fn.body with
  |some c=>jo P (Q4 P cfg) [] c g ⟨lS fn.ntmps args,[],[]⟩ fun g o s=>Gm P cfg L fn out g o s
  |none=>False
 |none=>False
theorem O2{n L:Nat}{ρ:Type}{fn:Func}{out:ρ→aR}{g:G P ρ}{o:bx}{s:St}{p:ρ→Prop}(h:Gm P cfg L fn out g o s)(hr:g.can n p):∃s' r,p r∧gZ [] s s'∧Fp P cfg L fn o s'=some (out r):=by
 unfold Gm at h;split at h
 ·rename_i ts r;obtain⟨hok,hp⟩:=hr;grind [dI]
 ·exact hr.elim
 ·exact nomatch h
theorem L3(hm : P.follows .mixedOrders = true)(hN : ∀ (f : FuncId) (fn : Func), P.funcs[f]? = some fn → fn.name ≠ "runtime.NumGoroutine"){L : Nat}{f : FuncId}{args : List AVal}{ρ : Type}{out : ρ → aR}{g : G P ρ}
 (h:O1 P cfg L f args out g) {n:Nat} {a:aR} (hr:g.can n fun x=>out x=a):jX P f args a:=by
 unfold O1 at h;split at h
 ·rename_i fn hf;split at h
  ·rename_i c hb;refine⟨⟨fn,c,hf,hb,hN f fn hf⟩,fun gh w vs hi hl=>callsIn_wide.1 (callsIn_of_wp_marks (F:=Fr none) (n:=0) hf hb trivial ?_)⟩
   have hsim:eH gh ⟨lS fn.ntmps args,[],[]⟩ {tmps:=vs++Array.replicate (fn.ntmps - vs.size) undef,defers:=[]} w:=⟨hi,vY hl _,rfl⟩;have hd:=A4 (X:=Q4 P cfg) hm (CO hm hN 9) rfl c _ g _ _ h hr;refine hd none gh w hi trivial _ gh _ w hsim (aW.refl _ _ _) ?_;rintro o1 s1 ⟨g',h',hr'⟩;obtain⟨s',r',rfl,hwk,hlo⟩:=O2 h' hr';refine fc.weak hi hwk ?_;have key:∀(m:Option AVal) (u:FrameMode),BI P cfg L fn m s'=some (out r')→∀g' a' w',eH g' s' a' w'→aW gh [] w g' s'.H w'→nK g' w' m u→
    LeavesInM (Fr none) 0 P fn a'.tmps (eX gh [] w (out r') []) a'.defers u w':=by
    intro m u hla g' a' w' hs' hlat hmo;obtain⟨m',H',rr,H1,h1,h2,h3⟩:=G8 hla;refine kq ?_ (kL hm hN sK s'.D a'.defers m u s'.H g' w' m' H' hs'.defs hs'.inv hs'.tmps hmo h1 h2 hlat);rintro e w2 ⟨g2,hi2,hla2,he2⟩;exact Fq hi hi2 hla2 h3 he2
   cases o1 with
   |normal=>exact fun g' a' w' hs' hlat=>key none .returning hlo g' a' w' hs' hlat rfl
   |ret=>exact fun g' a' w' hs' hlat=>key none .returning hlo g' a' w' hs' hlat rfl
   |exit id=>simp[Fp]at hlo
   |bg v=>exact fun g' a' w' x hv hs' hlat hrx=>key (some v) (.panicking [{v:=x,recovered:=false}]) hlo g' a' w' hs' hlat ⟨hv,x,rfl,hrx⟩
  ·exact h.elim
 ·exact h.elim
structure CP(P:Program)[aH]:Type 1 where
 f:FuncId
 X:Type
 args:X→List AVal
 sh:Sh
 out:sh.El→aR
 g:X→G P sh.El
 ok:∀n x a,(g x).can n (fun y=>out y=a)→jX P f (args x) a
def CP.of[hp:Plain P](cfg:fF)(L:Nat)(f:FuncId)(X:Type)(args:X→List AVal)(sh:Sh)(out:sh.El→aR)(g:X→G P sh.El)(h:∀x,O1 P cfg L f (args x) out (g x)=(g x).fB (PS out)):CP P where
 f:=f
 X:=X
 args:=args
 sh:=sh
 out:=out
 g:=g
 ok:=fun n x a hr=>L3 hp.mixed hp.names (n:=n) (by rw[h x];exact G.bY (fun _=>rfl) (g x)) hr
def CP.all(c:CP P)(S:Nat→c.X→Option c.sh.El)(h:∀n x r,S n x=some r→∃m,(c.g x).can m fun y=>c.out y=c.out r):aK P where
 f:=c.f
 X:=c.X
 args:=c.args
 sh:=c.sh
 out:=c.out
 S:=S
 ok:=fun n x r hr=>let⟨m,hm⟩:=h n x r hr;c.ok m x (c.out r) hm
end
end Go.AM
end
section
namespace Go.AM
def pk{P:Program}[aH]{ρ:Type}(a:G P ρ)(f:Nat→G P ρ):Option Nat→G P ρ
 |none=>a
 |some i=>f i
section
variable {K V:Type}
theorem Hg(ek:K→AVal)(ev:V→AVal):∀(m:List (K×V)) (b i:Nat) p,(aF ek ev b m)[i]? =some p→p.2.2=b+i
 | [],_,_,_,h=>by simp[aF]at h
 | (k,v)::m,b,0,p,h=>by simp[aF]at h;subst h;rfl
 | (k,v)::m,b,i+1,p,h=>by
  simp only[aF,List.getElem?_cons_succ]at h;have:=Hg ek ev m (b+1) i p h;omega
def SC(b mb:Nat)(m:List (K×V))(ek:K→AVal)(ev:V→AVal):PK:=
 ⟨b,mb,m.length,aF ek ev 0 m,wY ek ev m 0,fun i p h=>by have:=Hg ek ev m 0 i p h;omega⟩
theorem Hh(ek:K→AVal)(ev:V→AVal):∀(m:List (K×V)) (b i:Nat) (x:K×V),m[i]? =some x→(aF ek ev b m).find? (fun p=>p.2.2==b+i)=some (ek x.1,ev x.2,b+i)
 | [],_,_,_,h=>by simp at h
 | (k,v)::m,b,0,x,h=>by simp at h;subst h;simp[aF]
 | (k,v)::m,b,i+1,x,h=>by
  simp only[List.getElem?_cons_succ]at h;have:=Hh ek ev m (b+1) i x h;simp only[aF,List.find?_cons];have hne:(b==b+(i+1))=false:=by simp
  rw[hne,show b+(i+1)=b+1+i by omega]
  exact this
def Se(m:List (K×V))(ek:K→AVal)(ev:V→AVal)(b mb:Nat)(seen:List Nat)(i:Nat):mP (K×V) where
 run:=m[i]?
 bA x:={val:=.dg [ek x.1,ev x.2]}
 ids:=[b,mb]
 oD _ _ _ _ op ai H:=match op with
  | .entry x=>ai x=.ptr b 0 0 0∧H[b]? =some (.iter (.mp mb) m.length (seen++[i]) m.length)∧H[mb]? =some (.map m.length (aF ek ev 0 m))
  |_=>False
 gP:=AVal.ptr b 0 0 0=AVal.ptr b 0 0 0∧some (ah.iter (.mp mb) m.length (seen++[i]) m.length)=some (ah.iter (.mp mb) m.length (seen++[i]) m.length)∧some (ah.map m.length (aF ek ev 0 m))=some (ah.map m.length (aF ek ev 0 m))
 holds:=⟨rfl,rfl,rfl⟩
 sound gl P cfg nid op ai H h x hx:=by
  cases op<;>try exact h.elim
  obtain⟨h1,h2,h3⟩:=h;have hf:=Hh ek ev m 0 i x hx;rw[Nat.zero_add]at hf;have he:Dp (seen++[i]) (aF ek ev 0 m)=some (.dg [ek x.1,ev x.2]):=by simp[Dp,hf]
  simp[bQ,di,cG,EX,h1,h2,h3,mapOf,Rd.bind,Rd.run,Rd.reads,he,yields]
def PW(m:List (K×V))(ek:K→AVal)(ev:V→AVal)(b:Nat):mP Unit where
 run:=some ()
 bA _:={val:=.sc (.int .i64 (m.length:Int))}
 ids:=[b]
 oD _ P _ _ op ai H:=match op with
  | .call {callee:=.builtin .len,args,argTypes}=>match argTypes[0]?,args[0]? with
   |some T,some x=>(match P.underlying T with |some (.map _ _)=>true |_=>false)=true∧ai x=.mp b∧H[b]? =some (.map m.length (aF ek ev 0 m))
   |_,_=>False
  |_=>False
 gP:=(@Eq Bool true true)∧AVal.mp b=AVal.mp b∧some (ah.map m.length (aF ek ev 0 m))=some (ah.map m.length (aF ek ev 0 m))
 holds:=⟨rfl,rfl,rfl⟩
 sound gl P cfg nid op ai H h x hx:=by
  cases op<;>try exact h.elim
  rename_i c;obtain⟨ce,args,ats⟩:=c;cases ce with
  |builtin bb=>
   cases bb
   case len=>
    simp only at h;split at h
    ·rename_i T x' e1 e2;obtain⟨h1,h2,h3⟩:=h;split at h1
     ·rename_i q1 q2 hu;simp[bQ,di,cG,e1,e2,hu,h2,mapOf,Rd.bind,Rd.run,Rd.reads,h3,wY]
     ·cases h1
    ·exact h.elim
   all_goals exact h.elim
  |_=>exact h.elim
end
section
variable {K V:Type}
def RS(m:List (K×V))(k:K)(ek:K→AVal)(ev:V→AVal)(eq:K→K→Bool)(z:AVal)(ks:List Kd)(ag ok:Bool)(b:Nat):mP V where
 run:=(aY eq k m 0).map (·.2)
 bA v:={val:=match ok with
  |true=>.dg [ev v,.sc (.bool true)]
  |false=>ev v}
 ids:=[b]
 oD gl P cfg nid op ai H:=match op with
  | .lookup T x i ok'=>ok'=ok∧ai x=.mp b∧ai i=ek k∧H[b]? =some (.map m.length (aF ek ev 0 m))∧zX P T=some (some ks,ag,some z)∧(∀k,nF (ek k)=ag)∧∀k k',dB ks (ek k).cells (ek k').cells=some (eq k k')
  |_=>False
 gP:=ok=ok∧AVal.mp b=AVal.mp b∧ek k=ek k∧some (ah.map m.length (aF ek ev 0 m))=some (ah.map m.length (aF ek ev 0 m))∧some (some ks,ag,some z)=some (some ks,ag,some z)∧(∀_:K,ag=ag)∧∀k k',some (eq k k')=some (eq k k')
 holds:=⟨rfl,rfl,rfl,rfl,rfl,fun _=>rfl,fun _ _=>rfl⟩
 sound gl P cfg nid op ai H h x hx:=by
  cases op<;>try exact h.elim
  rename_i T a i ok';obtain⟨rfl,h1,h2,h3,h4,h5,h6⟩:=h;unfold zX at h4;split at h4
  ·rename_i TK TE hu;simp only[Option.some.injEq,Prod.mk.injEq]at h4;obtain⟨t1,t2,t3⟩:=h4;have hk:lD P TK (ek k)=some ks:=by simp[lD,t1,h5,t2]
   have hf:=ve (ev:=ev) (eq:=eq) h5 h6 k m 0 0;simp only[bQ,di,cG,yG,hu,h2,hk,h1,mapOf,Rd.bind,Rd.run,Rd.reads,h3,h6,t2,hf,t3,if_false,Bool.false_eq_true];cases hfm:aY eq k m 0 with
   |none=>rw[hfm]at hx;cases hx
   |some q=>
    rw[hfm]at hx;simp only[Option.map_some,Option.some.injEq]at hx;subst hx;cases ok'<;>simp[Rd.bind,Rd.run,Rd.reads]
  ·cases h4
def RT(m:List (K×V))(k:K)(ek:K→AVal)(ev:V→AVal)(eq:K→K→Bool)(z:AVal)(ks:List Kd)(ag ok:Bool)(b:Nat):mP Unit where
 run:=if(aY eq k m 0).isSome then none else some ()
 bA _:={val:=match ok with
  |true=>.dg [z,.sc (.bool false)]
  |false=>z}
 ids:=[b]
 oD gl P cfg nid op ai H:=match op with
  | .lookup T x i ok'=>ok'=ok∧ai x=.mp b∧ai i=ek k∧H[b]? =some (.map m.length (aF ek ev 0 m))∧zX P T=some (some ks,ag,some z)∧(∀k,nF (ek k)=ag)∧∀k k',dB ks (ek k).cells (ek k').cells=some (eq k k')
  |_=>False
 gP:=ok=ok∧AVal.mp b=AVal.mp b∧ek k=ek k∧some (ah.map m.length (aF ek ev 0 m))=some (ah.map m.length (aF ek ev 0 m))∧some (some ks,ag,some z)=some (some ks,ag,some z)∧(∀_:K,ag=ag)∧∀k k',some (eq k k')=some (eq k k')
 holds:=⟨rfl,rfl,rfl,rfl,rfl,fun _=>rfl,fun _ _=>rfl⟩
 sound gl P cfg nid op ai H h x hx:=by
  cases op<;>try exact h.elim
  rename_i T a i ok';obtain⟨rfl,h1,h2,h3,h4,h5,h6⟩:=h;unfold zX at h4;split at h4
  ·rename_i TK TE hu;simp only[Option.some.injEq,Prod.mk.injEq]at h4;obtain⟨t1,t2,t3⟩:=h4;have hk:lD P TK (ek k)=some ks:=by simp[lD,t1,h5,t2]
   have hf:=ve (ev:=ev) (eq:=eq) h5 h6 k m 0 0;simp only[bQ,di,cG,yG,hu,h2,hk,h1,mapOf,Rd.bind,Rd.run,Rd.reads,h3,h6,t2,hf,t3,if_false,Bool.false_eq_true];cases hfm:aY eq k m 0 with
   |none=>cases ok'<;>simp[Rd.bind,Rd.run,Rd.reads]
   |some q=>rw[hfm]at hx;simp at hx
  ·cases h4
end
def zZ(t:ByteArray)(i:Int):mP Int where
 run:=if 0≤i then(t[i.toNat]?).map fun b=>(b.toNat:Int)else none
 bA x:={val:=.sc (.int .u8 x)}
 ids:=[]
 oD _ P _ _ op ai _:=match op with
  | .index T a b=>(match P.underlying T with |some .string=>true |_=>false)=true∧ai a=.sc (.string t)∧intOf (ai b)=some i
  |_=>False
 gP:=(@Eq Bool true true)∧AVal.sc (.string t)=AVal.sc (.string t)∧some i=some i
 holds:=⟨rfl,rfl,rfl⟩
 sound gl P cfg nid op ai H h x hx:=by
  cases op<;>try exact h.elim
  rename_i T a b;obtain⟨h1,h2,h3⟩:=h;split at h1
  ·rename_i hu;have hb:∃k,ai b=.sc (.int k i):=by
    unfold intOf at h3;split at h3
    ·rename_i k n hb;simp only[Option.some.injEq]at h3;subst h3;exact⟨k,hb⟩
    ·cases h3
   obtain⟨k,hb⟩:=hb;split at hx
   ·rename_i h0;obtain⟨q,hq,rfl⟩:=Option.map_eq_some_iff.1 hx;simp[bQ,di,cG,h2,hb,EW,hu,h0,hq,yields,Rd.bind,Rd.run,Rd.reads]
   ·cases hx
  ·cases h1
def Sf(n by_ nid0:Nat)(zs:List AVal)(c:Int):mP Unit where
 run:=if 0≤c∧roomy c.toNat by_=true then some ()else none
 bA _:={val:=.sl nid0 0 n 0 0,ej:=[(nid0,.row 0 n [])]}
 ids:=[nid0]
 oD gl P cfg nid op ai H:=match op with
  | .makeSlice T a b=>nid=nid0∧H[nid]? =some .bw∧intOf (ai a)=some 0∧intOf (ai b)=some c∧yY P T=some (n,by_,true)∧(match P.underlying T with |some (.slice e)=>iX P e |_=>none)=some zs∧Nat.beq zs.length n=true∧decide (0<n)=true
  |_=>False
 gP:=nid0=nid0∧some ah.bw=some ah.bw∧some (0:Int)=some 0∧some c=some c∧some (n,by_,true)=some (n,by_,true)∧some zs=some zs∧ @Eq Bool true true∧ @Eq Bool true true
 holds:=by simp
 sound gl P cfg nid op ai H h x hx:=by
  cases op<;>try exact h.elim
  rename_i T a b;obtain⟨rfl,hunb,h1,h2,h3,h4,h5,h6⟩:=h;obtain⟨k1,h1⟩:=hG h1;obtain⟨k2,h2⟩:=hG h2;obtain⟨e,i,e1,e2,e3,e4,e5⟩:=xO h3;rw[e1]at h4;simp only at h4;simp only[decide_eq_true_eq]at h6;have h5:=Nat.eq_of_beq_eq_true h5;split at hx
  ·rename_i h0;have hop:pL P nid T (ai a) (ai b)=some {val:=.sl nid 0 i.size 0 0,ej:=[(nid,.row 0 i.size [])]}:=by
    rw[h1,h2];simp only[pL,e1,e2,h4];rw[if_pos ⟨Int.le_refl _,h0.1,by rw[e4];exact h0.2,by rw[h5,e3],by omega⟩]
    rfl
   simp[bQ,di,cG,hop,uL,Rd.bind,Rd.run,Rd.reads,hunb,e3]
  ·cases hx
end Go.AM
end
section
namespace Go.AM
def wZ{α β:Type}:List α→(α→Option (List β))→Option (List β)
 | [],_=>some []
 |a::as,f=>match f a with
  |some l=>match wZ as f with
   |some m=>some (l++m)
   |none=>none
  |none=>none
theorem nP{α β:Type}{f:α→Option (List β)}:∀{l:List α} {m:List β},wZ l f=some m→∀a∈l,∃la,f a=some la∧∀x∈la,x∈m
 | [],_,_,a,ha=>by cases ha
 |b::l,m,h,a,ha=>by
  simp only[wZ]at h;split at h
  ·rename_i lb hb;split at h
   ·rename_i mm hm;simp only[Option.some.injEq]at h;subst h;rcases List.mem_cons.1 ha with rfl |ha
    ·grind
    ·obtain⟨la,h1,h2⟩:=nP hm a ha;grind
   ·cases h
  ·cases h
def Ft{σ τ:Type}(f:σ→Option (List (σ⊕τ))):Nat→σ→Option (List τ)
 | 0,_=>none
 |n+1,a=>match f a with
  |some l=>wZ l fun
   | .inl a'=>Ft f n a'
   | .inr t=>some [t]
  |none=>none
theorem BN{σ τ:Type}{f:σ→Option (List (σ⊕τ))}{F:σ→((σ⊕τ)→Prop)→Prop}(hF:∀a l (q:σ⊕τ→Prop),f a=some l→(∀x∈l,q x)→F a q):
 ∀(n:Nat) (a:σ) (l:List τ) (p:τ→Prop),Ft f n a=some l→(∀t∈l,p t)→pV F n a p
 | 0,_,_,_,h,_=>by cases h
 |n+1,a,l,p,h,hp=>by
  simp only[Ft]at h;split at h
  ·rename_i l0 h0;refine hF a l0 _ h0 fun x hx=>?_
   obtain⟨la,h1,h2⟩:=nP h x hx;cases x with
   |inl a'=>exact BN hF n a' la p h1 fun t ht=>hp t (h2 t ht)
   |inr t=>
    grind
  ·cases h
def Ic(n:Nat)(seen:List Nat):List Nat:=(List.range n).filter fun i=> !seen.contains i
section
variable {P:Program} [aH]
def G.runs(n:Nat):{ρ:Type}→G P ρ→Option (List ρ)
 |_,.stop=>none
 |_,.done ts r=>if aN ts then some [r]else none
 |_,.fail=>none
 |_,.skip _ g=>g.runs n
 |_,.br _ c t f=>if c then t.runs n else f.runs n
 |_,.Ed _ _ x c t f=>if x=c then t.runs n else f.runs n
 |_,.sp c t f=>if c then t.runs n else f.runs n
 |_,.op t k=>t.run.bind fun x=>(k x).runs n
 |_,.call c x k=>(c.S n x).bind fun r=>(k r).runs n
 |_,.cR c x k=>(c.S n x).bind fun r=>(k r).runs n
 |_,.cB c _ _ _ x k=>(c.S n x).bind fun r=>(k r).runs n
 |_,.tidy l g=>if aN l then g.runs n else none
 |_,.loop _ hd _ _ a0 body k=>if aN hd then(Ft (fun a=>(body a).runs n) n a0).bind fun ts=>wZ ts fun t=>(k t).runs n else none
 |_,.nr _ _ hd _ _ a0 body k=>if aN hd then(Ft (fun a=>(body a).runs n) n a0).bind fun ts=>wZ ts fun t=>(k t).runs n else none
 |_,.gm _ g=>g.runs n
 |_,.wV _ _ g=>g.runs n
 |_,.join _ _ g k=>(g.runs n).bind fun ts=>wZ ts fun t=>(k t).runs n
 |_,.grow z k=>if z.ok then wZ [true,false] fun t=>(k t).runs n else none
 |_,.pick z seen k=>match Ic z.n seen with
  | []=>(k none).runs n
  |l=>wZ l fun i=>(k (some i)).runs n
 |_,.inl _ g=>g.runs n
theorem G.dD(n:Nat):∀{ρ:Type} (g:G P ρ) {p q:ρ→Prop},(∀r,p r→q r)→g.can n p→g.can n q
 |_,.stop,_,_,_,h=>h
 |_,.done ts r,_,_,hpq,h=>⟨h.1,hpq _ h.2⟩
 |_,.fail,_,_,_,h=>h
 |_,.skip _ g,_,_,hpq,h=>G.dD n g hpq h
 |_,.br _ c t f,_,_,hpq,h=>by
  simp only[G.can]at h ⊢;split at h
  ·rename_i hc;rw[if_pos hc];exact G.dD n t hpq h
  ·rename_i hc;rw[if_neg hc];exact G.dD n f hpq h
 |_,.Ed _ _ x c t f,_,_,hpq,h=>by
  simp only[G.can]at h ⊢;split at h
  ·rename_i hc;rw[if_pos hc];exact G.dD n t hpq h
  ·rename_i hc;rw[if_neg hc];exact G.dD n f hpq h
 |_,.sp c t f,_,_,hpq,h=>by
  simp only[G.can]at h ⊢;split at h
  ·rename_i hc;rw[if_pos hc];exact G.dD n t hpq h
  ·rename_i hc;rw[if_neg hc];exact G.dD n f hpq h
 |_,.op t k,_,_,hpq,h=>by
  obtain⟨x,h1,h2⟩:=h;exact⟨x,h1,G.dD n (k x) hpq h2⟩
 |_,.call c x k,_,_,hpq,h=>by
  obtain⟨r,h1,h2⟩:=h;exact⟨r,h1,G.dD n (k r) hpq h2⟩
 |_,.cR c x k,_,_,hpq,h=>by
  obtain⟨r,h1,h2⟩:=h;exact⟨r,h1,G.dD n (k r) hpq h2⟩
 |_,.cB c _ _ _ x k,_,_,hpq,h=>by
  obtain⟨r,h1,h2⟩:=h;exact⟨r,h1,G.dD n (k r) hpq h2⟩
 |_,.tidy l g,_,_,hpq,h=>⟨h.1,G.dD n g hpq h.2⟩
 |_,.loop _ hd _ _ a0 body k,p,q,hpq,h=>by
  refine⟨h.1,?_⟩;have mono:∀(m:Nat) (a:_),pV (fun a q=>(body a).can n q) m a (fun t=>(k t).can n p)→pV (fun a q=>(body a).can n q) m a (fun t=>(k t).can n q):=by
   intro m;induction m with
   |zero=>exact fun a h=>h.elim
   |succ m ih=>
    intro a h;refine G.dD n (body a) (fun v hv=>?_) h
    cases v with
    |inl a'=>exact ih a' hv
    |inr t=>exact G.dD n (k t) hpq hv
  exact mono n a0 h.2
 |_,.nr _ _ hd _ _ a0 body k,p,q,hpq,h=>by
  refine⟨h.1,?_⟩;have mono:∀(m:Nat) (a:_),pV (fun a q=>(body a).can n q) m a (fun t=>(k t).can n p)→pV (fun a q=>(body a).can n q) m a (fun t=>(k t).can n q):=by
   intro m;induction m with
   |zero=>exact fun a h=>h.elim
   |succ m ih=>
    intro a h;refine G.dD n (body a) (fun v hv=>?_) h
    cases v with
    |inl a'=>exact ih a' hv
    |inr t=>exact G.dD n (k t) hpq hv
  exact mono n a0 h.2
 |_,.gm _ g,_,_,hpq,h=>G.dD n g hpq h
 |_,.wV _ _ g,_,_,hpq,h=>G.dD n g hpq h
 |_,.join _ _ g k,_,_,hpq,h=>G.dD n g (fun t ht=>G.dD n (k t) hpq ht) h
 |_,.grow z k,_,_,hpq,h=>⟨h.1,G.dD n (k true) hpq h.2.1,G.dD n (k false) hpq h.2.2⟩
 |_,.pick z seen k,_,_,hpq,h=>⟨fun ha=>G.dD n (k none) hpq (h.1 ha),fun i hi hn=>G.dD n (k (some i)) hpq (h.2 i hi hn)⟩
 |_,.inl _ g,_,_,hpq,h=>G.dD n g hpq h
theorem G.eo(n:Nat):∀{ρ:Type} (g:G P ρ) (l:List ρ) (p:ρ→Prop),g.runs n=some l→(∀r∈l,p r)→g.can n p
 |_,.stop,_,_,h,_=>by cases h
 |_,.done ts r,l,p,h,hp=>by
  simp only[G.runs,Option.ite_none_right_eq_some,Option.some.injEq]at h;obtain⟨h1,rfl⟩:=h;exact⟨h1,hp r (by simp)⟩
 |_,.fail,_,_,h,_=>by cases h
 |_,.skip _ g,l,p,h,hp=>G.eo n g l p h hp
 |_,.br _ c t f,l,p,h,hp=>by
  simp only[G.runs]at h;simp only[G.can];split at h
  ·rename_i hc;rw[if_pos hc];exact G.eo n t l p h hp
  ·rename_i hc;rw[if_neg hc];exact G.eo n f l p h hp
 |_,.Ed _ _ x c t f,l,p,h,hp=>by
  simp only[G.runs]at h;simp only[G.can];split at h
  ·rename_i hc;rw[if_pos hc];exact G.eo n t l p h hp
  ·rename_i hc;rw[if_neg hc];exact G.eo n f l p h hp
 |_,.sp c t f,l,p,h,hp=>by
  simp only[G.runs]at h;simp only[G.can];split at h
  ·rename_i hc;rw[if_pos hc];exact G.eo n t l p h hp
  ·rename_i hc;rw[if_neg hc];exact G.eo n f l p h hp
 |_,.op t k,l,p,h,hp=>by
  obtain⟨x,h1,h2⟩:=Option.bind_eq_some_iff.1 (show t.run.bind (fun x=>(k x).runs n)=some l from h)
  exact⟨x,h1,G.eo n (k x) l p h2 hp⟩
 |_,.call c x k,l,p,h,hp=>by
  obtain⟨r,h1,h2⟩:=Option.bind_eq_some_iff.1 (show(c.S n x).bind (fun r=>(k r).runs n)=some l from h)
  exact⟨r,h1,G.eo n (k r) l p h2 hp⟩
 |_,.cR c x k,l,p,h,hp=>by
  obtain⟨r,h1,h2⟩:=Option.bind_eq_some_iff.1 (show(c.S n x).bind (fun r=>(k r).runs n)=some l from h)
  exact⟨r,h1,G.eo n (k r) l p h2 hp⟩
 |_,.cB c _ _ _ x k,l,p,h,hp=>by
  obtain⟨r,h1,h2⟩:=Option.bind_eq_some_iff.1 (show(c.S n x).bind (fun r=>(k r).runs n)=some l from h)
  exact⟨r,h1,G.eo n (k r) l p h2 hp⟩
 |_,.tidy ts g,l,p,h,hp=>by
  simp only[G.runs,Option.ite_none_right_eq_some]at h;exact⟨h.1,G.eo n g l p h.2 hp⟩
 |_,.loop _ hd _ _ a0 body k,l,p,h,hp=>by
  simp only[G.runs,Option.ite_none_right_eq_some]at h;obtain⟨h1,h⟩:=h;obtain⟨ts,h2,h3⟩:=Option.bind_eq_some_iff.1 h;refine⟨h1,BN (fun a l q h hq=>G.eo n (body a) l q h hq) n a0 ts _ h2 fun t ht=>?_⟩
  obtain⟨la,h4,h5⟩:=nP h3 t ht;exact G.eo n (k t) la p h4 fun r hr=>hp r (h5 r hr)
 |_,.nr _ _ hd _ _ a0 body k,l,p,h,hp=>by
  simp only[G.runs,Option.ite_none_right_eq_some]at h;obtain⟨h1,h⟩:=h;obtain⟨ts,h2,h3⟩:=Option.bind_eq_some_iff.1 h;refine⟨h1,BN (fun a l q h hq=>G.eo n (body a) l q h hq) n a0 ts _ h2 fun t ht=>?_⟩
  obtain⟨la,h4,h5⟩:=nP h3 t ht;exact G.eo n (k t) la p h4 fun r hr=>hp r (h5 r hr)
 |_,.gm _ g,l,p,h,hp=>G.eo n g l p h hp
 |_,.wV _ _ g,l,p,h,hp=>G.eo n g l p h hp
 |_,.join _ _ g k,l,p,h,hp=>by
  obtain⟨ts,h2,h3⟩:=Option.bind_eq_some_iff.1 (show(g.runs n).bind (fun ts=>wZ ts fun t=>(k t).runs n)=some l from h)
  refine G.eo n g ts _ h2 fun t ht=>?_
  obtain⟨la,h4,h5⟩:=nP h3 t ht;exact G.eo n (k t) la p h4 fun r hr=>hp r (h5 r hr)
 |_,.grow z k,l,p,h,hp=>by
  simp only[G.runs]at h;split at h
  ·rename_i hz;obtain⟨la,h4,h5⟩:=nP h true (by simp)
   obtain⟨lb,h6,h7⟩:=nP h false (by simp)
   exact⟨hz,G.eo n (k true) la p h4 fun r hr=>hp r (h5 r hr),G.eo n (k false) lb p h6 fun r hr=>hp r (h7 r hr)⟩
  ·cases h
 |_,.pick z seen k,l,p,h,hp=>by
  have hm:∀i,i∈Ic z.n seen↔i<z.n∧i∉seen:=fun i=>by simp[Ic]
  simp only[G.runs]at h;refine⟨fun ha=>?_,fun i hi hn=>?_⟩
  ·have h0:Ic z.n seen=[]:=by
    rw[List.eq_nil_iff_forall_not_mem];exact fun i hi=>((hm i).1 hi).2 (ha i ((hm i).1 hi).1)
   rw[h0]at h;exact G.eo n (k none) l p h hp
  ·have hin:=(hm i).2 ⟨hi,hn⟩;split at h
   ·rename_i h0;rw[h0]at hin;cases hin
   ·obtain⟨la,h4,h5⟩:=nP h i hin;exact G.eo n (k (some i)) la p h4 fun r hr=>hp r (h5 r hr)
 |_,.inl _ g,l,p,h,hp=>G.eo n g l p h hp
def L4:aR→aR→Bool
 | .ret a,.ret b=>same a b
 | .bg a,.bg b=>same a b
 |_,_=>false
theorem O3{a b:aR}(h:L4 a b=true):a=b:=by
 cases a<;>cases b<;>simp only[L4,Bool.false_eq_true]at h
 ·rw[vS _ _ h]
 ·rw[vS _ _ h]
def oneOf{ρ:Type}(out:ρ→aR):List ρ→Option ρ
 | []=>none
 |r::rs=>if rs.all (fun x=>L4 (out x) (out r))then some r else none
def CP.one(c:CP P):aK P:=c.all (fun n x=>((c.g x).runs n).bind (oneOf c.out)) fun n x r h=>by
 obtain⟨l,h1,h2⟩:=Option.bind_eq_some_iff.1 h;refine⟨n,G.eo n (c.g x) l _ h1 fun y hy=>?_⟩
 cases l with
 |nil=>cases h2
 |cons r0 rs=>
  grind [oneOf,O3]
end
end Go.AM
end
section
namespace Go.AM
section
variable [aH] {P:Program} {cfg:fF}
def qR(bs:List Nat)(n j:Nat):Nat:=match bs[j]? with
 |some b=>b
 |none=>n+(j - bs.length)
def w9(bs:List Nat)(n b:Nat):Option Nat:=match oG b bs 0 with
 |some j=>some j
 |none=>match Nat.blt b n with
  |true=>none
  |false=>some (bs.length+(b - n))
def vg(bs:List Nat)(n:Nat):Ren:=fun j v=>some (qR bs n j,v)
def Jh(bs:List Nat)(n:Nat):Ren:=fun b v=>(w9 bs n b).map fun j=>(j,v)
def DF(bs:List Nat)(n m:Nat):Bool:=yR bs&&bs.all (fun b=>Nat.blt b n)&&Nat.beq bs.length m
theorem Ki{bs:List Nat}{n m:Nat}(h:DF bs n m=true):yR bs=true∧(∀b∈bs,b<n)∧bs.length=m:=by
 simp only[DF,Bool.and_eq_true,List.all_eq_true,Nat.blt_eq]at h;simp_all
theorem BO{bs:List Nat}{n:Nat}(hn:yR bs=true)(hlt:∀b∈bs,b<n)(j:Nat):w9 bs n (qR bs n j)=some j:=by
 unfold qR;split
 ·rename_i b hb;have:=Ap 0 hn hb;grind [w9]
 ·rename_i hb;rw[List.getElem?_eq_none_iff]at hb;have hno:oG (n+(j - bs.length)) bs 0=none:=by
   cases hi:oG (n+(j - bs.length)) bs 0 with
   |none=>rfl
   |some i=>
    obtain⟨_,h2⟩:=uF hi;have:=hlt _ (List.mem_of_getElem? h2);omega
  simp only[w9,hno];have:Nat.blt (n+(j - bs.length)) n=false:=by
   rw[← Bool.not_eq_true,Nat.blt_eq];omega
  grind
theorem wh{bs:List Nat}{n b j:Nat}(h:w9 bs n b=some j):qR bs n j=b:=by
 unfold w9 at h;split at h
 ·rename_i i hi;simp only[Option.some.injEq]at h;subst h;obtain⟨_,h2⟩:=uF hi;grind [qR]
 ·split at h
  ·cases h
  ·rename_i hb;rw[← Bool.not_eq_true,Nat.blt_eq]at hb;grind [qR]
mutual
theorem DG{f f':Ren}(h:∀b v,∃b',f b v=some (b',v)∧f' b' v=some (b,v)):∀(a:AVal),(a.jm f).jm f'=a
 | .sc _=>rfl
 | .agg cs=>by simp only[AVal.jm,rH h cs]
 | .dg cs=>by simp only[AVal.jm,rH h cs]
 | .ptr b v i o=>by obtain⟨b',h1,h2⟩:=h b v;simp[AVal.jm,h1,h2]
 | .bV .. =>rfl
 | .sl b v sz o n=>by obtain⟨b',h1,h2⟩:=h b v;simp[AVal.jm,h1,h2]
 | .aB _=>rfl
 | .fn g a b=>by simp only[AVal.jm,rH h a,rH h b]
 | .fK t v=>by simp only[AVal.jm,DG h v]
 | .mp b=>by obtain⟨b',h1,h2⟩:=h b 0;simp[AVal.jm,h1,h2]
 | .jf b=>by obtain⟨b',h1,h2⟩:=h b 0;simp[AVal.jm,h1,h2]
 | .sa b v i o s n=>by obtain⟨b',h1,h2⟩:=h b v;simp[AVal.jm,h1,h2]
 | .gB .. =>rfl
 | .emp=>rfl
 | .nz _=>rfl
 | .ak=>rfl
theorem rH{f f':Ren}(h:∀b v,∃b',f b v=some (b',v)∧f' b' v=some (b,v)):∀(l:List AVal),AVal.oq f' (AVal.oq f l)=l
 | []=>rfl
 |a::as=>by simp only[AVal.oq,DG h a,rH h as]
end
def wj(f:Ren)(bs pu:List Nat)(H:List ah):Nat→Nat→List ah
 | 0,_=>[]
 |k+1,i=>(match oG i bs 0 with
  |some j=>iR f (pu.contains j) none (H.getD j .dead)
  |none=>.dead)::wj f bs pu H k (i+1)
def uG(f:Ren)(pu:List Nat):Nat→List ah→List ah
 |_,[]=>[]
 |j,x::xs=>iR f (pu.contains j) none x::uG f pu (j+1) xs
def qu(bs pu:List Nat)(n:Nat)(H:List ah):List ah:=wj (vg bs n) bs pu H n 0++uG (vg bs n) pu bs.length (H.drop bs.length)
theorem sL(f:Ren)(bs pu:List Nat)(H:List ah):∀(k i:Nat),(wj f bs pu H k i).length=k
 | 0,_=>rfl
 |k+1,i=>by simp[wj,sL f bs pu H k (i+1)]
theorem Eh(f:Ren)(bs pu:List Nat)(H:List ah):∀(k i b:Nat),b<k→(wj f bs pu H k i)[b]? =some (match oG (i+b) bs 0 with |some j=>iR f (pu.contains j) none (H.getD j .dead) |none=>.dead)
 | 0,_,_,h=>by omega
 |k+1,i,0,_=>by simp[wj]
 |k+1,i,b+1,h=>by
  simp only[wj,List.getElem?_cons_succ];rw[Eh f bs pu H k (i+1) b (by omega),show i+1+b=i+(b+1)by omega]
theorem A5(f:Ren)(pu:List Nat):∀(j:Nat) (l:List ah),(uG f pu j l).length=l.length
 |_,[]=>rfl
 |j,_::xs=>by simp[uG,A5 f pu (j+1) xs]
theorem Ei(f:Ren)(pu:List Nat):∀(j:Nat) (l:List ah) (b:Nat),(uG f pu j l)[b]? =(l[b]?).map fun x=>iR f (pu.contains (j+b)) none x
 |_,[],_=>by simp[uG]
 |j,_::xs,0=>by simp[uG]
 |j,_::xs,b+1=>by
  simp only[uG,List.getElem?_cons_succ];rw[Ei f pu (j+1) xs b,show j+1+b=j+(b+1)by omega]
theorem Ch(bs pu:List Nat)(n:Nat)(H:List ah):(qu bs pu n H).length=n+(H.length - bs.length):=by
 simp[qu,sL,A5]
theorem Fu{bs pu:List Nat}{n:Nat}{H:List ah}(hlt:∀b∈bs,b<n)(hl:bs.length≤H.length)(b:Nat):
 (qu bs pu n H)[b]? =match w9 bs n b with
  |some j=>(H[j]?).map fun x=>iR (vg bs n) (pu.contains j) none x
  |none=>some .dead:=by
 by_cases hb:b<n
 ·rw[qu,List.getElem?_append_left (by rw[sL];exact hb),Eh _ _ _ _ _ _ _ hb]
  simp only[Nat.zero_add,w9];cases hi:oG b bs 0 with
  |some j=>
   obtain⟨_,h2⟩:=uF hi;grind
  |none=>
   have:Nat.blt b n=true:=by rw[Nat.blt_eq];exact hb
   simp[this]
 ·have hno:oG b bs 0=none:=by
   cases hi:oG b bs 0 with
   |none=>rfl
   |some i=>
    obtain⟨_,h2⟩:=uF hi;exact absurd (hlt _ (List.mem_of_getElem? h2)) hb
  have h2:Nat.blt b n=false:=by rw[← Bool.not_eq_true,Nat.blt_eq];exact hb
  grind [qu,sL,Ei,w9]
theorem mS(f:Ren)(p:Bool)(x:ah):(iR f p none x).live=x.live:=by cases x<;>rfl
theorem Kj{f f':Ren}(h:∀b v,∃b',f b v=some (b',v)∧f' b' v=some (b,v))(p:Bool){x:ah}(hp:p=true→qI x=true)(hl:x.live≠none):IX f' (iR f p none x) x:=by
 cases x with
 |bw=>exact absurd rfl hl
 |dead=>exact absurd rfl hl
 |row v sz rows=>
  refine⟨rfl,?_⟩;cases p with
  |true=>grind [qI]
  |false=>exact .inr (by simp[List.map_map,Function.comp_def,rH h])
 |map c es=>
  refine⟨rfl,?_⟩;cases p with
  |true=>grind [qI]
  |false=>exact .inr (by simp[List.map_map,Function.comp_def,DG h])
 |loop st pend fid A ps as bd=>exact⟨rfl,rfl,rfl,rfl,rfl,rfl,(rH h A).symm⟩
 |defs=>trivial
 |iter m since seen stepped=>exact⟨rfl,rfl,rfl,(DG h m).symm⟩
def aR.Ra(f:Ren):aR→aR
 | .ret u=>.ret (u.jm f)
 | .bg u=>.bg u
open Classical in
theorem cg.place{f:FuncId}{args:List AVal}{H H1:List ah}{r:aR}(h:cg P f args H r H1){bs pu s7:List Nat}{n:Nat}(hb:DF bs n H.length=true)(hl1:H.length≤H1.length)(AY:CI pu H)(hpo:CI s7 H1)(hf:∀v,r=.bg v→v.flat=true):
 cg P f (AVal.oq (vg bs n) args) (qu bs pu n H) (r.Ra (vg bs n)) (qu bs s7 n H1):=by
 obtain⟨hn,hlt,hm⟩:=Ki hb;have hinv:∀b v,∃b',vg bs n b v=some (b',v)∧Jh bs n b' v=some (b,v):=fun b v=>⟨_,rfl,by simp[Jh,BO hn hlt]⟩
 refine⟨h.1,fun g w vs hi hl=>?_⟩
 have hK:=Fu (pu:=pu) (H:=H) hlt (by omega)
 have hK1:=Fu (pu:=s7) (H:=H1) hlt (by omega)
 have hKf:∀j,(qu bs pu n H)[qR bs n j]? =(H[j]?).map fun x=>iR (vg bs n) (pu.contains j) none x:=fun j=>by rw[hK,BO hn hlt]
 have hKlen:=Ch bs pu n H;have hK1len:=Ch bs s7 n H1;generalize qu bs pu n H=K at*;generalize qu bs s7 n H1=K1 at*;have hpb:∀{j x},H[j]? =some x→pu.contains j=true→qI x=true:=fun hx hc=>AY _ (by simpa using hc) _ hx
 have hpb1:∀{j x},H1[j]? =some x→s7.contains j=true→qI x=true:=fun hx hc=>hpo _ (by simpa using hc) _ hx
 let g':Gh:=⟨fun j v=>g.ai (qR bs n j) v,g.st⟩
 have hi':Inv g' H w:=by
  refine hi.jm (f:=Jh bs n) ⟨rfl,fun b v b' v' x hr hx=>?_,fun j x' hx=>?_,fun j v hj=>?_,fun j x' v v' hx hv hlt'=>?_⟩
  ·simp only[Jh,Option.map_eq_some_iff,Prod.mk.injEq]at hr;grind [qR,wh]
  ·by_cases hl:x'.live=none
   ·exact .inl hl
   ·obtain⟨v,hv⟩:=Option.ne_none_iff_exists'.1 hl;refine .inr ⟨qR bs n j,_,v,v,by rw[hKf,hx];rfl,by rw[mS];exact hv,hv,by simp[Jh,BO hn hlt],rfl,Kj hinv _ (fun hc=>hpb hx hc) hl⟩
  ·show g.ai (qR bs n j) v=none;refine hi.fresh _ _ ?_;rcases hj with hj |hj
   ·left;rw[hKf,hj];rfl
   grind
  ·exact hi.next (qR bs n j) _ v v' (by rw[hKf,hx];rfl) (by rw[mS];exact hv) hlt'
 have hl':RL g' w args vs.toList:=by
  have:=tG (g:=g) (g':=g') (f:=Jh bs n) (fun _ _ h=>h) (fun b v b' v' x hr hx=>by
   simp only[Jh,Option.map_eq_some_iff,Prod.mk.injEq]at hr;grind [qR,wh]) _ _ hl
  rwa[rH hinv]at this
 refine(h.2 g' w vs hi' hl').mono fun e w' ⟨g1',hi1,hla,he⟩=>?_
 let g1:Gh:=⟨fun b v=>match w9 bs n b with |some j=>g1'.ai j v |none=>g.ai b v,g1'.st⟩
 have g1f:∀j v,g1.ai (qR bs n j) v=g1'.ai j v:=fun j v=>by simp only[g1,BO hn hlt]
 have own1:∀k,ga g' H k→ga g K k:=by
  rintro k ⟨j,x,v,z,hx,hv,hk⟩;exact⟨qR bs n j,_,v,z,by rw[hKf,hx];rfl,by rw[mS];exact hv,hk⟩
 have own2:∀k,ga g1 K1 k→ga g1' H1 k:=by
  rintro k ⟨b,x,v,z,hx,hv,hk⟩;rw[hK1]at hx;simp only[g1]at hk;split at hx
  ·rename_i j hj;rw[hj]at hk;obtain⟨y,hy,rfl⟩:=Option.map_eq_some_iff.1 hx;exact⟨j,y,v,z,hy,by rw[mS]at hv;exact hv,hk⟩
  ·simp only[Option.some.injEq]at hx;subst hx;cases hv
 have hinv1:Inv g1 K1 w':=by
  refine hi1.jm (f:=vg bs n) ⟨rfl,fun j v b' v' x hr hx=>?_,fun b x' hx=>?_,fun b v hb=>?_,fun b x' v v' hx hv hlt'=>?_⟩
  ·grind [vg]
  ·rw[hK1]at hx;split at hx
   ·rename_i j hj;obtain⟨y,hy,rfl⟩:=Option.map_eq_some_iff.1 hx;by_cases hl:y.live=none
    ·grind [mS]
    ·obtain⟨v,hv⟩:=Option.ne_none_iff_exists'.1 hl;grind [mS,vg,wh,yw]
   ·simp only[Option.some.injEq]at hx;subst hx;exact .inl rfl
  ·rcases hb with hb |hb
   ·rw[hK1]at hb;split at hb
    ·rename_i j hj;obtain⟨y,hy,he⟩:=Option.map_eq_some_iff.1 hb;have:y=.bw:=by cases y<;>simp[iR]at he<;>rfl
     subst this;simp only[g1,hj];exact hi1.fresh j v (.inl hy)
    ·cases hb
   ·have hno:K1[b]? =none:=List.getElem?_eq_none_iff.2 hb;rw[hK1]at hno;split at hno
    ·rename_i j hj;simp only[g1,hj];exact hi1.fresh j v (.inr (by simpa using hno))
    ·cases hno
  ·rw[hK1]at hx;split at hx
   ·rename_i j hj;obtain⟨y,hy,rfl⟩:=Option.map_eq_some_iff.1 hx;rw[mS]at hv;simp only[g1,hj];exact hi1.next j y v v' hy hv hlt'
   ·simp only[Option.some.injEq]at hx;subst hx;cases hv
 refine⟨g1,hinv1,⟨⟨fun b v y hy=>?_,hla.ext.st,hla.ext.cell,hla.ext.shape⟩,hla.size,fun k hk ho=>hla.keep k hk fun o=>ho (own1 k o),fun k hk ho=>own1 k (hla.own k hk (own2 k ho)),by omega,hla.os,hla.tape,hla.output,
  fun k o hk hs=>(hla.stk k o hk hs).imp_right fun h=>⟨own1 k h.1,fun o=>h.2 (own2 k o)⟩,fun b hb=>?_,fun b v k z hk=>?_⟩,?_⟩
 ·simp only[g1];split
  ·rename_i j hj;exact hla.ext.ai j v y (by grind [qR,wh])
  ·exact hy
 ·rw[hK]at hb;rw[hK1];split at hb
  ·rename_i j hj;obtain⟨y,hy,he⟩:=Option.map_eq_some_iff.1 hb;have:y=.dead:=by cases y<;>simp[iR]at he<;>rfl
   subst this;obtain⟨d1,d2⟩:=hla.tV j hy;rw[d1];refine⟨rfl,fun v=>?_⟩
   grind [qR,wh]
  grind
 ·simp only[g1]at hk;split at hk
  ·rename_i j hj;rcases hla.s9 j v k z hk with⟨v1,z1,h1⟩ |h1
   ·grind [qR,wh]
   ·exact .inr h1
  ·exact .inl ⟨v,z,hk⟩
 ·cases r with
  |ret u=>
   obtain⟨y,rfl,hy⟩:=he;exact⟨y,rfl,Fh (g:=g1') (g':=g1) (f:=vg bs n) (fun _ _ h=>h) (fun j v b' v' x hr hx=>by
    grind [vg]) _ _ hy⟩
  |bg u=>
   obtain⟨y,rfl,hy⟩:=he;exact⟨y,rfl,lT _ _ (hf u rfl) hy⟩
structure pX(P:Program)[aH]:Type 1 where
 c:u7 P
 m:Nat
 pu:List Nat
 s7:List Nat
 hl:∀x,(c.heap x).length=m
 ho:∀x r,m≤(c.gM x r).length
 hp:∀x,CI pu (c.heap x)
 hq:∀x r,CI s7 (c.gM x r)
 hf:∀r v,c.out r=.bg v→v.flat=true
def pX.at(c:pX P)(bs:List Nat)(n:Nat)(h:DF bs n c.m=true):u7 P where
 f:=c.c.f
 X:=c.c.X
 args:=fun x=>AVal.oq (vg bs n) (c.c.args x)
 heap:=fun x=>qu bs c.pu n (c.c.heap x)
 sh:=c.c.sh
 out:=fun r=>(c.c.out r).Ra (vg bs n)
 gM:=fun x r=>qu bs c.s7 n (c.c.gM x r)
 S:=c.c.S
 ok:=fun k x r hr=>cg.place (c.c.ok k x r hr) (by rw[c.hl];exact h) (by rw[c.hl];exact c.ho x r) (c.hp x) (c.hq x r) fun v hv=>c.hf r v hv
inductive Rb (P:Program) [aH] {ρ:Type} (a:aR) (H1:List ah) (out:ρ→aR×List ah):Prop
def Fv{ρ:Type}(P:Program)[aH](out:ρ→aR×List ah)(g:G P ρ)(a:aR)(H1:List ah):Prop:=
 match g with
 | .done _ r=>some (a,H1)=some (out r)
 | .fail=>True
 |_=>Rb P a H1 out
def PX{ρ:Type}(P:Program)[aH](cfg:fF)(nd:Bool)(f:FuncId)(args:List AVal)(H:List ah)(out:ρ→aR×List ah)(g:G P ρ):Prop:=
 PM P cfg nd (jY P cfg nd 8) f args H g (Fv P out)
theorem NB(hm : P.follows .mixedOrders = true)(hN : ∀ (f : FuncId) (fn : Func), P.funcs[f]? = some fn → fn.name ≠ "runtime.NumGoroutine"){nd : Bool}{f : FuncId}{args : List AVal}{H : List ah}{ρ : Type}{out : ρ → aR × List ah}{g : G P ρ}
 (h:PX P cfg nd f args H out g) {n:Nat} {r:ρ} (hr:g.run n=some r):cg P f args H (out r).1 (out r).2:=by
 obtain⟨g',a,H1,hk,hr',hf⟩:=(BH (cfg:=cfg) (nd:=nd) hm hN 9).fn (show(jY P cfg nd 9).fn f args H g (Fv P out)from h) hr;unfold Fv at hk;split at hk
 ·grind [G.run]
 ·simp[G.run]at hr'
 ·exact nomatch hk
theorem Qm(hm : P.follows .mixedOrders = true)(hN : ∀ (f : FuncId) (fn : Func), P.funcs[f]? = some fn → fn.name ≠ "runtime.NumGoroutine"){f : FuncId}{args : List AVal}{H : List ah}{ρ : Type}{out : ρ → aR × List ah}{g : G P ρ}
 (h:PX P cfg true f args H out g) {n:Nat} {r:aR×List ah} (hr:g.can n fun y=>out y=r):cg P f args H r.1 r.2:=by
 have hf:=(CO (cfg:=cfg) hm hN 9).fn (show(jY P cfg true 9).fn f args H g (Fv P out)from h) hr;refine⟨hf.1,fun g w vs hi hl=>(hf.2 g w vs hi hl).mono fun e w' ⟨a,H1,⟨g',hk,hr'⟩,hc⟩=>?_⟩
 unfold Fv at hk;split at hk
 ·obtain⟨_,rfl⟩:=hr';grind
 ·exact hr'.elim
 ·exact nomatch hk
def aR.PY:aR→Bool
 | .ret _=>true
 | .bg v=>v.flat
theorem aR.Hi{r:aR}(h:r.PY=true):∀v,r=.bg v→v.flat=true:=by
 rintro v rfl;exact h
theorem CI.of{l:List PU}{pu:List Nat}{H:List ah}(h:KS l H)(e:l.map (·.b)=pu):CI pu H:=e▸I4 h
structure O4(X:Type)(sh:Sh)(args:X→List AVal)(heap:X→List ah)(out:sh.El→aR)(gM:X→sh.El→List ah) where
 m:Nat
 pu:List Nat
 s7:List Nat
 Fw:X→List PU
 BP:X→sh.El→List PU
 hl:∀x,(heap x).length=m
 ho:∀x,sh.all fun r=>Nat.ble m (gM x r).length=true
 hp:∀x,KS (Fw x) (heap x)
 AY:∀x,(Fw x).map (·.b)=pu
 hq:∀x,sh.all fun r=>KS (BP x r) (gM x r)
 Fx:∀x,sh.all fun r=>(BP x r).map (·.b)=s7
 hf:sh.all fun r=>(out r).PY=true
def pX.of[hp:Plain P](cfg:fF)(f:FuncId)(X:Type)(args:X→List AVal)(heap:X→List ah)(sh:Sh)(out:sh.El→aR)(gM:X→sh.El→List ah)(g:X→G P sh.El)(t:O4 X sh args heap out gM)
 (h:∀x,PX P cfg false f (args x) (heap x) (fun r=>(out r,gM x r)) (g x)=(g x).fB (Ib fun r=>(out r,gM x r))):pX P where
 c:={
  f:=f
  X:=X
  args:=args
  heap:=heap
  sh:=sh
  out:=out
  gM:=gM
  S:=fun n x=>(g x).run n
  ok:=fun n x r hr=>NB hp.mixed hp.names (out:=fun r=>(out r,gM x r)) (by rw[h x];exact G.bY (fun _=>rfl) (g x)) hr}
 m:=t.m
 pu:=t.pu
 s7:=t.s7
 hl:=t.hl
 ho:=fun x r=>Nat.le_of_ble_eq_true ((sh.cc _).1 (t.ho x) r)
 hp:=fun x=>.of (t.hp x) (t.AY x)
 hq:=fun x r=>.of ((sh.cc _).1 (t.hq x) r) ((sh.cc _).1 (t.Fx x) r)
 hf:=fun r=>aR.Hi ((sh.cc _).1 t.hf r)
structure Ie(P:Program)[aH]:Type 1 where
 f:FuncId
 X:Type
 args:X→List AVal
 heap:X→List ah
 sh:Sh
 out:sh.El→aR
 gM:X→sh.El→List ah
 g:X→G P sh.El
 t:O4 X sh args heap out gM
 ok:∀n x r,(g x).can n (fun y=>(out y,gM x y)=r)→cg P f (args x) (heap x) r.1 r.2
def Ie.of[hp:Plain P](cfg:fF)(f:FuncId)(X:Type)(args:X→List AVal)(heap:X→List ah)(sh:Sh)(out:sh.El→aR)(gM:X→sh.El→List ah)(g:X→G P sh.El)(t:O4 X sh args heap out gM)
 (h:∀x,PX P cfg true f (args x) (heap x) (fun r=>(out r,gM x r)) (g x)=(g x).fB (Ib fun r=>(out r,gM x r))):Ie P where
 f:=f
 X:=X
 args:=args
 heap:=heap
 sh:=sh
 out:=out
 gM:=gM
 g:=g
 t:=t
 ok:=fun n x r hr=>Qm hp.mixed hp.names (out:=fun r=>(out r,gM x r)) (by rw[h x];exact G.bY (fun _=>rfl) (g x)) hr
def Ie.all(c:Ie P)(S:Nat→c.X→Option c.sh.El)(h:∀n x r,S n x=some r→∃m,(c.g x).can m fun y=>(c.out y,c.gM x y)=(c.out r,c.gM x r)):pX P where
 c:={
  f:=c.f
  X:=c.X
  args:=c.args
  heap:=c.heap
  sh:=c.sh
  out:=c.out
  gM:=c.gM
  S:=S
  ok:=fun n x r hr=>let⟨m,hm⟩:=h n x r hr;c.ok m x (c.out r,c.gM x r) hm}
 m:=c.t.m
 pu:=c.t.pu
 s7:=c.t.s7
 hl:=c.t.hl
 ho:=fun x r=>Nat.le_of_ble_eq_true ((c.sh.cc _).1 (c.t.ho x) r)
 hp:=fun x=>.of (c.t.hp x) (c.t.AY x)
 hq:=fun x r=>.of ((c.sh.cc _).1 (c.t.hq x) r) ((c.sh.cc _).1 (c.t.Fx x) r)
 hf:=fun r=>aR.Hi ((c.sh.cc _).1 c.t.hf r)
end
end Go.AM
end
section
namespace Go.AM
section
variable [aH] {P:Program}
end
end Go.AM
end
