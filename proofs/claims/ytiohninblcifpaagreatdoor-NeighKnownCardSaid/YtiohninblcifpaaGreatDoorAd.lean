/- Parts put together. No conditions. -/
import Derived.Test.YtiohninblcifpaaGreatDoorAc
import Derived.ReadAgain
import Derived.Carry
import Derived.OpenShut
import Derived.IntWalk
import Derived.Maps.RangeRun
set_option linter.unusedSectionVars false
set_option linter.unusedSimpArgs false
set_option linter.unusedVariables false
section
namespace Go.AM
section
variable [aB] {P:Program} {a:Act} {o:Oper} {g:Gh} {H:List aa} {w:World} {ah:Operand→AVal}
theorem K6{ST XT:TypeId}{sz bytes:Nat}(h:Ec P ST XT=some (sz,bytes)):∃e e' i,P.underlying ST=some (.slice e)∧P.underlying XT=some (.slice e')∧P.info? e=some i∧i.size=sz∧i.bytes=bytes∧0<sz∧jA i=true:=by
 grind [Ec]
theorem N0{nid ST XT:Nat}{args:Array Operand}{ats:Array TypeId}{s x:Operand}{b aj sz bytes:Nat}{rows new:List (List AVal)}(hi:Inv g H w)(hρ:∀x,R g w (ah x) (a.eval x))(hn:H[nid]? =some .aV)
 (ho:o.op=.call {callee:=.builtin .append,args:=args,argTypes:=ats}) (h0:ats[0]? =some ST) (h1:ats[1]? =some XT) (hs0:args[0]? =some s) (hx0:args[1]? =some x) (hsz:args.size=2)
 (hT:Ec P ST XT=some (sz,bytes)) (es:ah s=.sl b aj sz 0 rows.length) (hrow:H[b]? =some (.row aj sz rows)) (hnew:(elems (ah x)).run H=some new) (hall:(new.all fun r=>r.length==sz)=true) (hpos:new.length≠0)
 (hroom:roomy (rows.length+new.length) bytes=true):
 ∃v w',(execOp a.eval o).run P w=.ok (.value v) w'∧
  ((R g w' (.sl b aj sz 0 (rows.length+new.length)) v∧Inv g (H.set b (.row aj sz (rows++new))) w'∧aO g H w g (H.set b (.row aj sz (rows++new))) w')∨
   ∃g',R g' w' (.sl nid 0 sz 0 (rows.length+new.length)) v∧Inv g' (H.set nid (.row 0 sz (rows++new))) w'∧aO g H w g' (H.set nid (.row 0 sz (rows++new))) w'):=by
 have hargs:args= #[s,x]:=by
  obtain⟨l⟩:=args
  match l,hsz with
  | [p,q],_=>simp at hs0 hx0;simp[hs0,hx0]
 have hexec:∀{v w'},(Builtin.append_ ats o.type #[a.eval s,a.eval x]).run P w=.ok v w'→(execOp a.eval o).run P w=.ok (.value v) w':=by
  intro v w' hr;simp[execOp,ho,resolve,invoke,builtin,hargs,hr]
 have hS:=hρ s;have hX:=hρ x;obtain⟨e,e',i,hus,hux,hinfo,rfl,rfl,hpz,hzf⟩:=K6 hT;have hall:=wH hall;obtain⟨ad,cap,news,ev,n1,n2,n3,n4⟩:=mT hi hX hnew hall;obtain⟨z,hz,hzs⟩:=ry hzf;obtain⟨rm1,rm2⟩:=s8 hroom;rw[es]at hS;simp only[R]at hS;rcases hS with⟨hl0,evs⟩ |⟨k,scap,E',s',hk,evs,hsh,hcs,hns,hmax⟩
 ·have hr0:rows=[]:=List.eq_nil_of_length_eq_zero hl0;subst hr0;simp only[List.length_nil,Nat.zero_add,List.nil_append]at rm1 rm2 ⊢;rcases qb (P:=P) (w:=w) (ty:=o.type) (base:=none) (n:=0) (cap:=0) (olds:=[]) (E:=e) (cur:= #[]) (c:=cap) h0 h1 hus ⟨e',hux⟩ hinfo hz (by simp) (.inl rfl) n1 n4 n3 (by rw[Nat.zero_add];omega) (by omega) (.inl ⟨rfl,rfl⟩)with⟨hle,_⟩ |⟨_,nc,c1,c2,c3⟩
  ·omega
  ·simp only[Nat.zero_add]at c1 c3;have hcells:cS g w.drew (#[]++news.toArray++Builtin.zeroCells z.cells (nc - new.length)) new.flatten 0:=by
    refine di (bD (Ext.draw g w) _ _ n2) n3 fun j hj=>?_
    simp[Array.getElem?_append];omega
   obtain⟨a1,a2,a3⟩:=hi.draw.alloc (e:=e) (c:= #[]++news.toArray++Builtin.zeroCells z.cells (nc - new.length)) (rows:=new) (sz:=i.size) hn (by omega) (ey.2 ⟨hall,hcells⟩) (by simp[n1])
   refine⟨_,_,hexec (by rw[evs,ev];exact c3),.inr ⟨_,?_,a1,a2.draw⟩⟩
   simp only[R];refine .inr ⟨_,nc,e,(#[]++news.toArray++Builtin.zeroCells z.cells (nc - new.length)).size,a3,by simp,gQ _ _ _,?_,c1,c2⟩
   have e5:(#[]++news.toArray++Builtin.zeroCells z.cells (nc - new.length):Array Value).size=new.length*i.size+(nc - new.length)*i.size:=by simp[size_zeroCells,hzs,n1]
   rw[e5,← Nat.add_mul];congr 1;omega
 obtain⟨k',cur,E,q1,q2,q3,q4,q5,q6⟩:=hi.row b aj _ _ hrow hk;rw[hk]at q1;simp at q1;obtain rfl:=q1;have hs':s'=cur.size∧E'=E:=by
  simp only[World.shape?,q2]at hsh;simp at hsh;exact⟨hsh.2.symm,hsh.1.symm⟩
 obtain⟨rfl,rfl⟩:=hs';simp only[Nat.zero_mul,Nat.zero_add]at evs hcs;obtain⟨fl1,fl2⟩:=ey.1 q3;obtain⟨olds,o1,o2,o3,o4⟩:=dV fl2;generalize hnn:rows.length=n at*;have ol:olds.length=n*i.size:=by rw[o1,iQ fl1,hnn]
 have hcat:RL g w (rows++new).flatten (olds++news):=by rw[List.flatten_append];exact dH o3 n2
 have hone2:∀y∈olds++news,y.oneCell'=true:=by
  intro y hy;rcases List.mem_append.1 hy with h |h
  ·exact o2 y h
  ·exact n3 y h
 have hlens:∀r∈rows++new,r.length=i.size:=by
  intro r hr;rcases List.mem_append.1 hr with h |h
  ·exact fl1 r h
  ·exact hall r h
 have ocur:∀j,j<olds.length→cur[j]? =olds[j]? :=fun j hj=>by simpa using o4 j hj
 rcases qb (P:=P) (w:=w) (ty:=o.type) (base:=some ⟨k,0,none⟩) (n:=n) (cap:=scap) (olds:=olds) (E:=E') (cur:=cur) (c:=cap) h0 h1 hus ⟨e',hux⟩ hinfo hz ol
  (.inr ⟨_,rfl,fun j u hu=>by
   grind [gI,hG]⟩) n1 n4 n3 (by omega) (by omega) (.inr ⟨k,rfl,q2,hcs⟩)with⟨hle,w',hr,hw⟩ |⟨hlt,nc,c1,c2,c3⟩
 ·have hcsz:n*i.size+news.length≤cur.size:=by rw[n1,← Nat.add_mul,← hcs];exact Nat.mul_le_mul_right _ hle
  have hw':w'=w.setRow k (cur.toList.take (n*i.size)++news++cur.toList.drop (n*i.size+news.length)).toArray:=by
   rcases hw with⟨hm,hw⟩ |⟨k2,hk2,hw⟩
   ·omega
   ·simp at hk2;subst hk2;exact hw
  have hsz':(cur.toList.take (n*i.size)++news++cur.toList.drop (n*i.size+news.length)).toArray.size=cur.size:=by simp;omega
  have hcells:cS g w (cur.toList.take (n*i.size)++news++cur.toList.drop (n*i.size+news.length)).toArray (rows++new).flatten 0:=by
   refine di hcat hone2 fun j hj=>?_
   simp only[Nat.zero_add,List.getElem?_toArray];simp only[List.length_append]at hj;rw[List.append_assoc];by_cases hjo:j<olds.length
   ·grind
   ·grind
  obtain⟨s1,s2⟩:=hi.store (w':=w') (rows':=rows++new) hrow hk q2 (by rw[hw'];exact setRow_heap w k cur _ E' (0,0) q2) hsz' (fun j hj=>by rw[hw'];exact setRow_other w k j _ hj) (by rw[hw',setRow_size]) (by rw[hw'];rfl) (by simp_all) (by rw[hw'];rfl) (ey.2 ⟨hlens,hcells⟩)
   (by rw[hsz',← hcs,List.length_append,hnn];exact Nat.mul_le_mul_right _ hle)
  refine⟨_,_,hexec (by rw[evs,ev,hr]),.inl ⟨?_,s1,s2⟩⟩
  simp only[R];refine .inr ⟨k,scap,E',cur.size,hk,by simp,?_,by simpa using hcs,by omega,hmax⟩
  rw[hw'];have:=setRow_heap w k cur (cur.toList.take (n*i.size)++news++cur.toList.drop (n*i.size+news.length)).toArray E' (0,0) q2;simp only[World.shape?,this,hsz']
 ·have hsz':(olds.toArray++news.toArray++Builtin.zeroCells z.cells (nc - (n+new.length))).size=nc*i.size:=by
   simp only[Array.size_append,size_zeroCells,hzs,List.size_toArray,n1,ol,← Nat.add_mul];congr 1;omega
  have hcells:cS g w.drew (olds.toArray++news.toArray++Builtin.zeroCells z.cells (nc - (n+new.length))) (rows++new).flatten 0:=by
   refine di (bD (Ext.draw g w) _ _ hcat) hone2 fun j hj=>?_
   simp only[List.length_append]at hj;rw[Nat.zero_add,Array.getElem?_append_left (by simp;omega)]
   simp
  obtain⟨a1,a2,a3⟩:=hi.draw.alloc (e:=e) (c:=olds.toArray++news.toArray++Builtin.zeroCells z.cells (nc - (n+new.length))) (rows:=rows++new) (sz:=i.size) hn (by omega) (ey.2 ⟨hlens,hcells⟩)
   (by rw[hsz',List.length_append,hnn];exact Nat.mul_le_mul_right _ c1)
  refine⟨_,_,hexec (by rw[evs,ev];exact c3),.inr ⟨_,?_,a1,a2.draw⟩⟩
  simp only[R];exact .inr ⟨w.heap.size,nc,e,nc*i.size,a3,by simp,by have:=gQ w.drew (olds.toArray++news.toArray++Builtin.zeroCells z.cells (nc - (n+new.length))) e;rw[hsz']at this;exact this,by simp,c1,c2⟩
end
end Go.AM
end
section
namespace Go.AM
open Go.ChangeShapes Go.WideShapes Go.ChangeAt Go.RowKit
structure cC(P:Program)(T:TypeId){α:Type}(enc:α→List AVal)(ok:α→Prop):Prop where
 read:∀{H:Type} {encH:TypeId×Value→H} {w:World} {fuel:Nat} {cs:List Value} {x:DataW H×List MemPlace},DataW.trod encH P w 0 (fun _=>true) true fuel T cs=some x→
  ∃a,ok a∧RL (Gh.bare w) w (enc a) cs∧∀y∈cs,y.oneCell'=true
 pure:∀a,AVal.aQ (enc a)=true
 len:∀a,(enc a).length=P.cellsOf T
section
variable {P:Program} {T:TypeId} [aB]
theorem cC.bool(ht:P.underlying T=some .bool)(hc:P.cellsOf T=1):cC P T eB (fun _=>True) where
 read h:=by
  rename_i fuel cs x;cases fuel with
  |zero=>simp[DataW.trod]at h
  |succ n=>
   unfold DataW.trod at h;rw[ht]at h;split at h<;>simp_all
   simp[eB,RL,R,Value.oneCell']
 pure _:=rfl
 len _:=by simp[eB,hc]
theorem cC.int{k:IntKind}(ht:P.underlying T=some (.int k))(hc:P.cellsOf T=1):cC P T (eI k) (fun n=>(Lit.int k n).wf=true) where
 read h:=by
  rename_i fuel cs x;cases fuel with
  |zero=>simp[DataW.trod]at h
  |succ n=>
   unfold DataW.trod at h;rw[ht]at h;split at h<;>simp_all
   obtain⟨⟨rfl,hw⟩,_⟩:=h;exact⟨_,hw,by simp[eI,RL,R],rfl⟩
 pure _:=rfl
 len _:=by simp[eI,hc]
theorem cC.str(ht:P.underlying T=some .string)(hc:P.cellsOf T=1):cC P T eS (fun _=>True) where
 read h:=by
  rename_i fuel cs x;cases fuel with
  |zero=>simp[DataW.trod]at h
  |succ n=>
   unfold DataW.trod at h;rw[ht]at h;split at h<;>simp_all
   simp[eS,RL,R,Value.oneCell']
 pure _:=rfl
 len _:=by simp[eS,hc]
theorem cells?_some{w:World}{a:Addr}{n:Nat}{cs:List Value}(h:w.cells? 0 a n=some cs):cs.length=n∧∀i,i<n→w.cell? (a.add i)=cs[i]? :=by
 unfold World.cells? at h;simp only[Nat.zero_le,if_true]at h;exact⟨by simpa using mapM_some_length h,fun i hi=>mapM_some_get h i i (by simp[hi])⟩
theorem Pn{w:World}{k o:Nat}{y:Value}(h:w.cell? ⟨k,o,none⟩=some y):k<w.heap.size:=by
 unfold World.cell? at h;grind
theorem Jm{α:Type}{n:Nat}{p:Nat→α→Prop}(h:∀i,i<n→∃a,p i a):∃l:List α,l.length=n∧∀i a,l[i]? =some a→p i a:=by
 induction n with
 |zero=>simp_all
 |succ n ih=>
  obtain⟨l,h1,h2⟩:=ih fun i hi=>h i (by omega)
  obtain⟨a,ha⟩:=h n (by omega)
  refine⟨l++[a],by simp[h1],fun i b hb=>?_⟩
  grind
theorem cC.slice{E:TypeId}{α:Type}{enc:α→List AVal}{ok:α→Prop}(ht:P.underlying T=some (.slice E))(hc:P.cellsOf T=1)(hz0:Nat.ble 1 (P.cellsOf E)=true)(he:cC P E enc ok):
 cC P T (eL enc) (fun l=>∀a∈l,ok a) where
 read h:=by
  have hz:=Nat.le_of_ble_eq_true hz0;rename_i H encH w fuel cs x;rcases DataW.trod_slice ht h with⟨rfl,_⟩ |⟨a,len,cap,elems,rest,n,rfl,rfl,_,_,hl,_,hlen,hel,_⟩
  ·exact⟨[],by simp,by simp[eL,RL,R],by simp[Value.oneCell']⟩
  ·have hget:∀i,i<len→∃c,w.cells? 0 (a.add (i*P.cellsOf E)) (P.cellsOf E)=some c∧∃b,ok b∧RL (Gh.bare w) w (enc b) c∧∀y∈c,y.oneCell'=true:=by
    intro i hi;have h1:=hel i hi;obtain⟨y,hy⟩:∃y,elems[i]? =some y:=⟨_,List.getElem?_eq_getElem (by omega)⟩
    rw[hy]at h1;obtain⟨c,hc1,hc2⟩:=Option.bind_eq_some_iff.1 h1;obtain⟨b,hb⟩:=he.read hc2;exact⟨c,hc1,b,hb⟩
   obtain⟨l,hll,hp⟩:=Jm (n:=len) (p:=fun i b=>∃c,w.cells? 0 (a.add (i*P.cellsOf E)) (P.cellsOf E)=some c∧ok b∧RL (Gh.bare w) w (enc b) c∧∀y∈c,y.oneCell'=true)
    fun i hi=>let⟨c,h1,b,h2⟩:=hget i hi;⟨b,c,h1,h2⟩
   refine⟨l,fun b hb=>?_,?_,by simp[Value.oneCell']⟩
   ·obtain⟨i,hi⟩:=List.getElem?_of_mem hb;grind
   ·simp only[eL,RL,R];refine⟨_,[],rfl,⟨some a,cap,by simp[hll],by simp[hll,hl],?_⟩,rfl⟩
    by_cases h0:l.length=0
    ·left;simp[h0]
    ·right;obtain⟨k,o,sp⟩:=a;have hsp:sp=none:=by
      obtain⟨c,h1,_⟩:=hget 0 (by omega)
      obtain⟨h2,h3⟩:=cells?_some h1;have h4:=h3 0 hz;obtain⟨y,hy⟩:∃y,c[0]? =some y:=⟨_,List.getElem?_eq_getElem (by omega)⟩
      rw[hy]at h4;simpa[Addr.add]using World.cell?_spot h4
     subst hsp;refine⟨k,o,P.cellsOf E,rfl,Ct fun i r hr=>?_⟩
     obtain⟨b,hb,rfl⟩:∃b,l[i]? =some b∧enc b=r:=by simpa using hr
     refine⟨he.len b,he.pure b,yo fun j v hv=>?_⟩
     obtain⟨c,h1,_,h2,h3⟩:=hp i b hb;obtain⟨h4,h5⟩:=cells?_some h1;obtain⟨h6,h7⟩:=cK _ _ h2;obtain⟨y,hy,hr⟩:=h7 j v hv;have hj:j<P.cellsOf E:=by rw[← he.len b];exact(List.getElem?_eq_some_iff.1 hv).1
     have hcell:=h5 j hj;rw[hy]at hcell;simp only[Go.WideShapes.add_plain]at hcell;exact⟨Pn hcell,y,hcell,h3 y (List.mem_of_getElem? hy),hr⟩
 pure _:=rfl
 len _:=by simp[eL,hc]
inductive y8 (P:Program):List Field→(α:Type)→(α→List AVal)→(α→Prop)→Prop
 |nil:y8 P [] Unit (fun _=>[]) (fun _=>True)
 |cons {f:Field} {fs:List Field} {α β:Type} {enc:α→List AVal} {ok:α→Prop} {encs:β→List AVal} {oks:β→Prop} (h:cC P f.type enc ok) (hs:y8 P fs β encs oks):
  y8 P (f::fs) (α×β) (fun x=>enc x.1++encs x.2) (fun x=>ok x.1∧oks x.2)
theorem y8.pure{fs:List Field}{α:Type}{enc:α→List AVal}{ok:α→Prop}(h:y8 P fs α enc ok):∀a,AVal.aQ (enc a)=true:=by
 have happ:∀(a b:List AVal),AVal.aQ a=true→AVal.aQ b=true→AVal.aQ (a++b)=true:=by
  intro a b h1 h2;induction a with
  |nil=>exact h2
  |cons x xs ih=>grind [AVal.aQ]
 induction h with
 |nil=>exact fun _=>rfl
 |cons h _ ih=>exact fun a=>happ _ _ (h.pure a.1) (ih a.2)
theorem y8.len{fs:List Field}{α:Type}{enc:α→List AVal}{ok:α→Prop}(h:y8 P fs α enc ok):∀a,(enc a).length=(fs.map fun f=>P.cellsOf f.type).sum:=by
 induction h with
 |nil=>exact fun _=>rfl
 |cons h _ ih=>exact fun a=>by simp[h.len a.1,ih a.2]
theorem y8.read{H:Type}{encH:TypeId×Value→H}{w:World}{n:Nat}{fs:List Field}{α:Type}{enc:α→List AVal}{ok:α→Prop}(h:y8 P fs α enc ok):∀(cs:List Value),cs.length=(fs.map fun f=>P.cellsOf f.type).sum→
 (∀i f,fs[i]? =some f→∃x,DataW.trod encH P w 0 (fun _=>true) true n f.type ((cs.drop ((fs.take i).map fun f=>P.cellsOf f.type).sum).take (P.cellsOf f.type))=some x)→
 ∃a,ok a∧RL (Gh.bare w) w (enc a) cs∧∀y∈cs,y.oneCell'=true:=by
 induction h with
 |nil=>
  intro cs hl _;have:cs=[]:=by simpa using hl
  subst this;exact⟨(),trivial,rfl,by simp⟩
 | @cons f fs α β enc ok encs oks h hs ih=>
  intro cs hl hf;simp only[List.map_cons,List.sum_cons]at hl;obtain⟨x,hx⟩:=hf 0 f rfl;simp only[List.take_zero,List.map_nil,List.sum_nil,List.drop_zero]at hx;obtain⟨a,h1,h2,h3⟩:=h.read hx;obtain⟨b,h4,h5,h6⟩:=ih (cs.drop (P.cellsOf f.type)) (by simp;omega) fun i f' hi=>by
   obtain⟨x,hx⟩:=hf (i+1) f' (by simpa using hi)
   simp_all
  refine⟨(a,b),⟨h1,h4⟩,?_,fun y hy=>?_⟩
  ·have:=dH h2 h5;rwa[List.take_append_drop]at this
  ·rw[← List.take_append_drop (P.cellsOf f.type) cs]at hy;grind
theorem cC.struct(hl:laidOutB P=true)(hT0:Nat.ble (T+1) P.types.size=true){fs:Array Field}(ht:P.underlying T=some (.struct fs)){β S:Type}{encs:β→List AVal}{oks:β→Prop}(h:y8 P fs.toList β encs oks){enc:S→List AVal}{ok:S→Prop}(conv:β→S)(back:S→β)
 (hconv:∀b,enc (conv b)=encs b) (hback:∀s,conv (back s)=s) (hok:∀b,oks b→ok (conv b)):cC P T enc ok where
 read hx:=by
  have hT:T<P.types.size:=Nat.le_of_ble_eq_true hT0;obtain⟨xs,n,rfl,_,hlen,hxl,hf⟩:=DataW.trod_struct ht hx;obtain⟨_,h2,h3⟩:=kid_struct hl hT ht;obtain⟨b,k1,k2,k3⟩:=h.read (n:=n) _ (by rw[hlen,h2]) fun i f hi=>by
   have:=hf i f (by simpa using hi)
   rw[h3 i f hi]at this;obtain⟨y,hy⟩:∃y,xs[i]? =some y:=⟨_,List.getElem?_eq_getElem (by
    grind)⟩
   exact⟨y,by rw[this,hy]⟩
  grind
 pure a:=by rw[← hback a,hconv];exact h.pure _
 len a:=by
  have hT:T<P.types.size:=Nat.le_of_ble_eq_true hT0;obtain⟨_,h2,_⟩:=kid_struct hl hT ht;rw[← hback a,hconv,h.len,h2]
theorem cC.Mu{n:Nat}{e:TypeId}{α:Type}{c:α→AVal}{ok:α→Prop}(ht:P.underlying T=some (.array n e))(hc:P.cellsOf e=1)(hT:P.cellsOf T=n)(he:cC P e (fun a=>[c a]) ok){H:Type}{encH:TypeId×Value→H}{w:World}{fuel:Nat}{cs:List Value}{x:DataW H×List MemPlace}
 (hx:DataW.trod encH P w 0 (fun _=>true) true fuel T cs=some x):∃l:List α,l.length=n∧(∀a∈l,ok a)∧RL (Gh.bare w) w (l.map c) cs∧∀y∈cs,y.oneCell'=true:=by
 obtain⟨xs,m,rfl,_,hlen,hxl,hf⟩:=DataW.trod_array ht hx;rw[hT]at hlen;have key:∀(k:Nat) (ds:List Value),ds.length=k→(∀i,i<k→∃y,DataW.trod encH P w 0 (fun _=>true) true m e ((ds.drop i).take 1)=some y)→
  ∃l:List α,l.length=k∧(∀a∈l,ok a)∧RL (Gh.bare w) w (l.map c) ds∧∀y∈ds,y.oneCell'=true:=by
  intro k;induction k with
  |zero=>
   intro ds hd _;have:ds=[]:=by simpa using hd
   subst this;exact⟨[],rfl,by simp,rfl,by simp⟩
  |succ k ih=>
   intro ds hd hr;obtain⟨d,ds,rfl⟩:∃d ds',ds=d::ds':=by cases ds with |nil=>simp at hd |cons d ds=>exact⟨d,ds,rfl⟩
   obtain⟨y,hy⟩:=hr 0 (by omega)
   simp only[List.drop_zero,List.take_succ_cons,List.take_zero]at hy;obtain⟨a,h1,h2,h3⟩:=he.read hy;obtain⟨l,q1,q2,q3,q4⟩:=ih ds (by simpa using hd) fun i hi=>by
    grind
   refine⟨a::l,by simp[q1],fun b hb=>?_,?_,fun z hz=>?_⟩
   ·grind
   ·grind [RL]
   grind
 refine key n cs hlen fun i hi=>?_
 grind
theorem cC.Po{e:TypeId}{α:Type}{c:α→AVal}{ok:α→Prop}(ht:P.underlying T=some (.array 10 e))(hc:P.cellsOf e=1)(hT:P.cellsOf T=10)(he:cC P e (fun a=>[c a]) ok):
 cC P T (NZ c) (fun x=>ok x.a0∧ok x.a1∧ok x.a2∧ok x.a3∧ok x.a4∧ok x.a5∧ok x.a6∧ok x.a7∧ok x.a8∧ok x.a9) where
 read hx:=by
  obtain⟨l,h1,h2,h3,h4⟩:=cC.Mu ht hc hT he hx
  match l,h1,h2,h3 with
  | [b0,b1,b2,b3,b4,b5,b6,b7,b8,b9],_,h2,h3=>
   simp only[List.mem_cons,List.not_mem_nil,or_false,forall_eq_or_imp,forall_eq]at h2;exact⟨⟨b0,b1,b2,b3,b4,b5,b6,b7,b8,b9⟩,h2,h3,h4⟩
 pure a:=by
  have:∀x,(c x).pure=true:=fun x=>by have:=he.pure x;simpa[AVal.aQ]using this
  simp[NZ,AVal.aQ,this]
 len a:=by simp[NZ,hT]
theorem cC.Qh{e:TypeId}{α:Type}{c:α→AVal}{ok:α→Prop}(ht:P.underlying T=some (.array 8 e))(hc:P.cellsOf e=1)(hT:P.cellsOf T=8)(he:cC P e (fun a=>[c a]) ok):
 cC P T (ki c) (fun x=>ok x.a0∧ok x.a1∧ok x.a2∧ok x.a3∧ok x.a4∧ok x.a5∧ok x.a6∧ok x.a7) where
 read hx:=by
  obtain⟨l,h1,h2,h3,h4⟩:=cC.Mu ht hc hT he hx
  match l,h1,h2,h3 with
  | [b0,b1,b2,b3,b4,b5,b6,b7],_,h2,h3=>
   simp only[List.mem_cons,List.not_mem_nil,or_false,forall_eq_or_imp,forall_eq]at h2;exact⟨⟨b0,b1,b2,b3,b4,b5,b6,b7⟩,h2,h3,h4⟩
 pure a:=by
  have:∀x,(c x).pure=true:=fun x=>by have:=he.pure x;simpa[AVal.aQ]using this
  simp[ki,AVal.aQ,this]
 len a:=by simp[ki,hT]
end
theorem cC.one{P:Program}{T:TypeId}{α:Type}{enc:α→List AVal}{ok:α→Prop}(h:cC P T enc ok){H:Type}{encH:TypeId×Value→H}{w:World}{v:Value}{d:DataW H}{ps:List MemPlace}
 (hv:DataW.Trod encH P w 0 (fun _=>true) true T v d ps):∃a,ok a∧RL (Gh.bare w) w (enc a) v.cells.toList∧∀y∈v.cells.toList,y.oneCell'=true:=by
 obtain⟨fuel,hf⟩:=hv;exact h.read hf
section
variable {P:Program} {T:TypeId} [aB] {α:Type} {enc:α→List AVal} {ok:α→Prop} {H:Type} {encH:TypeId×Value→H} {w:World} {v:Value} {d:DataW H} {ps:List MemPlace} {r:Reach} {base:Nat}
theorem cC.agg(h:cC P T enc ok){fs:Array Field}(ht:P.underlying T=some (.struct fs))(hval:Value.okWide P w r base T v)(hv:DataW.Trod encH P w 0 (fun _=>true) true T v d ps):∃a,ok a∧R (Gh.bare w) w (.agg (enc a)) v:=by
 obtain⟨a,h1,h2,h3⟩:=h.one hv;unfold Value.okWide at hval;rw[ht]at hval;obtain⟨cs,rfl,_⟩:=hval;exact⟨a,h1,by simp only[R];exact⟨cs.toList,by simp,by simpa[Value.cells]using h3,by simpa[Value.cells]using h2⟩⟩
def Qi(P:Program)(T:TypeId):Bool:=match P.underlying T with
 |some .bool=>true
 |some (.int _)=>true
 |some .string=>true
 |some (.slice _)=>true
 |_=>false
theorem cC.cell{c:α→AVal}(h:cC P T (fun a=>[c a]) ok)(ht:Qi P T=true)(hval:Value.okWide P w r base T v)(hv:DataW.Trod encH P w 0 (fun _=>true) true T v d ps):∃a,ok a∧R (Gh.bare w) w (c a) v:=by
 obtain⟨a,h1,h2,_⟩:=h.one hv;refine⟨a,h1,?_⟩;have hc:v.cells.toList=[v]:=by
  unfold Qi at ht;unfold Value.okWide at hval;split at ht
  case h_5=>cases ht
  all_goals
   rename_i hu;rw[hu]at hval;simp only at hval;unfold Cell.okWide at hval;rw[hu]at hval;cases v<;>simp_all [Cell.ok,Value.cells]
 grind [RL]
theorem H8{w':World}{sp:Nat→Bool}(hl:laidOutB P=true)(hm:mapsRowed P=true)(hz:∀t e,t<P.types.size→P.underlying t=some (.slice e)→0<P.cellsOf e)(hb:Below w.heap.size w w'):
 ∀{ts:List TypeId} {vs:List Value} {ds:List (DataW H)} {ps:List MemPlace},(∀t∈ts,t<P.types.size)→DataW.TrodAll encH P w 0 (fun _=>true) true ts vs ds ps→(∀p∈ps,p.block<w.heap.size)→(∀p∈ps,sp p.block=true)→
  DataW.TrodAll encH P w' 0 sp true ts vs ds ps:=by
 intro ts vs ds ps hT h hlt hs
 replace h:=h.respare (kids_rows hl hm) hz hT hs
 clear hs hz
 revert hlt h
 induction ts generalizing vs ds ps with
 |nil=>intro hlt h;cases vs<;>cases ds<;>simp_all [DataW.TrodAll]
 |cons t ts ih=>
  intro hlt h;cases vs with
  |nil=>cases ds<;>simp[DataW.TrodAll]at h
  |cons v vs=>
   cases ds with
   |nil=>simp[DataW.TrodAll]at h
   |cons d ds=>
    obtain⟨p,q,⟨n,h1⟩,h2,rfl⟩:=h;refine⟨p,q,⟨n,DataW.trod_carry _ _ _ _ h1 fun x hx=>hb.same (hlt x (List.mem_append_left _ hx))⟩,ih (fun t ht=>hT t (List.mem_cons_of_mem _ ht)) (fun x hx=>hlt x (List.mem_append_right _ hx)) h2,rfl⟩
theorem Pp{f:FuncId}{args:List AVal}{v:Value}(h:kP P f args (.ret (.sc v)))(w:World)(hg:mS (Gh.bare w) w)(vs:Array Value)(hl:RL (Gh.bare w) w args vs.toList):
 Calls P f vs w fun e w'=>e=.returned v∧Below w.heap.size w w':=by
 refine(h.2 (Gh.bare w) w vs (Gh.NJ w hg) hl).mono ?_;rintro e w' ⟨g',_,hla,x,rfl,hr⟩;grind [R,Ji]
end
end Go.AM
end
section
namespace Go.AM
def scan{α σ τ:Type}(g:Nat→α→σ→σ⊕τ):Nat→List α→σ→σ⊕τ
 |_,[],s=>.inl s
 |i,x::xs,s=>match g i x s with
  | .inl s'=>scan g (i+1) xs s'
  | .inr t=>.inr t
theorem bg{α:Type}(l:List α)(i:Nat):ez l (i:Int)=l[i]? :=by simp[ez]
theorem K7{α σ τ ST:Type}{f:ST→Option (ST⊕τ)}(mk:Nat→σ→ST)(g:Nat→α→σ→σ⊕τ)(fin:σ→τ)(l:List α)
 (hs:∀i x s,l[i]? =some x→f (mk i s)=some (match g i x s with | .inl s'=>.inl (mk (i+1) s') | .inr t=>.inr t)) (he:∀s,f (mk l.length s)=some (.inr (fin s))):
 ∀(n:Nat) (s0:σ),l.length<n→bI f n (mk 0 s0)=some (match scan g 0 l s0 with | .inl s=>fin s | .inr t=>t):=by
 have key:∀(k:Nat) (i:Nat) (s:σ) (n:Nat),i+k=l.length→k<n→bI f n (mk i s)=some (match scan g i (l.drop i) s with | .inl s=>fin s | .inr t=>t):=by
  intro k;induction k with
  |zero=>
   intro i s n hi hn;obtain⟨n,rfl⟩:∃m,n=m+1:=⟨n - 1,by omega⟩
   have:i=l.length:=by omega
   subst this;simp only[bI,he,List.drop_length,scan]
  |succ k ih=>
   intro i s n hi hn;obtain⟨n,rfl⟩:∃m,n=m+1:=⟨n - 1,by omega⟩
   have hlt:i<l.length:=by omega
   rw[List.drop_eq_getElem_cons hlt];simp only[bI,scan,hs i _ s (List.getElem?_eq_getElem hlt)];cases g i l[i] s with
   |inl s'=>simp only;exact ih (i+1) s' n (by omega) (by omega)
   |inr t=>rfl
 intro n s0 hn;have:=key l.length 0 s0 n (by omega) hn
 simpa using this
theorem wrap_i64{x:Int}(h1: -9223372036854775808≤x)(h2:x≤9223372036854775807):Go.IntKind.wrap .i64 x=x:=by
 rw[Go.IntKind.wrap_i64];omega
theorem bR{i:Nat}(h:i<9223372036854775807):Go.IntKind.wrap .i64 ((i:Int)+1)=((i+1:Nat):Int):=by
 rw[wrap_i64 (by omega) (by omega)];rfl
theorem Mv{x k:Int}(hk:0<k):(x.tmod k+k).tmod k=x % k:=by
 have h1: -k<x.tmod k:=Int.lt_tmod_of_pos x hk;have h2:=Int.tmod_add_mul_tdiv x k;rw[Int.tmod_eq_emod_of_nonneg (by omega)]
 have:x.tmod k+k=x+k*(1 - x.tdiv k):=by
  rw[Int.mul_sub,Int.mul_one];omega
 rw[this,Int.add_mul_emod_self_left]
theorem Mw{x k:Int}(hk:0<k)(hk2:k≤4000000000000000000):Go.IntKind.wrap .i64 (x.tmod k+k)=x.tmod k+k:=by
 have h1: -k<x.tmod k:=Int.lt_tmod_of_pos x hk;have h2:=Int.tmod_lt_of_pos x hk;exact wrap_i64 (by omega) (by omega)
end Go.AM
namespace Go.AM
section
variable {X K V β:Type}
theorem bK(l:List X)(e:X→List AVal)(k:Unit→Option β):(bJ l e).run.bind k=k ():=rfl
theorem bP(l:List X)(e:X→List AVal)(n:Nat)(i:Int)(k:X→Option β):(bG l e n i).run.bind k=(ez l i).bind k:=rfl
theorem K8(m:List (K×V))(q:K)(ek:K→AVal)(ev:V→AVal)(eq:K→K→Bool)(d:V)(ks:List Kd)(ag ok:Bool)(b:Nat)(k:Unit→Option β):(Eo m q ek ev eq d ks ag ok b).run.bind k=k ():=rfl
theorem K9(m:List (K×V))(q:K)(v:V)(ek:K→AVal)(ev:V→AVal)(eq:K→K→Bool)(ks:List Kd)(ag:Bool)(b:Nat)(k:Unit→Option β):(Ep m q v ek ev eq ks ag b).run.bind k=k ():=rfl
theorem Mx(d:X)(e:X→List AVal)(n by_ nid:Nat)(i:Int)(k:Unit→Option β):(Qf d e n by_ nid i).run.bind k=if 0≤i∧roomy i.toNat by_=true then k ()else none:=by
 show(if 0≤i∧roomy i.toNat by_=true then some ()else none).bind k=_
 split<;>rfl
theorem eH(m n b aj:Nat)(i:Int)(k:Unit→Option β):(ic m n b aj i).run.bind k=if 0≤i∧i<m then k ()else none:=by
 show(if 0≤i∧i<m then some ()else none).bind k=_
 split<;>rfl
theorem gK(l:List X)(e:X→List AVal)(n b aj i o:Nat)(val:X→AVal)(k:X→Option β):(qX l e n b aj i o val).run.bind k=(l[i]?).bind k:=rfl
theorem vA(len:Nat)(l m:List X)(e:X→List AVal)(n by_ b aj nid:Nat)(ids:List Nat)(k:Unit→Option β):(oO len l m e n by_ b aj nid ids).run.bind k=if len=l.length∧roomy (l.length+m.length) by_=true then k ()else none:=by
 show(if len=l.length∧roomy (l.length+m.length) by_=true then some ()else none).bind k=_
 split<;>rfl
end
end Go.AM
end
section
namespace Go.AM
variable [aB] {P:Program}
theorem bF.behind{f:FuncId}{args:List AVal}{sz m:Nat}{rows:List (List AVal)}(h:bF P f args [] (.ret (.sl 0 0 sz 0 m)) [.row 0 sz rows])(ha:AVal.aQ args=true)(hp:rows.all AVal.aQ=true)(n:Nat):
 bF P f args (List.replicate n .dead) (.ret (.sl n 0 sz 0 m)) (List.replicate n .dead++[.row 0 sz rows]):=by
 refine⟨h.1,fun g w vs hi hl=>?_⟩
 let g0:Gh:=⟨fun _ _=>none,g.st⟩
 have hst0:∀k o,g.st k o→g0.st k o:=fun _ _ h=>h
 have hi0:Inv g0 [] w:=⟨fun b x hb=>by simp at hb,fun b b' x x' v v' k z z' h1=>by simp at h1,fun _ _ _=>rfl,fun b x v ver' hb=>by simp at hb,fun b x v k z o hb=>by simp at hb,hi.dU,fun i cs hc=>⟨(hi.cD i cs hc).1,jC hst0 _ _ _ (hi.cD i cs hc).1 (hi.cD i cs hc).2⟩⟩
 refine(h.2 g0 w vs hi0 (oC hst0 _ _ ha hl)).mono fun e w' ⟨g1,hi1,hla,x,he,hx⟩=>?_
 have low:∀b x,(List.replicate n aa.dead++[aa.row 0 sz rows])[b]? =some x→(b<n∧x=.dead)∨(b=n∧x=.row 0 sz rows):=fun b x hb=>by
  grind
 let g':Gh:=⟨fun b v=>if b<n then g.ah b v else g1.ah (b - n) v,g1.st⟩
 have hst1:∀k o,g1.st k o→g'.st k o:=fun _ _ h=>h
 have gn:∀v,g'.ah n v=g1.ah 0 v:=fun v=>by simp[g']
 have gl:∀b v,b<n→g'.ah b v=g.ah b v:=fun b v hb=>by simp[g',hb]
 have gh:∀b v,¬b<n→g'.ah b v=g1.ah (b - n) v:=fun b v hb=>by simp[g',hb]
 refine⟨g',⟨?_,?_,?_,?_,?_,hi1.dU,fun i cs hc=>⟨(hi1.cD i cs hc).1,jC hst1 _ _ _ (hi1.cD i cs hc).1 (hi1.cD i cs hc).2⟩⟩,?_,x,he,?_⟩
 ·intro b y hb;rcases low b y hb with⟨_,rfl⟩ |⟨rfl,rfl⟩
  ·trivial
  ·rcases hi1.good 0 _ rfl with⟨k,c,e,h1,h2,h3,h4,h5⟩ |⟨h1,h2,h3⟩
   ·exact .inl ⟨k,c,e,by rw[gn];exact h1,h2,qV hst1 rows 0 hp h3,h4,h5⟩
   ·exact .inr ⟨h1,by rw[gn];exact h2,h3⟩
 ·intro b b' y y' v v' k z z' h1 h2 l1 l2 _ _;rcases low b y h1 with⟨_,rfl⟩ |⟨rfl,rfl⟩
  ·cases l1
  ·rcases low b' y' h2 with⟨_,rfl⟩ |⟨rfl,rfl⟩
   ·cases l2
   ·rfl
 ·intro b aj hc;have hbn:¬b<n:=by
   intro hb;rcases hc with hc |hc
   ·grind
   ·simp at hc;omega
  rw[gh b aj hbn];refine hi1.fresh (b - n) aj (.inr ?_);grind
 ·intro b y v ver' hb hv hlt;rcases low b y hb with⟨_,rfl⟩ |⟨rfl,rfl⟩
  ·cases hv
  ·rw[gn];exact hi1.next 0 _ v ver' rfl hv hlt
 ·intro b y v k z o hb hv hk;rcases low b y hb with⟨_,rfl⟩ |⟨rfl,rfl⟩
  ·cases hv
  ·rw[gn]at hk;exact hi1.free 0 _ v k z o rfl hv hk
 ·have noOwn:∀k,¬fJ g0 [] k:=fun k ⟨b,y,v,z,hb,_⟩=>by simp at hb
  refine⟨⟨fun b aj y hb=>?_,fun k o hk=>hla.ext.st k o hk,fun k o hk=>hla.ext.cell k o hk,fun k y hk=>hla.ext.shape k y hk⟩,hla.size,fun k hk _=>hla.keep k hk (noOwn k),fun k hk ho=>?_,by simp,hla.os,hla.tape,hla.output,fun k o hk h=>(hla.stk k o hk h).imp_right fun h=>absurd h.1 (noOwn k),fun b hb=>?_,fun b aj k z hk=>?_⟩
  ·have hbn:b<n:=Decidable.byContradiction fun hc=>by rw[hi.fresh b aj (.inr (by simp;omega))]at hb;cases hb
   rw[gl b aj hbn];exact hb
  ·obtain⟨b,y,v,z,hb,hv,hz⟩:=ho;rcases low b y hb with⟨_,rfl⟩ |⟨rfl,rfl⟩
   ·cases hv
   ·rw[gn]at hz;exact absurd (hla.own k hk ⟨0,_,v,z,rfl,hv,hz⟩) (noOwn k)
  ·grind
  ·by_cases hbn:b<n
   ·grind
   ·rw[gh b aj hbn]at hk;rcases hla.qy (b - n) aj k z hk with⟨v',z',h'⟩ |h'
    ·cases h'
    ·exact .inr h'
 grind [R]
def tu.fresh(P:Program)[aB](f:FuncId)(X:Type)(args:X→List AVal)(α:Type)(sz:Nat)(enc:α→List AVal)(he:∀a,AVal.aQ (enc a)=true)(ha:∀x,AVal.aQ (args x)=true)(S:Nat→X→Option (List α))
 (ok:∀n x r,S n x=some r→bF P f (args x) [] (.ret (.sl 0 0 sz 0 r.length)) [.row 0 sz (r.map enc)]) (n:Nat):tu P where
 f:=f
 X:=X
 args:=args
 heap:=fun _=>List.replicate n .dead
 sh:=.one (List α)
 out:=fun(r:List α)=>.ret (.sl n 0 sz 0 r.length)
 fE:=fun _ (r:List α)=>List.replicate n .dead++[.row 0 sz (r.map enc)]
 S:=S
 ok:=fun m x (r:List α) h=>(ok m x r h).behind (ha x) (by
  grind) n
theorem kP.dead{f:FuncId}{sz:Nat}{rows:List (List AVal)}{rest:List AVal}{r:aM}(h:kP P f (.aC rows::rest) r)(hp:rows.all AVal.aQ=true)(hrest:AVal.aQ rest=true)(hr:r.Eb=true):
 bF P f (.sl 0 0 sz 0 rows.length::rest) [.row 0 sz rows] r [.dead]:=by
 refine⟨h.1,fun g w vs hi hl=>?_⟩
 have h2:([aa.row 0 sz rows]:List aa)[0]? =some (.row 0 sz rows):=rfl;obtain⟨i1,i2,i3⟩:=P4 hi hi (aO.refl g _ w) h2;have i2:aO g [.row 0 sz rows] w {ah:=g.ah,st:=fun k o=>g.st k o∨∃z,g.ah 0 0=some (k,z)} [.dead] w:=i2
 have hB:=i1.bare;have hst0:∀k o,g.st k o→g.st k o∨∃z,g.ah 0 0=some (k,z):=fun _ _ h=>.inl h
 have hl0:RL {ah:=fun _ _=>none,st:=fun k o=>g.st k o∨∃z,g.ah 0 0=some (k,z)} w (.aC rows::rest) vs.toList:=by
  simp only[RL]at hl ⊢;obtain⟨x,xs,e,hx,hxs⟩:=hl;refine⟨x,xs,e,?_,oC hst0 _ _ hrest hxs⟩
  suffices hxF:R {ah:=g.ah,st:=fun k o=>g.st k o∨∃z,g.ah 0 0=some (k,z)} w (.aC rows) x from kI (g:={ah:=g.ah,st:=fun k o=>g.st k o∨∃z,g.ah 0 0=some (k,z)}) (g2:={ah:=fun _ _=>none,st:=fun k o=>g.st k o∨∃z,g.ah 0 0=some (k,z)}) (fun _ _ h=>h) (.aC rows) x rfl hxF
  simp only[R]at hx ⊢;rcases hx with⟨hn,rfl⟩ |⟨k,cap,e',sz2,hk,rfl,hsh,hcs,hm,hmax⟩
  ·grind
  ·obtain⟨k',c,e,r1,r2,r3,r4,r5,r6⟩:=hi.row 0 0 _ _ h2 hk;rw[hk]at r1;simp at r1;subst r1;refine⟨_,cap,rfl,by omega,.inr ⟨k,0*sz,sz,rfl,Ct fun i r hr=>?_⟩⟩
   obtain⟨t1,t2⟩:=ck _ _ _ _ r3 hr;grind [yo,kW,nX,hG]
 refine(h.2 _ w vs hB hl0).mono fun e w' ⟨g1,hi1,hla,he⟩=>?_
 have noOwn:∀(g:Gh) k,¬fJ g [] k:=fun g k ⟨b,y,v,z,hb,_⟩=>by simp at hb
 have one:∀(b:Nat) (x:aa),([aa.dead]:List aa)[b]? =some x→x=.dead:=fun b x hb=>by
  grind
 have noOwnD:∀(g:Gh) k,¬fJ g [.dead] k:=fun g k ⟨b,y,v,z,hb,hv,_⟩=>by
  rw[one b y hb]at hv;cases hv
 refine⟨{ah:=g.ah,st:=g1.st},⟨fun b x hb=>?_,fun b b' x x' v v' k z z' h1 h2 l1=>?_,fun b aj hc=>?_,fun b x v ver' hb hv=>?_,fun b x v k z o hb hv=>?_,hi1.dU,fun i cs hc=>⟨(hi1.cD i cs hc).1,jC (g:=g1) (g2:={ah:=g.ah,st:=g1.st}) (fun _ _ h=>h) _ _ _ (hi1.cD i cs hc).1 (hi1.cD i cs hc).2⟩⟩,i2.trans ⟨⟨fun _ _ _ h=>h,hla.ext.st,hla.ext.cell,hla.ext.shape⟩,hla.size,fun k hk _=>hla.keep k hk (noOwn _ k),fun k _ ho=>absurd ho (noOwnD _ k),Nat.le_refl _,hla.os,hla.tape,hla.output,fun k o hk hs=>(hla.stk k o hk hs).imp_right fun h=>absurd h.1 (noOwn _ k),fun b hb=>⟨hb,fun _=>rfl⟩,fun b aj k z hk=>.inl ⟨aj,z,hk⟩⟩,?_⟩
 ·rw[one b x hb];trivial
 ·rw[one b x h1]at l1;cases l1
 ·refine hi.fresh b aj (.inr ?_);grind
 ·rw[one b x hb]at hv;cases hv
 ·rw[one b x hb]at hv;cases hv
 ·cases r with
  |ret v=>
   obtain⟨x,h1,h3⟩:=he;exact⟨x,h1,kI (g:=g1) (g2:={ah:=g.ah,st:=g1.st}) (fun _ _ h=>h) v x hr h3⟩
  |aR v=>
   obtain⟨x,h1,h3⟩:=he;exact⟨x,h1,jU v x hr h3⟩
def dm.dead(c:aA P)(X τ:Type)(sz:Nat)(enc:τ→List AVal)(rest:X→List AVal)(pack:List τ→X→c.X)
 (hargs:∀l x,c.args (pack l x)=.aC (l.map enc)::rest x) (he:∀a,AVal.aQ (enc a)=true) (hrest:∀x,AVal.aQ (rest x)=true) (hr:∀r,(c.out r).Eb=true) (ha:∀x n,AVal.lU (.sl 0 0 sz 0 n::rest x)=true):dm P where
 f:=c.f
 X:=List τ×Nat×X
 args:=fun x=>.sl 0 0 sz 0 x.2.1::rest x.2.2
 blk:=fun x=>.row 0 sz (x.1.map enc)
 sh:=c.sh
 out:=c.out
 rN:=fun _ _=>.dead
 S:=fun n x=>if x.2.1=x.1.length then c.S n (pack x.1 x.2.2)else none
 a0:=fun x=>ha x.2.2 x.2.1
 b0:=fun x=>by simp[aa.kO,he]
 b1:=fun _ _=>.inr rfl
 r0:=fun r=>aM.P5 (hr r)
 ok:=fun n x r h=>by
  split at h
  ·rename_i hn;have h1:=c.ok n _ r h;rw[hargs]at h1;have h2:=h1.dead (sz:=sz) (by
    grind) (hrest x.2.2) (hr r)
   rw[hn];simpa using h2
  ·cases h
theorem kP.apart{f:FuncId}{args:List AVal}{r:aM}(h:kP P f args r)(ha:AVal.aQ args=true)(hr:r.Eb=true)(n:Nat):
 bF P f args (List.replicate n .dead) r (List.replicate n .dead):=by
 refine⟨h.1,fun g w vs hi hl=>?_⟩
 have hl0:RL {ah:=fun _ _=>none,st:=g.st} w args vs.toList:=oC (g:=g) (g2:={ah:=fun _ _=>none,st:=g.st}) (fun _ _ h=>h) _ _ ha hl
 refine(h.2 _ w vs hi.bare hl0).mono fun e w' ⟨g1,hi1,hla,he⟩=>?_
 have noOwn:∀(g:Gh) k,¬fJ g [] k:=fun g k ⟨b,y,v,z,hb,_⟩=>by simp at hb
 have one:∀(b:Nat) (x:aa),(List.replicate n aa.dead)[b]? =some x→x=.dead:=fun b x hb=>by
  grind
 have noOwnD:∀(g:Gh) k,¬fJ g (List.replicate n .dead) k:=fun g k ⟨b,y,v,z,hb,hv,_⟩=>by
  rw[one b y hb]at hv;cases hv
 refine⟨{ah:=g.ah,st:=g1.st},⟨fun b x hb=>?_,fun b b' x x' v v' k z z' h1 h2 l1=>?_,fun b aj hc=>hi.fresh b aj hc,fun b x v ver' hb hv=>?_,fun b x v k z o hb hv=>?_,hi1.dU,fun i cs hc=>⟨(hi1.cD i cs hc).1,jC (g:=g1) (g2:={ah:=g.ah,st:=g1.st}) (fun _ _ h=>h) _ _ _ (hi1.cD i cs hc).1 (hi1.cD i cs hc).2⟩⟩,⟨⟨fun _ _ _ h=>h,hla.ext.st,hla.ext.cell,hla.ext.shape⟩,hla.size,fun k hk _=>hla.keep k hk (noOwn _ k),fun k _ ho=>absurd ho (noOwnD _ k),Nat.le_refl _,hla.os,hla.tape,hla.output,fun k o hk hs=>(hla.stk k o hk hs).imp_right fun h=>absurd h.1 (noOwn _ k),fun b hb=>⟨hb,fun _=>rfl⟩,fun b aj k z hk=>.inl ⟨aj,z,hk⟩⟩,?_⟩
 ·rw[one b x hb];trivial
 ·rw[one b x h1]at l1;cases l1
 ·rw[one b x hb]at hv;cases hv
 ·rw[one b x hb]at hv;cases hv
 ·cases r with
  |ret v=>
   obtain⟨x,h1,h3⟩:=he;exact⟨x,h1,kI (g:=g1) (g2:={ah:=g.ah,st:=g1.st}) (fun _ _ h=>h) v x hr h3⟩
  |aR v=>
   obtain⟨x,h1,h3⟩:=he;exact⟨x,h1,jU v x hr h3⟩
def tu.apart(c:aA P)(ha:∀x,AVal.aQ (c.args x)=true)(hr:∀r,(c.out r).Eb=true)(n:Nat):tu P where
 f:=c.f
 X:=c.X
 args:=c.args
 heap:=fun _=>List.replicate n .dead
 sh:=c.sh
 out:=c.out
 fE:=fun _ _=>List.replicate n .dead
 S:=c.S
 ok:=fun m x r h=>(c.ok m x r h).apart (ha x) (hr r) n
def RF(a b:AVal):Prop:=a=b∨(a=.sc (.slice none 0 0)∧b=.aC [])
def xg:List AVal→List AVal→Prop
 | [],[]=>True
 |a::as,b::bs=>RF a b∧xg as bs
 |_,_=>False
def xh:List (List AVal)→List (List AVal)→Prop
 | [],[]=>True
 |a::as,b::bs=>xg a b∧xh as bs
 |_,_=>False
theorem xg.refl:∀l:List AVal,xg l l
 | []=>trivial
 |_::as=>⟨.inl rfl,xg.refl as⟩
theorem xg.length:∀{l l':List AVal},xg l l'→l.length=l'.length
 | [],[],_=>rfl
 |_::_,_::_,h=>by simp[xg.length h.2]
theorem xg.pure:∀{l l':List AVal},xg l l'→AVal.aQ l=true→AVal.aQ l'=true
 | [],[],_,h=>h
 |a::as,b::bs,h,hp=>by
  simp only[AVal.aQ,Bool.and_eq_true]at hp ⊢;refine⟨?_,xg.pure h.2 hp.2⟩;rcases h.1 with rfl |⟨_,rfl⟩
  ·exact hp.1
  ·rfl
theorem xg.rc{g:Gh}{w:World}{k:Nat}:∀{l l':List AVal} {o:Nat},xg l l'→RC g w l k o→RC g w l' k o
 | [],[],_,_,_=>by simp[RC]
 |a::as,b::bs,o,h,hr=>by
  simp only[RC]at hr ⊢;refine⟨⟨hr.1.1,?_⟩,xg.rc h.2 hr.2⟩;obtain⟨y,h1,h2,h3⟩:=hr.1.2;refine⟨y,h1,h2,?_⟩;rcases h.1 with rfl |⟨rfl,rfl⟩
  ·exact h3
  grind [R]
theorem xh.length:∀{l l':List (List AVal)},xh l l'→l.length=l'.length
 | [],[],_=>rfl
 |_::_,_::_,h=>by simp[xh.length h.2]
theorem xh.rr{g:Gh}{w:World}{k sz:Nat}:∀{l l':List (List AVal)} {o:Nat},xh l l'→RR g w l k o sz→RR g w l' k o sz
 | [],[],_,_,_=>by simp[RR]
 |a::as,b::bs,o,h,hr=>by
  simp only[RR]at hr ⊢;exact⟨⟨by rw[← h.1.length];exact hr.1.1,h.1.pure hr.1.2.1,h.1.rc hr.1.2.2⟩,xh.rr h.2 hr.2⟩
theorem xh.append:∀{l l' m m':List (List AVal)},xh l l'→xh m m'→xh (l++m) (l'++m')
 | [],[],_,_,_,h=>h
 |_::_,_::_,_,_,h,h'=>⟨h.1,xh.append h.2 h'⟩
theorem xh.map{α:Type}{e e':α→List AVal}(h:∀a,xg (e a) (e' a)):∀l:List α,xh (l.map e) (l.map e')
 | []=>trivial
 |a::l=>⟨h a,xh.map h l⟩
end Go.AM
end
section
namespace Go.AM
open Go.ChangeMaps (setBlock)
def nO{σ τ:Type}(f:σ→((σ⊕τ)→Prop)→Prop):Nat→σ→(τ→Prop)→Prop
 | 0,_,_=>False
 |n+1,a,q=>f a fun
  | .inl a'=>nO f n a' q
  | .inr t=>q t
section
variable {P:Program} [aB]
def G.can(n:Nat):{ρ:Type}→G P ρ→(ρ→Prop)→Prop
 |_,.stop,_=>False
 |_,.done ts r,p=>aK ts=true∧p r
 |_,.fail,_=>False
 |_,.skip _ g,p=>g.can n p
 |_,.br _ c t f,p=>if c then t.can n p else f.can n p
 |_,.C4 _ _ x c t f,p=>if x=c then t.can n p else f.can n p
 |_,.sp c t f,p=>if c then t.can n p else f.can n p
 |_,.op t k,p=>∃x,t.run=some x∧(k x).can n p
 |_,.call c x k,p=>∃r,c.S n x=some r∧(k r).can n p
 |_,.fM c x k,p=>∃r,c.S n x=some r∧(k r).can n p
 |_,.bk c _ _ _ x k,p=>∃r,c.S n x=some r∧(k r).can n p
 |_,.tidy l g,p=>aK l=true∧g.can n p
 |_,.loop _ hd _ _ a0 body k,p=>aK hd=true∧nO (fun a q=>(body a).can n q) n a0 fun t=>(k t).can n p
 |_,.rC _ _ hd _ _ a0 body k,p=>aK hd=true∧nO (fun a q=>(body a).can n q) n a0 fun t=>(k t).can n p
 |_,.fH _ g,p=>g.can n p
 |_,.ve _ _ g,p=>g.can n p
 |_,.join _ _ g k,p=>g.can n fun t=>(k t).can n p
 |_,.pick z seen k,p=>((∀i,i<z.n→i∈seen)→(k none).can n p)∧∀i,i<z.n→i∉seen→(k (some i)).can n p
 |_,.grow z k,p=>z.ok=true∧(k true).can n p∧(k false).can n p
 |_,.inl _ g,p=>g.can n p
theorem G.H9{ρ:Type}(n m:Nat)(g:G P ρ)(p:ρ→Prop):(G.less m g).can n p=g.can n p:=by cases m<;>simp[G.less,G.can]
end
section
variable [aB] {P:Program} {cfg:dZ} {X:Env P}
def AA(P:Program)[aB](f:FuncId)(args:List AVal)(H:List aa)(Φ:aM→List aa→Prop):Prop:=
 (∃ fn c, P.funcs[f]? = some fn ∧ fn.body = some c ∧ fn.name ≠ "runtime.NumGoroutine") ∧
 ∀g w (vs:Array Value),Inv g H w→RL g w args vs.toList→Calls P f vs w fun e w'=>∃a H1,Φ a H1∧dJ g H w a H1 e w'
def My(P:Program)[aB](b:Nat)(args:List AVal)(H:List aa)(Φ:aM→List aa→Prop):Prop:=
 ∀g w (vs:Array Value) k sz,Inv g H w→RL g w args vs.toList→g.ah b 0=some (k,sz)→
  ∃rec,w.heap[k]? =some (.loop rec)∧vs.size=rec.params.size∧RoundIn Fence.wide 0 P k rec.fn (k5 rec vs) rec.assign rec.body w fun e w'=>∃a H1,Φ a H1∧dJ g H w a H1 e w'
structure nj(P:Program)[aB](N:yY P):Prop where
 fn:∀{ρ:Type} {n:Nat} {f:FuncId} {args:List AVal} {H:List aa} {g:G P ρ} {k:G P ρ→aM→List aa→Prop} {p:ρ→Prop},N.fn f args H g k→g.can n p→
  AA P f args H fun a H1=>∃g',k g' a H1∧g'.can n p
 AY:∀{ρ:Type} {n:Nat} {b:Nat} {args:List AVal} {H:List aa} {g:G P ρ} {k:G P ρ→aM→List aa→Prop} {p:ρ→Prop},N.AY b args H g k→g.can n p→
  My P b args H fun a H1=>∃g',k g' a H1∧g'.can n p
 lp:∀{σ:Type} {sh:Sh} {n:Nat} {ro:Option Nat} {H0:List aa} {b:Code} {g:G P (σ⊕sh.El)} {E:σ→St} {s:St} {Y:sh.El→aX×St} {p:σ⊕sh.El→Prop},N.lp ro H0 b g E s Y→g.can n p→
  ∀fro g0 w0,Inv g0 H0 w0→mz g0 ro fro→dR P fro g0 H0 w0 b s fun o s'=>∃(g':G P (σ⊕sh.El)),ng H0 E Y g' o s'∧g'.can n p
variable {ops:Array Oper} {n0 nid:Nat} {o:Oper} {s:St}
theorem nP{n:Nat}{ρ:Type}{p:ρ→Prop}:∀{g:G P ρ} {s:St} {k:G P ρ→St→Prop},mM g s k→g.can n p→∃g',k g' s∧g'.can n p
 | .br d c t f,s,k,h,hr=>by
  simp only[mM,mU]at h;obtain⟨hd,h1,h2⟩:=h;have hset:s.A.set d (.sc (.bool c))=s.A:=by
   apply List.ext_getElem?;intro j;by_cases hj:d=j
   ·grind
   ·rw[List.getElem?_set_ne hj]
  cases c with
  |true=>
   rw[hset]at h1;simp only[G.can,if_true]at hr;exact nP h1 hr
  |false=>
   rw[hset]at h2;simp only[G.can,Bool.false_eq_true,if_false]at hr;exact nP h2 hr
 | .C4 d ik x c t f,s,k,h,hr=>by
  simp only[mM,mU]at h;obtain⟨hd,h1,h2⟩:=h;by_cases hx:x=c
  ·subst hx;have hset:s.A.set d (.sc (.int ik x))=s.A:=by
    apply List.ext_getElem?;intro j;by_cases hj:d=j
    ·grind
    ·rw[List.getElem?_set_ne hj]
   rw[hset]at h1;simp only[G.can,if_true]at hr;exact nP h1 hr
  ·simp only[G.can,hx,if_false]at hr;exact nP h2 hr
 | .sp c t f,s,k,h,hr=>by
  simp only[mM]at h;cases c with
  |true=>
   simp only[G.can,if_true]at hr;exact nP h.1 hr
  |false=>
   simp only[G.can,Bool.false_eq_true,if_false]at hr;exact nP h.2 hr
 | .fail,s,k,h,hr=>by simp[G.can]at hr
 | .stop,s,k,h,hr=>by simp[G.can]at hr
 | .done ..,s,k,h,hr=>⟨_,h,hr⟩
 | .skip ..,s,k,h,hr=>⟨_,h,hr⟩
 | .op ..,s,k,h,hr=>⟨_,h,hr⟩
 | .call ..,s,k,h,hr=>⟨_,h,hr⟩
 | .fM ..,s,k,h,hr=>⟨_,h,hr⟩
 | .bk ..,s,k,h,hr=>⟨_,h,hr⟩
 | .tidy ..,s,k,h,hr=>⟨_,h,hr⟩
 | .loop ..,s,k,h,hr=>⟨_,h,hr⟩
 | .rC ..,s,k,h,hr=>⟨_,h,hr⟩
 | .fH ..,s,k,h,hr=>⟨_,h,hr⟩
 | .ve ..,s,k,h,hr=>⟨_,h,hr⟩
 | .join ..,s,k,h,hr=>⟨_,h,hr⟩
 | .pick ..,s,k,h,hr=>⟨_,h,hr⟩
 | .grow ..,s,k,h,hr=>⟨_,h,hr⟩
 | .inl ..,s,k,h,hr=>⟨_,h,hr⟩
theorem DA{H0:List aa}{n:Nat}{ρ:Type}{p:ρ→Prop}{g:G P ρ}{s:St}{k:G P ρ→St→Prop}(h:Dx H0 g s k)(hr:g.can n p):∃s' g',gD H0 s s'∧k g' s'∧g'.can n p:=by
 unfold Dx at h;split at h
 ·grind [G.can,cB]
 ·exact⟨s,g,.refl _ _,h,hr⟩
theorem La{pr:List Nat}{f:FuncId}{args:List AVal}{ids rs:List Nat}{Φ:aM→List aa→Prop}(hw:gX ops s.A o=some true)(hx:Dw P cfg pr (bX s.A) o.op s.H=some (.inl f,args,ids,rs))(hfn:AA P f args (mask ids s.H) Φ)
 {ro:Option Nat} {gg:Gh} {a:Act} {w:World} (hs:dF gg s a w) {i:Nat} (hi:ops[i]? =some o) (hcalm:Calm ro o) {K:Act→World→Prop} {Q:Exit→Act→World→Prop}
 (hK:∀a1 H1,Φ a1 H1→(∃e,ee s.H ids (some (a1,H1))=some (.ok e)∧mu Q K gg s a w (.ok {s with A:=gp s.A o.dst e.val,H:=e.apply s.H}))∨
  (∃v,ee s.H ids (some (a1,H1))=some (.aR v ids)∧mu Q K gg s a w (.aR v {s with H:=ids.foldl (fun H i=>H.set i .dead) s.H}))):wpOpIn (Fr ro) 0 P ops Q i K a w:=by
 unfold wpOpIn;simp only[hi];rw[mX hs hw];simp only[if_true];refine⟨fun _ _=>trivial,?_⟩
 rw[hcalm.semAt];unfold Dw at hx;split at hx
 ·rename_i _ fo as tys hop;split at hx
  ·rename_i n p q hf;split at hx
   ·rename_i fn hfx;split at hx
    ·split at hx
     ·simp only[Option.some.injEq,Prod.mk.injEq,Sum.inl.injEq]at hx;obtain⟨rfl,rfl,rfl,rfl⟩:=hx;have hev:=hs.eval fo;rw[hf]at hev;simp only[R]at hev;obtain⟨va,vb,hfo,l1,l2⟩:=hev;have hl:RL gg w (p++as.toList.map (bX s.A)++q) ((va.toArray++as.map a.eval)++vb.toArray).toList:=by
       simp only[Array.toList_append,Array.toList_map];exact dH (dH l1 (mq hs as)) l2
      obtain⟨⟨fn',c,k1,k2,k3⟩,hcalls⟩:=hfn;have hcalls:=hcalls gg w _ (nK hs.inv _) hl;have hex:(execOp a.eval o).run P w=.ok (.enter n ((va.toArray++as.map a.eval)++vb.toArray)) w:=by
       simp[execOp,hop,resolve,hfo,Deferred.ofValue,invoke,mY k1 k2 k3]
      rw[hex];simp only[Oper.uponIn];refine⟨nL ro,wQ (hcalls.mono ?_)⟩;rintro en w' ⟨a1,H1,hΦ,hc⟩;rcases hK a1 H1 hΦ with⟨e,hm,hk⟩ |⟨v,hm,hk⟩
      ·obtain⟨r',H',he,hp⟩:=iu hs.inv hm;simp only[Option.some.injEq,Prod.mk.injEq]at he;obtain⟨rfl,rfl⟩:=he;rcases hp with⟨bf,he,hp⟩ |⟨v',he,_⟩
       ·cases he;obtain⟨x,g',rfl,hi',hr,hla⟩:=hp en w' hc;exact hk g' _ w' ⟨hi',k8 (bD hla.ext _ _ hs.tmps) hr o.dst,by rw[put_defers];exact dw hla.ext _ _ hs.defs⟩ hla
       ·cases he
      ·obtain⟨r',H',he,hp⟩:=iu hs.inv hm;simp only[Option.some.injEq,Prod.mk.injEq]at he;obtain⟨rfl,rfl⟩:=he;rcases hp with⟨bf,he,hp⟩ |⟨v',he,hfl,hp⟩
       ·cases he
       ·cases he;obtain⟨x,rfl,hi',hr,hla⟩:=hp en w' hc;exact hk gg w' x hfl ⟨hi',bD hla.ext _ _ hs.tmps,dw hla.ext _ _ hs.defs⟩ hla hr
     ·cases hx
    ·cases hx
   ·cases hx
  ·grind
  ·cases hx
 ·cases hx
theorem Jn{pr:List Nat}{b:Nat}{args:List AVal}{ids rs:List Nat}{Φ:aM→List aa→Prop}(hw:gX ops s.A o=some true)(hx:Dw P cfg pr (bX s.A) o.op s.H=some (.inr b,args,ids,rs))(hfn:My P b args (mask ids s.H) Φ)
 {ro:Option Nat} {gg:Gh} {a:Act} {w:World} (hs:dF gg s a w) {i:Nat} (hi:ops[i]? =some o) (hcalm:Calm ro o) {K:Act→World→Prop} {Q:Exit→Act→World→Prop}
 (hK:∀a1 H1,Φ a1 H1→(∃e,ee s.H ids (some (a1,H1))=some (.ok e)∧mu Q K gg s a w (.ok {s with A:=gp s.A o.dst e.val,H:=e.apply s.H}))∨
  (∃v,ee s.H ids (some (a1,H1))=some (.aR v ids)∧mu Q K gg s a w (.aR v {s with H:=ids.foldl (fun H i=>H.set i .dead) s.H}))):wpOpIn (Fr ro) 0 P ops Q i K a w:=by
 unfold wpOpIn;simp only[hi];rw[mX hs hw];simp only[if_true];refine⟨fun _ _=>trivial,?_⟩
 rw[hcalm.semAt];unfold Dw at hx;split at hx
 ·rename_i _ fo as tys hop;split at hx
  ·grind
  ·rename_i b' hf;split at hx
   ·simp only[Option.some.injEq,Prod.mk.injEq,Sum.inr.injEq]at hx;obtain⟨rfl,rfl,rfl,rfl⟩:=hx;have hev:=hs.eval fo;rw[hf]at hev;simp only[R]at hev;obtain⟨k,sz,hk0,hfo⟩:=hev;have hl:RL gg w (as.toList.map (bX s.A)) (as.map a.eval).toList:=by
     simp only[Array.toList_map];exact mq hs as
    obtain⟨rec,r1,r2,hround⟩:=hfn gg w _ k sz (nK hs.inv _) hl hk0;rw[yU hop hfo r1 r2];simp only[Oper.uponIn];refine⟨nL ro,Dq (hround.mono ?_)⟩;rintro en w' ⟨a1,H1,hΦ,hc⟩;rcases hK a1 H1 hΦ with⟨e,hm,hk⟩ |⟨v,hm,hk⟩
    ·obtain⟨r',H',he,hp⟩:=iu hs.inv hm;simp only[Option.some.injEq,Prod.mk.injEq]at he;obtain⟨rfl,rfl⟩:=he;rcases hp with⟨bf,he,hp⟩ |⟨v',he,_⟩
     ·cases he;obtain⟨x,g',rfl,hi',hr,hla⟩:=hp en w' hc;exact hk g' _ w' ⟨hi',k8 (bD hla.ext _ _ hs.tmps) hr o.dst,by rw[put_defers];exact dw hla.ext _ _ hs.defs⟩ hla
     ·cases he
    ·obtain⟨r',H',he,hp⟩:=iu hs.inv hm;simp only[Option.some.injEq,Prod.mk.injEq]at he;obtain⟨rfl,rfl⟩:=he;rcases hp with⟨bf,he,hp⟩ |⟨v',he,hfl,hp⟩
     ·cases he
     ·cases he;obtain⟨x,rfl,hi',hr,hla⟩:=hp en w' hc;exact hk gg w' x hfl ⟨hi',bD hla.ext _ _ hs.tmps,dw hla.ext _ _ hs.defs⟩ hla hr
   ·cases hx
  ·cases hx
 ·cases hx
theorem N1{z:PK}{seen:List Nat}{it:Operand}(ho:o.op=.next it false)(hw:gX ops s.A o=some true)(hit:bX s.A it=.ptr z.b 0 0 0)(hb:s.H[z.b]? =some (.iter (.mp z.mb) z.n seen z.n))(hmb:s.H[z.mb]? =some (.map z.n z.es))
 {ro:Option Nat} {gg:Gh} {a:Act} {w:World} (hs:dF gg s a w) {i:Nat} (hi:ops[i]? =some o) (hcalm:Calm ro o) {K:Act→World→Prop} {Q:Exit→Act→World→Prop}
 (h0:(∀i,i<z.n→i∈seen)→mu Q K gg s a w (.ok {s with A:=gp s.A o.dst (.bW [.sc (.bool false)])}))
 (h1:∀i,i<z.n→i∉seen→mu Q K gg s a w (.ok {s with A:=gp s.A o.dst (.bW [.sc (.bool true),.av,.av]),H:=s.H.set z.b (.iter (.mp z.mb) z.n (seen++[i]) z.n)})):wpOpIn (Fr ro) 0 P ops Q i K a w:=by
 unfold wpOpIn;simp only[hi];rw[mX hs hw];simp only[if_true];refine⟨fun _ _=>trivial,?_⟩
 rw[hcalm.semAt];have hev:=hs.eval it;rw[hit]at hev;simp only[R,Nat.zero_mul,Nat.add_zero]at hev;obtain⟨k,sz,hk,hx⟩:=hev;obtain⟨k',mo,q1,q2,q3⟩:=hs.inv.good _ _ hb;rw[hk]at q1;simp only[Option.some.injEq,Prod.mk.injEq]at q1;obtain⟨rfl,rfl⟩:=q1;simp only[R]at q3;obtain⟨k2,z2,q4,q5⟩:=q3;obtain rfl:mo=some k2:=by simpa using q5
 obtain⟨k3,ents,r1,r2,r3⟩:=hs.inv.good _ _ hmb;rw[q4]at r1;simp only[Option.some.injEq,Prod.mk.injEq]at r1;obtain⟨rfl,rfl⟩:=r1;obtain⟨l1,l2⟩:=lN r3;have hborn:∀(j:Nat) e,ents.toList[j]? =some e→e.born=j:=by
  intro j e he;have hj:j<z.es.length:=by rw[l1];exact(List.getElem?_eq_some_iff.1 he).1
  obtain⟨e',f1,-,-,f4⟩:=l2 j z.es[j] (List.getElem?_eq_getElem hj);rw[he]at f1;cases f1;rw[f4,z.pf.2 j _ (List.getElem?_eq_getElem hj)]
 have hlen:ents.toList.length=z.n:=by rw[← l1,z.pf.1]
 have hold:∀x∈ents.toList,x.born<z.n:=by
  intro x hx;obtain⟨j,hj,rfl⟩:=List.getElem_of_mem hx;rw[hborn j _ (List.getElem?_eq_getElem hj)];omega
 have hexec:∀{v:Value} {w':World},(Instr.next (.pointer (some ⟨k,0,none⟩)) false o.type).run P w=.ok v w'→(execOp a.eval o).run P w=.ok (.value v) w':=by
  intro v w' h;simp[execOp,ho,hx,h,Result.andThen]
 rcases run_next_at w o.type k k2 z.n z.n seen.toArray ents z.n q2 r2 hold (Nat.le_refl _)with⟨hsz,hrun⟩ |⟨e,he,w1,hw1,hrun⟩
 ·rw[hexec hrun];simp only[Oper.uponIn];have hall:∀j,j<z.n→j∈seen:=by
   intro j hj;have hj':j<ents.toList.length:=by omega
   have:(leftOf ents seen.toArray)= #[]:=Array.eq_empty_of_size_eq_zero hsz;unfold leftOf at this;rw[Array.filter_eq_empty_iff]at this;have hm:=this ents.toList[j] (by simp)
   rw[hborn j _ (List.getElem?_eq_getElem hj')]at hm;simpa using hm
  have:=h0 hall gg (a.put o.dst (.tuple #[.bool false])) w ⟨hs.inv,k8 hs.tmps (by grind [R,RL]) o.dst,by rw[put_defers];exact hs.defs⟩ (aO.refl _ _ _)
  exact this
 ·rw[hexec hrun];simp only[Oper.uponIn];unfold leftOf at he;simp only[Array.toList_filter,List.mem_filter,Bool.not_eq_true',List.contains_toArray]at he;obtain⟨hmem,hns⟩:=he;obtain⟨j,hj,rfl⟩:=List.getElem_of_mem hmem;have hbj:=hborn j _ (List.getElem?_eq_getElem hj);rw[hbj]at hns ⊢;have hns':j∉seen:=by
   intro hin;rw[List.contains_iff_mem.2 hin]at hns;cases hns
  have hheap:w1.heap=w.heap:=by rcases hw1 with rfl |rfl<;>rfl
  have hkl:k<w.heap.size:=(Array.getElem?_eq_some_iff.1 q2).1;obtain⟨i1,i2⟩:=hs.inv.Cp (w':=setBlock w1 k (.mapIter (some k2) z.n (seen.toArray.push j) z.n)) (y:=.iter (.mp z.mb) z.n (seen++[j]) z.n) hb rfl hk rfl
   (fun j' hj'=>by simp only[setBlock,hheap];grind) (by simp[setBlock,hheap])
   (fun j' x hx'=>by
    have hne:j'≠k:=by rintro rfl;simp[World.shape?,q2]at hx'
    simp only[World.shape?,setBlock,hheap,Array.getElem?_setIfInBounds_ne (Ne.symm hne)]at hx' ⊢;exact hx')
   (by rcases hw1 with rfl |rfl<;>rfl) (by rcases hw1 with rfl |rfl<;>exact⟨rfl,by first |exact Nat.le_refl _ |exact Nat.le_succ _⟩) (by rcases hw1 with rfl |rfl<;>rfl)
   (fun hext=>⟨k,some k2,hk,by simp[setBlock,hheap,hkl],by grind [R]⟩)
  exact h1 j (by omega) hns' gg _ _ ⟨i1,k8 (bD i2.ext _ _ hs.tmps) (by grind [R,RL]) o.dst,by rw[put_defers];exact dw i2.ext _ _ hs.defs⟩ i2
theorem N2{z:GK}{ST XT:TypeId}{args:Array Operand}{ats:Array TypeId}{sx x:Operand}(ho:o.op=.call {callee:=.builtin .append,args:=args,argTypes:=ats})(h0:ats[0]? =some ST)(h1:ats[1]? =some XT)(hs0:args[0]? =some sx)(hx0:args[1]? =some x)
 (hw:gX ops s.A o=some true) (hn:s.H[nid]? =some .aV) (hsz:args.size=2) (hT:Ec P ST XT=some (z.n,z.bytes)) (es:bX s.A sx=.sl z.b z.aj z.n 0 z.len) (hrow:s.H[z.b]? =some (.row z.aj z.n (z.l.map z.enc)))
 (hnew:(elems (bX s.A x)).run s.H=some (z.m.map z.enc)) (hall:∀x,(z.enc x).length=z.n) (hpos:z.m.isEmpty=false) (hok:z.ok=true)
 {ro:Option Nat} {gg:Gh} {a:Act} {w:World} (hs:dF gg s a w) {i:Nat} (hi:ops[i]? =some o) (hcalm:Calm ro o) {K:Act→World→Prop} {Q:Exit→Act→World→Prop}
 (k1:mu Q K gg s a w (.ok {s with A:=gp s.A o.dst (.sl z.b z.aj z.n 0 (z.l++z.m).length),H:=s.H.set z.b (.row z.aj z.n ((z.l++z.m).map z.enc))}))
 (k2:mu Q K gg s a w (.ok {s with A:=gp s.A o.dst (.sl nid 0 z.n 0 (z.l++z.m).length),H:=s.H.set nid (.row 0 z.n ((z.l++z.m).map z.enc))})):wpOpIn (Fr ro) 0 P ops Q i K a w:=by
 unfold wpOpIn;simp only[hi];rw[mX hs hw];simp only[if_true];refine⟨fun _ _=>trivial,?_⟩
 rw[hcalm.semAt];unfold GK.ok at hok;simp only[Bool.and_eq_true,decide_eq_true_eq]at hok;obtain⟨hlen,hroom⟩:=hok;have hml:(z.m.map z.enc).length≠0:=by
  cases hm:z.m with
  |nil=>rw[hm]at hpos;cases hpos
  |cons _ _=>simp
 obtain⟨v,w',hrun,hc⟩:=N0 (ah:=bX s.A) (a:=a) (o:=o) (b:=z.b) (aj:=z.aj) (rows:=z.l.map z.enc) hs.inv hs.eval hn ho h0 h1 hs0 hx0 hsz hT (by rw[es,hlen,List.length_map]) hrow hnew
  (List.all_eq_true.2 fun r hr=>by obtain⟨y,_,rfl⟩:=List.mem_map.1 hr;simp[hall y]) hml (by simpa using hroom)
 rw[hrun];simp only[Oper.uponIn];simp only[List.length_map,← List.length_append,← List.map_append]at hc;rcases hc with⟨r1,r2,r3⟩ |⟨g',r1,r2,r3⟩
 ·exact k1 gg _ _ ⟨r2,k8 (bD r3.ext _ _ hs.tmps) r1 o.dst,by rw[put_defers];exact dw r3.ext _ _ hs.defs⟩ r3
 ·exact k2 g' _ _ ⟨r2,k8 (bD r3.ext _ _ hs.tmps) r1 o.dst,by rw[put_defers];exact dw r3.ext _ _ hs.defs⟩ r3
def Env.still(X:Env P):Env P:={X with N:=rD P}
theorem Mz{ids:List Nat}{H H1:List aa}{a:aM}{k k':cr→List Nat→Bool→Prop}{kp kp':AVal→Prop}(hk:∀e ws nw,k e ws nw→k' e ws nw)(hp:∀v,kp v→kp' v)(h:BB ids H a H1 k kp):BB ids H a H1 k' kp':=by
 unfold BB at h ⊢;split at h
 ·grind [kg]
 grind
theorem Ia{ρ:Type}{n:Nat}{f:FuncId}{args:List AVal}{H:List aa}{c:tu P}{x:c.X}{kk:c.sh.El→G P ρ}{k:G P ρ→aM→List aa→Prop}{p:ρ→Prop}(h:KT P f args H c x kk k)(hr:(G.fM c x kk).can n p):
 AA P f args H fun a H1=>∃g',k g' a H1∧g'.can n p:=by
 obtain⟨_,he,h⟩:=h;simp only[Option.some.injEq,Prod.mk.injEq]at he;obtain⟨rfl,ha,rfl⟩:=he;obtain⟨q,hq,hr⟩:=hr;have hf:=bF.wk (args:=args) (by rw[ha];exact c.ok n x q hq)
 exact⟨hf.1,fun g w vs hi hl=>(hf.2 g w vs hi hl).mono fun e w' hc=>⟨_,_,⟨kk q,(c.sh.bO _).1 h q,hr⟩,hc⟩⟩
def CD(X:Env P)(ops:Array Oper)(n0:Nat)(o:Oper)(nid:Nat)(s:St){ρ:Type}(n:Nat)(p:ρ→Prop)(k:G P ρ→dz→fK→Prop):Prop:=
 ∃orc,fL P orc∧∃res f g',ej P X.cfg orc ops n0 o nid s=some (res,f)∧k g' res f∧g'.can n p
def Fv(P:Program)[aB](ops:Array Oper)(o:Oper)(s:St){ρ:Type}(n:Nat)(p:ρ→Prop)(k:G P ρ→dz→fK→Prop):Prop:=
 ∀(ro:Option Nat) (gg:Gh) (a:Act) (w:World),dF gg s a w→∀i,ops[i]? =some o→Calm ro o→∀(K:Act→World→Prop) (Q:Exit→Act→World→Prop),
  (∀g' res f,k g' res f→g'.can n p→mu Q K gg s a w res)→wpOpIn (Fr ro) 0 P ops Q i K a w
theorem CD.any{ρ:Type}{n:Nat}{p:ρ→Prop}{k:G P ρ→dz→fK→Prop}(h:CD X ops n0 o nid s n p k):Fv P ops o s n p k:=by
 intro ro gg a w hs i hi hcalm K Q hK;obtain⟨orc,ho,res,f,g',hst,hk,hr⟩:=h;grind [nM]
theorem AB(hNe:nj P X.N){n:Nat}{ρ:Type}{p:ρ→Prop}{g:G P ρ}{draw:Bool}(hz:draw=true→X.N=rD P){H0:List aa}{k:G P ρ→dz→fK→Prop}(h:pq P X draw H0 ops n0 o nid g s k)(hr:g.can n p):
 CD X ops n0 o nid s n p k∨(draw=false∧Fv P ops o s n p k):=by
 unfold pq at h;split at h
 ·rename_i m g';split at h
  ·rename_i res f hs;exact .inl ⟨uy,qk,res,f,_,hs,h,by rw[G.H9];simpa[G.can]using hr⟩
  ·exact nomatch h
 ·rename_i Y t kk;obtain⟨x,hx,hr⟩:=hr;have h':pq P X.still draw H0 ops n0 o nid (.op t (fun x=>.done [] x):G P Y) s (fun g' r f=>∃x,g'=.done [] x∧k (kk x) r f):=by
   refine⟨h.1,h.2.1,fun x=>?_⟩
   have:=h.2.2 x;simp only[kg,fU,dI]at this ⊢;exact⟨x,rfl,this⟩
  obtain⟨orc,ho,res,f,g',hs,⟨x',rfl,hk⟩,hr'⟩:=jW (X:=X.still) (n:=n) (r:=x) uC h' (by simp[G.run,hx,aK])
  obtain rfl:x'=x:=by simpa[G.run,aK]using hr'
  exact .inl ⟨orc,ho,res,f,_,hs,hk,hr⟩
 ·rename_i c x kk;obtain⟨q,hx,hr⟩:=hr;have h':pq P X.still draw H0 ops n0 o nid (.call c x (fun q=>.done [] q):G P c.sh.El) s (fun g' r f=>∃x,g'=.done [] x∧k (kk x) r f):=by
   refine⟨h.1,h.2.1,(c.sh.bO _).2 fun q=>?_⟩
   have:=(c.sh.bO _).1 h.2.2 q;simp only[Env.still];split at this
   ·exact⟨q,rfl,this⟩
   ·exact nomatch this
  obtain⟨orc,ho,res,f,g',hs,⟨x',rfl,hk⟩,hr'⟩:=jW (X:=X.still) (n:=n) (r:=q) uC h' (by simp[G.run,hx,aK])
  obtain rfl:x'=q:=by simpa[G.run,aK]using hr'
  exact .inl ⟨orc,ho,res,f,_,hs,hk,hr⟩
 ·rename_i c x kk;obtain⟨q,hx,hr⟩:=hr;have h':pq P X.still draw H0 ops n0 o nid (.fM c x (fun q=>.done [] q):G P c.sh.El) s (fun g' r f=>∃x,g'=.done [] x∧k (kk x) r f):=by
   refine⟨h.1,h.2.1,(c.sh.bO _).2 fun q=>?_⟩
   have:=(c.sh.bO _).1 h.2.2 q;simp only[Env.still];split at this
   ·exact⟨q,rfl,this⟩
   ·exact nomatch this
  obtain⟨orc,ho,res,f,g',hs,⟨x',rfl,hk⟩,hr'⟩:=jW (X:=X.still) (n:=n) (r:=q) uC h' (by simp[G.run,hx,aK])
  obtain rfl:x'=q:=by simpa[G.run,aK]using hr'
  exact .inl ⟨orc,ho,res,f,_,hs,hk,hr⟩
 ·rename_i c b v ex x kk;obtain⟨q,hx,hr⟩:=hr;have h':pq P X.still draw H0 ops n0 o nid (.bk c b v ex x (fun q=>.done [] q):G P c.sh.El) s (fun g' r f=>∃x,g'=.done [] x∧k (kk x) r f):=by
   refine⟨h.1,h.2.1,h.2.2.1,(c.sh.bO _).2 fun q=>?_⟩
   have:=(c.sh.bO _).1 h.2.2.2 q;simp only[Env.still];split at this
   ·grind
   ·exact⟨q,rfl,this⟩
  obtain⟨orc,ho,res,f,g',hs,⟨x',rfl,hk⟩,hr'⟩:=jW (X:=X.still) (n:=n) (r:=q) uC h' (by simp[G.run,hx,aK])
  obtain rfl:x'=q:=by simpa[G.run,aK]using hr'
  exact .inl ⟨orc,ho,res,f,_,hs,hk,hr⟩
 ·rename_i pr g';obtain⟨hw,hpr,hc⟩:=h;simp only[G.can]at hr;cases draw with
  |true=>
   rw[hz rfl]at hc;split at hc
   ·rename_i f args ids rs hx;simp only[ct,rD]at hc;split at hc
    ·rename_i c x kk;obtain⟨q,hq,hr⟩:=hr;have h':pq P X.still true H0 ops n0 o nid (.inl pr (.fM c x (fun q=>.done [] q)):G P c.sh.El) s (fun g' r f=>∃x,g'=.done [] x∧k (kk x) r f):=by
      refine⟨hw,hpr,?_⟩;simp only[Env.still,hx,ct,rD];refine⟨hc.1,hc.2.1,(c.sh.bO _).2 fun q=>?_⟩
      refine Mz (fun e ws nw hk=>?_) (fun v hk=>?_) ((c.sh.bO _).1 hc.2.2 q)
      ·grind
      ·exact⟨q,rfl,hk⟩
     obtain⟨orc,ho,res,f,g',hs,⟨x',rfl,hk⟩,hr'⟩:=jW (X:=X.still) (n:=n) (r:=q) uC h' (by simp[G.run,hq,aK])
     obtain rfl:x'=q:=by simpa[G.run,aK]using hr'
     exact .inl ⟨orc,ho,res,f,_,hs,hk,hr⟩
    ·exact hc.elim
   ·grind [ct,rD]
   ·exact nomatch hc
  |false=>
   refine .inr ⟨rfl,?_⟩;intro ro gg a w hs i hi hcalm K Q hK;split at hc
   ·rename_i f args ids rs hx;simp only[ct]at hc;refine La hw hx (hNe.fn hc hr) hs hi hcalm fun a1 H1 ⟨g2,hk,hr2⟩=>?_
    grind [uA,fU,dI]
   ·rename_i b args ids rs hx;simp only[ct]at hc;refine Jn hw hx (hNe.AY hc hr) hs hi hcalm fun a1 H1 ⟨g2,hk,hr2⟩=>?_
    grind [uA,fU,dI]
   ·exact nomatch hc
 ·rename_i z seen kk;cases draw with
  |true=>exact h.elim
  |false=>
   refine .inr ⟨rfl,?_⟩;simp only[G.can]at hr;simp only at h;split at h
   ·rename_i it hop;obtain⟨hw,hit,hb,hmb,h0,h1⟩:=h;intro ro gg a w hs i hi hcalm K Q hK;simp only[fU]at h0;refine N1 hop hw hit hb hmb hs hi hcalm (fun hall=>hK _ _ _ h0 (hr.1 hall)) fun j hj hn=>?_
    have:=h1 j;grind [fU,dI,cr.apply]
   ·exact h.elim
 ·rename_i z kk;cases draw with
  |true=>exact h.elim
  |false=>
   refine .inr ⟨rfl,?_⟩;simp only[G.can]at hr;simp only at h;split at h
   ·rename_i args ats hop;split at h
    ·rename_i ST XT sx x h0 h1 hs0 hx0;obtain⟨hw,hn,hsz,hT,es,hrow,hnew,hall,hpos,q1,q2⟩:=h;intro ro gg a w hs i hi hcalm K Q hK;simp only[fU,dI]at q1 q2;have p1:=hK _ _ _ q1 hr.2.1;have p2:=hK _ _ _ q2 hr.2.2;exact N2 hop h0 h1 hs0 hx0 hw hn (of_decide_eq_true hsz) hT es hrow hnew hall hpos hr.1 hs hi hcalm (by simpa[cr.apply]using p1) (by simpa[cr.apply]using p2)
    ·exact h.elim
   ·exact h.elim
 ·exact hr.elim
 ·exact nomatch h
 ·exact nomatch h
theorem MA(hNe:nj P X.N)(hz:X.N=rD P){n:Nat}{ρ:Type}{p:ρ→Prop}{g:G P ρ}{H0:List aa}{k:G P ρ→dz→fK→Prop}(h:wv P X true H0 ops n0 o nid g s k)(hr:g.can n p):
 CD X ops n0 o nid s n p k:=by
 unfold wv at h;grind [AB]
theorem Ib(hNe:nj P X.N)(hz:X.N=rD P){n:Nat}{ρ:Type}{p:ρ→Prop}{H0:List aa}:∀(l:List (Oper×Nat)) (i:Nat) (g:G P ρ) (s:St) (k:G P ρ→dz→List fK→Prop),yZ P X true H0 ops n0 l g s k→g.can n p→
 ∃orcs:Nat→iV,(∀j,fL P (orcs j))∧∃res fs g',jT P X.cfg orcs ops n0 i l s=some (res,fs)∧k g' res fs∧g'.can n p
 | [],i,g,s,k,h,hr=>⟨fun _=>uy,fun _=>qk,.ok s,[],g,rfl,h,hr⟩
 | (o,nid)::rest,i,g,s,k,h,hr=>by
  simp only[yZ]at h;obtain⟨g1,h,hr⟩:=nP h hr;obtain⟨orc,ho,res,f,g2,hs,h,hr⟩:=MA hNe hz h hr;cases res with
  |ok s'=>
   obtain⟨A,H,D⟩:=s';simp only[cU]at h;obtain⟨orcs,hos,res,fs,g3,hrun,hk,hr⟩:=Ib hNe hz rest (i+1) g2 _ _ h hr;refine⟨fun j=>if j=i then orc else orcs j,fun j=>(by grind:fL P (if j=i then orc else orcs j)),res,f::fs,g3,?_,hk,hr⟩
   grind [jT,wZ]
  |aR v s'=>
   exact⟨fun _=>orc,fun _=>ho,.aR v s',[f],g2,by simp only[jT,hs],h,hr⟩
theorem Jo(hNe:nj P X.N)(hz:X.N=rD P){n:Nat}{ρ:Type}{p:ρ→Prop}{H0:List aa}{g:G P ρ}{s:St}{k:G P ρ→dz→Prop}(h:qj P X H0 ops true g s k)(hr:g.can n p):
 ∃orcs:Nat→iV,(∀j,fL P (orcs j))∧∃res g',sD P X.cfg orcs ops true s=some res∧k g' res∧g'.can n p:=by
 simp only[qj,fT,o8]at h;obtain⟨orcs,ho,res,fs,g',hrun,hk,hr⟩:=Ib hNe hz _ 0 _ _ _ h hr;refine⟨orcs,ho,?_⟩;simp only[sD,fT,o8,hrun];grind
theorem MB(hNe:nj P X.N){n:Nat}{ρ:Type}{p:ρ→Prop}{g:G P ρ}{H0:List aa}{k:G P ρ→dz→fK→Prop}(h:wv P X false H0 ops n0 o nid g s k)(hr:g.can n p):
 ∃s2,gD H0 s s2∧Fv P ops o s2 n p k:=by
 unfold wv at h;split at h
 ·rename_i l g';simp only[G.can]at hr;obtain⟨s',hw,h⟩:=cB hr.1 h;refine⟨s',hw,?_⟩;rcases AB hNe (fun e=>by cases e) h hr.2 with h |⟨_,h⟩
  ·exact h.any
  ·exact h
 ·refine⟨s,.refl _ _,?_⟩;rcases AB hNe (fun e=>by cases e) h hr with h |⟨_,h⟩
  ·exact h.any
  ·exact h
theorem Ic(hNe:nj P X.N){n:Nat}{ρ:Type}{p:ρ→Prop}{H0:List aa}:∀(l:List (Oper×Nat)) (i:Nat) (g:G P ρ) (s:St) (k:G P ρ→dz→List fK→Prop),yZ P X false H0 ops n0 l g s k→g.can n p→
 (∀(j:Nat),(l[j]?).map (fun(p:Oper×Nat)=>p.1)=(ops.toList.drop i)[j]?)→
 ∀(fro:Option Nat),(∀(k:Nat) (o:Oper),ops[k]? =some o→Calm fro o)→∀(gg:Gh) (ww:World) (Q:Exit→Act→World→Prop),Inv gg H0 ww→∀(g1:Gh) (a:Act) (w:World),dF g1 s a w→aO gg H0 ww g1 s.H w→
  (∀g' res fs,k g' res fs→g'.can n p→oE Q gg H0 ww res)→wpOpsIn (Fr fro) 0 P ops Q (List.range' i l.length) a w
 | [],i,g,s,k,h,hr,_=>fun _ _ _ _ _ _ g1 a w hs hl hp=>hp g (.ok s) [] h hr g1 a w hs hl
 | (o,nid)::rest,i,g,s,k,h,hr,hj=>by
  intro fro hcalm gg ww Q hi0 g1 a w hs hl hp;have hi:ops[i]? =some o:=by
   have:=hj 0;simp at this;exact this.symm
  simp only[yZ]at h;obtain⟨g',h,hr⟩:=nP h hr;obtain⟨s2,hw2,hany⟩:=MB hNe h hr;simp only[List.length_cons,List.range'_succ,wpOpsIn_cons];obtain⟨g2,hs2,hl2⟩:=hw2 gg ww g1 a w hi0 hl hs;refine hany fro g2 a w hs2 i hi (hcalm i o hi) _ Q fun g3 res f hk hr3=>?_
  cases res with
  |ok s'=>
   obtain⟨A,H,D⟩:=s';simp only[cU]at hk;intro g5 a' w' hs' hla;exact Ic hNe rest (i+1) g3 ⟨A,H,D⟩ _ hk hr3 (fun j=>by
    have:=hj (j+1);grind) fro hcalm gg ww Q hi0 g5 a' w' hs' (hl2.trans hla) (fun g' res fs h1 h2=>hp g' res _ h1 h2)
  |aR v s'=>exact fun g' w' x hv hs' hla hx=>hp g3 (.aR v s') _ hk hr3 g' a w' x hv hs' (hl2.trans hla) hx
theorem Jp(hNe:nj P X.N){H0:List aa}{n:Nat}{ρ:Type}{p:ρ→Prop}{id:Nat}{g:G P ρ}{s:St}{k:G P ρ→dz→Prop}(h:qj P X H0 ops false g s k)(hr:g.can n p):
 ∀(fro:Option Nat),(∀(k:Nat) (o:Oper),ops[k]? =some o→Calm fro o)→∀(gg:Gh) (ww:World),Inv gg H0 ww→dR P fro gg H0 ww (.region id ops false) s fun o s'=>∃g' res,k g' res∧g'.can n p∧o=(Cv res).1∧s'=(Cv res).2:=by
 intro fro hcalm gg ww hi0 Q g1 a w hs hl hp;simp only[qj,fT,o8]at h;generalize (if kZ ops.toList=0 then 0 else nI s.H)=t0 at h
 generalize kZ ops.toList - t0=m0 at h;generalize s.H.length - t0=f0 at h;obtain⟨i1,i2⟩:=hs.inv.reserve m0;have hs0:dF g1 {s with H:=s.H++List.replicate m0 .aV} a w:=⟨i1,hs.tmps,hs.defs⟩;refine wpIn_region ?_;rw[List.range_eq_range'];have:=Ic hNe _ 0 _ _ _ h hr (fun j=>by rw[pn];simp) fro hcalm gg ww Q hi0 g1 a w hs0 (hl.trans i2) (fun g' res fs hk hr'=>by
  simp only[Bool.not_false,if_true]at hk;have:=hp _ _ ⟨g',res,hk,hr',rfl,rfl⟩;cases res with
  |ok s'=>exact this
  |aR v s'=>exact this)
 grind [th]
theorem MC{f:FuncId}{pa qa:List AVal}{l:Nat}{H1:List aa}{D1:List qz}{ids:List Nat}{Φ:aM→List aa→Prop}{ro fro:Option Nat}{fid:FuncId}{x:Operand}{ps:Array Tmp}{assign body:Code}{s:St}{gg:Gh}{a:Act}{w:World}{Q:Exit→Act→World→Prop}
 (hro:mz gg ro fro) (hf:bX s.A x=.fn (.func f) pa qa) (hen:Br ro fid ps assign body s=some (l,H1,D1)) (hfn:AA P f (pa++[.gZ l]++qa) (mask ids H1) Φ) (hs:dF gg s a w)
 (hK:∀a1 H2,Φ a1 H2→(∃e out s',ee H1 ids (some (a1,H2))=some (.ok e)∧HF l D1 s (e.apply H1)=some (out,s')∧dQ Q gg s.H w s' out)∨
  (∃v,ee H1 ids (some (a1,H2))=some (.aR v ids)∧dQ Q gg s.H w {s with H:=ids.foldl (fun H i=>H.set i .dead) H1,D:=D1} (.aR v))):(Code.rangeFunc x ps assign body).wpIn (Fr fro) 0 P Q a w:=by
 have hev:=hs.eval x;rw[hf]at hev;refine wpIn_rangeFunc fun fn _=>?_
 obtain⟨k,mark,w1,g1,hrun,i1,l1,rk,hd⟩:=CY (P:=P) hro hs hen fn;have hev1:=nX l1.ext _ _ hev;simp only[R]at hev1;obtain⟨va,vb,hfo,ra,rb⟩:=hev1;have hl:RL g1 w1 (pa++[.gZ l]++qa) ((va.toArray++ #[Value.func (.yield k) #[] #[]])++vb.toArray).toList:=by
  simp only[Array.toList_append];refine dH (dH (by simpa using ra) ?_) (by simpa using rb)
  simp only[RL,R];exact⟨_,_,rfl,⟨k,0,rk,rfl⟩,rfl⟩
 have ht:=bD l1.ext _ _ hs.tmps;obtain⟨⟨fn1,c1,k1,k2,k3⟩,hcalls⟩:=hfn;have hcalls:=hcalls g1 w1 _ (nK i1 _) hl;refine⟨k,mark,w1,{target:=.fn (.func f) vb.toArray,args:=va.toArray++ #[Value.func (.yield k) #[] #[]]},w1,f,(va.toArray++ #[Value.func (.yield k) #[] #[]])++vb.toArray,w1,hrun,?_,fun _ _=>trivial,?_,nL fro,wQ ?_⟩
 ·have hc:a.eval (.const (.func (.yield k) #[] #[]))=.func (.yield k) #[] #[]:=rfl;simp[resolve,hfo,Deferred.ofValue,hc]
 ·simp[invoke,mY k1 k2 k3]
 ·refine hcalls.mono ?_;rintro e w' ⟨a1,H2,hΦ,hc⟩;rcases hK a1 H2 hΦ with⟨ef,out,s',hm,hend,hpost⟩ |⟨v,hm,hpost⟩
  ·obtain⟨r',H',he,hp⟩:=iu i1 hm;simp only[Option.some.injEq,Prod.mk.injEq]at he;obtain⟨rfl,rfl⟩:=he;rcases hp with⟨bf,he,hp⟩ |⟨v',he,_⟩
   ·cases he;obtain⟨y,g',rfl,hi',_,hla⟩:=hp e w' hc;exact F5 (a:={a with defers:=mark++a.defers}) (hla.ext.ah _ _ _ rk) hi' (bD hla.ext _ _ ht) (dw hla.ext _ _ hd) hend (hpost.later (l1.trans hla))
   ·cases he
  ·obtain⟨r',H',he,hp⟩:=iu i1 hm;simp only[Option.some.injEq,Prod.mk.injEq]at he;obtain⟨rfl,rfl⟩:=he;rcases hp with⟨bf,he,hp⟩ |⟨v',he,hfl,hp⟩
   ·cases he
   ·cases he;obtain⟨y,rfl,hi',hr,hla⟩:=hp e w' hc;exact hpost g1 {a with defers:=mark++a.defers} w' y hfl ⟨hi',bD hla.ext _ _ ht,dw hla.ext _ _ hd⟩ (l1.trans hla) hr
def Comes(P:Program)[aB](ro:Option Nat)(H0:List aa)(c:Code)(s:St){ρ:Type}(n:Nat)(p:ρ→Prop)(k:G P ρ→aX→St→Prop):Prop:=
 ∀fro g0 w0,Inv g0 H0 w0→mz g0 ro fro→dR P fro g0 H0 w0 c s fun o s'=>∃g',k g' o s'∧g'.can n p
theorem Comes.weak{ro:Option Nat}{H0:List aa}{c:Code}{s s1:St}{ρ:Type}{n:Nat}{p:ρ→Prop}{k:G P ρ→aX→St→Prop}(hw:gD H0 s s1)(h:Comes P ro H0 c s1 n p k):Comes P ro H0 c s n p k:=
 fun fro g0 w0 hi hro=>.weak hi hw (h fro g0 w0 hi hro)
theorem dR.post'{fro:Option Nat}{g0:Gh}{H0:List aa}{w0:World}(hi0:Inv g0 H0 w0){c:Code}{s:St}{Φ Ψ:aX→St→Prop}(h:dR P fro g0 H0 w0 c s Φ)(hw:∀o s1,Φ o s1→∃s2,gD H0 s1 s2∧Ψ o s2):dR P fro g0 H0 w0 c s Ψ:=
 fun Q g a w hs hl hk=>h Q g a w hs hl fun o' s' hf=>let⟨_,h1,h2⟩:=hw o' s' hf;dQ.weak hi0 h1 (hk _ _ h2)
theorem Gf{H0:List aa}{sh:Sh}{Y:sh.El→aX×St}{n:Nat}{g:G P sh.El}{o:aX}{s:St}{q:sh.El→Prop}(h:Cz H0 Y g o s)(hr:g.can n q):∃s' t,gD H0 s s'∧(o,s')=Y t∧q t:=by
 unfold Cz at h;split at h
 ·rename_i ts t';obtain⟨hok,hq⟩:=hr;grind [cB]
 ·exact hr.elim
 ·exact nomatch h
theorem Gg{n:Nat}{σ:Type}{sh:Sh}{H0:List aa}{E:σ→St}{Y:sh.El→aX×St}{g:G P (σ⊕sh.El)}{o:aX}{s:St}{q:σ⊕sh.El→Prop}(h:ng H0 E Y g o s)(hr:g.can n q):
 ∃s' v,q v∧gD H0 s s'∧match v with | .inl a=>o=.normal∧s'=E a | .inr t=>o≠ .normal∧(o,s')=Y t:=by
 unfold ng at h;split at h
 ·rename_i ts a;obtain⟨hok,hq⟩:=hr;grind [cB]
 ·rename_i ts t;obtain⟨hok,hq⟩:=hr;grind [cB]
 ·exact hr.elim
 ·exact nomatch h
theorem Gi(hNe:nj P X.N){H0:List aa}{n:Nat}{σ:Type}{sh:Sh}{b:Code}{E:σ→St}{s:St}{Y:sh.El→aX×St}{p:σ⊕sh.El→Prop}{f:G P (σ⊕sh.El)→Prop}
 (ih:∀g,f g→g.can n p→Comes P X.ro H0 b s n p (ng H0 E Y)) {g:G P (σ⊕sh.El)} (h:CB X.N X.ro H0 b E s Y g f) (hr:g.can n p):
 Comes P X.ro H0 b s n p (ng H0 E Y):=by
 unfold CB at h;split at h
 ·exact hNe.lp h hr
 ·exact ih _ h hr
theorem zJ(hm:P.follows .mixedOrders=true)(hNe:nj P X.N)(hnd:X.nd=true){H0:List aa}{n:Nat}:∀(c:Code) {ρ:Type} (p:ρ→Prop) (g:G P ρ) (s:St) (k:G P ρ→aX→St→Prop),iI P X H0 c g s k→g.can n p→Comes P X.ro H0 c s n p k:=by
 have hat:X.at true=X.still:=by simp[Env.at,hnd,Env.still]
 have hst:nj P X.still.N:=by
  refine⟨fun h hr=>?_,fun h=>h.elim,fun h=>h.elim⟩
  simp only[Env.still,rD]at h;split at h
  ·exact Ia h hr
  ·exact h.elim
 intro c;induction c with
 |skip=>intro ρ p g s k h hr fro g0 w0 _ _;exact .skip ⟨g,h,hr⟩
 |region id ops draw=>
  intro ρ p g s k h hr;simp only[iI]at h;split at h
  ·exact h.elim
  rename_i hoff;obtain⟨s1,g1,hw,h,hr⟩:=DA h hr;refine .weak hw ?_;cases draw with
  |false=>
   intro fro g0 w0 hi hro;refine(Jp (X:=X) hNe (id:=id) h hr fro (uB hro hoff) g0 w0 hi).mono ?_;rintro o s' ⟨g',res,hk,hr',rfl,rfl⟩;cases res with
   |ok s'=>exact⟨g',hk,hr'⟩
   |aR v s'=>exact⟨g',hk,hr'⟩
  |true=>
   rw[hat]at h;obtain⟨orcs,ho,res,g',hreg,h,hr⟩:=Jo hst rfl h hr;intro fro g0 w0 hi hro;cases res with
   |ok s'=>exact .region hm ho (uB hro hoff) hreg ⟨g',h,hr⟩
   |aR v s'=>exact .region hm ho (uB hro hoff) hreg ⟨g',h,hr⟩
 |seq a b iha ihb=>
  intro ρ p g s k h hr fro g0 w0 hi hro;simp only[iI]at h;refine .seq ((iha p g s _ h hr fro g0 w0 hi hro).mono ?_);rintro o s' ⟨g1,h1,hr1⟩;cases o with
  |normal=>exact ihb p g1 s' k h1 hr1 fro g0 w0 hi hro
  |exit id=>exact⟨g1,h1,hr1⟩
  |ret=>exact⟨g1,h1,hr1⟩
  |aR v=>exact⟨g1,h1,hr1⟩
 |cond c a b iha ihb=>
  have main:∀{ρ:Type} (p:ρ→Prop) (g:G P ρ) (s:St) (k:G P ρ→aX→St→Prop),CA P X H0 c a b (fun g s k=>iI P X H0 a g s k) (fun g s k=>iI P X H0 b g s k) g s k→g.can n p→Comes P X.ro H0 (.cond c a b) s n p k:=by
   intro ρ p g s k h hr;unfold CA at h;obtain⟨s1,g1,hw,h,hr⟩:=DA h hr;obtain⟨g1,h,hr⟩:=nP h hr;refine .weak hw ?_;split at h
   ·rename_i m g2;have hr2:(G.less m g2).can n p:=by rw[G.H9];simpa[G.can]using hr
    split at h
    ·rename_i hc;exact fun fro g0 w0 hi hro=>.cond true hc (iha p _ _ k h hr2 fro g0 w0 hi hro)
    ·rename_i hc;exact fun fro g0 w0 hi hro=>.cond false hc (ihb p _ _ k h hr2 fro g0 w0 hi hro)
    ·exact h.elim
   ·exact hr.elim
   ·exact nomatch h
  intro ρ p g s k h hr;simp only[iI]at h;split at h
  ·rename_i sh Y g1 kk;intro fro g0 w0 hi hro;refine(main _ g1 s _ h.1 hr fro g0 w0 hi hro).post' hi ?_;rintro o s1 ⟨g',hj,hr'⟩;obtain⟨s2,t,hw,e,hq⟩:=Gf hj hr';have e1:o=(Y t).1:=congrArg Prod.fst e;have e2:s2=(Y t).2:=congrArg Prod.snd e;refine⟨s2,hw,kk t,?_,hq⟩;rw[e1,e2];exact(sh.bO _).1 h.2 t
  ·exact main p g s k h hr
 |block id b ih=>
  have main:∀{ρ:Type} (p:ρ→Prop) (g:G P ρ) (s:St) (k:G P ρ→aX→St→Prop),iI P X H0 b g s (zF id k)→g.can n p→Comes P X.ro H0 (.block id b) s n p k:=by
   intro ρ p g s k h hr fro g0 w0 hi hro;refine .block ((ih p g s _ h hr fro g0 w0 hi hro).mono ?_);rintro o s' ⟨g',h1,hr'⟩;refine⟨g',?_,hr'⟩;unfold zF at h1;cases o with
   |exit id'=>
    grind [behind]
   |normal=>exact h1
   |ret=>exact h1
   |aR v=>exact h1
  intro ρ p g s k h hr;simp only[iI]at h;split at h
  ·rename_i sh Y g1 kk;intro fro g0 w0 hi hro;refine(main _ g1 s _ h.1 hr fro g0 w0 hi hro).post' hi ?_;rintro o s1 ⟨g',hj,hr'⟩;obtain⟨s2,t,hw,e,hq⟩:=Gf hj hr';have e1:o=(Y t).1:=congrArg Prod.fst e;have e2:s2=(Y t).2:=congrArg Prod.snd e;refine⟨s2,hw,kk t,?_,hq⟩;rw[e1,e2];exact(sh.bO _).1 h.2 t
  ·exact main p g s k h hr
 |loop b ih=>
  intro ρ p g s k h hr;simp only[iI]at h;split at h
  ·rename_i m g1;simp only[G.can]at hr;intro fro g0 w0 hi hro;refine .loop hi (n:=m) (s0:=s) (fun m s=>∃g,Cy (fun g s k=>iI P X H0 b g s k) m g s k∧g.can n p) (fun s ⟨g,h,_⟩=>h.elim) (.refl _ _) ⟨g1,h,hr⟩ ?_
   rintro m s1 ⟨g2,h2,hr2⟩;simp only[Cy]at h2;refine(ih p g2 s1 _ h2 hr2 fro g0 w0 hi hro).mono ?_;rintro o s3 ⟨g3,h3,hr3⟩;refine⟨s3,.refl _ _,?_⟩;grind
  ·rename_i σ sh hd E Y a0 body kk;obtain⟨h0,hb,hx⟩:=h;obtain⟨hok,hr⟩:=hr;have hx:=(sh.bO _).1 hx;obtain⟨_,h0,rfl⟩:=cB hok h0;intro fro g0 w0 hi hro;refine .loop hi (n:=n) (s0:=E a0) (fun m s1=>∃a,s1=E a∧nO (fun a q=>(body a).can n q) m a fun t=>(kk t).can n p) (fun s ⟨a,_,h⟩=>by simp[nO]at h) h0 ⟨a0,rfl,hr⟩ ?_
   rintro m s1 ⟨a,rfl,hit⟩;simp only[nO]at hit;refine(Gi hNe (fun g h hr=>ih _ g (E a) _ h hr) (hb a) hit fro g0 w0 hi hro).mono ?_
   grind [Gg]
  ·rename_i hsh sh hd E Y a0 body kk;obtain⟨h0,hb,hx⟩:=h;have hb:=(hsh.bO _).1 hb;obtain⟨hok,hr⟩:=hr;have hx:=(sh.bO _).1 hx;obtain⟨_,h0,rfl⟩:=cB hok h0;intro fro g0 w0 hi hro;refine .loop hi (n:=n) (s0:=E a0) (fun m s1=>∃a,s1=E a∧nO (fun a q=>(body a).can n q) m a fun t=>(kk t).can n p) (fun s ⟨a,_,h⟩=>by simp[nO]at h) h0 ⟨a0,rfl,hr⟩ ?_
   rintro m s1 ⟨a,rfl,hit⟩;simp only[nO]at hit;refine(Gi hNe (fun g h hr=>ih _ g (E a) _ h hr) (hb a) hit fro g0 w0 hi hro).mono ?_
   grind [Gg]
  ·exact hr.elim
  ·exact nomatch h
 |exit id=>intro ρ p g s k h hr fro g0 w0 _ _;exact .exit ⟨g,h,hr⟩
 |ret=>intro ρ p g s k h hr fro g0 w0 _ _;exact .ret ⟨g,h,hr⟩
 |rangeFunc x ps as bd=>
  intro ρ p g s k h hr;simp only[iI]at h;obtain⟨s1,g1,hw,h,hr⟩:=DA h hr;refine .weak hw ?_;split at h
  ·rename_i pr g2;obtain⟨_,h⟩:=h;simp only[G.can]at hr;split at h
   ·rename_i f pa qa hf;split at h
    ·rename_i l H1 D1 hen;rw[cU]at h;obtain⟨hpr,h⟩:=h;split at h
     ·rename_i ids rs hcl;simp only[ct]at h;have hfn:=hNe.fn h hr;intro fro g0 w0 hi hro Q g a w hs hl hp;refine MC (hro.mono hl.ext) hf hen hfn hs ?_;rintro a1 H2 ⟨g3,hk,hr3⟩;rcases uA hk with⟨e,hmg,hk⟩ |⟨v,hmg,hk⟩
      ·simp only[dI]at hk;split at hk
       ·rename_i out s' hend;exact .inl ⟨e,out,s',hmg,hend,(hp _ _ ⟨g3,hk,hr3⟩).later hl⟩
       ·exact hk.elim
      ·exact .inr ⟨v,hmg,(hp _ _ ⟨g3,hk,hr3⟩).later hl⟩
     ·exact h.elim
    ·exact h.elim
   ·exact h.elim
  ·exact hr.elim
  ·exact nomatch h
 |_=>intro ρ p g s k h hr;exact h.elim
theorem dJ.trim{g:Gh}{w w':World}{e:Ending}{H H1:List aa}{a:aM}{pr:List Nat}(hi:Inv g H w)(h:dJ g H w a H1 e w')(hpan:∀v,a=.aR v→v.flat=true)(ha:a.fG H.length=true)(hl:Dy pr H.length 0 (H1.take H.length)=true)
 (hp:∀i,pr.contains i=true→∃x,H1[i]? =some x∧tv x=true):dJ g H w a (H1.take H.length) e w':=by
 obtain⟨g1,hi1,hla,he⟩:=h;have hlen:(H1.take H.length).length=H.length:=by rw[List.length_take];have:=hla.len;omega
 have hK:H1.take H.length++H1.drop H.length=H1:=List.take_append_drop _ _;obtain⟨i1,i2⟩:=Inv.drop (n:=H.length) (K:=H1.take H.length) (L:=H1.drop H.length) hi (by rw[hK];exact hi1) (by rw[hK];exact hla) hlen rfl fun b x hx=>.inl (by
  rcases Dz hl b x hx with hc |hc
  ·grind [yu,u9,jV,vg]
  ·exact hc)
 refine⟨g1.upto H.length,i1,i2,?_⟩;cases a with
 |ret v=>
  obtain⟨x,rfl,hx⟩:=he;exact⟨x,rfl,lP (n:=H.length) (g:=g1) (g2:=g1.upto H.length) (fun _ _ h=>h) (fun b aj x hb he=>by grind [Gh.upto]) v x ha hx⟩
 |aR v=>
  obtain⟨x,rfl,hx⟩:=he;exact⟨x,rfl,jU v x (hpan v rfl) hx⟩
theorem AA.of(hm : P.follows .mixedOrders = true)(hN : ∀ (f : FuncId) (fn : Func), P.funcs[f]? = some fn → fn.name ≠ "runtime.NumGoroutine"){L : Nat}{f : FuncId}{fn : Func}{c : Code}{args : List AVal}{H0 : List aa}{Θ : aX → St → Prop}{Φ : aM → List aa → Prop}
 (hf:P.funcs[f]? =some fn) (hb:fn.body=some c) (hd:∀g0 w0,Inv g0 H0 w0→dR P none g0 H0 w0 c ⟨kH fn.ntmps args,H0,[]⟩ Θ)
 (hΘ:∀o s,Θ o s→∃s' a H1,gD H0 s s'∧pz P cfg L fn o s'=some (a,H1)∧∃a' H1',Φ a' H1'∧∀g w e w',Inv g H0 w→dJ g H0 w a H1 e w'→dJ g H0 w a' H1' e w'):AA P f args H0 Φ:=by
 refine⟨⟨fn,c,hf,hb,hN f fn hf⟩,fun gh w vs hi hl=>callsIn_wide.1 (callsIn_of_wp_marks (F:=Fr none) (n:=0) hf hb trivial ?_)⟩
 have hsim:dF gh ⟨kH fn.ntmps args,H0,[]⟩ {tmps:=vs++Array.replicate (fn.ntmps - vs.size) undef,defers:=[]} w:=⟨hi,ux hl _,rfl⟩;refine hd gh w hi _ gh _ w hsim (aO.refl _ _ _) fun o1 s1 ht=>?_
 obtain⟨s',a,H1,hwk,hlo,a',H1',hΦ,hcv⟩:=hΘ o1 s1 ht;refine dQ.weak hi hwk ?_;have key:∀(m:Option AVal) (u:FrameMode),wz P cfg L fn m s'=some (a,H1)→∀g' a0 w',dF g' s' a0 w'→aO gh H0 w g' s'.H w'→lR g' w' m u→
  LeavesInM (Fr none) 0 P fn a0.tmps (fun e w'=>∃a H1,Φ a H1∧dJ gh H0 w a H1 e w') a0.defers u w':=by
  intro m u hla g' a0 w' hs' hlat hmo;obtain⟨m',H',rr,h1,h2,h3,h4⟩:=Gd hla;refine jD ?_ (jN hm hN qk s'.D a0.defers m u s'.H g' w' m' H' hs'.defs hs'.inv hs'.tmps hmo h1 h2 hlat);rintro e w2 ⟨g2,hi2,hla2,he2⟩;refine⟨a',H1',hΦ,hcv gh w e w2 hi ⟨g2,hi2,hla2,?_⟩⟩;cases rr with
  |ret v=>rw[h3 v rfl];obtain⟨x,rfl,hx⟩:=he2;exact⟨x,rfl,Ea _ _ hx⟩
  |aR v=>rw[h4 v rfl];exact he2
 cases o1 with
 |normal=>exact fun g' a' w' hs' hlat=>key none .returning hlo g' a' w' hs' hlat rfl
 |ret=>exact fun g' a' w' hs' hlat=>key none .returning hlo g' a' w' hs' hlat rfl
 |exit id=>simp[pz]at hlo
 |aR v=>exact fun g' a' w' x hv hs' hlat hrx=>key (some v) (.panicking [{v:=x,recovered:=false}]) hlo g' a' w' hs' hlat ⟨hv,x,rfl,hrx⟩
theorem BJ(hm : P.follows .mixedOrders = true)(hN : ∀ (f : FuncId) (fn : Func), P.funcs[f]? = some fn → fn.name ≠ "runtime.NumGoroutine") : ∀ d, nj P (jo P cfg true d)
 | 0=>⟨fun h=>h.elim,fun h=>h.elim,fun h=>h.elim⟩
 |d+1=>by
  have ih:=BJ hm hN d;constructor
  ·intro ρ n f args H g k p h hr;simp only[jo,OR]at h;split at h
   ·exact Ia h hr
   split at h
   ·rename_i fn hf;split at h
    ·rename_i c hb;have hd:=zJ (X:=⟨cfg,none,jo P cfg true d,true⟩) hm ih rfl c p g _ _ h hr;refine AA.of (cfg:=cfg) (L:=10) hm hN hf hb (fun g0 w0 hi=>hd none g0 w0 hi trivial) ?_
     rintro o s1 ⟨g1,h,hr⟩;unfold NT at h;split at h
     ·rename_i ts pr g2;obtain⟨hok,hr⟩:=hr;simp only[G.can]at hr;obtain⟨s',hw,h⟩:=cB hok h;split at h
      ·rename_i a H1 hla;obtain⟨_,hpr,h⟩:=h;grind [cU,dJ.trim,C6,zI]
      ·exact h.elim
     ·exact hr.elim
     ·exact nomatch h
    ·exact h.elim
   ·exact h.elim
  ·intro ρ n b args H g k p h hr;simp only[jo,NV]at h;split at h
   ·rename_i st pend fid A ps assign body hb;split at h
    ·rename_i hlen;have hlen:=Nat.eq_of_beq_eq_true hlen;have hd1:=zJ (X:=⟨cfg,some b,jo P cfg true d,true⟩) hm ih rfl assign p g _ _ h hr;intro gh w vs k1 sz hi hl hk;obtain⟨k0,tmps0,dk0,fn0,q1,q2,q3⟩:=hi.good b _ hb;rw[hk]at q1;simp only[Option.some.injEq,Prod.mk.injEq]at q1;obtain⟨rfl,rfl⟩:=q1;have hvs:=(cK _ _ hl).1;refine⟨_,q2,by grind,?_⟩
     rw[wS _ ps vs rfl];have hsim:dF gh ⟨qP A ps args,H,[]⟩ {tmps:=(ps.zip vs.toList).foldl (fun(tmps:Array Value) (p:Tmp×Value)=>tmps.setIfInBounds p.1 p.2) tmps0,defers:=[]} w:=
      ⟨hi,yq ps args A _ tmps0 q3 hl,rfl⟩
     refine roundIn_of_wpIn trivial ?_;refine hd1 (some k1) gh w hi ⟨0,hk⟩ _ gh _ w hsim (aO.refl _ _ _) ?_;rintro oo ss ⟨g1,h1,hr1⟩;cases oo with
     |exit id=>exact h1.elim
     |ret=>exact h1.elim
     |aR v=>exact h1.elim
     |normal=>
      simp only at h1;split at h1
      ·rename_i pend1 fid1 A1 ps1 as1 bd1 hb1;rw[cU]at h1;have hd2:=zJ (X:=⟨cfg,some b,jo P cfg true d,true⟩) hm ih rfl body p g1 _ _ h1 hr1;intro gg1 a1 w1 hs1 hla1;have hk1:=hla1.ext.ah _ _ _ hk;obtain⟨k2,tmps1,dk1,fn1,u1,u2,u3⟩:=hs1.inv.good b _ hb1;rw[hk1]at u1;simp only[Option.some.injEq,Prod.mk.injEq]at u1;obtain⟨rfl,-⟩:=u1;refine⟨_,run_beginRound u2 rfl,?_⟩;obtain⟨i2,l2⟩:=hs1.inv.put (y:=.loop .busy pend1 fid1 A1 ps1 as1 bd1)
        (ob:=.loop {state:=.busy,pending:=pend1,fn:=fn1,tmps:=tmps1,params:=ps1.toArray,assign:=as1,body:=bd1,defers:=dk1}) hb1 rfl hk1 rfl (qR u2)
        fun hext=>⟨_,tmps1,dk1,fn1,hk1,World.putObj_heap_same (Array.getElem?_eq_some_iff.1 u2).1,bD hext _ _ u3⟩
       have hsim2:dF gg1 {ss with H:=ss.H.set b (.loop .busy pend1 fid1 A1 ps1 as1 bd1)} a1 (w1.putObj k1 (.loop {state:=.busy,pending:=pend1,fn:=fn1,tmps:=tmps1,params:=ps1.toArray,assign:=as1,body:=bd1,defers:=dk1})):=
        ⟨i2,bD l2.ext _ _ hs1.tmps,dw l2.ext _ _ hs1.defs⟩
       refine hd2 (some k1) gh w hi ⟨0,hk⟩ _ gg1 a1 _ hsim2 (hla1.trans l2) ?_;rintro oo2 ss2 ⟨g2,h2,hr2⟩;unfold NU at h2;split at h2
       ·rename_i j hj;split at h2
        ·rename_i ts g3;obtain⟨hok,hr2⟩:=hr2;obtain⟨s3,hw,h2⟩:=cB hok h2;split at h2
         ·rename_i H2 hmk;refine dQ.weak hi hw ?_;have hend:∀g' a' w',dF g' s3 a' w'→aO gh H w g' s3.H w'→
           ∃v w'',(Instr.endRound k1 j).run P w'=.ok v w''∧∃a H1,(∃g',k g' a H1∧g'.can n p)∧dJ gh H w a H1 (.returned v) w'':=by
           intro g' a' w' hs' hla';obtain⟨rr,e1,e2,e3⟩:=wT hs'.inv (hla'.ext.ah _ _ _ hk) hmk;exact⟨_,_,run_endRound j e1,_,_,⟨g3,h2,hr2⟩,g',e2,hla'.trans e3,_,rfl,by simp[R]⟩
          cases oo2 with
          |normal=>
           simp only[pe,Option.some.injEq]at hj;subst hj;exact fun g' a' w' h1 h2=>hend g' a' w' h1 h2
          |ret=>
           simp only[pe,Option.some.injEq]at hj;subst hj;exact fun g' a' w' h1 h2=>hend g' a' w' h1 h2
          |exit id=>
           simp only[pe,Option.some.injEq]at hj;subst hj;exact fun g' a' w' h1 h2=>hend g' a' w' h1 h2
          |aR v=>cases hj
         ·exact h2.elim
        ·exact hr2.elim
        ·exact nomatch h2
       ·exact h2.elim
      ·exact h1.elim
    ·exact h.elim
   ·exact h.elim
  ·intro σ sh n ro H0 b g E s Y p h hr;obtain⟨h⟩:=h;exact zJ (X:=⟨cfg,ro,jo P cfg true d,true⟩) hm ih rfl b p g s _ h hr
def N3{ρ:Type}(P:Program)[aB](cfg:dZ)(L:Nat)(f:FuncId)(args:List AVal)(out:ρ→aM)(g:G P ρ):Prop:=
 match P.funcs[f]? with
 |some fn=>match fn.body with
  |some c=>iI P (Qb P cfg) [] c g ⟨kH fn.ntmps args,[],[]⟩ fun g o s=>Fq P cfg L fn out g o s
  |none=>False
 |none=>False
theorem N4{n L:Nat}{ρ:Type}{fn:Func}{out:ρ→aM}{g:G P ρ}{o:aX}{s:St}{p:ρ→Prop}(h:Fq P cfg L fn out g o s)(hr:g.can n p):∃s' r,p r∧gD [] s s'∧Eh P cfg L fn o s'=some (out r):=by
 unfold Fq at h;split at h
 ·rename_i ts r;obtain⟨hok,hp⟩:=hr;grind [cB]
 ·exact hr.elim
 ·exact nomatch h
theorem Lb(hm : P.follows .mixedOrders = true)(hN : ∀ (f : FuncId) (fn : Func), P.funcs[f]? = some fn → fn.name ≠ "runtime.NumGoroutine"){L : Nat}{f : FuncId}{args : List AVal}{ρ : Type}{out : ρ → aM}{g : G P ρ}
 (h:N3 P cfg L f args out g) {n:Nat} {a:aM} (hr:g.can n fun x=>out x=a):kP P f args a:=by
 unfold N3 at h;split at h
 ·rename_i fn hf;split at h
  ·rename_i c hb;refine⟨⟨fn,c,hf,hb,hN f fn hf⟩,fun gh w vs hi hl=>callsIn_wide.1 (callsIn_of_wp_marks (F:=Fr none) (n:=0) hf hb trivial ?_)⟩
   have hsim:dF gh ⟨kH fn.ntmps args,[],[]⟩ {tmps:=vs++Array.replicate (fn.ntmps - vs.size) undef,defers:=[]} w:=⟨hi,ux hl _,rfl⟩;have hd:=zJ (X:=Qb P cfg) hm (BJ hm hN 9) rfl c _ g _ _ h hr;refine hd none gh w hi trivial _ gh _ w hsim (aO.refl _ _ _) ?_;rintro o1 s1 ⟨g',h',hr'⟩;obtain⟨s',r',rfl,hwk,hlo⟩:=N4 h' hr';refine dQ.weak hi hwk ?_;have key:∀(m:Option AVal) (u:FrameMode),Ay P cfg L fn m s'=some (out r')→∀g' a' w',dF g' s' a' w'→aO gh [] w g' s'.H w'→lR g' w' m u→
    LeavesInM (Fr none) 0 P fn a'.tmps (dJ gh [] w (out r') []) a'.defers u w':=by
    intro m u hla g' a' w' hs' hlat hmo;obtain⟨m',H',rr,H1,h1,h2,h3⟩:=Ge hla;refine jD ?_ (jN hm hN qk s'.D a'.defers m u s'.H g' w' m' H' hs'.defs hs'.inv hs'.tmps hmo h1 h2 hlat);rintro e w2 ⟨g2,hi2,hla2,he2⟩;exact Ei hi hi2 hla2 h3 he2
   cases o1 with
   |normal=>exact fun g' a' w' hs' hlat=>key none .returning hlo g' a' w' hs' hlat rfl
   |ret=>exact fun g' a' w' hs' hlat=>key none .returning hlo g' a' w' hs' hlat rfl
   |exit id=>simp[Eh]at hlo
   |aR v=>exact fun g' a' w' x hv hs' hlat hrx=>key (some v) (.panicking [{v:=x,recovered:=false}]) hlo g' a' w' hs' hlat ⟨hv,x,rfl,hrx⟩
  ·exact h.elim
 ·exact h.elim
structure Fw(P:Program)[aB]:Type 1 where
 f:FuncId
 X:Type
 args:X→List AVal
 sh:Sh
 out:sh.El→aM
 g:X→G P sh.El
 ok:∀n x a,(g x).can n (fun y=>out y=a)→kP P f (args x) a
def Fw.of[hp:Plain P](cfg:dZ)(L:Nat)(f:FuncId)(X:Type)(args:X→List AVal)(sh:Sh)(out:sh.El→aM)(g:X→G P sh.El)(h:∀x,N3 P cfg L f (args x) out (g x)=(g x).eo (OU out)):Fw P where
 f:=f
 X:=X
 args:=args
 sh:=sh
 out:=out
 g:=g
 ok:=fun n x a hr=>Lb hp.mixed hp.names (n:=n) (by rw[h x];exact G.bH (fun _=>rfl) (g x)) hr
def Fw.all(c:Fw P)(S:Nat→c.X→Option c.sh.El)(h:∀n x r,S n x=some r→∃m,(c.g x).can m fun y=>c.out y=c.out r):aA P where
 f:=c.f
 X:=c.X
 args:=c.args
 sh:=c.sh
 out:=c.out
 S:=S
 ok:=fun n x r hr=>let⟨m,hm⟩:=h n x r hr;c.ok m x (c.out r) hm
end
end Go.AM
end
section
namespace Go.AM
def pk{P:Program}[aB]{ρ:Type}(a:G P ρ)(f:Nat→G P ρ):Option Nat→G P ρ
 |none=>a
 |some i=>f i
section
variable {K V:Type}
theorem Gj(ek:K→AVal)(ev:V→AVal):∀(m:List (K×V)) (b i:Nat) p,(bZ ek ev b m)[i]? =some p→p.2.2=b+i
 | [],_,_,_,h=>by simp[bZ]at h
 | (k,v)::m,b,0,p,h=>by simp[bZ]at h;subst h;rfl
 | (k,v)::m,b,i+1,p,h=>by
  simp only[bZ,List.getElem?_cons_succ]at h;have:=Gj ek ev m (b+1) i p h;omega
def RG(b mb:Nat)(m:List (K×V))(ek:K→AVal)(ev:V→AVal):PK:=
 ⟨b,mb,m.length,bZ ek ev 0 m,y7 ek ev m 0,fun i p h=>by have:=Gj ek ev m 0 i p h;omega⟩
theorem Gk(ek:K→AVal)(ev:V→AVal):∀(m:List (K×V)) (b i:Nat) (x:K×V),m[i]? =some x→(bZ ek ev b m).find? (fun p=>p.2.2==b+i)=some (ek x.1,ev x.2,b+i)
 | [],_,_,_,h=>by simp at h
 | (k,v)::m,b,0,x,h=>by simp at h;subst h;simp[bZ]
 | (k,v)::m,b,i+1,x,h=>by
  simp only[List.getElem?_cons_succ]at h;have:=Gk ek ev m (b+1) i x h;simp only[bZ,List.find?_cons];have hne:(b==b+(i+1))=false:=by simp
  rw[hne,show b+(i+1)=b+1+i by omega]
  exact this
def Rr(m:List (K×V))(ek:K→AVal)(ev:V→AVal)(b mb:Nat)(seen:List Nat)(i:Nat):mI (K×V) where
 run:=m[i]?
 bf x:={val:=.bW [ek x.1,ev x.2]}
 ids:=[b,mb]
 oc _ _ _ _ op ah H:=match op with
  | .entry x=>ah x=.ptr b 0 0 0∧H[b]? =some (.iter (.mp mb) m.length (seen++[i]) m.length)∧H[mb]? =some (.map m.length (bZ ek ev 0 m))
  |_=>False
 iw:=AVal.ptr b 0 0 0=AVal.ptr b 0 0 0∧some (aa.iter (.mp mb) m.length (seen++[i]) m.length)=some (aa.iter (.mp mb) m.length (seen++[i]) m.length)∧some (aa.map m.length (bZ ek ev 0 m))=some (aa.map m.length (bZ ek ev 0 m))
 holds:=⟨rfl,rfl,rfl⟩
 sound gl P cfg nid op ah H h x hx:=by
  cases op<;>try exact h.elim
  obtain⟨h1,h2,h3⟩:=h;have hf:=Gk ek ev m 0 i x hx;rw[Nat.zero_add]at hf;have he:Cn (seen++[i]) (bZ ek ev 0 m)=some (.bW [ek x.1,ev x.2]):=by simp[Cn,hf]
  simp[bC,cA,bY,DN,h1,h2,h3,mapOf,Rd.bind,Rd.run,Rd.reads,he,yields]
end
section
variable {K V:Type}
end
def vh(t:ByteArray)(i:Int):mI Int where
 run:=if 0≤i then(t[i.toNat]?).map fun b=>(b.toNat:Int)else none
 bf x:={val:=.sc (.int .u8 x)}
 ids:=[]
 oc _ P _ _ op ah _:=match op with
  | .index T a b=>(match P.underlying T with |some .string=>true |_=>false)=true∧ah a=.sc (.string t)∧intOf (ah b)=some i
  |_=>False
 iw:=(@Eq Bool true true)∧AVal.sc (.string t)=AVal.sc (.string t)∧some i=some i
 holds:=⟨rfl,rfl,rfl⟩
 sound gl P cfg nid op ah H h x hx:=by
  cases op<;>try exact h.elim
  rename_i T a b;obtain⟨h1,h2,h3⟩:=h;split at h1
  ·rename_i hu;have hb:∃k,ah b=.sc (.int k i):=by
    unfold intOf at h3;split at h3
    ·rename_i k n hb;simp only[Option.some.injEq]at h3;subst h3;exact⟨k,hb⟩
    ·cases h3
   obtain⟨k,hb⟩:=hb;split at hx
   ·rename_i h0;obtain⟨q,hq,rfl⟩:=Option.map_eq_some_iff.1 hx;simp[bC,cA,bY,h2,hb,DM,hu,h0,hq,yields,Rd.bind,Rd.run,Rd.reads]
   ·cases hx
  ·cases h1
end Go.AM
end
section
namespace Go.AM
def vi{α β:Type}:List α→(α→Option (List β))→Option (List β)
 | [],_=>some []
 |a::as,f=>match f a with
  |some l=>match vi as f with
   |some m=>some (l++m)
   |none=>none
  |none=>none
theorem lW{α β:Type}{f:α→Option (List β)}:∀{l:List α} {m:List β},vi l f=some m→∀a∈l,∃la,f a=some la∧∀x∈la,x∈m
 | [],_,_,a,ha=>by cases ha
 |b::l,m,h,a,ha=>by
  simp only[vi]at h;split at h
  ·rename_i lb hb;split at h
   ·rename_i mm hm;simp only[Option.some.injEq]at h;subst h;rcases List.mem_cons.1 ha with rfl |ha
    ·grind
    ·obtain⟨la,h1,h2⟩:=lW hm a ha;grind
   ·cases h
  ·cases h
def Er{σ τ:Type}(f:σ→Option (List (σ⊕τ))):Nat→σ→Option (List τ)
 | 0,_=>none
 |n+1,a=>match f a with
  |some l=>vi l fun
   | .inl a'=>Er f n a'
   | .inr t=>some [t]
  |none=>none
theorem AD{σ τ:Type}{f:σ→Option (List (σ⊕τ))}{F:σ→((σ⊕τ)→Prop)→Prop}(hF:∀a l (q:σ⊕τ→Prop),f a=some l→(∀x∈l,q x)→F a q):
 ∀(n:Nat) (a:σ) (l:List τ) (p:τ→Prop),Er f n a=some l→(∀t∈l,p t)→nO F n a p
 | 0,_,_,_,h,_=>by cases h
 |n+1,a,l,p,h,hp=>by
  simp only[Er]at h;split at h
  ·rename_i l0 h0;refine hF a l0 _ h0 fun x hx=>?_
   obtain⟨la,h1,h2⟩:=lW h x hx;cases x with
   |inl a'=>exact AD hF n a' la p h1 fun t ht=>hp t (h2 t ht)
   |inr t=>
    grind
  ·cases h
def G9(n:Nat)(seen:List Nat):List Nat:=(List.range n).filter fun i=> !seen.contains i
section
variable {P:Program} [aB]
def G.runs(n:Nat):{ρ:Type}→G P ρ→Option (List ρ)
 |_,.stop=>none
 |_,.done ts r=>if aK ts then some [r]else none
 |_,.fail=>none
 |_,.skip _ g=>g.runs n
 |_,.br _ c t f=>if c then t.runs n else f.runs n
 |_,.C4 _ _ x c t f=>if x=c then t.runs n else f.runs n
 |_,.sp c t f=>if c then t.runs n else f.runs n
 |_,.op t k=>t.run.bind fun x=>(k x).runs n
 |_,.call c x k=>(c.S n x).bind fun r=>(k r).runs n
 |_,.fM c x k=>(c.S n x).bind fun r=>(k r).runs n
 |_,.bk c _ _ _ x k=>(c.S n x).bind fun r=>(k r).runs n
 |_,.tidy l g=>if aK l then g.runs n else none
 |_,.loop _ hd _ _ a0 body k=>if aK hd then(Er (fun a=>(body a).runs n) n a0).bind fun ts=>vi ts fun t=>(k t).runs n else none
 |_,.rC _ _ hd _ _ a0 body k=>if aK hd then(Er (fun a=>(body a).runs n) n a0).bind fun ts=>vi ts fun t=>(k t).runs n else none
 |_,.fH _ g=>g.runs n
 |_,.ve _ _ g=>g.runs n
 |_,.join _ _ g k=>(g.runs n).bind fun ts=>vi ts fun t=>(k t).runs n
 |_,.grow z k=>if z.ok then vi [true,false] fun t=>(k t).runs n else none
 |_,.pick z seen k=>match G9 z.n seen with
  | []=>(k none).runs n
  |l=>vi l fun i=>(k (some i)).runs n
 |_,.inl _ g=>g.runs n
theorem G.cM(n:Nat):∀{ρ:Type} (g:G P ρ) {p q:ρ→Prop},(∀r,p r→q r)→g.can n p→g.can n q
 |_,.stop,_,_,_,h=>h
 |_,.done ts r,_,_,hpq,h=>⟨h.1,hpq _ h.2⟩
 |_,.fail,_,_,_,h=>h
 |_,.skip _ g,_,_,hpq,h=>G.cM n g hpq h
 |_,.br _ c t f,_,_,hpq,h=>by
  simp only[G.can]at h ⊢;split at h
  ·rename_i hc;rw[if_pos hc];exact G.cM n t hpq h
  ·rename_i hc;rw[if_neg hc];exact G.cM n f hpq h
 |_,.C4 _ _ x c t f,_,_,hpq,h=>by
  simp only[G.can]at h ⊢;split at h
  ·rename_i hc;rw[if_pos hc];exact G.cM n t hpq h
  ·rename_i hc;rw[if_neg hc];exact G.cM n f hpq h
 |_,.sp c t f,_,_,hpq,h=>by
  simp only[G.can]at h ⊢;split at h
  ·rename_i hc;rw[if_pos hc];exact G.cM n t hpq h
  ·rename_i hc;rw[if_neg hc];exact G.cM n f hpq h
 |_,.op t k,_,_,hpq,h=>by
  obtain⟨x,h1,h2⟩:=h;exact⟨x,h1,G.cM n (k x) hpq h2⟩
 |_,.call c x k,_,_,hpq,h=>by
  obtain⟨r,h1,h2⟩:=h;exact⟨r,h1,G.cM n (k r) hpq h2⟩
 |_,.fM c x k,_,_,hpq,h=>by
  obtain⟨r,h1,h2⟩:=h;exact⟨r,h1,G.cM n (k r) hpq h2⟩
 |_,.bk c _ _ _ x k,_,_,hpq,h=>by
  obtain⟨r,h1,h2⟩:=h;exact⟨r,h1,G.cM n (k r) hpq h2⟩
 |_,.tidy l g,_,_,hpq,h=>⟨h.1,G.cM n g hpq h.2⟩
 |_,.loop _ hd _ _ a0 body k,p,q,hpq,h=>by
  refine⟨h.1,?_⟩;have mono:∀(m:Nat) (a:_),nO (fun a q=>(body a).can n q) m a (fun t=>(k t).can n p)→nO (fun a q=>(body a).can n q) m a (fun t=>(k t).can n q):=by
   intro m;induction m with
   |zero=>exact fun a h=>h.elim
   |succ m ih=>
    intro a h;refine G.cM n (body a) (fun v hv=>?_) h
    cases v with
    |inl a'=>exact ih a' hv
    |inr t=>exact G.cM n (k t) hpq hv
  exact mono n a0 h.2
 |_,.rC _ _ hd _ _ a0 body k,p,q,hpq,h=>by
  refine⟨h.1,?_⟩;have mono:∀(m:Nat) (a:_),nO (fun a q=>(body a).can n q) m a (fun t=>(k t).can n p)→nO (fun a q=>(body a).can n q) m a (fun t=>(k t).can n q):=by
   intro m;induction m with
   |zero=>exact fun a h=>h.elim
   |succ m ih=>
    intro a h;refine G.cM n (body a) (fun v hv=>?_) h
    cases v with
    |inl a'=>exact ih a' hv
    |inr t=>exact G.cM n (k t) hpq hv
  exact mono n a0 h.2
 |_,.fH _ g,_,_,hpq,h=>G.cM n g hpq h
 |_,.ve _ _ g,_,_,hpq,h=>G.cM n g hpq h
 |_,.join _ _ g k,_,_,hpq,h=>G.cM n g (fun t ht=>G.cM n (k t) hpq ht) h
 |_,.grow z k,_,_,hpq,h=>⟨h.1,G.cM n (k true) hpq h.2.1,G.cM n (k false) hpq h.2.2⟩
 |_,.pick z seen k,_,_,hpq,h=>⟨fun ha=>G.cM n (k none) hpq (h.1 ha),fun i hi hn=>G.cM n (k (some i)) hpq (h.2 i hi hn)⟩
 |_,.inl _ g,_,_,hpq,h=>G.cM n g hpq h
theorem G.dg(n:Nat):∀{ρ:Type} (g:G P ρ) (l:List ρ) (p:ρ→Prop),g.runs n=some l→(∀r∈l,p r)→g.can n p
 |_,.stop,_,_,h,_=>by cases h
 |_,.done ts r,l,p,h,hp=>by
  simp only[G.runs,Option.ite_none_right_eq_some,Option.some.injEq]at h;obtain⟨h1,rfl⟩:=h;exact⟨h1,hp r (by simp)⟩
 |_,.fail,_,_,h,_=>by cases h
 |_,.skip _ g,l,p,h,hp=>G.dg n g l p h hp
 |_,.br _ c t f,l,p,h,hp=>by
  simp only[G.runs]at h;simp only[G.can];split at h
  ·rename_i hc;rw[if_pos hc];exact G.dg n t l p h hp
  ·rename_i hc;rw[if_neg hc];exact G.dg n f l p h hp
 |_,.C4 _ _ x c t f,l,p,h,hp=>by
  simp only[G.runs]at h;simp only[G.can];split at h
  ·rename_i hc;rw[if_pos hc];exact G.dg n t l p h hp
  ·rename_i hc;rw[if_neg hc];exact G.dg n f l p h hp
 |_,.sp c t f,l,p,h,hp=>by
  simp only[G.runs]at h;simp only[G.can];split at h
  ·rename_i hc;rw[if_pos hc];exact G.dg n t l p h hp
  ·rename_i hc;rw[if_neg hc];exact G.dg n f l p h hp
 |_,.op t k,l,p,h,hp=>by
  obtain⟨x,h1,h2⟩:=Option.bind_eq_some_iff.1 (show t.run.bind (fun x=>(k x).runs n)=some l from h)
  exact⟨x,h1,G.dg n (k x) l p h2 hp⟩
 |_,.call c x k,l,p,h,hp=>by
  obtain⟨r,h1,h2⟩:=Option.bind_eq_some_iff.1 (show(c.S n x).bind (fun r=>(k r).runs n)=some l from h)
  exact⟨r,h1,G.dg n (k r) l p h2 hp⟩
 |_,.fM c x k,l,p,h,hp=>by
  obtain⟨r,h1,h2⟩:=Option.bind_eq_some_iff.1 (show(c.S n x).bind (fun r=>(k r).runs n)=some l from h)
  exact⟨r,h1,G.dg n (k r) l p h2 hp⟩
 |_,.bk c _ _ _ x k,l,p,h,hp=>by
  obtain⟨r,h1,h2⟩:=Option.bind_eq_some_iff.1 (show(c.S n x).bind (fun r=>(k r).runs n)=some l from h)
  exact⟨r,h1,G.dg n (k r) l p h2 hp⟩
 |_,.tidy ts g,l,p,h,hp=>by
  simp only[G.runs,Option.ite_none_right_eq_some]at h;exact⟨h.1,G.dg n g l p h.2 hp⟩
 |_,.loop _ hd _ _ a0 body k,l,p,h,hp=>by
  simp only[G.runs,Option.ite_none_right_eq_some]at h;obtain⟨h1,h⟩:=h;obtain⟨ts,h2,h3⟩:=Option.bind_eq_some_iff.1 h;refine⟨h1,AD (fun a l q h hq=>G.dg n (body a) l q h hq) n a0 ts _ h2 fun t ht=>?_⟩
  obtain⟨la,h4,h5⟩:=lW h3 t ht;exact G.dg n (k t) la p h4 fun r hr=>hp r (h5 r hr)
 |_,.rC _ _ hd _ _ a0 body k,l,p,h,hp=>by
  simp only[G.runs,Option.ite_none_right_eq_some]at h;obtain⟨h1,h⟩:=h;obtain⟨ts,h2,h3⟩:=Option.bind_eq_some_iff.1 h;refine⟨h1,AD (fun a l q h hq=>G.dg n (body a) l q h hq) n a0 ts _ h2 fun t ht=>?_⟩
  obtain⟨la,h4,h5⟩:=lW h3 t ht;exact G.dg n (k t) la p h4 fun r hr=>hp r (h5 r hr)
 |_,.fH _ g,l,p,h,hp=>G.dg n g l p h hp
 |_,.ve _ _ g,l,p,h,hp=>G.dg n g l p h hp
 |_,.join _ _ g k,l,p,h,hp=>by
  obtain⟨ts,h2,h3⟩:=Option.bind_eq_some_iff.1 (show(g.runs n).bind (fun ts=>vi ts fun t=>(k t).runs n)=some l from h)
  refine G.dg n g ts _ h2 fun t ht=>?_
  obtain⟨la,h4,h5⟩:=lW h3 t ht;exact G.dg n (k t) la p h4 fun r hr=>hp r (h5 r hr)
 |_,.grow z k,l,p,h,hp=>by
  simp only[G.runs]at h;split at h
  ·rename_i hz;obtain⟨la,h4,h5⟩:=lW h true (by simp)
   obtain⟨lb,h6,h7⟩:=lW h false (by simp)
   exact⟨hz,G.dg n (k true) la p h4 fun r hr=>hp r (h5 r hr),G.dg n (k false) lb p h6 fun r hr=>hp r (h7 r hr)⟩
  ·cases h
 |_,.pick z seen k,l,p,h,hp=>by
  have hm:∀i,i∈G9 z.n seen↔i<z.n∧i∉seen:=fun i=>by simp[G9]
  simp only[G.runs]at h;refine⟨fun ha=>?_,fun i hi hn=>?_⟩
  ·have h0:G9 z.n seen=[]:=by
    rw[List.eq_nil_iff_forall_not_mem];exact fun i hi=>((hm i).1 hi).2 (ha i ((hm i).1 hi).1)
   rw[h0]at h;exact G.dg n (k none) l p h hp
  ·have hin:=(hm i).2 ⟨hi,hn⟩;split at h
   ·rename_i h0;rw[h0]at hin;cases hin
   ·obtain⟨la,h4,h5⟩:=lW h i hin;exact G.dg n (k (some i)) la p h4 fun r hr=>hp r (h5 r hr)
 |_,.inl _ g,l,p,h,hp=>G.dg n g l p h hp
def He:aM→aM→Bool
 | .ret a,.ret b=>same a b
 | .aR a,.aR b=>same a b
 |_,_=>false
theorem Ie{a b:aM}(h:He a b=true):a=b:=by
 cases a<;>cases b<;>simp only[He,Bool.false_eq_true]at h
 ·rw[uq _ _ h]
 ·rw[uq _ _ h]
def oneOf{ρ:Type}(out:ρ→aM):List ρ→Option ρ
 | []=>none
 |r::rs=>if rs.all (fun x=>He (out x) (out r))then some r else none
def Fw.one(c:Fw P):aA P:=c.all (fun n x=>((c.g x).runs n).bind (oneOf c.out)) fun n x r h=>by
 obtain⟨l,h1,h2⟩:=Option.bind_eq_some_iff.1 h;refine⟨n,G.dg n (c.g x) l _ h1 fun y hy=>?_⟩
 cases l with
 |nil=>cases h2
 |cons r0 rs=>
  grind [oneOf,Ie]
end
end Go.AM
end
section
namespace Go.AM
section
variable [aB] {P:Program} {cfg:dZ}
def oR(bs:List Nat)(n j:Nat):Nat:=match bs[j]? with
 |some b=>b
 |none=>n+(j - bs.length)
def vj(bs:List Nat)(n b:Nat):Option Nat:=match mL b bs 0 with
 |some j=>some j
 |none=>match Nat.blt b n with
  |true=>none
  |false=>some (bs.length+(b - n))
def tw(bs:List Nat)(n:Nat):Ren:=fun j v=>some (oR bs n j,v)
def cW(bs:List Nat)(n:Nat):Ren:=fun b v=>(vj bs n b).map fun j=>(j,v)
def CE(bs:List Nat)(n m:Nat):Bool:=wU bs&&bs.all (fun b=>Nat.blt b n)&&Nat.beq bs.length m
theorem Jq{bs:List Nat}{n m:Nat}(h:CE bs n m=true):wU bs=true∧(∀b∈bs,b<n)∧bs.length=m:=by
 simp only[CE,Bool.and_eq_true,List.all_eq_true,Nat.blt_eq]at h;simp_all
theorem AE{bs:List Nat}{n:Nat}(hn:wU bs=true)(hlt:∀b∈bs,b<n)(j:Nat):vj bs n (oR bs n j)=some j:=by
 unfold oR;split
 ·rename_i b hb;have:=yW 0 hn hb;grind [vj]
 ·rename_i hb;rw[List.getElem?_eq_none_iff]at hb;have hno:mL (n+(j - bs.length)) bs 0=none:=by
   cases hi:mL (n+(j - bs.length)) bs 0 with
   |none=>rfl
   |some i=>
    obtain⟨_,h2⟩:=sG hi;have:=hlt _ (List.mem_of_getElem? h2);omega
  simp only[vj,hno];have:Nat.blt (n+(j - bs.length)) n=false:=by
   rw[← Bool.not_eq_true,Nat.blt_eq];omega
  grind
theorem uD{bs:List Nat}{n b j:Nat}(h:vj bs n b=some j):oR bs n j=b:=by
 unfold vj at h;split at h
 ·rename_i i hi;simp only[Option.some.injEq]at h;subst h;obtain⟨_,h2⟩:=sG hi;grind [oR]
 ·split at h
  ·cases h
  ·rename_i hb;rw[← Bool.not_eq_true,Nat.blt_eq]at hb;grind [oR]
mutual
theorem CF{f f':Ren}(h:∀b v,∃b',f b v=some (b',v)∧f' b' v=some (b,v)):∀(a:AVal),(a.iH f).iH f'=a
 | .sc _=>rfl
 | .agg cs=>by simp only[AVal.iH,pE h cs]
 | .bW cs=>by simp only[AVal.iH,pE h cs]
 | .ptr b v i o=>by obtain⟨b',h1,h2⟩:=h b v;simp[AVal.iH,h1,h2]
 | .bL .. =>rfl
 | .sl b v sz o n=>by obtain⟨b',h1,h2⟩:=h b v;simp[AVal.iH,h1,h2]
 | .aC _=>rfl
 | .fn g a b=>by simp only[AVal.iH,pE h a,pE h b]
 | .eE t v=>by simp only[AVal.iH,CF h v]
 | .mp b=>by obtain⟨b',h1,h2⟩:=h b 0;simp[AVal.iH,h1,h2]
 | .gZ b=>by obtain⟨b',h1,h2⟩:=h b 0;simp[AVal.iH,h1,h2]
 | .sa b v i o s n=>by obtain⟨b',h1,h2⟩:=h b v;simp[AVal.iH,h1,h2]
 | .fO .. =>rfl
 | .emp=>rfl
 | .nz _=>rfl
 | .av=>rfl
theorem pE{f f':Ren}(h:∀b v,∃b',f b v=some (b',v)∧f' b' v=some (b,v)):∀(l:List AVal),AVal.mA f' (AVal.mA f l)=l
 | []=>rfl
 |a::as=>by simp only[AVal.mA,CF h a,pE h as]
end
def uE(f:Ren)(bs pu:List Nat)(H:List aa):Nat→Nat→List aa
 | 0,_=>[]
 |k+1,i=>(match mL i bs 0 with
  |some j=>hU f (pu.contains j) none (H.getD j .dead)
  |none=>.dead)::uE f bs pu H k (i+1)
def sH(f:Ren)(pu:List Nat):Nat→List aa→List aa
 |_,[]=>[]
 |j,x::xs=>hU f (pu.contains j) none x::sH f pu (j+1) xs
def og(bs pu:List Nat)(n:Nat)(H:List aa):List aa:=uE (tw bs n) bs pu H n 0++sH (tw bs n) pu bs.length (H.drop bs.length)
theorem ql(f:Ren)(bs pu:List Nat)(H:List aa):∀(k i:Nat),(uE f bs pu H k i).length=k
 | 0,_=>rfl
 |k+1,i=>by simp[uE,ql f bs pu H k (i+1)]
theorem C8(f:Ren)(bs pu:List Nat)(H:List aa):∀(k i b:Nat),b<k→(uE f bs pu H k i)[b]? =some (match mL (i+b) bs 0 with |some j=>hU f (pu.contains j) none (H.getD j .dead) |none=>.dead)
 | 0,_,_,h=>by omega
 |k+1,i,0,_=>by simp[uE]
 |k+1,i,b+1,h=>by
  simp only[uE,List.getElem?_cons_succ];rw[C8 f bs pu H k (i+1) b (by omega),show i+1+b=i+(b+1)by omega]
theorem zK(f:Ren)(pu:List Nat):∀(j:Nat) (l:List aa),(sH f pu j l).length=l.length
 |_,[]=>rfl
 |j,_::xs=>by simp[sH,zK f pu (j+1) xs]
theorem C9(f:Ren)(pu:List Nat):∀(j:Nat) (l:List aa) (b:Nat),(sH f pu j l)[b]? =(l[b]?).map fun x=>hU f (pu.contains (j+b)) none x
 |_,[],_=>by simp[sH]
 |j,_::xs,0=>by simp[sH]
 |j,_::xs,b+1=>by
  simp only[sH,List.getElem?_cons_succ];rw[C9 f pu (j+1) xs b,show j+1+b=j+(b+1)by omega]
theorem A3(bs pu:List Nat)(n:Nat)(H:List aa):(og bs pu n H).length=n+(H.length - bs.length):=by
 simp[og,ql,zK]
theorem Es{bs pu:List Nat}{n:Nat}{H:List aa}(hlt:∀b∈bs,b<n)(hl:bs.length≤H.length)(b:Nat):
 (og bs pu n H)[b]? =match vj bs n b with
  |some j=>(H[j]?).map fun x=>hU (tw bs n) (pu.contains j) none x
  |none=>some .dead:=by
 by_cases hb:b<n
 ·rw[og,List.getElem?_append_left (by rw[ql];exact hb),C8 _ _ _ _ _ _ _ hb]
  simp only[Nat.zero_add,vj];cases hi:mL b bs 0 with
  |some j=>
   obtain⟨_,h2⟩:=sG hi;grind
  |none=>
   have:Nat.blt b n=true:=by rw[Nat.blt_eq];exact hb
   simp[this]
 ·have hno:mL b bs 0=none:=by
   cases hi:mL b bs 0 with
   |none=>rfl
   |some i=>
    obtain⟨_,h2⟩:=sG hi;exact absurd (hlt _ (List.mem_of_getElem? h2)) hb
  have h2:Nat.blt b n=false:=by rw[← Bool.not_eq_true,Nat.blt_eq];exact hb
  grind [og,ql,C9,vj]
theorem lq(f:Ren)(p:Bool)(x:aa):(hU f p none x).live=x.live:=by cases x<;>rfl
theorem Jr{f f':Ren}(h:∀b v,∃b',f b v=some (b',v)∧f' b' v=some (b,v))(p:Bool){x:aa}(hp:p=true→oF x=true)(hl:x.live≠none):HS f' (hU f p none x) x:=by
 cases x with
 |aV=>exact absurd rfl hl
 |dead=>exact absurd rfl hl
 |row v sz rows=>
  refine⟨rfl,?_⟩;cases p with
  |true=>grind [oF]
  |false=>exact .inr (by simp[List.map_map,Function.comp_def,pE h])
 |map c es=>
  refine⟨rfl,?_⟩;cases p with
  |true=>grind [oF]
  |false=>exact .inr (by simp[List.map_map,Function.comp_def,CF h])
 |loop st pend fid A ps as bd=>exact⟨rfl,rfl,rfl,rfl,rfl,rfl,(pE h A).symm⟩
 |defs=>trivial
 |iter m since seen stepped=>exact⟨rfl,rfl,rfl,(CF h m).symm⟩
def aM.Qj(f:Ren):aM→aM
 | .ret u=>.ret (u.iH f)
 | .aR u=>.aR u
open Classical in
theorem bF.place{f:FuncId}{args:List AVal}{H H1:List aa}{r:aM}(h:bF P f args H r H1){bs pu ug:List Nat}{n:Nat}(hb:CE bs n H.length=true)(hl1:H.length≤H1.length)(D9:BA pu H)(hpo:BA ug H1)(hf:∀v,r=.aR v→v.flat=true):
 bF P f (AVal.mA (tw bs n) args) (og bs pu n H) (r.Qj (tw bs n)) (og bs ug n H1):=by
 obtain⟨hn,hlt,hm⟩:=Jq hb;have hinv:∀b v,∃b',tw bs n b v=some (b',v)∧cW bs n b' v=some (b,v):=fun b v=>⟨_,rfl,by simp[cW,AE hn hlt]⟩
 refine⟨h.1,fun g w vs hi hl=>?_⟩
 have hK:=Es (pu:=pu) (H:=H) hlt (by omega)
 have hK1:=Es (pu:=ug) (H:=H1) hlt (by omega)
 have hKf:∀j,(og bs pu n H)[oR bs n j]? =(H[j]?).map fun x=>hU (tw bs n) (pu.contains j) none x:=fun j=>by rw[hK,AE hn hlt]
 have hKlen:=A3 bs pu n H;have hK1len:=A3 bs ug n H1;generalize og bs pu n H=K at*;generalize og bs ug n H1=K1 at*;have hpb:∀{j x},H[j]? =some x→pu.contains j=true→oF x=true:=fun hx hc=>D9 _ (by simpa using hc) _ hx
 have hpb1:∀{j x},H1[j]? =some x→ug.contains j=true→oF x=true:=fun hx hc=>hpo _ (by simpa using hc) _ hx
 let g':Gh:=⟨fun j v=>g.ah (oR bs n j) v,g.st⟩
 have hi':Inv g' H w:=by
  refine hi.iH (f:=cW bs n) ⟨rfl,fun b v b' v' x hr hx=>?_,fun j x' hx=>?_,fun j v hj=>?_,fun j x' v v' hx hv hlt'=>?_⟩
  ·simp only[cW,Option.map_eq_some_iff,Prod.mk.injEq]at hr;grind [oR,uD]
  ·by_cases hl:x'.live=none
   ·exact .inl hl
   ·obtain⟨v,hv⟩:=Option.ne_none_iff_exists'.1 hl;refine .inr ⟨oR bs n j,_,v,v,by rw[hKf,hx];rfl,by rw[lq];exact hv,hv,by simp[cW,AE hn hlt],rfl,Jr hinv _ (fun hc=>hpb hx hc) hl⟩
  ·show g.ah (oR bs n j) v=none;refine hi.fresh _ _ ?_;rcases hj with hj |hj
   ·left;rw[hKf,hj];rfl
   grind
  ·exact hi.next (oR bs n j) _ v v' (by rw[hKf,hx];rfl) (by rw[lq];exact hv) hlt'
 have hl':RL g' w args vs.toList:=by
  have:=qS (g:=g) (g':=g') (f:=cW bs n) (fun _ _ h=>h) (fun b v b' v' x hr hx=>by
   simp only[cW,Option.map_eq_some_iff,Prod.mk.injEq]at hr;grind [oR,uD]) _ _ hl
  rwa[pE hinv]at this
 refine(h.2 g' w vs hi' hl').mono fun e w' ⟨g1',hi1,hla,he⟩=>?_
 let g1:Gh:=⟨fun b v=>match vj bs n b with |some j=>g1'.ah j v |none=>g.ah b v,g1'.st⟩
 have g1f:∀j v,g1.ah (oR bs n j) v=g1'.ah j v:=fun j v=>by simp only[g1,AE hn hlt]
 have own1:∀k,fJ g' H k→fJ g K k:=by
  rintro k ⟨j,x,v,z,hx,hv,hk⟩;exact⟨oR bs n j,_,v,z,by rw[hKf,hx];rfl,by rw[lq];exact hv,hk⟩
 have own2:∀k,fJ g1 K1 k→fJ g1' H1 k:=by
  rintro k ⟨b,x,v,z,hx,hv,hk⟩;rw[hK1]at hx;simp only[g1]at hk;split at hx
  ·rename_i j hj;rw[hj]at hk;obtain⟨y,hy,rfl⟩:=Option.map_eq_some_iff.1 hx;exact⟨j,y,v,z,hy,by rw[lq]at hv;exact hv,hk⟩
  ·simp only[Option.some.injEq]at hx;subst hx;cases hv
 have hinv1:Inv g1 K1 w':=by
  refine hi1.iH (f:=tw bs n) ⟨rfl,fun j v b' v' x hr hx=>?_,fun b x' hx=>?_,fun b v hb=>?_,fun b x' v v' hx hv hlt'=>?_⟩
  ·grind [tw]
  ·rw[hK1]at hx;split at hx
   ·rename_i j hj;obtain⟨y,hy,rfl⟩:=Option.map_eq_some_iff.1 hx;by_cases hl:y.live=none
    ·grind [lq]
    ·obtain⟨v,hv⟩:=Option.ne_none_iff_exists'.1 hl;grind [lq,tw,uD,wq]
   ·simp only[Option.some.injEq]at hx;subst hx;exact .inl rfl
  ·rcases hb with hb |hb
   ·rw[hK1]at hb;split at hb
    ·rename_i j hj;obtain⟨y,hy,he⟩:=Option.map_eq_some_iff.1 hb;have:y=.aV:=by cases y<;>simp[hU]at he<;>rfl
     subst this;simp only[g1,hj];exact hi1.fresh j v (.inl hy)
    ·cases hb
   ·have hno:K1[b]? =none:=List.getElem?_eq_none_iff.2 hb;rw[hK1]at hno;split at hno
    ·rename_i j hj;simp only[g1,hj];exact hi1.fresh j v (.inr (by simpa using hno))
    ·cases hno
  ·rw[hK1]at hx;split at hx
   ·rename_i j hj;obtain⟨y,hy,rfl⟩:=Option.map_eq_some_iff.1 hx;rw[lq]at hv;simp only[g1,hj];exact hi1.next j y v v' hy hv hlt'
   ·simp only[Option.some.injEq]at hx;subst hx;cases hv
 refine⟨g1,hinv1,⟨⟨fun b v y hy=>?_,hla.ext.st,hla.ext.cell,hla.ext.shape⟩,hla.size,fun k hk ho=>hla.keep k hk fun o=>ho (own1 k o),fun k hk ho=>own1 k (hla.own k hk (own2 k ho)),by omega,hla.os,hla.tape,hla.output,
  fun k o hk hs=>(hla.stk k o hk hs).imp_right fun h=>⟨own1 k h.1,fun o=>h.2 (own2 k o)⟩,fun b hb=>?_,fun b v k z hk=>?_⟩,?_⟩
 ·simp only[g1];split
  ·rename_i j hj;exact hla.ext.ah j v y (by grind [oR,uD])
  ·exact hy
 ·rw[hK]at hb;rw[hK1];split at hb
  ·rename_i j hj;obtain⟨y,hy,he⟩:=Option.map_eq_some_iff.1 hb;have:y=.dead:=by cases y<;>simp[hU]at he<;>rfl
   subst this;obtain⟨d1,d2⟩:=hla.ru j hy;rw[d1];refine⟨rfl,fun v=>?_⟩
   grind [oR,uD]
  grind
 ·simp only[g1]at hk;split at hk
  ·rename_i j hj;rcases hla.qy j v k z hk with⟨v1,z1,h1⟩ |h1
   ·grind [oR,uD]
   ·exact .inr h1
  ·exact .inl ⟨v,z,hk⟩
 ·cases r with
  |ret u=>
   obtain⟨y,rfl,hy⟩:=he;exact⟨y,rfl,D7 (g:=g1') (g':=g1) (f:=tw bs n) (fun _ _ h=>h) (fun j v b' v' x hr hx=>by
    grind [tw]) _ _ hy⟩
  |aR u=>
   obtain⟨y,rfl,hy⟩:=he;exact⟨y,rfl,jU _ _ (hf u rfl) hy⟩
structure xk(P:Program)[aB]:Type 1 where
 c:tu P
 m:Nat
 pu:List Nat
 ug:List Nat
 hl:∀x,(c.heap x).length=m
 ho:∀x r,m≤(c.fE x r).length
 hp:∀x,BA pu (c.heap x)
 hq:∀x r,BA ug (c.fE x r)
 hf:∀r v,c.out r=.aR v→v.flat=true
def xk.at(c:xk P)(bs:List Nat)(n:Nat)(h:CE bs n c.m=true):tu P where
 f:=c.c.f
 X:=c.c.X
 args:=fun x=>AVal.mA (tw bs n) (c.c.args x)
 heap:=fun x=>og bs c.pu n (c.c.heap x)
 sh:=c.c.sh
 out:=fun r=>(c.c.out r).Qj (tw bs n)
 fE:=fun x r=>og bs c.ug n (c.c.fE x r)
 S:=c.c.S
 ok:=fun k x r hr=>bF.place (c.c.ok k x r hr) (by rw[c.hl];exact h) (by rw[c.hl];exact c.ho x r) (c.hp x) (c.hq x r) fun v hv=>c.hf r v hv
inductive Qk (P:Program) [aB] {ρ:Type} (a:aM) (H1:List aa) (out:ρ→aM×List aa):Prop
def Et{ρ:Type}(P:Program)[aB](out:ρ→aM×List aa)(g:G P ρ)(a:aM)(H1:List aa):Prop:=
 match g with
 | .done _ r=>some (a,H1)=some (out r)
 | .fail=>True
 |_=>Qk P a H1 out
def OV{ρ:Type}(P:Program)[aB](cfg:dZ)(nd:Bool)(f:FuncId)(args:List AVal)(H:List aa)(out:ρ→aM×List aa)(g:G P ρ):Prop:=
 OR P cfg nd (jo P cfg nd 8) f args H g (Et P out)
theorem MD(hm : P.follows .mixedOrders = true)(hN : ∀ (f : FuncId) (fn : Func), P.funcs[f]? = some fn → fn.name ≠ "runtime.NumGoroutine"){nd : Bool}{f : FuncId}{args : List AVal}{H : List aa}{ρ : Type}{out : ρ → aM × List aa}{g : G P ρ}
 (h:OV P cfg nd f args H out g) {n:Nat} {r:ρ} (hr:g.run n=some r):bF P f args H (out r).1 (out r).2:=by
 obtain⟨g',a,H1,hk,hr',hf⟩:=(Aw (cfg:=cfg) (nd:=nd) hm hN 9).fn (show(jo P cfg nd 9).fn f args H g (Et P out)from h) hr;unfold Et at hk;split at hk
 ·grind [G.run]
 ·simp[G.run]at hr'
 ·exact nomatch hk
theorem Pq(hm : P.follows .mixedOrders = true)(hN : ∀ (f : FuncId) (fn : Func), P.funcs[f]? = some fn → fn.name ≠ "runtime.NumGoroutine"){f : FuncId}{args : List AVal}{H : List aa}{ρ : Type}{out : ρ → aM × List aa}{g : G P ρ}
 (h:OV P cfg true f args H out g) {n:Nat} {r:aM×List aa} (hr:g.can n fun y=>out y=r):bF P f args H r.1 r.2:=by
 have hf:=(BJ (cfg:=cfg) hm hN 9).fn (show(jo P cfg true 9).fn f args H g (Et P out)from h) hr;refine⟨hf.1,fun g w vs hi hl=>(hf.2 g w vs hi hl).mono fun e w' ⟨a,H1,⟨g',hk,hr'⟩,hc⟩=>?_⟩
 unfold Et at hk;split at hk
 ·obtain⟨_,rfl⟩:=hr';grind
 ·exact hr'.elim
 ·exact nomatch hk
def aM.OW:aM→Bool
 | .ret _=>true
 | .aR v=>v.flat
theorem aM.Gl{r:aM}(h:r.OW=true):∀v,r=.aR v→v.flat=true:=by
 rintro v rfl;exact h
theorem BA.of{l:List PU}{pu:List Nat}{H:List aa}(h:JY l H)(e:l.map (·.b)=pu):BA pu H:=e▸HY h
structure N5(X:Type)(sh:Sh)(args:X→List AVal)(heap:X→List aa)(out:sh.El→aM)(fE:X→sh.El→List aa) where
 m:Nat
 pu:List Nat
 ug:List Nat
 ME:X→List PU
 Ig:X→sh.El→List PU
 hl:∀x,(heap x).length=m
 ho:∀x,sh.all fun r=>Nat.ble m (fE x r).length=true
 hp:∀x,JY (ME x) (heap x)
 D9:∀x,(ME x).map (·.b)=pu
 hq:∀x,sh.all fun r=>JY (Ig x r) (fE x r)
 MF:∀x,sh.all fun r=>(Ig x r).map (·.b)=ug
 hf:sh.all fun r=>(out r).OW=true
def xk.of[hp:Plain P](cfg:dZ)(f:FuncId)(X:Type)(args:X→List AVal)(heap:X→List aa)(sh:Sh)(out:sh.El→aM)(fE:X→sh.El→List aa)(g:X→G P sh.El)(t:N5 X sh args heap out fE)
 (h:∀x,OV P cfg false f (args x) (heap x) (fun r=>(out r,fE x r)) (g x)=(g x).eo (G7 fun r=>(out r,fE x r))):xk P where
 c:={
  f:=f
  X:=X
  args:=args
  heap:=heap
  sh:=sh
  out:=out
  fE:=fE
  S:=fun n x=>(g x).run n
  ok:=fun n x r hr=>MD hp.mixed hp.names (out:=fun r=>(out r,fE x r)) (by rw[h x];exact G.bH (fun _=>rfl) (g x)) hr}
 m:=t.m
 pu:=t.pu
 ug:=t.ug
 hl:=t.hl
 ho:=fun x r=>Nat.le_of_ble_eq_true ((sh.bO _).1 (t.ho x) r)
 hp:=fun x=>.of (t.hp x) (t.D9 x)
 hq:=fun x r=>.of ((sh.bO _).1 (t.hq x) r) ((sh.bO _).1 (t.MF x) r)
 hf:=fun r=>aM.Gl ((sh.bO _).1 t.hf r)
structure yy(P:Program)[aB]:Type 1 where
 f:FuncId
 X:Type
 args:X→List AVal
 heap:X→List aa
 sh:Sh
 out:sh.El→aM
 fE:X→sh.El→List aa
 g:X→G P sh.El
 t:N5 X sh args heap out fE
 ok:∀n x r,(g x).can n (fun y=>(out y,fE x y)=r)→bF P f (args x) (heap x) r.1 r.2
def yy.of[hp:Plain P](cfg:dZ)(f:FuncId)(X:Type)(args:X→List AVal)(heap:X→List aa)(sh:Sh)(out:sh.El→aM)(fE:X→sh.El→List aa)(g:X→G P sh.El)(t:N5 X sh args heap out fE)
 (h:∀x,OV P cfg true f (args x) (heap x) (fun r=>(out r,fE x r)) (g x)=(g x).eo (G7 fun r=>(out r,fE x r))):yy P where
 f:=f
 X:=X
 args:=args
 heap:=heap
 sh:=sh
 out:=out
 fE:=fE
 g:=g
 t:=t
 ok:=fun n x r hr=>Pq hp.mixed hp.names (out:=fun r=>(out r,fE x r)) (by rw[h x];exact G.bH (fun _=>rfl) (g x)) hr
def yy.all(c:yy P)(S:Nat→c.X→Option c.sh.El)(h:∀n x r,S n x=some r→∃m,(c.g x).can m fun y=>(c.out y,c.fE x y)=(c.out r,c.fE x r)):xk P where
 c:={
  f:=c.f
  X:=c.X
  args:=c.args
  heap:=c.heap
  sh:=c.sh
  out:=c.out
  fE:=c.fE
  S:=S
  ok:=fun n x r hr=>let⟨m,hm⟩:=h n x r hr;c.ok m x (c.out r,c.fE x r) hm}
 m:=c.t.m
 pu:=c.t.pu
 ug:=c.t.ug
 hl:=c.t.hl
 ho:=fun x r=>Nat.le_of_ble_eq_true ((c.sh.bO _).1 (c.t.ho x) r)
 hp:=fun x=>.of (c.t.hp x) (c.t.D9 x)
 hq:=fun x r=>.of ((c.sh.bO _).1 (c.t.hq x) r) ((c.sh.bO _).1 (c.t.MF x) r)
 hf:=fun r=>aM.Gl ((c.sh.bO _).1 c.t.hf r)
end
end Go.AM
end
section
namespace Go.AM
section
variable [aB] {P:Program}
def Hf:List aa→List aa→Bool
 | [],[]=>true
 |a::as,b::bs=>sB a b&&Hf as bs
 |_,_=>false
theorem Ih:∀{a b:List aa},Hf a b=true→a=b
 | [],[],_=>rfl
 |a::as,b::bs,h=>by
  simp only[Hf,Bool.and_eq_true]at h;rw[DS h.1,Ih h.2]
 | [],_::_,h=>by cases h
 |_::_,[],h=>by cases h
def MG{ρ:Type}(out:ρ→aM)(fE:ρ→List aa):List ρ→Option ρ
 | []=>none
 |r::rs=>if rs.all (fun x=>He (out x) (out r)&&Hf (fE x) (fE r))then some r else none
def yy.one(c:yy P):xk P:=c.all (fun n x=>((c.g x).runs n).bind (MG c.out (c.fE x))) fun n x r h=>by
 obtain⟨l,h1,h2⟩:=Option.bind_eq_some_iff.1 h;refine⟨n,G.dg n (c.g x) l _ h1 fun y hy=>?_⟩
 cases l with
 |nil=>cases h2
 |cons r0 rs=>
  simp only[MG,Option.ite_none_right_eq_some,Option.some.injEq]at h2;obtain⟨h2,rfl⟩:=h2;rcases List.mem_cons.1 hy with rfl |hy
  ·rfl
  ·have:=List.all_eq_true.1 h2 y hy;simp only[Bool.and_eq_true]at this;rw[Ie this.1,Ih this.2]
end
end Go.AM
end
section
namespace Go.AM
section
variable [aB] {P:Program}
theorem yz{α β:Type}(H:List aa):∀(r:Rd α) (k:α→Rd β),(r.bind k).run H=(r.run H).bind fun x=>(k x).run H
 | .fail,_=>rfl
 | .done _,_=>rfl
 | .get b f,k=>by
  simp only[Rd.bind,Rd.run];cases H[b]? with
  |none=>rfl
  |some x=>exact yz H (f x) k
theorem Da{n:Nat}{H:List aa}:∀(l:List AVal),AVal.aQ l=true→(jL (snap (n+1)) l).run H=some l
 | [],_=>rfl
 |a::l,h=>by
  simp only[AVal.aQ,Bool.and_eq_true]at h;have ih:=Da (n:=n) (H:=H) l h.2;have h1:(snap (n+1) a).run H=some a:=by simp only[snap,h.1,if_true,Rd.run]
  simp only[jL,yz,h1,ih,Option.bind_some,Rd.run]
theorem bF.QZ{f:FuncId}{rows:List (List AVal)}{sz:Nat}{rest:List AVal}{r:aM}(h:kP P f (.aC rows::rest) r)(hp:rows.all AVal.aQ=true)(hrest:AVal.aQ rest=true)(hr:∀v,r=.ret v→v.flat=true)(hr2:∀v,r=.aR v→v.flat=true):
 bF P f (.sl 0 0 sz 0 rows.length::rest) [.row 0 sz rows] r [.row 0 sz rows]:=by
 refine⟨h.1,fun g w vs hi hl=>?_⟩
 have hs:(jL (snap iU) (.sl 0 0 sz 0 rows.length::rest)).run [.row 0 sz rows]=some (.aC rows::rest):=by
  have h2:=Da (n:=8) (H:=[.row 0 sz rows]) rest hrest;have h1:(snap iU (.sl 0 0 sz 0 rows.length)).run [.row 0 sz rows]=some (.aC rows):=by
   rw[show iU=8+1 from rfl];unfold snap;simp only[AVal.pure,Bool.false_eq_true,if_false,yz,rowOf,Rd.run,List.getElem?_cons_zero,if_true,Option.bind_some,true_and,Nat.zero_add,Nat.le_refl,List.drop_zero,List.take_length,hp]
  simp only[jL,yz,h1,Option.bind_some,Rd.run];rw[show iU=8+1 from rfl,h2];rfl
 obtain⟨hl',_⟩:=yS hi hs hl;refine(h.2 (fP g _) w vs hi.fP hl').mono fun e w' ⟨g1,_,hla,he⟩=>?_
 obtain⟨i1,i2⟩:=hi.frame (fun k hk=>hla.keep k hk dW) hla.size hla.os hla.tape hla.output
 refine⟨g,i1,i2,?_⟩;cases r with
 |ret v=>
  obtain⟨x,rfl,hx⟩:=he;exact⟨x,rfl,jU v x (hr v rfl) hx⟩
 |aR v=>
  obtain⟨x,rfl,hx⟩:=he;exact⟨x,rfl,jU v x (hr2 v rfl) hx⟩
end
end Go.AM
end
