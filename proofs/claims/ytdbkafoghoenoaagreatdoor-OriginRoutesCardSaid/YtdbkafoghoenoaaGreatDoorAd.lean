/- Parts put together. No conditions. -/
import Derived.Test.YtdbkafoghoenoaaGreatDoorAc
import Derived.ReadAgain
import Derived.Carry
import Derived.OpenShut
import Derived.IntWalk
import Derived.Maps.RangeRun
set_option linter.unusedSectionVars false
set_option linter.unusedSimpArgs false
set_option linter.unusedVariables false
section
namespace Go.AM
section
variable [Globs] {P:Program} {a:Act} {o:Oper} {g:Gh} {H:List ABlk} {w:World} {rho:Operand→AVal}
theorem growT_some{ST XT:TypeId}{sz bytes:Nat}(h:growT P ST XT=some (sz,bytes)):∃e e' i,P.underlying ST=some (.slice e)∧P.underlying XT=some (.slice e')∧P.info? e=some i∧i.size=sz∧i.bytes=bytes∧0<sz∧zeroFits i=true:=by
 grind [growT]
theorem run_grow{nid ST XT:Nat}{args:Array Operand}{ats:Array TypeId}{s x:Operand}{b ver sz bytes:Nat}{rows new:List (List AVal)}(hi:Inv g H w)(hρ:∀x,R g w (rho x) (a.eval x))(hn:H[nid]? =some .unborn)
 (ho:o.op=.call {callee:=.builtin .append,args:=args,argTypes:=ats}) (h0:ats[0]? =some ST) (h1:ats[1]? =some XT) (hs0:args[0]? =some s) (hx0:args[1]? =some x) (hsz:args.size=2)
 (hT:growT P ST XT=some (sz,bytes)) (es:rho s=.sl b ver sz 0 rows.length) (hrow:H[b]? =some (.row ver sz rows)) (hnew:(elems (rho x)).run H=some new) (hall:(new.all fun r=>r.length==sz)=true) (hpos:new.length≠0)
 (hroom:roomy (rows.length+new.length) bytes=true):
 ∃v w',(execOp a.eval o).run P w=.ok (.value v) w'∧
  ((R g w' (.sl b ver sz 0 (rows.length+new.length)) v∧Inv g (H.set b (.row ver sz (rows++new))) w'∧Later g H w g (H.set b (.row ver sz (rows++new))) w')∨
   ∃g',R g' w' (.sl nid 0 sz 0 (rows.length+new.length)) v∧Inv g' (H.set nid (.row 0 sz (rows++new))) w'∧Later g H w g' (H.set nid (.row 0 sz (rows++new))) w'):=by
 have hargs:args= #[s,x]:=by
  obtain⟨l⟩:=args
  match l,hsz with
  | [p,q],_=>simp at hs0 hx0;simp[hs0,hx0]
 have hexec:∀{v w'},(Builtin.append_ ats o.type #[a.eval s,a.eval x]).run P w=.ok v w'→(execOp a.eval o).run P w=.ok (.value v) w':=by
  intro v w' hr;simp[execOp,ho,resolve,invoke,builtin,hargs,hr]
 have hS:=hρ s;have hX:=hρ x;obtain⟨e,e',i,hus,hux,hinfo,rfl,rfl,hpz,hzf⟩:=growT_some hT;have hall:=all_len hall;obtain⟨ad,cap,news,ev,n1,n2,n3,n4⟩:=elems_R hi hX hnew hall;obtain⟨z,hz,hzs⟩:=zeroFits_some hzf;obtain⟨rm1,rm2⟩:=roomy_some hroom;rw[es]at hS;simp only[R]at hS;rcases hS with⟨hl0,evs⟩ |⟨k,scap,E',s',hk,evs,hsh,hcs,hns,hmax⟩
 ·have hr0:rows=[]:=List.eq_nil_of_length_eq_zero hl0;subst hr0;simp only[List.length_nil,Nat.zero_add,List.nil_append]at rm1 rm2 ⊢;rcases run_append (P:=P) (w:=w) (ty:=o.type) (base:=none) (n:=0) (cap:=0) (olds:=[]) (E:=e) (cur:= #[]) (c:=cap) h0 h1 hus ⟨e',hux⟩ hinfo hz (by simp) (.inl rfl) n1 n4 n3 (by rw[Nat.zero_add];omega) (by omega) (.inl ⟨rfl,rfl⟩)with⟨hle,_⟩ |⟨_,nc,c1,c2,c3⟩
  ·omega
  ·simp only[Nat.zero_add]at c1 c3;have hcells:CellsAt g w.drew (#[]++news.toArray++Builtin.zeroCells z.cells (nc - new.length)) new.flatten 0:=by
    refine CellsAt_of_RL (RL_mono (Ext.draw g w) _ _ n2) n3 fun j hj=>?_
    simp[Array.getElem?_append];omega
   obtain⟨a1,a2,a3⟩:=hi.draw.alloc (e:=e) (c:= #[]++news.toArray++Builtin.zeroCells z.cells (nc - new.length)) (rows:=new) (sz:=i.size) hn (by omega) (RowsAt_flat.2 ⟨hall,hcells⟩) (by simp[n1])
   refine⟨_,_,hexec (by rw[evs,ev];exact c3),.inr ⟨_,?_,a1,a2.draw⟩⟩
   simp only[R];refine .inr ⟨_,nc,e,(#[]++news.toArray++Builtin.zeroCells z.cells (nc - new.length)).size,a3,by simp,shape?_of_alloc _ _ _,?_,c1,c2⟩
   have e5:(#[]++news.toArray++Builtin.zeroCells z.cells (nc - new.length):Array Value).size=new.length*i.size+(nc - new.length)*i.size:=by simp[size_zeroCells,hzs,n1]
   rw[e5,← Nat.add_mul];congr 1;omega
 obtain⟨k',cur,E,q1,q2,q3,q4,q5,q6⟩:=hi.row b ver _ _ hrow hk;rw[hk]at q1;simp at q1;obtain rfl:=q1;have hs':s'=cur.size∧E'=E:=by
  simp only[World.shape?,q2]at hsh;simp at hsh;exact⟨hsh.2.symm,hsh.1.symm⟩
 obtain⟨rfl,rfl⟩:=hs';simp only[Nat.zero_mul,Nat.zero_add]at evs hcs;obtain⟨fl1,fl2⟩:=RowsAt_flat.1 q3;obtain⟨olds,o1,o2,o3,o4⟩:=RL_of_CellsAt fl2;generalize hnn:rows.length=n at*;have ol:olds.length=n*i.size:=by rw[o1,flatten_len fl1,hnn]
 have hcat:RL g w (rows++new).flatten (olds++news):=by rw[List.flatten_append];exact RL_append o3 n2
 have hone2:∀y∈olds++news,y.oneCell'=true:=by
  intro y hy;rcases List.mem_append.1 hy with h |h
  ·exact o2 y h
  ·exact n3 y h
 have hlens:∀r∈rows++new,r.length=i.size:=by
  intro r hr;rcases List.mem_append.1 hr with h |h
  ·exact fl1 r h
  ·exact hall r h
 have ocur:∀j,j<olds.length→cur[j]? =olds[j]? :=fun j hj=>by simpa using o4 j hj
 rcases run_append (P:=P) (w:=w) (ty:=o.type) (base:=some ⟨k,0,none⟩) (n:=n) (cap:=scap) (olds:=olds) (E:=E') (cur:=cur) (c:=cap) h0 h1 hus ⟨e',hux⟩ hinfo hz ol
  (.inr ⟨_,rfl,fun j u hu=>by
   grind [add_addr,cell?_cells]⟩) n1 n4 n3 (by omega) (by omega) (.inr ⟨k,rfl,q2,hcs⟩)with⟨hle,w',hr,hw⟩ |⟨hlt,nc,c1,c2,c3⟩
 ·have hcsz:n*i.size+news.length≤cur.size:=by rw[n1,← Nat.add_mul,← hcs];exact Nat.mul_le_mul_right _ hle
  have hw':w'=w.setRow k (cur.toList.take (n*i.size)++news++cur.toList.drop (n*i.size+news.length)).toArray:=by
   rcases hw with⟨hm,hw⟩ |⟨k2,hk2,hw⟩
   ·omega
   ·simp at hk2;subst hk2;exact hw
  have hsz':(cur.toList.take (n*i.size)++news++cur.toList.drop (n*i.size+news.length)).toArray.size=cur.size:=by simp;omega
  have hcells:CellsAt g w (cur.toList.take (n*i.size)++news++cur.toList.drop (n*i.size+news.length)).toArray (rows++new).flatten 0:=by
   refine CellsAt_of_RL hcat hone2 fun j hj=>?_
   simp only[Nat.zero_add,List.getElem?_toArray];simp only[List.length_append]at hj;rw[List.append_assoc];by_cases hjo:j<olds.length
   ·grind
   ·grind
  obtain⟨s1,s2⟩:=hi.store (w':=w') (rows':=rows++new) hrow hk q2 (by rw[hw'];exact setRow_heap w k cur _ E' (0,0) q2) hsz' (fun j hj=>by rw[hw'];exact setRow_other w k j _ hj) (by rw[hw',setRow_size]) (by rw[hw'];rfl) (by simp_all) (by rw[hw'];rfl) (RowsAt_flat.2 ⟨hlens,hcells⟩)
   (by rw[hsz',← hcs,List.length_append,hnn];exact Nat.mul_le_mul_right _ hle)
  refine⟨_,_,hexec (by rw[evs,ev,hr]),.inl ⟨?_,s1,s2⟩⟩
  simp only[R];refine .inr ⟨k,scap,E',cur.size,hk,by simp,?_,by simpa using hcs,by omega,hmax⟩
  rw[hw'];have:=setRow_heap w k cur (cur.toList.take (n*i.size)++news++cur.toList.drop (n*i.size+news.length)).toArray E' (0,0) q2;simp only[World.shape?,this,hsz']
 ·have hsz':(olds.toArray++news.toArray++Builtin.zeroCells z.cells (nc - (n+new.length))).size=nc*i.size:=by
   simp only[Array.size_append,size_zeroCells,hzs,List.size_toArray,n1,ol,← Nat.add_mul];congr 1;omega
  have hcells:CellsAt g w.drew (olds.toArray++news.toArray++Builtin.zeroCells z.cells (nc - (n+new.length))) (rows++new).flatten 0:=by
   refine CellsAt_of_RL (RL_mono (Ext.draw g w) _ _ hcat) hone2 fun j hj=>?_
   simp only[List.length_append]at hj;rw[Nat.zero_add,Array.getElem?_append_left (by simp;omega)]
   simp
  obtain⟨a1,a2,a3⟩:=hi.draw.alloc (e:=e) (c:=olds.toArray++news.toArray++Builtin.zeroCells z.cells (nc - (n+new.length))) (rows:=rows++new) (sz:=i.size) hn (by omega) (RowsAt_flat.2 ⟨hlens,hcells⟩)
   (by rw[hsz',List.length_append,hnn];exact Nat.mul_le_mul_right _ c1)
  refine⟨_,_,hexec (by rw[evs,ev];exact c3),.inr ⟨_,?_,a1,a2.draw⟩⟩
  simp only[R];exact .inr ⟨w.heap.size,nc,e,nc*i.size,a3,by simp,by have:=shape?_of_alloc w.drew (olds.toArray++news.toArray++Builtin.zeroCells z.cells (nc - (n+new.length))) e;rw[hsz']at this;exact this,by simp,c1,c2⟩
end
end Go.AM
end
section
namespace Go.AM
open Go.ChangeShapes Go.WideShapes Go.ChangeAt Go.RowKit
structure Rdb(P:Program)(T:TypeId){α:Type}(enc:α→List AVal)(ok:α→Prop):Prop where
 read:∀{H:Type} {encH:TypeId×Value→H} {w:World} {fuel:Nat} {cs:List Value} {x:DataW H×List MemPlace},DataW.trod encH P w 0 (fun _=>true) true fuel T cs=some x→
  ∃a,ok a∧RL (Gh.bare w) w (enc a) cs∧∀y∈cs,y.oneCell'=true
 pure:∀a,AVal.pureL (enc a)=true
 len:∀a,(enc a).length=P.cellsOf T
section
variable {P:Program} {T:TypeId} [Globs]
theorem Rdb.bool(ht:P.underlying T=some .bool)(hc:P.cellsOf T=1):Rdb P T eB (fun _=>True) where
 read h:=by
  rename_i fuel cs x;cases fuel with
  |zero=>simp[DataW.trod]at h
  |succ n=>
   unfold DataW.trod at h;rw[ht]at h;split at h<;>simp_all
   simp[eB,RL,R,Value.oneCell']
 pure _:=rfl
 len _:=by simp[eB,hc]
theorem Rdb.int{k:IntKind}(ht:P.underlying T=some (.int k))(hc:P.cellsOf T=1):Rdb P T (eI k) (fun n=>(Lit.int k n).wf=true) where
 read h:=by
  rename_i fuel cs x;cases fuel with
  |zero=>simp[DataW.trod]at h
  |succ n=>
   unfold DataW.trod at h;rw[ht]at h;split at h<;>simp_all
   obtain⟨⟨rfl,hw⟩,_⟩:=h;exact⟨_,hw,by simp[eI,RL,R],rfl⟩
 pure _:=rfl
 len _:=by simp[eI,hc]
theorem Rdb.str(ht:P.underlying T=some .string)(hc:P.cellsOf T=1):Rdb P T eS (fun _=>True) where
 read h:=by
  rename_i fuel cs x;cases fuel with
  |zero=>simp[DataW.trod]at h
  |succ n=>
   unfold DataW.trod at h;rw[ht]at h;split at h<;>simp_all
   simp[eS,RL,R,Value.oneCell']
 pure _:=rfl
 len _:=by simp[eS,hc]
theorem cells?_some{w:World}{a:Addr}{n:Nat}{cs:List Value}(h:w.cells? 0 a n=some cs):cs.length=n∧∀i,i<n→w.cell? (a.add i)=cs[i]? :=by
 unfold World.cells? at h;simp only[Nat.zero_le,if_true]at h;exact⟨by simpa using mapM_some_length h,fun i hi=>mapM_some_get h i i (by simp[hi])⟩
theorem bare_lt{w:World}{k o:Nat}{y:Value}(h:w.cell? ⟨k,o,none⟩=some y):k<w.heap.size:=by
 unfold World.cell? at h;grind
theorem choose_list{α:Type}{n:Nat}{p:Nat→α→Prop}(h:∀i,i<n→∃a,p i a):∃l:List α,l.length=n∧∀i a,l[i]? =some a→p i a:=by
 induction n with
 |zero=>simp_all
 |succ n ih=>
  obtain⟨l,h1,h2⟩:=ih fun i hi=>h i (by omega)
  obtain⟨a,ha⟩:=h n (by omega)
  refine⟨l++[a],by simp[h1],fun i b hb=>?_⟩
  grind
theorem Rdb.slice{E:TypeId}{α:Type}{enc:α→List AVal}{ok:α→Prop}(ht:P.underlying T=some (.slice E))(hc:P.cellsOf T=1)(hz0:Nat.ble 1 (P.cellsOf E)=true)(he:Rdb P E enc ok):
 Rdb P T (eL enc) (fun l=>∀a∈l,ok a) where
 read h:=by
  have hz:=Nat.le_of_ble_eq_true hz0;rename_i H encH w fuel cs x;rcases DataW.trod_slice ht h with⟨rfl,_⟩ |⟨a,len,cap,elems,rest,n,rfl,rfl,_,_,hl,_,hlen,hel,_⟩
  ·exact⟨[],by simp,by simp[eL,RL,R],by simp[Value.oneCell']⟩
  ·have hget:∀i,i<len→∃c,w.cells? 0 (a.add (i*P.cellsOf E)) (P.cellsOf E)=some c∧∃b,ok b∧RL (Gh.bare w) w (enc b) c∧∀y∈c,y.oneCell'=true:=by
    intro i hi;have h1:=hel i hi;obtain⟨y,hy⟩:∃y,elems[i]? =some y:=⟨_,List.getElem?_eq_getElem (by omega)⟩
    rw[hy]at h1;obtain⟨c,hc1,hc2⟩:=Option.bind_eq_some_iff.1 h1;obtain⟨b,hb⟩:=he.read hc2;exact⟨c,hc1,b,hb⟩
   obtain⟨l,hll,hp⟩:=choose_list (n:=len) (p:=fun i b=>∃c,w.cells? 0 (a.add (i*P.cellsOf E)) (P.cellsOf E)=some c∧ok b∧RL (Gh.bare w) w (enc b) c∧∀y∈c,y.oneCell'=true)
    fun i hi=>let⟨c,h1,b,h2⟩:=hget i hi;⟨b,c,h1,h2⟩
   refine⟨l,fun b hb=>?_,?_,by simp[Value.oneCell']⟩
   ·obtain⟨i,hi⟩:=List.getElem?_of_mem hb;grind
   ·simp only[eL,RL,R];refine⟨_,[],rfl,⟨some a,cap,by simp[hll],by simp[hll,hl],?_⟩,rfl⟩
    by_cases h0:l.length=0
    ·left;simp[h0]
    ·right;obtain⟨k,o,sp⟩:=a;have hsp:sp=none:=by
      obtain⟨c,h1,_⟩:=hget 0 (by omega)
      obtain⟨h2,h3⟩:=cells?_some h1;have h4:=h3 0 hz;obtain⟨y,hy⟩:∃y,c[0]? =some y:=⟨_,List.getElem?_eq_getElem (by omega)⟩
      rw[hy]at h4;simpa[Addr.add]using World.cell?_spot h4
     subst hsp;refine⟨k,o,P.cellsOf E,rfl,RR_of fun i r hr=>?_⟩
     obtain⟨b,hb,rfl⟩:∃b,l[i]? =some b∧enc b=r:=by simpa using hr
     refine⟨he.len b,he.pure b,RC_of fun j v hv=>?_⟩
     obtain⟨c,h1,_,h2,h3⟩:=hp i b hb;obtain⟨h4,h5⟩:=cells?_some h1;obtain⟨h6,h7⟩:=RL_get _ _ h2;obtain⟨y,hy,hr⟩:=h7 j v hv;have hj:j<P.cellsOf E:=by rw[← he.len b];exact(List.getElem?_eq_some_iff.1 hv).1
     have hcell:=h5 j hj;rw[hy]at hcell;simp only[Go.WideShapes.add_plain]at hcell;exact⟨bare_lt hcell,y,hcell,h3 y (List.mem_of_getElem? hy),hr⟩
 pure _:=rfl
 len _:=by simp[eL,hc]
inductive Flds (P:Program):List Field→(α:Type)→(α→List AVal)→(α→Prop)→Prop
 |nil:Flds P [] Unit (fun _=>[]) (fun _=>True)
 |cons {f:Field} {fs:List Field} {α β:Type} {enc:α→List AVal} {ok:α→Prop} {encs:β→List AVal} {oks:β→Prop} (h:Rdb P f.type enc ok) (hs:Flds P fs β encs oks):
  Flds P (f::fs) (α×β) (fun x=>enc x.1++encs x.2) (fun x=>ok x.1∧oks x.2)
theorem Flds.pure{fs:List Field}{α:Type}{enc:α→List AVal}{ok:α→Prop}(h:Flds P fs α enc ok):∀a,AVal.pureL (enc a)=true:=by
 have happ:∀(a b:List AVal),AVal.pureL a=true→AVal.pureL b=true→AVal.pureL (a++b)=true:=by
  intro a b h1 h2;induction a with
  |nil=>exact h2
  |cons x xs ih=>grind [AVal.pureL]
 induction h with
 |nil=>exact fun _=>rfl
 |cons h _ ih=>exact fun a=>happ _ _ (h.pure a.1) (ih a.2)
theorem Flds.len{fs:List Field}{α:Type}{enc:α→List AVal}{ok:α→Prop}(h:Flds P fs α enc ok):∀a,(enc a).length=(fs.map fun f=>P.cellsOf f.type).sum:=by
 induction h with
 |nil=>exact fun _=>rfl
 |cons h _ ih=>exact fun a=>by simp[h.len a.1,ih a.2]
theorem Flds.read{H:Type}{encH:TypeId×Value→H}{w:World}{n:Nat}{fs:List Field}{α:Type}{enc:α→List AVal}{ok:α→Prop}(h:Flds P fs α enc ok):∀(cs:List Value),cs.length=(fs.map fun f=>P.cellsOf f.type).sum→
 (∀i f,fs[i]? =some f→∃x,DataW.trod encH P w 0 (fun _=>true) true n f.type ((cs.drop ((fs.take i).map fun f=>P.cellsOf f.type).sum).take (P.cellsOf f.type))=some x)→
 ∃a,ok a∧RL (Gh.bare w) w (enc a) cs∧∀y∈cs,y.oneCell'=true:=by
 induction h with
 |nil=>
  intro cs hl _;have:cs=[]:=by simpa using hl
  subst this;exact⟨(),trivial,rfl,by simp⟩
 | @cons f fs α β enc ok encs oks h hs ih=>
  intro cs hl hf;simp only[List.map_cons,List.sum_cons]at hl;obtain⟨x,hx⟩:=hf 0 f rfl;simp only[List.take_zero,List.map_nil,List.sum_nil,List.drop_zero]at hx;obtain⟨a,h1,h2,h3⟩:=h.read hx;obtain⟨b,h4,h5,h6⟩:=ih (cs.drop (P.cellsOf f.type)) (by simp;omega) fun i f' hi=>by
   obtain⟨x,hx⟩:=hf (i+1) f' (by simpa using hi)
   simp_all
  refine⟨(a,b),⟨h1,h4⟩,?_,fun y hy=>?_⟩
  ·have:=RL_append h2 h5;rwa[List.take_append_drop]at this
  ·rw[← List.take_append_drop (P.cellsOf f.type) cs]at hy;grind
theorem Rdb.struct(hl:laidOutB P=true)(hT0:Nat.ble (T+1) P.types.size=true){fs:Array Field}(ht:P.underlying T=some (.struct fs)){β S:Type}{encs:β→List AVal}{oks:β→Prop}(h:Flds P fs.toList β encs oks){enc:S→List AVal}{ok:S→Prop}(conv:β→S)(back:S→β)
 (hconv:∀b,enc (conv b)=encs b) (hback:∀s,conv (back s)=s) (hok:∀b,oks b→ok (conv b)):Rdb P T enc ok where
 read hx:=by
  have hT:T<P.types.size:=Nat.le_of_ble_eq_true hT0;obtain⟨xs,n,rfl,_,hlen,hxl,hf⟩:=DataW.trod_struct ht hx;obtain⟨_,h2,h3⟩:=kid_struct hl hT ht;obtain⟨b,k1,k2,k3⟩:=h.read (n:=n) _ (by rw[hlen,h2]) fun i f hi=>by
   have:=hf i f (by simpa using hi)
   rw[h3 i f hi]at this;obtain⟨y,hy⟩:∃y,xs[i]? =some y:=⟨_,List.getElem?_eq_getElem (by
    grind)⟩
   exact⟨y,by rw[this,hy]⟩
  grind
 pure a:=by rw[← hback a,hconv];exact h.pure _
 len a:=by
  have hT:T<P.types.size:=Nat.le_of_ble_eq_true hT0;obtain⟨_,h2,_⟩:=kid_struct hl hT ht;rw[← hback a,hconv,h.len,h2]
end
theorem Rdb.one{P:Program}{T:TypeId}{α:Type}{enc:α→List AVal}{ok:α→Prop}(h:Rdb P T enc ok){H:Type}{encH:TypeId×Value→H}{w:World}{v:Value}{d:DataW H}{ps:List MemPlace}
 (hv:DataW.Trod encH P w 0 (fun _=>true) true T v d ps):∃a,ok a∧RL (Gh.bare w) w (enc a) v.cells.toList∧∀y∈v.cells.toList,y.oneCell'=true:=by
 obtain⟨fuel,hf⟩:=hv;exact h.read hf
section
variable {P:Program} {T:TypeId} [Globs] {α:Type} {enc:α→List AVal} {ok:α→Prop} {H:Type} {encH:TypeId×Value→H} {w:World} {v:Value} {d:DataW H} {ps:List MemPlace} {r:Reach} {base:Nat}
theorem Rdb.agg(h:Rdb P T enc ok){fs:Array Field}(ht:P.underlying T=some (.struct fs))(hval:Value.okWide P w r base T v)(hv:DataW.Trod encH P w 0 (fun _=>true) true T v d ps):∃a,ok a∧R (Gh.bare w) w (.agg (enc a)) v:=by
 obtain⟨a,h1,h2,h3⟩:=h.one hv;unfold Value.okWide at hval;rw[ht]at hval;obtain⟨cs,rfl,_⟩:=hval;exact⟨a,h1,by simp only[R];exact⟨cs.toList,by simp,by simpa[Value.cells]using h3,by simpa[Value.cells]using h2⟩⟩
def oneT(P:Program)(T:TypeId):Bool:=match P.underlying T with
 |some .bool=>true
 |some (.int _)=>true
 |some .string=>true
 |some (.slice _)=>true
 |_=>false
theorem Rdb.cell{c:α→AVal}(h:Rdb P T (fun a=>[c a]) ok)(ht:oneT P T=true)(hval:Value.okWide P w r base T v)(hv:DataW.Trod encH P w 0 (fun _=>true) true T v d ps):∃a,ok a∧R (Gh.bare w) w (c a) v:=by
 obtain⟨a,h1,h2,_⟩:=h.one hv;refine⟨a,h1,?_⟩;have hc:v.cells.toList=[v]:=by
  unfold oneT at ht;unfold Value.okWide at hval;split at ht
  case h_5=>cases ht
  all_goals
   rename_i hu;rw[hu]at hval;simp only at hval;unfold Cell.okWide at hval;rw[hu]at hval;cases v<;>simp_all [Cell.ok,Value.cells]
 grind [RL]
theorem trodAll_kept{w':World}{sp:Nat→Bool}(hl:laidOutB P=true)(hm:mapsRowed P=true)(hz:∀t e,t<P.types.size→P.underlying t=some (.slice e)→0<P.cellsOf e)(hb:Below w.heap.size w w'):
 ∀{ts:List TypeId} {vs:List Value} {ds:List (DataW H)} {ps:List MemPlace},(∀t∈ts,t<P.types.size)→DataW.TrodAll encH P w 0 (fun _=>true) true ts vs ds ps→(∀p∈ps,p.block<w.heap.size)→(∀p∈ps,sp p.block=true)→
  DataW.TrodAll encH P w' 0 sp true ts vs ds ps:=by
 intro ts vs ds ps hT h hlt hs
 replace h:=h.respare (kids_rows hl hm) hz hT hs
 clear hs hz
 revert hlt h
 induction ts generalizing vs ds ps with
 |nil=>intro hlt h;cases vs<;>cases ds<;>simp_all [DataW.TrodAll]
 |cons t ts ih=>
  intro hlt h;cases vs with
  |nil=>cases ds<;>simp[DataW.TrodAll]at h
  |cons v vs=>
   cases ds with
   |nil=>simp[DataW.TrodAll]at h
   |cons d ds=>
    obtain⟨p,q,⟨n,h1⟩,h2,rfl⟩:=h;refine⟨p,q,⟨n,DataW.trod_carry _ _ _ _ h1 fun x hx=>hb.same (hlt x (List.mem_append_left _ hx))⟩,ih (fun t ht=>hT t (List.mem_cons_of_mem _ ht)) (fun x hx=>hlt x (List.mem_append_right _ hx)) h2,rfl⟩
theorem law_top{f:FuncId}{args:List AVal}{v:Value}(h:FnVal P f args (.ret (.sc v)))(w:World)(hg:GlobsOk (Gh.bare w) w)(vs:Array Value)(hl:RL (Gh.bare w) w args vs.toList):
 Calls P f vs w fun e w'=>e=.returned v∧Below w.heap.size w w':=by
 refine(h.2 (Gh.bare w) w vs (Gh.bare_inv w hg) hl).mono ?_;rintro e w' ⟨g',_,hla,x,rfl,hr⟩;grind [R,later_below]
end
end Go.AM
end
section
namespace Go.AM
def scan{α σ τ:Type}(g:Nat→α→σ→σ⊕τ):Nat→List α→σ→σ⊕τ
 |_,[],s=>.inl s
 |i,x::xs,s=>match g i x s with
  | .inl s'=>scan g (i+1) xs s'
  | .inr t=>.inr t
theorem at?_nat{α:Type}(l:List α)(i:Nat):at? l (i:Int)=l[i]? :=by simp[at?]
theorem iterO_scan{α σ τ ST:Type}{f:ST→Option (ST⊕τ)}(mk:Nat→σ→ST)(g:Nat→α→σ→σ⊕τ)(fin:σ→τ)(l:List α)
 (hs:∀i x s,l[i]? =some x→f (mk i s)=some (match g i x s with | .inl s'=>.inl (mk (i+1) s') | .inr t=>.inr t)) (he:∀s,f (mk l.length s)=some (.inr (fin s))):
 ∀(n:Nat) (s0:σ),l.length<n→iterO f n (mk 0 s0)=some (match scan g 0 l s0 with | .inl s=>fin s | .inr t=>t):=by
 have key:∀(k:Nat) (i:Nat) (s:σ) (n:Nat),i+k=l.length→k<n→iterO f n (mk i s)=some (match scan g i (l.drop i) s with | .inl s=>fin s | .inr t=>t):=by
  intro k;induction k with
  |zero=>
   intro i s n hi hn;obtain⟨n,rfl⟩:∃m,n=m+1:=⟨n - 1,by omega⟩
   have:i=l.length:=by omega
   subst this;simp only[iterO,he,List.drop_length,scan]
  |succ k ih=>
   intro i s n hi hn;obtain⟨n,rfl⟩:∃m,n=m+1:=⟨n - 1,by omega⟩
   have hlt:i<l.length:=by omega
   rw[List.drop_eq_getElem_cons hlt];simp only[iterO,scan,hs i _ s (List.getElem?_eq_getElem hlt)];cases g i l[i] s with
   |inl s'=>simp only;exact ih (i+1) s' n (by omega) (by omega)
   |inr t=>rfl
 intro n s0 hn;have:=key l.length 0 s0 n (by omega) hn
 simpa using this
theorem wrap_i64{x:Int}(h1: -9223372036854775808≤x)(h2:x≤9223372036854775807):Go.IntKind.wrap .i64 x=x:=by
 rw[Go.IntKind.wrap_i64];omega
theorem wrap_nat{i:Nat}(h:i<9223372036854775807):Go.IntKind.wrap .i64 ((i:Int)+1)=((i+1:Nat):Int):=by
 rw[wrap_i64 (by omega) (by omega)];rfl
theorem emod_tmod{x k:Int}(hk:0<k):(x.tmod k+k).tmod k=x % k:=by
 have h1: -k<x.tmod k:=Int.lt_tmod_of_pos x hk;have h2:=Int.tmod_add_mul_tdiv x k;rw[Int.tmod_eq_emod_of_nonneg (by omega)]
 have:x.tmod k+k=x+k*(1 - x.tdiv k):=by
  rw[Int.mul_sub,Int.mul_one];omega
 rw[this,Int.add_mul_emod_self_left]
theorem wrap_tmod{x k:Int}(hk:0<k)(hk2:k≤4000000000000000000):Go.IntKind.wrap .i64 (x.tmod k+k)=x.tmod k+k:=by
 have h1: -k<x.tmod k:=Int.lt_tmod_of_pos x hk;have h2:=Int.tmod_lt_of_pos x hk;exact wrap_i64 (by omega) (by omega)
end Go.AM
namespace Go.AM
section
variable {X K V β:Type}
theorem lenO_bind(l:List X)(e:X→List AVal)(k:Unit→Option β):(lenO l e).run.bind k=k ():=rfl
theorem idxO_bind(l:List X)(e:X→List AVal)(n:Nat)(i:Int)(k:X→Option β):(idxO l e n i).run.bind k=(at? l i).bind k:=rfl
theorem mgetO_bind(m:List (K×V))(q:K)(ek:K→AVal)(ev:V→AVal)(eq:K→K→Bool)(d:V)(ks:List Kd)(ag ok:Bool)(b:Nat)(k:Unit→Option β):(mgetO m q ek ev eq d ks ag ok b).run.bind k=k ():=rfl
theorem msetO_bind(m:List (K×V))(q:K)(v:V)(ek:K→AVal)(ev:V→AVal)(eq:K→K→Bool)(ks:List Kd)(ag:Bool)(b:Nat)(k:Unit→Option β):(msetO m q v ek ev eq ks ag b).run.bind k=k ():=rfl
theorem mksO_bind(d:X)(e:X→List AVal)(n by_ nid:Nat)(i:Int)(k:Unit→Option β):(mksO d e n by_ nid i).run.bind k=if 0≤i∧roomy i.toNat by_=true then k ()else none:=by
 show(if 0≤i∧roomy i.toNat by_=true then some ()else none).bind k=_
 split<;>rfl
theorem idxS_bind(m n b ver:Nat)(i:Int)(k:Unit→Option β):(idxS m n b ver i).run.bind k=if 0≤i∧i<m then k ()else none:=by
 show(if 0≤i∧i<m then some ()else none).bind k=_
 split<;>rfl
theorem ldO_bind(l:List X)(e:X→List AVal)(n b ver i o:Nat)(val:X→AVal)(k:X→Option β):(ldO l e n b ver i o val).run.bind k=(l[i]?).bind k:=rfl
theorem appO_bind(len:Nat)(l m:List X)(e:X→List AVal)(n by_ b ver nid:Nat)(ids:List Nat)(k:Unit→Option β):(appO len l m e n by_ b ver nid ids).run.bind k=if len=l.length∧roomy (l.length+m.length) by_=true then k ()else none:=by
 show(if len=l.length∧roomy (l.length+m.length) by_=true then some ()else none).bind k=_
 split<;>rfl
end
end Go.AM
end
section
namespace Go.AM
variable [Globs] {P:Program}
def Ctr1.shrink(c:Ctr1 P)(α:Type)(sz:Nat)(enc:α→List AVal)(he:∀a,AVal.pureL (enc a)=true)(k:c.sh.El→Nat)(l:c.sh.El→List α)(ho:∀r,c.out r=.ret (.sl 0 0 sz 0 (k r)))(hb:∀x r,c.outB x r=.row 0 sz ((l r).map enc)):Ctr1 P where
 f:=c.f
 X:=c.X
 args:=c.args
 blk:=c.blk
 sh:=.one (List α)
 out:=fun(r:List α)=>.ret (.sl 0 0 sz 0 r.length)
 outB:=fun _ (r:List α)=>.row 0 sz (r.map enc)
 S:=fun n x=>(c.S n x).bind fun r=>if k r≤(l r).length then some ((l r).take (k r))else none
 a0:=c.a0
 b0:=c.b0
 b1:=fun _ (r:List α)=>.inl (by simp[ABlk.row0,he])
 r0:=fun _=>rfl
 ok:=fun n x (r:List α) h=>by
  obtain⟨r',h1,h2⟩:=Option.bind_eq_some_iff.1 h;split at h2
  ·rename_i hk;have h2:(l r').take (k r')=r:=Option.some.inj h2;subst h2;have:=c.ok n x r' h1;rw[ho,hb]at this;have:=this.shrink (k r');simp_all
  ·cases h2
theorem FnRef.lstNil{f:FuncId}{H H1:List ABlk}{r:ARes}(h0:FnRef P f [.nz true] H r H1)(h1:FnRef P f [.nz false] H r H1):FnRef P f [.lst []] H r H1:=by
 refine⟨h0.1,fun g w vs hi hl=>?_⟩
 obtain⟨x,xs,hv,hx,hl'⟩:=hl;simp only[R]at hx;obtain⟨a,cap,rfl,_,_⟩:=hx;by_cases ha:a.isNone=true
 ·exact h0.2 g w vs hi (by rw[hv];exact⟨_,_,rfl,by grind [R],hl'⟩)
 ·exact h1.2 g w vs hi (by rw[hv];exact⟨_,_,rfl,by grind [R],hl'⟩)
theorem FnRef.behind{f:FuncId}{args:List AVal}{sz m:Nat}{rows:List (List AVal)}(h:FnRef P f args [] (.ret (.sl 0 0 sz 0 m)) [.row 0 sz rows])(ha:AVal.pureL args=true)(hp:rows.all AVal.pureL=true)(n:Nat):
 FnRef P f args (List.replicate n .dead) (.ret (.sl n 0 sz 0 m)) (List.replicate n .dead++[.row 0 sz rows]):=by
 refine⟨h.1,fun g w vs hi hl=>?_⟩
 let g0:Gh:=⟨fun _ _=>none,g.st⟩
 have hst0:∀k o,g.st k o→g0.st k o:=fun _ _ h=>h
 have hi0:Inv g0 [] w:=⟨fun b x hb=>by simp at hb,fun b b' x x' v v' k z z' h1=>by simp at h1,fun _ _ _=>rfl,fun b x v ver' hb=>by simp at hb,fun b x v k z o hb=>by simp at hb,hi.stold,fun i cs hc=>⟨(hi.globs i cs hc).1,RC_pure hst0 _ _ _ (hi.globs i cs hc).1 (hi.globs i cs hc).2⟩⟩
 refine(h.2 g0 w vs hi0 (RL_pure hst0 _ _ ha hl)).mono fun e w' ⟨g1,hi1,hla,x,he,hx⟩=>?_
 have low:∀b x,(List.replicate n ABlk.dead++[ABlk.row 0 sz rows])[b]? =some x→(b<n∧x=.dead)∨(b=n∧x=.row 0 sz rows):=fun b x hb=>by
  grind
 let g':Gh:=⟨fun b v=>if b<n then g.rho b v else g1.rho (b - n) v,g1.st⟩
 have hst1:∀k o,g1.st k o→g'.st k o:=fun _ _ h=>h
 have gn:∀v,g'.rho n v=g1.rho 0 v:=fun v=>by simp[g']
 have gl:∀b v,b<n→g'.rho b v=g.rho b v:=fun b v hb=>by simp[g',hb]
 have gh:∀b v,¬b<n→g'.rho b v=g1.rho (b - n) v:=fun b v hb=>by simp[g',hb]
 refine⟨g',⟨?_,?_,?_,?_,?_,hi1.stold,fun i cs hc=>⟨(hi1.globs i cs hc).1,RC_pure hst1 _ _ _ (hi1.globs i cs hc).1 (hi1.globs i cs hc).2⟩⟩,?_,x,he,?_⟩
 ·intro b y hb;rcases low b y hb with⟨_,rfl⟩ |⟨rfl,rfl⟩
  ·trivial
  ·rcases hi1.good 0 _ rfl with⟨k,c,e,h1,h2,h3,h4,h5⟩ |⟨h1,h2,h3⟩
   ·exact .inl ⟨k,c,e,by rw[gn];exact h1,h2,RowsAt_pure hst1 rows 0 hp h3,h4,h5⟩
   ·exact .inr ⟨h1,by rw[gn];exact h2,h3⟩
 ·intro b b' y y' v v' k z z' h1 h2 l1 l2 _ _;rcases low b y h1 with⟨_,rfl⟩ |⟨rfl,rfl⟩
  ·cases l1
  ·rcases low b' y' h2 with⟨_,rfl⟩ |⟨rfl,rfl⟩
   ·cases l2
   ·rfl
 ·intro b ver hc;have hbn:¬b<n:=by
   intro hb;rcases hc with hc |hc
   ·grind
   ·simp at hc;omega
  rw[gh b ver hbn];refine hi1.fresh (b - n) ver (.inr ?_);grind
 ·intro b y v ver' hb hv hlt;rcases low b y hb with⟨_,rfl⟩ |⟨rfl,rfl⟩
  ·cases hv
  ·rw[gn];exact hi1.next 0 _ v ver' rfl hv hlt
 ·intro b y v k z o hb hv hk;rcases low b y hb with⟨_,rfl⟩ |⟨rfl,rfl⟩
  ·cases hv
  ·rw[gn]at hk;exact hi1.free 0 _ v k z o rfl hv hk
 ·have noOwn:∀k,¬Owned g0 [] k:=fun k ⟨b,y,v,z,hb,_⟩=>by simp at hb
  refine⟨⟨fun b ver y hb=>?_,fun k o hk=>hla.ext.st k o hk,fun k o hk=>hla.ext.cell k o hk,fun k y hk=>hla.ext.shape k y hk⟩,hla.size,fun k hk _=>hla.keep k hk (noOwn k),fun k hk ho=>?_,by simp,hla.os,hla.tape,hla.output,fun k o hk h=>(hla.stk k o hk h).imp_right fun h=>absurd h.1 (noOwn k),fun b hb=>?_,fun b ver k z hk=>?_⟩
  ·have hbn:b<n:=Decidable.byContradiction fun hc=>by rw[hi.fresh b ver (.inr (by simp;omega))]at hb;cases hb
   rw[gl b ver hbn];exact hb
  ·obtain⟨b,y,v,z,hb,hv,hz⟩:=ho;rcases low b y hb with⟨_,rfl⟩ |⟨rfl,rfl⟩
   ·cases hv
   ·rw[gn]at hz;exact absurd (hla.own k hk ⟨0,_,v,z,rfl,hv,hz⟩) (noOwn k)
  ·grind
  ·by_cases hbn:b<n
   ·grind
   ·rw[gh b ver hbn]at hk;rcases hla.newk (b - n) ver k z hk with⟨v',z',h'⟩ |h'
    ·cases h'
    ·exact .inr h'
 grind [R]
def CtrR.fresh(P:Program)[Globs](f:FuncId)(X:Type)(args:X→List AVal)(α:Type)(sz:Nat)(enc:α→List AVal)(he:∀a,AVal.pureL (enc a)=true)(ha:∀x,AVal.pureL (args x)=true)(S:Nat→X→Option (List α))
 (ok:∀n x r,S n x=some r→FnRef P f (args x) [] (.ret (.sl 0 0 sz 0 r.length)) [.row 0 sz (r.map enc)]) (n:Nat):CtrR P where
 f:=f
 X:=X
 args:=args
 heap:=fun _=>List.replicate n .dead
 sh:=.one (List α)
 out:=fun(r:List α)=>.ret (.sl n 0 sz 0 r.length)
 outH:=fun _ (r:List α)=>List.replicate n .dead++[.row 0 sz (r.map enc)]
 S:=S
 ok:=fun m x (r:List α) h=>(ok m x r h).behind (ha x) (by
  grind) n
theorem FnVal.dead{f:FuncId}{sz:Nat}{rows:List (List AVal)}{rest:List AVal}{r:ARes}(h:FnVal P f (.lst rows::rest) r)(hp:rows.all AVal.pureL=true)(hrest:AVal.pureL rest=true)(hr:r.pureR=true):
 FnRef P f (.sl 0 0 sz 0 rows.length::rest) [.row 0 sz rows] r [.dead]:=by
 refine⟨h.1,fun g w vs hi hl=>?_⟩
 have h2:([ABlk.row 0 sz rows]:List ABlk)[0]? =some (.row 0 sz rows):=rfl;obtain⟨i1,i2,i3⟩:=frz1 hi hi (Later.refl g _ w) h2;have i2:Later g [.row 0 sz rows] w {rho:=g.rho,st:=fun k o=>g.st k o∨∃z,g.rho 0 0=some (k,z)} [.dead] w:=i2
 have hB:=i1.bare;have hst0:∀k o,g.st k o→g.st k o∨∃z,g.rho 0 0=some (k,z):=fun _ _ h=>.inl h
 have hl0:RL {rho:=fun _ _=>none,st:=fun k o=>g.st k o∨∃z,g.rho 0 0=some (k,z)} w (.lst rows::rest) vs.toList:=by
  simp only[RL]at hl ⊢;obtain⟨x,xs,e,hx,hxs⟩:=hl;refine⟨x,xs,e,?_,RL_pure hst0 _ _ hrest hxs⟩
  suffices hxF:R {rho:=g.rho,st:=fun k o=>g.st k o∨∃z,g.rho 0 0=some (k,z)} w (.lst rows) x from R_pure (g:={rho:=g.rho,st:=fun k o=>g.st k o∨∃z,g.rho 0 0=some (k,z)}) (g2:={rho:=fun _ _=>none,st:=fun k o=>g.st k o∨∃z,g.rho 0 0=some (k,z)}) (fun _ _ h=>h) (.lst rows) x rfl hxF
  simp only[R]at hx ⊢;rcases hx with⟨hn,rfl⟩ |⟨k,cap,e',sz2,hk,rfl,hsh,hcs,hm,hmax⟩
  ·grind
  ·obtain⟨k',c,e,r1,r2,r3,r4,r5,r6⟩:=hi.row 0 0 _ _ h2 hk;rw[hk]at r1;simp at r1;subst r1;refine⟨_,cap,rfl,by omega,.inr ⟨k,0*sz,sz,rfl,RR_of fun i r hr=>?_⟩⟩
   obtain⟨t1,t2⟩:=RowsAt_get _ _ _ _ r3 hr;grind [RC_of,CellsAt_get,R_mono,cell?_cells]
 refine(h.2 _ w vs hB hl0).mono fun e w' ⟨g1,hi1,hla,he⟩=>?_
 have noOwn:∀(g:Gh) k,¬Owned g [] k:=fun g k ⟨b,y,v,z,hb,_⟩=>by simp at hb
 have one:∀(b:Nat) (x:ABlk),([ABlk.dead]:List ABlk)[b]? =some x→x=.dead:=fun b x hb=>by
  grind
 have noOwnD:∀(g:Gh) k,¬Owned g [.dead] k:=fun g k ⟨b,y,v,z,hb,hv,_⟩=>by
  rw[one b y hb]at hv;cases hv
 refine⟨{rho:=g.rho,st:=g1.st},⟨fun b x hb=>?_,fun b b' x x' v v' k z z' h1 h2 l1=>?_,fun b ver hc=>?_,fun b x v ver' hb hv=>?_,fun b x v k z o hb hv=>?_,hi1.stold,fun i cs hc=>⟨(hi1.globs i cs hc).1,RC_pure (g:=g1) (g2:={rho:=g.rho,st:=g1.st}) (fun _ _ h=>h) _ _ _ (hi1.globs i cs hc).1 (hi1.globs i cs hc).2⟩⟩,i2.trans ⟨⟨fun _ _ _ h=>h,hla.ext.st,hla.ext.cell,hla.ext.shape⟩,hla.size,fun k hk _=>hla.keep k hk (noOwn _ k),fun k _ ho=>absurd ho (noOwnD _ k),Nat.le_refl _,hla.os,hla.tape,hla.output,fun k o hk hs=>(hla.stk k o hk hs).imp_right fun h=>absurd h.1 (noOwn _ k),fun b hb=>⟨hb,fun _=>rfl⟩,fun b ver k z hk=>.inl ⟨ver,z,hk⟩⟩,?_⟩
 ·rw[one b x hb];trivial
 ·rw[one b x h1]at l1;cases l1
 ·refine hi.fresh b ver (.inr ?_);grind
 ·rw[one b x hb]at hv;cases hv
 ·rw[one b x hb]at hv;cases hv
 ·cases r with
  |ret v=>
   obtain⟨x,h1,h3⟩:=he;exact⟨x,h1,R_pure (g:=g1) (g2:={rho:=g.rho,st:=g1.st}) (fun _ _ h=>h) v x hr h3⟩
  |pan v=>
   obtain⟨x,h1,h3⟩:=he;exact⟨x,h1,R_flat v x hr h3⟩
def Ctr1.dead(c:Ctr P)(X τ:Type)(sz:Nat)(enc:τ→List AVal)(rest:X→List AVal)(pack:List τ→X→c.X)
 (hargs:∀l x,c.args (pack l x)=.lst (l.map enc)::rest x) (he:∀a,AVal.pureL (enc a)=true) (hrest:∀x,AVal.pureL (rest x)=true) (hr:∀r,(c.out r).pureR=true) (ha:∀x n,AVal.only0L (.sl 0 0 sz 0 n::rest x)=true):Ctr1 P where
 f:=c.f
 X:=List τ×Nat×X
 args:=fun x=>.sl 0 0 sz 0 x.2.1::rest x.2.2
 blk:=fun x=>.row 0 sz (x.1.map enc)
 sh:=c.sh
 out:=c.out
 outB:=fun _ _=>.dead
 S:=fun n x=>if x.2.1=x.1.length then c.S n (pack x.1 x.2.2)else none
 a0:=fun x=>ha x.2.2 x.2.1
 b0:=fun x=>by simp[ABlk.row0,he]
 b1:=fun _ _=>.inr rfl
 r0:=fun r=>ARes.okR_of (hr r)
 ok:=fun n x r h=>by
  split at h
  ·rename_i hn;have h1:=c.ok n _ r h;rw[hargs]at h1;have h2:=h1.dead (sz:=sz) (by
    grind) (hrest x.2.2) (hr r)
   rw[hn];simpa using h2
  ·cases h
theorem FnVal.apart{f:FuncId}{args:List AVal}{r:ARes}(h:FnVal P f args r)(ha:AVal.pureL args=true)(hr:r.pureR=true)(n:Nat):
 FnRef P f args (List.replicate n .dead) r (List.replicate n .dead):=by
 refine⟨h.1,fun g w vs hi hl=>?_⟩
 have hl0:RL {rho:=fun _ _=>none,st:=g.st} w args vs.toList:=RL_pure (g:=g) (g2:={rho:=fun _ _=>none,st:=g.st}) (fun _ _ h=>h) _ _ ha hl
 refine(h.2 _ w vs hi.bare hl0).mono fun e w' ⟨g1,hi1,hla,he⟩=>?_
 have noOwn:∀(g:Gh) k,¬Owned g [] k:=fun g k ⟨b,y,v,z,hb,_⟩=>by simp at hb
 have one:∀(b:Nat) (x:ABlk),(List.replicate n ABlk.dead)[b]? =some x→x=.dead:=fun b x hb=>by
  grind
 have noOwnD:∀(g:Gh) k,¬Owned g (List.replicate n .dead) k:=fun g k ⟨b,y,v,z,hb,hv,_⟩=>by
  rw[one b y hb]at hv;cases hv
 refine⟨{rho:=g.rho,st:=g1.st},⟨fun b x hb=>?_,fun b b' x x' v v' k z z' h1 h2 l1=>?_,fun b ver hc=>hi.fresh b ver hc,fun b x v ver' hb hv=>?_,fun b x v k z o hb hv=>?_,hi1.stold,fun i cs hc=>⟨(hi1.globs i cs hc).1,RC_pure (g:=g1) (g2:={rho:=g.rho,st:=g1.st}) (fun _ _ h=>h) _ _ _ (hi1.globs i cs hc).1 (hi1.globs i cs hc).2⟩⟩,⟨⟨fun _ _ _ h=>h,hla.ext.st,hla.ext.cell,hla.ext.shape⟩,hla.size,fun k hk _=>hla.keep k hk (noOwn _ k),fun k _ ho=>absurd ho (noOwnD _ k),Nat.le_refl _,hla.os,hla.tape,hla.output,fun k o hk hs=>(hla.stk k o hk hs).imp_right fun h=>absurd h.1 (noOwn _ k),fun b hb=>⟨hb,fun _=>rfl⟩,fun b ver k z hk=>.inl ⟨ver,z,hk⟩⟩,?_⟩
 ·rw[one b x hb];trivial
 ·rw[one b x h1]at l1;cases l1
 ·rw[one b x hb]at hv;cases hv
 ·rw[one b x hb]at hv;cases hv
 ·cases r with
  |ret v=>
   obtain⟨x,h1,h3⟩:=he;exact⟨x,h1,R_pure (g:=g1) (g2:={rho:=g.rho,st:=g1.st}) (fun _ _ h=>h) v x hr h3⟩
  |pan v=>
   obtain⟨x,h1,h3⟩:=he;exact⟨x,h1,R_flat v x hr h3⟩
def CtrR.apart(c:Ctr P)(ha:∀x,AVal.pureL (c.args x)=true)(hr:∀r,(c.out r).pureR=true)(n:Nat):CtrR P where
 f:=c.f
 X:=c.X
 args:=c.args
 heap:=fun _=>List.replicate n .dead
 sh:=c.sh
 out:=c.out
 outH:=fun _ _=>List.replicate n .dead
 S:=c.S
 ok:=fun m x r h=>(c.ok m x r h).apart (ha x) (hr r) n
def Wk1(a b:AVal):Prop:=a=b∨(a=.sc (.slice none 0 0)∧b=.lst [])
def WkC:List AVal→List AVal→Prop
 | [],[]=>True
 |a::as,b::bs=>Wk1 a b∧WkC as bs
 |_,_=>False
def WkR:List (List AVal)→List (List AVal)→Prop
 | [],[]=>True
 |a::as,b::bs=>WkC a b∧WkR as bs
 |_,_=>False
theorem WkC.refl:∀l:List AVal,WkC l l
 | []=>trivial
 |_::as=>⟨.inl rfl,WkC.refl as⟩
theorem WkC.length:∀{l l':List AVal},WkC l l'→l.length=l'.length
 | [],[],_=>rfl
 |_::_,_::_,h=>by simp[WkC.length h.2]
theorem WkC.pure:∀{l l':List AVal},WkC l l'→AVal.pureL l=true→AVal.pureL l'=true
 | [],[],_,h=>h
 |a::as,b::bs,h,hp=>by
  simp only[AVal.pureL,Bool.and_eq_true]at hp ⊢;refine⟨?_,WkC.pure h.2 hp.2⟩;rcases h.1 with rfl |⟨_,rfl⟩
  ·exact hp.1
  ·rfl
theorem WkC.rc{g:Gh}{w:World}{k:Nat}:∀{l l':List AVal} {o:Nat},WkC l l'→RC g w l k o→RC g w l' k o
 | [],[],_,_,_=>by simp[RC]
 |a::as,b::bs,o,h,hr=>by
  simp only[RC]at hr ⊢;refine⟨⟨hr.1.1,?_⟩,WkC.rc h.2 hr.2⟩;obtain⟨y,h1,h2,h3⟩:=hr.1.2;refine⟨y,h1,h2,?_⟩;rcases h.1 with rfl |⟨rfl,rfl⟩
  ·exact h3
  grind [R]
theorem WkR.length:∀{l l':List (List AVal)},WkR l l'→l.length=l'.length
 | [],[],_=>rfl
 |_::_,_::_,h=>by simp[WkR.length h.2]
theorem WkR.rr{g:Gh}{w:World}{k sz:Nat}:∀{l l':List (List AVal)} {o:Nat},WkR l l'→RR g w l k o sz→RR g w l' k o sz
 | [],[],_,_,_=>by simp[RR]
 |a::as,b::bs,o,h,hr=>by
  simp only[RR]at hr ⊢;exact⟨⟨by rw[← h.1.length];exact hr.1.1,h.1.pure hr.1.2.1,h.1.rc hr.1.2.2⟩,WkR.rr h.2 hr.2⟩
theorem WkR.append:∀{l l' m m':List (List AVal)},WkR l l'→WkR m m'→WkR (l++m) (l'++m')
 | [],[],_,_,_,h=>h
 |_::_,_::_,_,_,h,h'=>⟨h.1,WkR.append h.2 h'⟩
theorem WkR.map{α:Type}{e e':α→List AVal}(h:∀a,WkC (e a) (e' a)):∀l:List α,WkR (l.map e) (l.map e')
 | []=>trivial
 |a::l=>⟨h a,WkR.map h l⟩
end Go.AM
end
section
namespace Go.AM
end Go.AM
end
section
namespace Go.AM
section
variable [Globs] {P:Program} {cfg:Cfg}
theorem RL_split{g:Gh}{w:World}:∀(a:List AVal) {b:List AVal} {vs:List Value},RL g w (a++b) vs→∃v1 v2,vs=v1++v2∧RL g w a v1∧RL g w b v2
 | [],b,vs,h=>⟨[],vs,rfl,rfl,h⟩
 |x::a,b,vs,h=>by
  simp only[List.cons_append,RL]at h;obtain⟨y,ys,rfl,h1,h2⟩:=h;obtain⟨v1,v2,rfl,h3,h4⟩:=RL_split a h2;exact⟨y::v1,v2,rfl,⟨y,v1,rfl,h1,h3⟩,h4⟩
theorem FnVal.deadAt{f:FuncId}{sz:Nat}{rows:List (List AVal)}{pre rest:List AVal}{r:ARes}(h:FnVal P f (pre++ .lst rows::rest) r)(hp:rows.all AVal.pureL=true)(hpre:AVal.pureL pre=true)(hrest:AVal.pureL rest=true)(hr:r.pureR=true):
 FnRef P f (pre++ .sl 0 0 sz 0 rows.length::rest) [.row 0 sz rows] r [.dead]:=by
 refine⟨h.1,fun g w vs hi hl=>?_⟩
 have h2:([ABlk.row 0 sz rows]:List ABlk)[0]? =some (.row 0 sz rows):=rfl;obtain⟨i1,i2,i3⟩:=frz1 hi hi (Later.refl g _ w) h2;have i2:Later g [.row 0 sz rows] w {rho:=g.rho,st:=fun k o=>g.st k o∨∃z,g.rho 0 0=some (k,z)} [.dead] w:=i2
 have hB:=i1.bare;have hst0:∀k o,g.st k o→g.st k o∨∃z,g.rho 0 0=some (k,z):=fun _ _ h=>.inl h
 have hl0:RL {rho:=fun _ _=>none,st:=fun k o=>g.st k o∨∃z,g.rho 0 0=some (k,z)} w (pre++ .lst rows::rest) vs.toList:=by
  obtain⟨v1,v2,e0,hl1,hl2⟩:=RL_split pre hl;rw[e0];refine RL_append (RL_pure hst0 _ _ hpre hl1) ?_;simp only[RL]at hl2 ⊢;obtain⟨x,xs,e,hx,hxs⟩:=hl2;refine⟨x,xs,e,?_,RL_pure hst0 _ _ hrest hxs⟩
  suffices hxF:R {rho:=g.rho,st:=fun k o=>g.st k o∨∃z,g.rho 0 0=some (k,z)} w (.lst rows) x from R_pure (g:={rho:=g.rho,st:=fun k o=>g.st k o∨∃z,g.rho 0 0=some (k,z)}) (g2:={rho:=fun _ _=>none,st:=fun k o=>g.st k o∨∃z,g.rho 0 0=some (k,z)}) (fun _ _ h=>h) (.lst rows) x rfl hxF
  simp only[R]at hx ⊢;rcases hx with⟨hn,rfl⟩ |⟨k,cap,e',sz2,hk,rfl,hsh,hcs,hm,hmax⟩
  ·grind
  ·obtain⟨k',c,e,r1,r2,r3,r4,r5,r6⟩:=hi.row 0 0 _ _ h2 hk;rw[hk]at r1;simp at r1;subst r1;refine⟨_,cap,rfl,by omega,.inr ⟨k,0*sz,sz,rfl,RR_of fun i r hr=>?_⟩⟩
   obtain⟨t1,t2⟩:=RowsAt_get _ _ _ _ r3 hr;grind [RC_of,CellsAt_get,R_mono,cell?_cells]
 refine(h.2 _ w vs hB hl0).mono fun e w' ⟨g1,hi1,hla,he⟩=>?_
 have noOwn:∀(g:Gh) k,¬Owned g [] k:=fun g k ⟨b,y,v,z,hb,_⟩=>by simp at hb
 have one:∀(b:Nat) (x:ABlk),([ABlk.dead]:List ABlk)[b]? =some x→x=.dead:=fun b x hb=>by
  grind
 have noOwnD:∀(g:Gh) k,¬Owned g [.dead] k:=fun g k ⟨b,y,v,z,hb,hv,_⟩=>by
  rw[one b y hb]at hv;cases hv
 refine⟨{rho:=g.rho,st:=g1.st},⟨fun b x hb=>?_,fun b b' x x' v v' k z z' h1 h2 l1=>?_,fun b ver hc=>?_,fun b x v ver' hb hv=>?_,fun b x v k z o hb hv=>?_,hi1.stold,fun i cs hc=>⟨(hi1.globs i cs hc).1,RC_pure (g:=g1) (g2:={rho:=g.rho,st:=g1.st}) (fun _ _ h=>h) _ _ _ (hi1.globs i cs hc).1 (hi1.globs i cs hc).2⟩⟩,i2.trans ⟨⟨fun _ _ _ h=>h,hla.ext.st,hla.ext.cell,hla.ext.shape⟩,hla.size,fun k hk _=>hla.keep k hk (noOwn _ k),fun k _ ho=>absurd ho (noOwnD _ k),Nat.le_refl _,hla.os,hla.tape,hla.output,fun k o hk hs=>(hla.stk k o hk hs).imp_right fun h=>absurd h.1 (noOwn _ k),fun b hb=>⟨hb,fun _=>rfl⟩,fun b ver k z hk=>.inl ⟨ver,z,hk⟩⟩,?_⟩
 ·rw[one b x hb];trivial
 ·rw[one b x h1]at l1;cases l1
 ·refine hi.fresh b ver (.inr ?_);grind
 ·rw[one b x hb]at hv;cases hv
 ·rw[one b x hb]at hv;cases hv
 ·cases r with
  |ret v=>
   obtain⟨x,h1,h3⟩:=he;exact⟨x,h1,R_pure (g:=g1) (g2:={rho:=g.rho,st:=g1.st}) (fun _ _ h=>h) v x hr h3⟩
  |pan v=>
   obtain⟨x,h1,h3⟩:=he;exact⟨x,h1,R_flat v x hr h3⟩
def Ctr1.deadAt(c:Ctr P)(X τ:Type)(sz:Nat)(enc:τ→List AVal)(pre rest:X→List AVal)(pack:List τ→X→c.X)
 (hargs:∀l x,c.args (pack l x)=pre x++ .lst (l.map enc)::rest x) (he:∀a,AVal.pureL (enc a)=true) (hpre:∀x,AVal.pureL (pre x)=true) (hrest:∀x,AVal.pureL (rest x)=true) (hr:∀r,(c.out r).pureR=true) (ha:∀x n,AVal.only0L (pre x++ .sl 0 0 sz 0 n::rest x)=true):Ctr1 P where
 f:=c.f
 X:=List τ×Nat×X
 args:=fun x=>pre x.2.2++ .sl 0 0 sz 0 x.2.1::rest x.2.2
 blk:=fun x=>.row 0 sz (x.1.map enc)
 sh:=c.sh
 out:=c.out
 outB:=fun _ _=>.dead
 S:=fun n x=>if x.2.1=x.1.length then c.S n (pack x.1 x.2.2)else none
 a0:=fun x=>ha x.2.2 x.2.1
 b0:=fun x=>by simp[ABlk.row0,he]
 b1:=fun _ _=>.inr rfl
 r0:=fun r=>ARes.okR_of (hr r)
 ok:=fun n x r h=>by
  split at h
  ·rename_i hn;have h1:=c.ok n _ r h;rw[hargs]at h1;have h2:=h1.deadAt (sz:=sz) (by
    grind) (hpre x.2.2) (hrest x.2.2) (hr r)
   rw[hn];simpa using h2
  ·cases h
def Ctr1.re(c:Ctr1 P)(Y:Type)(f:Y→c.X):Ctr1 P where
 f:=c.f
 X:=Y
 args:=fun y=>c.args (f y)
 blk:=fun y=>c.blk (f y)
 sh:=c.sh
 out:=c.out
 outB:=fun y r=>c.outB (f y) r
 S:=fun n y=>c.S n (f y)
 a0:=fun y=>c.a0 (f y)
 b0:=fun y=>c.b0 (f y)
 b1:=fun y r=>c.b1 (f y) r
 r0:=c.r0
 ok:=fun n y r h=>c.ok n (f y) r h
end
end Go.AM
end
section
namespace Go.AM
open Go.ChangeMaps (setBlock)
def iterP{σ τ:Type}(f:σ→((σ⊕τ)→Prop)→Prop):Nat→σ→(τ→Prop)→Prop
 | 0,_,_=>False
 |n+1,a,q=>f a fun
  | .inl a'=>iterP f n a' q
  | .inr t=>q t
section
variable {P:Program} [Globs]
def G.can(n:Nat):{ρ:Type}→G P ρ→(ρ→Prop)→Prop
 |_,.stop,_=>False
 |_,.done ts r,p=>tsOk ts=true∧p r
 |_,.fail,_=>False
 |_,.skip _ g,p=>g.can n p
 |_,.br _ c t f,p=>if c then t.can n p else f.can n p
 |_,.eqi _ _ x c t f,p=>if x=c then t.can n p else f.can n p
 |_,.sp c t f,p=>if c then t.can n p else f.can n p
 |_,.op t k,p=>∃x,t.run=some x∧(k x).can n p
 |_,.call c x k,p=>∃r,c.S n x=some r∧(k r).can n p
 |_,.callS _ c x k,p=>∃r,c.S n x=some r∧(k r).can n p
 |_,.callR c x k,p=>∃r,c.S n x=some r∧(k r).can n p
 |_,.call1 c _ _ _ x k,p=>∃r,c.S n x=some r∧(k r).can n p
 |_,.tidy l g,p=>tsOk l=true∧g.can n p
 |_,.loop _ hd _ _ a0 body k,p=>tsOk hd=true∧iterP (fun a q=>(body a).can n q) n a0 fun t=>(k t).can n p
 |_,.loopS _ _ hd _ _ a0 body k,p=>tsOk hd=true∧iterP (fun a q=>(body a).can n q) n a0 fun t=>(k t).can n p
 |_,.unroll _ g,p=>g.can n p
 |_,.shutG _ _ g,p=>g.can n p
 |_,.join _ _ g k,p=>g.can n fun t=>(k t).can n p
 |_,.pick z seen k,p=>((∀i,i<z.n→i∈seen)→(k none).can n p)∧∀i,i<z.n→i∉seen→(k (some i)).can n p
 |_,.grow z k,p=>z.ok=true∧(k true).can n p∧(k false).can n p
 |_,.inl _ g,p=>g.can n p
theorem G.less_can{ρ:Type}(n m:Nat)(g:G P ρ)(p:ρ→Prop):(G.less m g).can n p=g.can n p:=by cases m<;>simp[G.less,G.can]
end
section
variable [Globs] {P:Program} {cfg:Cfg} {X:Env P}
def FnRel(P:Program)[Globs](f:FuncId)(args:List AVal)(H:List ABlk)(Φ:ARes→List ABlk→Prop):Prop:=
 (∃ fn c, P.funcs[f]? = some fn ∧ fn.body = some c ∧ fn.name ≠ "runtime.NumGoroutine") ∧
 ∀g w (vs:Array Value),Inv g H w→RL g w args vs.toList→Calls P f vs w fun e w'=>∃a H1,Φ a H1∧Comes1 g H w a H1 e w'
def RndRel(P:Program)[Globs](b:Nat)(args:List AVal)(H:List ABlk)(Φ:ARes→List ABlk→Prop):Prop:=
 ∀g w (vs:Array Value) k sz,Inv g H w→RL g w args vs.toList→g.rho b 0=some (k,sz)→
  ∃rec,w.heap[k]? =some (.loop rec)∧vs.size=rec.params.size∧RoundIn Fence.wide 0 P k rec.fn (roundTmps rec vs) rec.assign rec.body w fun e w'=>∃a H1,Φ a H1∧Comes1 g H w a H1 e w'
structure NestRel(P:Program)[Globs](N:Nest P):Prop where
 fn:∀{ρ:Type} {n:Nat} {f:FuncId} {args:List AVal} {H:List ABlk} {g:G P ρ} {k:G P ρ→ARes→List ABlk→Prop} {p:ρ→Prop},N.fn f args H g k→g.can n p→
  FnRel P f args H fun a H1=>∃g',k g' a H1∧g'.can n p
 rnd:∀{ρ:Type} {n:Nat} {b:Nat} {args:List AVal} {H:List ABlk} {g:G P ρ} {k:G P ρ→ARes→List ABlk→Prop} {p:ρ→Prop},N.rnd b args H g k→g.can n p→
  RndRel P b args H fun a H1=>∃g',k g' a H1∧g'.can n p
 lp:∀{σ:Type} {sh:Sh} {n:Nat} {ro:Option Nat} {H0:List ABlk} {b:Code} {g:G P (σ⊕sh.El)} {E:σ→St} {s:St} {Y:sh.El→AOut×St} {p:σ⊕sh.El→Prop},N.lp ro H0 b g E s Y→g.can n p→
  ∀fro g0 w0,Inv g0 H0 w0→RoOk g0 ro fro→Does P fro g0 H0 w0 b s fun o s'=>∃(g':G P (σ⊕sh.El)),roundC H0 E Y g' o s'∧g'.can n p
variable {ops:Array Oper} {n0 nid:Nat} {o:Oper} {s:St}
theorem tick_can{n:Nat}{ρ:Type}{p:ρ→Prop}:∀{g:G P ρ} {s:St} {k:G P ρ→St→Prop},tickC g s k→g.can n p→∃g',k g' s∧g'.can n p
 | .br d c t f,s,k,h,hr=>by
  simp only[tickC,setF_eq]at h;obtain⟨hd,h1,h2⟩:=h;have hset:s.A.set d (.sc (.bool c))=s.A:=by
   apply List.ext_getElem?;intro j;by_cases hj:d=j
   ·grind
   ·rw[List.getElem?_set_ne hj]
  cases c with
  |true=>
   rw[hset]at h1;simp only[G.can,if_true]at hr;exact tick_can h1 hr
  |false=>
   rw[hset]at h2;simp only[G.can,Bool.false_eq_true,if_false]at hr;exact tick_can h2 hr
 | .eqi d ik x c t f,s,k,h,hr=>by
  simp only[tickC,setF_eq]at h;obtain⟨hd,h1,h2⟩:=h;by_cases hx:x=c
  ·subst hx;have hset:s.A.set d (.sc (.int ik x))=s.A:=by
    apply List.ext_getElem?;intro j;by_cases hj:d=j
    ·grind
    ·rw[List.getElem?_set_ne hj]
   rw[hset]at h1;simp only[G.can,if_true]at hr;exact tick_can h1 hr
  ·simp only[G.can,hx,if_false]at hr;exact tick_can h2 hr
 | .sp c t f,s,k,h,hr=>by
  simp only[tickC]at h;cases c with
  |true=>
   simp only[G.can,if_true]at hr;exact tick_can h.1 hr
  |false=>
   simp only[G.can,Bool.false_eq_true,if_false]at hr;exact tick_can h.2 hr
 | .fail,s,k,h,hr=>by simp[G.can]at hr
 | .stop,s,k,h,hr=>by simp[G.can]at hr
 | .done ..,s,k,h,hr=>⟨_,h,hr⟩
 | .skip ..,s,k,h,hr=>⟨_,h,hr⟩
 | .op ..,s,k,h,hr=>⟨_,h,hr⟩
 | .call ..,s,k,h,hr=>⟨_,h,hr⟩
 | .callR ..,s,k,h,hr=>⟨_,h,hr⟩
 | .callS ..,s,k,h,hr=>⟨_,h,hr⟩
 | .call1 ..,s,k,h,hr=>⟨_,h,hr⟩
 | .tidy ..,s,k,h,hr=>⟨_,h,hr⟩
 | .loop ..,s,k,h,hr=>⟨_,h,hr⟩
 | .loopS ..,s,k,h,hr=>⟨_,h,hr⟩
 | .unroll ..,s,k,h,hr=>⟨_,h,hr⟩
 | .shutG ..,s,k,h,hr=>⟨_,h,hr⟩
 | .join ..,s,k,h,hr=>⟨_,h,hr⟩
 | .pick ..,s,k,h,hr=>⟨_,h,hr⟩
 | .grow ..,s,k,h,hr=>⟨_,h,hr⟩
 | .inl ..,s,k,h,hr=>⟨_,h,hr⟩
theorem preC_can{H0:List ABlk}{n:Nat}{ρ:Type}{p:ρ→Prop}{g:G P ρ}{s:St}{k:G P ρ→St→Prop}(h:preC H0 g s k)(hr:g.can n p):∃s' g',Weak H0 s s'∧k g' s'∧g'.can n p:=by
 unfold preC at h;split at h
 ·grind [G.can,tidyC_inv]
 ·exact⟨s,g,.refl _ _,h,hr⟩
theorem inl_fn_rel{pr:List Nat}{f:FuncId}{args:List AVal}{ids rs:List Nat}{Φ:ARes→List ABlk→Prop}(hw:wantedA ops s.A o=some true)(hx:preX P cfg pr (evalA s.A) o.op s.H=some (.inl f,args,ids,rs))(hfn:FnRel P f args (mask ids s.H) Φ)
 {ro:Option Nat} {gg:Gh} {a:Act} {w:World} (hs:Sim gg s a w) {i:Nat} (hi:ops[i]? =some o) (hcalm:Calm ro o) {K:Act→World→Prop} {Q:Exit→Act→World→Prop}
 (hK:∀a1 H1,Φ a1 H1→(∃e,mergeFin s.H ids (some (a1,H1))=some (.ok e)∧StepPost Q K gg s a w (.ok {s with A:=putA s.A o.dst e.val,H:=e.apply s.H}))∨
  (∃v,mergeFin s.H ids (some (a1,H1))=some (.pan v ids)∧StepPost Q K gg s a w (.pan v {s with H:=ids.foldl (fun H i=>H.set i .dead) s.H}))):wpOpIn (Fr ro) 0 P ops Q i K a w:=by
 unfold wpOpIn;simp only[hi];rw[wanted_sound hs hw];simp only[if_true];refine⟨fun _ _=>trivial,?_⟩
 rw[hcalm.semAt];unfold preX at hx;split at hx
 ·rename_i _ fo as tys hop;split at hx
  ·rename_i n p q hf;split at hx
   ·rename_i fn hfx;split at hx
    ·split at hx
     ·simp only[Option.some.injEq,Prod.mk.injEq,Sum.inl.injEq]at hx;obtain⟨rfl,rfl,rfl,rfl⟩:=hx;have hev:=hs.eval fo;rw[hf]at hev;simp only[R]at hev;obtain⟨va,vb,hfo,l1,l2⟩:=hev;have hl:RL gg w (p++as.toList.map (evalA s.A)++q) ((va.toArray++as.map a.eval)++vb.toArray).toList:=by
       simp only[Array.toList_append,Array.toList_map];exact RL_append (RL_append l1 (RL_evals hs as)) l2
      obtain⟨⟨fn',c,k1,k2,k3⟩,hcalls⟩:=hfn;have hcalls:=hcalls gg w _ (inv_mask hs.inv _) hl;have hex:(execOp a.eval o).run P w=.ok (.enter n ((va.toArray++as.map a.eval)++vb.toArray)) w:=by
       simp[execOp,hop,resolve,hfo,Deferred.ofValue,invoke,run_callFunc k1 k2 k3]
      rw[hex];simp only[Oper.uponIn];refine⟨depth_Fr ro,calls_Fr (hcalls.mono ?_)⟩;rintro en w' ⟨a1,H1,hΦ,hc⟩;rcases hK a1 H1 hΦ with⟨e,hm,hk⟩ |⟨v,hm,hk⟩
      ·obtain⟨r',H',he,hp⟩:=mergeFin_post hs.inv hm;simp only[Option.some.injEq,Prod.mk.injEq]at he;obtain⟨rfl,rfl⟩:=he;rcases hp with⟨eff,he,hp⟩ |⟨v',he,_⟩
       ·cases he;obtain⟨x,g',rfl,hi',hr,hla⟩:=hp en w' hc;exact hk g' _ w' ⟨hi',RL_put' (RL_mono hla.ext _ _ hs.tmps) hr o.dst,by rw[put_defers];exact RD_mono hla.ext _ _ hs.defs⟩ hla
       ·cases he
      ·obtain⟨r',H',he,hp⟩:=mergeFin_post hs.inv hm;simp only[Option.some.injEq,Prod.mk.injEq]at he;obtain⟨rfl,rfl⟩:=he;rcases hp with⟨eff,he,hp⟩ |⟨v',he,hfl,hp⟩
       ·cases he
       ·cases he;obtain⟨x,rfl,hi',hr,hla⟩:=hp en w' hc;exact hk gg w' x hfl ⟨hi',RL_mono hla.ext _ _ hs.tmps,RD_mono hla.ext _ _ hs.defs⟩ hla hr
     ·cases hx
    ·cases hx
   ·cases hx
  ·grind
  ·cases hx
 ·cases hx
theorem inl_rnd_rel{pr:List Nat}{b:Nat}{args:List AVal}{ids rs:List Nat}{Φ:ARes→List ABlk→Prop}(hw:wantedA ops s.A o=some true)(hx:preX P cfg pr (evalA s.A) o.op s.H=some (.inr b,args,ids,rs))(hfn:RndRel P b args (mask ids s.H) Φ)
 {ro:Option Nat} {gg:Gh} {a:Act} {w:World} (hs:Sim gg s a w) {i:Nat} (hi:ops[i]? =some o) (hcalm:Calm ro o) {K:Act→World→Prop} {Q:Exit→Act→World→Prop}
 (hK:∀a1 H1,Φ a1 H1→(∃e,mergeFin s.H ids (some (a1,H1))=some (.ok e)∧StepPost Q K gg s a w (.ok {s with A:=putA s.A o.dst e.val,H:=e.apply s.H}))∨
  (∃v,mergeFin s.H ids (some (a1,H1))=some (.pan v ids)∧StepPost Q K gg s a w (.pan v {s with H:=ids.foldl (fun H i=>H.set i .dead) s.H}))):wpOpIn (Fr ro) 0 P ops Q i K a w:=by
 unfold wpOpIn;simp only[hi];rw[wanted_sound hs hw];simp only[if_true];refine⟨fun _ _=>trivial,?_⟩
 rw[hcalm.semAt];unfold preX at hx;split at hx
 ·rename_i _ fo as tys hop;split at hx
  ·grind
  ·rename_i b' hf;split at hx
   ·simp only[Option.some.injEq,Prod.mk.injEq,Sum.inr.injEq]at hx;obtain⟨rfl,rfl,rfl,rfl⟩:=hx;have hev:=hs.eval fo;rw[hf]at hev;simp only[R]at hev;obtain⟨k,sz,hk0,hfo⟩:=hev;have hl:RL gg w (as.toList.map (evalA s.A)) (as.map a.eval).toList:=by
     simp only[Array.toList_map];exact RL_evals hs as
    obtain⟨rec,r1,r2,hround⟩:=hfn gg w _ k sz (inv_mask hs.inv _) hl hk0;rw[run_yieldOp hop hfo r1 r2];simp only[Oper.uponIn];refine⟨depth_Fr ro,round_Fr (hround.mono ?_)⟩;rintro en w' ⟨a1,H1,hΦ,hc⟩;rcases hK a1 H1 hΦ with⟨e,hm,hk⟩ |⟨v,hm,hk⟩
    ·obtain⟨r',H',he,hp⟩:=mergeFin_post hs.inv hm;simp only[Option.some.injEq,Prod.mk.injEq]at he;obtain⟨rfl,rfl⟩:=he;rcases hp with⟨eff,he,hp⟩ |⟨v',he,_⟩
     ·cases he;obtain⟨x,g',rfl,hi',hr,hla⟩:=hp en w' hc;exact hk g' _ w' ⟨hi',RL_put' (RL_mono hla.ext _ _ hs.tmps) hr o.dst,by rw[put_defers];exact RD_mono hla.ext _ _ hs.defs⟩ hla
     ·cases he
    ·obtain⟨r',H',he,hp⟩:=mergeFin_post hs.inv hm;simp only[Option.some.injEq,Prod.mk.injEq]at he;obtain⟨rfl,rfl⟩:=he;rcases hp with⟨eff,he,hp⟩ |⟨v',he,hfl,hp⟩
     ·cases he
     ·cases he;obtain⟨x,rfl,hi',hr,hla⟩:=hp en w' hc;exact hk gg w' x hfl ⟨hi',RL_mono hla.ext _ _ hs.tmps,RD_mono hla.ext _ _ hs.defs⟩ hla hr
   ·cases hx
  ·cases hx
 ·cases hx
theorem pick_rel{z:PK}{seen:List Nat}{it:Operand}(ho:o.op=.next it false)(hw:wantedA ops s.A o=some true)(hit:evalA s.A it=.ptr z.b 0 0 0)(hb:s.H[z.b]? =some (.iter (.mp z.mb) z.n seen z.n))(hmb:s.H[z.mb]? =some (.map z.n z.es))
 {ro:Option Nat} {gg:Gh} {a:Act} {w:World} (hs:Sim gg s a w) {i:Nat} (hi:ops[i]? =some o) (hcalm:Calm ro o) {K:Act→World→Prop} {Q:Exit→Act→World→Prop}
 (h0:(∀i,i<z.n→i∈seen)→StepPost Q K gg s a w (.ok {s with A:=putA s.A o.dst (.tup [.sc (.bool false)])}))
 (h1:∀i,i<z.n→i∉seen→StepPost Q K gg s a w (.ok {s with A:=putA s.A o.dst (.tup [.sc (.bool true),.junk,.junk]),H:=s.H.set z.b (.iter (.mp z.mb) z.n (seen++[i]) z.n)})):wpOpIn (Fr ro) 0 P ops Q i K a w:=by
 unfold wpOpIn;simp only[hi];rw[wanted_sound hs hw];simp only[if_true];refine⟨fun _ _=>trivial,?_⟩
 rw[hcalm.semAt];have hev:=hs.eval it;rw[hit]at hev;simp only[R,Nat.zero_mul,Nat.add_zero]at hev;obtain⟨k,sz,hk,hx⟩:=hev;obtain⟨k',mo,q1,q2,q3⟩:=hs.inv.good _ _ hb;rw[hk]at q1;simp only[Option.some.injEq,Prod.mk.injEq]at q1;obtain⟨rfl,rfl⟩:=q1;simp only[R]at q3;obtain⟨k2,z2,q4,q5⟩:=q3;obtain rfl:mo=some k2:=by simpa using q5
 obtain⟨k3,ents,r1,r2,r3⟩:=hs.inv.good _ _ hmb;rw[q4]at r1;simp only[Option.some.injEq,Prod.mk.injEq]at r1;obtain⟨rfl,rfl⟩:=r1;obtain⟨l1,l2⟩:=EntsAt_get r3;have hborn:∀(j:Nat) e,ents.toList[j]? =some e→e.born=j:=by
  intro j e he;have hj:j<z.es.length:=by rw[l1];exact(List.getElem?_eq_some_iff.1 he).1
  obtain⟨e',f1,-,-,f4⟩:=l2 j z.es[j] (List.getElem?_eq_getElem hj);rw[he]at f1;cases f1;rw[f4,z.pf.2 j _ (List.getElem?_eq_getElem hj)]
 have hlen:ents.toList.length=z.n:=by rw[← l1,z.pf.1]
 have hold:∀x∈ents.toList,x.born<z.n:=by
  intro x hx;obtain⟨j,hj,rfl⟩:=List.getElem_of_mem hx;rw[hborn j _ (List.getElem?_eq_getElem hj)];omega
 have hexec:∀{v:Value} {w':World},(Instr.next (.pointer (some ⟨k,0,none⟩)) false o.type).run P w=.ok v w'→(execOp a.eval o).run P w=.ok (.value v) w':=by
  intro v w' h;simp[execOp,ho,hx,h,Result.andThen]
 rcases run_next_at w o.type k k2 z.n z.n seen.toArray ents z.n q2 r2 hold (Nat.le_refl _)with⟨hsz,hrun⟩ |⟨e,he,w1,hw1,hrun⟩
 ·rw[hexec hrun];simp only[Oper.uponIn];have hall:∀j,j<z.n→j∈seen:=by
   intro j hj;have hj':j<ents.toList.length:=by omega
   have:(leftOf ents seen.toArray)= #[]:=Array.eq_empty_of_size_eq_zero hsz;unfold leftOf at this;rw[Array.filter_eq_empty_iff]at this;have hm:=this ents.toList[j] (by simp)
   rw[hborn j _ (List.getElem?_eq_getElem hj')]at hm;simpa using hm
  have:=h0 hall gg (a.put o.dst (.tuple #[.bool false])) w ⟨hs.inv,RL_put' hs.tmps (by grind [R,RL]) o.dst,by rw[put_defers];exact hs.defs⟩ (Later.refl _ _ _)
  exact this
 ·rw[hexec hrun];simp only[Oper.uponIn];unfold leftOf at he;simp only[Array.toList_filter,List.mem_filter,Bool.not_eq_true',List.contains_toArray]at he;obtain⟨hmem,hns⟩:=he;obtain⟨j,hj,rfl⟩:=List.getElem_of_mem hmem;have hbj:=hborn j _ (List.getElem?_eq_getElem hj);rw[hbj]at hns ⊢;have hns':j∉seen:=by
   intro hin;rw[List.contains_iff_mem.2 hin]at hns;cases hns
  have hheap:w1.heap=w.heap:=by rcases hw1 with rfl |rfl<;>rfl
  have hkl:k<w.heap.size:=(Array.getElem?_eq_some_iff.1 q2).1;obtain⟨i1,i2⟩:=hs.inv.inplace (w':=setBlock w1 k (.mapIter (some k2) z.n (seen.toArray.push j) z.n)) (y:=.iter (.mp z.mb) z.n (seen++[j]) z.n) hb rfl hk rfl
   (fun j' hj'=>by simp only[setBlock,hheap];grind) (by simp[setBlock,hheap])
   (fun j' x hx'=>by
    have hne:j'≠k:=by rintro rfl;simp[World.shape?,q2]at hx'
    simp only[World.shape?,setBlock,hheap,Array.getElem?_setIfInBounds_ne (Ne.symm hne)]at hx' ⊢;exact hx')
   (by rcases hw1 with rfl |rfl<;>rfl) (by rcases hw1 with rfl |rfl<;>exact⟨rfl,by first |exact Nat.le_refl _ |exact Nat.le_succ _⟩) (by rcases hw1 with rfl |rfl<;>rfl)
   (fun hext=>⟨k,some k2,hk,by simp[setBlock,hheap,hkl],by grind [R]⟩)
  exact h1 j (by omega) hns' gg _ _ ⟨i1,RL_put' (RL_mono i2.ext _ _ hs.tmps) (by grind [R,RL]) o.dst,by rw[put_defers];exact RD_mono i2.ext _ _ hs.defs⟩ i2
theorem grow_rel{z:GK}{ST XT:TypeId}{args:Array Operand}{ats:Array TypeId}{sx x:Operand}(ho:o.op=.call {callee:=.builtin .append,args:=args,argTypes:=ats})(h0:ats[0]? =some ST)(h1:ats[1]? =some XT)(hs0:args[0]? =some sx)(hx0:args[1]? =some x)
 (hw:wantedA ops s.A o=some true) (hn:s.H[nid]? =some .unborn) (hsz:args.size=2) (hT:growT P ST XT=some (z.n,z.bytes)) (es:evalA s.A sx=.sl z.b z.ver z.n 0 z.len) (hrow:s.H[z.b]? =some (.row z.ver z.n (z.l.map z.enc)))
 (hnew:(elems (evalA s.A x)).run s.H=some (z.m.map z.enc)) (hall:∀x,(z.enc x).length=z.n) (hpos:z.m.isEmpty=false) (hok:z.ok=true)
 {ro:Option Nat} {gg:Gh} {a:Act} {w:World} (hs:Sim gg s a w) {i:Nat} (hi:ops[i]? =some o) (hcalm:Calm ro o) {K:Act→World→Prop} {Q:Exit→Act→World→Prop}
 (k1:StepPost Q K gg s a w (.ok {s with A:=putA s.A o.dst (.sl z.b z.ver z.n 0 (z.l++z.m).length),H:=s.H.set z.b (.row z.ver z.n ((z.l++z.m).map z.enc))}))
 (k2:StepPost Q K gg s a w (.ok {s with A:=putA s.A o.dst (.sl nid 0 z.n 0 (z.l++z.m).length),H:=s.H.set nid (.row 0 z.n ((z.l++z.m).map z.enc))})):wpOpIn (Fr ro) 0 P ops Q i K a w:=by
 unfold wpOpIn;simp only[hi];rw[wanted_sound hs hw];simp only[if_true];refine⟨fun _ _=>trivial,?_⟩
 rw[hcalm.semAt];unfold GK.ok at hok;simp only[Bool.and_eq_true,decide_eq_true_eq]at hok;obtain⟨hlen,hroom⟩:=hok;have hml:(z.m.map z.enc).length≠0:=by
  cases hm:z.m with
  |nil=>rw[hm]at hpos;cases hpos
  |cons _ _=>simp
 obtain⟨v,w',hrun,hc⟩:=run_grow (rho:=evalA s.A) (a:=a) (o:=o) (b:=z.b) (ver:=z.ver) (rows:=z.l.map z.enc) hs.inv hs.eval hn ho h0 h1 hs0 hx0 hsz hT (by rw[es,hlen,List.length_map]) hrow hnew
  (List.all_eq_true.2 fun r hr=>by obtain⟨y,_,rfl⟩:=List.mem_map.1 hr;simp[hall y]) hml (by simpa using hroom)
 rw[hrun];simp only[Oper.uponIn];simp only[List.length_map,← List.length_append,← List.map_append]at hc;rcases hc with⟨r1,r2,r3⟩ |⟨g',r1,r2,r3⟩
 ·exact k1 gg _ _ ⟨r2,RL_put' (RL_mono r3.ext _ _ hs.tmps) r1 o.dst,by rw[put_defers];exact RD_mono r3.ext _ _ hs.defs⟩ r3
 ·exact k2 g' _ _ ⟨r2,RL_put' (RL_mono r3.ext _ _ hs.tmps) r1 o.dst,by rw[put_defers];exact RD_mono r3.ext _ _ hs.defs⟩ r3
def Env.still(X:Env P):Env P:={X with N:=nestK P}
theorem finC_mono{ids:List Nat}{H H1:List ABlk}{a:ARes}{k k':Eff→List Nat→Bool→Prop}{kp kp':AVal→Prop}(hk:∀e ws nw,k e ws nw→k' e ws nw)(hp:∀v,kp v→kp' v)(h:finC ids H a H1 k kp):finC ids H a H1 k' kp':=by
 unfold finC at h ⊢;split at h
 ·grind [effF_eq]
 grind
theorem conK_rel{ρ:Type}{n:Nat}{f:FuncId}{args:List AVal}{H:List ABlk}{c:CtrR P}{x:c.X}{kk:c.sh.El→G P ρ}{k:G P ρ→ARes→List ABlk→Prop}{p:ρ→Prop}(h:conK P f args H c x kk k)(hr:(G.callR c x kk).can n p):
 FnRel P f args H fun a H1=>∃g',k g' a H1∧g'.can n p:=by
 obtain⟨_,he,h⟩:=h;simp only[Option.some.injEq,Prod.mk.injEq]at he;obtain⟨rfl,ha,rfl⟩:=he;obtain⟨q,hq,hr⟩:=hr;have hf:=FnRef.wk (args:=args) (by rw[ha];exact c.ok n x q hq)
 exact⟨hf.1,fun g w vs hi hl=>(hf.2 g w vs hi hl).mono fun e w' hc=>⟨_,_,⟨kk q,(c.sh.all_iff _).1 h q,hr⟩,hc⟩⟩
def StepDet(X:Env P)(ops:Array Oper)(n0:Nat)(o:Oper)(nid:Nat)(s:St){ρ:Type}(n:Nat)(p:ρ→Prop)(k:G P ρ→OpRes→Foot→Prop):Prop:=
 ∃orc,OrcOk P orc∧∃res f g',stepOp P X.cfg orc ops n0 o nid s=some (res,f)∧k g' res f∧g'.can n p
def StepAny(P:Program)[Globs](ops:Array Oper)(o:Oper)(s:St){ρ:Type}(n:Nat)(p:ρ→Prop)(k:G P ρ→OpRes→Foot→Prop):Prop:=
 ∀(ro:Option Nat) (gg:Gh) (a:Act) (w:World),Sim gg s a w→∀i,ops[i]? =some o→Calm ro o→∀(K:Act→World→Prop) (Q:Exit→Act→World→Prop),
  (∀g' res f,k g' res f→g'.can n p→StepPost Q K gg s a w res)→wpOpIn (Fr ro) 0 P ops Q i K a w
theorem StepDet.any{ρ:Type}{n:Nat}{p:ρ→Prop}{k:G P ρ→OpRes→Foot→Prop}(h:StepDet X ops n0 o nid s n p k):StepAny P ops o s n p k:=by
 intro ro gg a w hs i hi hcalm K Q hK;obtain⟨orc,ho,res,f,g',hst,hk,hr⟩:=h;grind [step_sound]
theorem stepC1_can(hNe:NestRel P X.N){n:Nat}{ρ:Type}{p:ρ→Prop}{g:G P ρ}{draw:Bool}(hz:draw=true→X.N=nestK P){H0:List ABlk}{k:G P ρ→OpRes→Foot→Prop}(h:stepC1 P X draw H0 ops n0 o nid g s k)(hr:g.can n p):
 StepDet X ops n0 o nid s n p k∨(draw=false∧StepAny P ops o s n p k):=by
 unfold stepC1 at h;split at h
 ·rename_i m g';split at h
  ·rename_i res f hs;exact .inl ⟨orc0,orc0_ok,res,f,_,hs,h,by rw[G.less_can];simpa[G.can]using hr⟩
  ·exact nomatch h
 ·rename_i Y t kk;obtain⟨x,hx,hr⟩:=hr;have h':stepC1 P X.still draw H0 ops n0 o nid (.op t (fun x=>.done [] x):G P Y) s (fun g' r f=>∃x,g'=.done [] x∧k (kk x) r f):=by
   refine⟨h.1,h.2.1,fun x=>?_⟩
   have:=h.2.2 x;simp only[effF_eq,putF_eq,applyF_eq]at this ⊢;exact⟨x,rfl,this⟩
  obtain⟨orc,ho,res,f,g',hs,⟨x',rfl,hk⟩,hr'⟩:=stepC1_sound (X:=X.still) (n:=n) (r:=x) nestK_ok h' (by simp[G.run,hx,tsOk])
  obtain rfl:x'=x:=by simpa[G.run,tsOk]using hr'
  exact .inl ⟨orc,ho,res,f,_,hs,hk,hr⟩
 ·rename_i c x kk;obtain⟨q,hx,hr⟩:=hr;have h':stepC1 P X.still draw H0 ops n0 o nid (.call c x (fun q=>.done [] q):G P c.sh.El) s (fun g' r f=>∃x,g'=.done [] x∧k (kk x) r f):=by
   refine⟨h.1,h.2.1,(c.sh.all_iff _).2 fun q=>?_⟩
   have:=(c.sh.all_iff _).1 h.2.2 q;simp only[Env.still];split at this
   ·exact⟨q,rfl,this⟩
   ·exact nomatch this
  obtain⟨orc,ho,res,f,g',hs,⟨x',rfl,hk⟩,hr'⟩:=stepC1_sound (X:=X.still) (n:=n) (r:=q) nestK_ok h' (by simp[G.run,hx,tsOk])
  obtain rfl:x'=q:=by simpa[G.run,tsOk]using hr'
  exact .inl ⟨orc,ho,res,f,_,hs,hk,hr⟩
 ·rename_i z c x kk;obtain⟨q,hx,hr⟩:=hr;have h':stepC1 P X.still draw H0 ops n0 o nid (.callS z c x (fun q=>.done [] q):G P c.sh.El) s (fun g' r f=>∃x,g'=.done [] x∧k (kk x) r f):=by
   refine⟨h.1,h.2.1,h.2.2.1,h.2.2.2.1,(c.sh.all_iff _).2 fun q=>?_⟩
   have:=(c.sh.all_iff _).1 h.2.2.2.2 q;split at this
   ·rename_i u hu;split at this
    ·rename_i hfl;simp only[hfl,putF_eq]at this ⊢;exact⟨q,rfl,this⟩
    ·exact this.elim
   ·rename_i u hu;split at this
    ·rename_i hfl;simp only[hfl]at this ⊢;exact⟨q,rfl,this⟩
    ·exact this.elim
  obtain⟨orc,ho,res,f,g',hs,⟨x',rfl,hk⟩,hr'⟩:=stepC1_sound (X:=X.still) (n:=n) (r:=q) nestK_ok h' (by simp[G.run,hx,tsOk])
  obtain rfl:x'=q:=by simpa[G.run,tsOk]using hr'
  exact .inl ⟨orc,ho,res,f,_,hs,hk,hr⟩
 ·rename_i c x kk;obtain⟨q,hx,hr⟩:=hr;have h':stepC1 P X.still draw H0 ops n0 o nid (.callR c x (fun q=>.done [] q):G P c.sh.El) s (fun g' r f=>∃x,g'=.done [] x∧k (kk x) r f):=by
   refine⟨h.1,h.2.1,(c.sh.all_iff _).2 fun q=>?_⟩
   have:=(c.sh.all_iff _).1 h.2.2 q;simp only[Env.still];split at this
   ·exact⟨q,rfl,this⟩
   ·exact nomatch this
  obtain⟨orc,ho,res,f,g',hs,⟨x',rfl,hk⟩,hr'⟩:=stepC1_sound (X:=X.still) (n:=n) (r:=q) nestK_ok h' (by simp[G.run,hx,tsOk])
  obtain rfl:x'=q:=by simpa[G.run,tsOk]using hr'
  exact .inl ⟨orc,ho,res,f,_,hs,hk,hr⟩
 ·rename_i c b v ex x kk;obtain⟨q,hx,hr⟩:=hr;have h':stepC1 P X.still draw H0 ops n0 o nid (.call1 c b v ex x (fun q=>.done [] q):G P c.sh.El) s (fun g' r f=>∃x,g'=.done [] x∧k (kk x) r f):=by
   refine⟨h.1,h.2.1,h.2.2.1,(c.sh.all_iff _).2 fun q=>?_⟩
   have:=(c.sh.all_iff _).1 h.2.2.2 q;simp only[Env.still];split at this
   ·grind
   ·exact⟨q,rfl,this⟩
  obtain⟨orc,ho,res,f,g',hs,⟨x',rfl,hk⟩,hr'⟩:=stepC1_sound (X:=X.still) (n:=n) (r:=q) nestK_ok h' (by simp[G.run,hx,tsOk])
  obtain rfl:x'=q:=by simpa[G.run,tsOk]using hr'
  exact .inl ⟨orc,ho,res,f,_,hs,hk,hr⟩
 ·rename_i pr g';obtain⟨hw,hpr,hc⟩:=h;simp only[G.can]at hr;cases draw with
  |true=>
   rw[hz rfl]at hc;split at hc
   ·rename_i f args ids rs hx;simp only[headsF_eq,nestK]at hc;split at hc
    ·rename_i c x kk;obtain⟨q,hq,hr⟩:=hr;have h':stepC1 P X.still true H0 ops n0 o nid (.inl pr (.callR c x (fun q=>.done [] q)):G P c.sh.El) s (fun g' r f=>∃x,g'=.done [] x∧k (kk x) r f):=by
      refine⟨hw,hpr,?_⟩;simp only[Env.still,hx,headsF_eq,nestK];refine⟨hc.1,hc.2.1,(c.sh.all_iff _).2 fun q=>?_⟩
      refine finC_mono (fun e ws nw hk=>?_) (fun v hk=>?_) ((c.sh.all_iff _).1 hc.2.2 q)
      ·grind
      ·exact⟨q,rfl,hk⟩
     obtain⟨orc,ho,res,f,g',hs,⟨x',rfl,hk⟩,hr'⟩:=stepC1_sound (X:=X.still) (n:=n) (r:=q) nestK_ok h' (by simp[G.run,hq,tsOk])
     obtain rfl:x'=q:=by simpa[G.run,tsOk]using hr'
     exact .inl ⟨orc,ho,res,f,_,hs,hk,hr⟩
    ·exact hc.elim
   ·grind [headsF_eq,nestK]
   ·exact nomatch hc
  |false=>
   refine .inr ⟨rfl,?_⟩;intro ro gg a w hs i hi hcalm K Q hK;split at hc
   ·rename_i f args ids rs hx;simp only[headsF_eq]at hc;refine inl_fn_rel hw hx (hNe.fn hc hr) hs hi hcalm fun a1 H1 ⟨g2,hk,hr2⟩=>?_
    grind [finC_inv,putF_eq,applyF_eq]
   ·rename_i b args ids rs hx;simp only[headsF_eq]at hc;refine inl_rnd_rel hw hx (hNe.rnd hc hr) hs hi hcalm fun a1 H1 ⟨g2,hk,hr2⟩=>?_
    grind [finC_inv,putF_eq,applyF_eq]
   ·exact nomatch hc
 ·rename_i z seen kk;cases draw with
  |true=>exact h.elim
  |false=>
   refine .inr ⟨rfl,?_⟩;simp only[G.can]at hr;simp only at h;split at h
   ·rename_i it hop;obtain⟨hw,hit,hb,hmb,h0,h1⟩:=h;intro ro gg a w hs i hi hcalm K Q hK;simp only[putF_eq]at h0;refine pick_rel hop hw hit hb hmb hs hi hcalm (fun hall=>hK _ _ _ h0 (hr.1 hall)) fun j hj hn=>?_
    have:=h1 j;grind [putF_eq,applyF_eq,Eff.apply]
   ·exact h.elim
 ·rename_i z kk;cases draw with
  |true=>exact h.elim
  |false=>
   refine .inr ⟨rfl,?_⟩;simp only[G.can]at hr;simp only at h;split at h
   ·rename_i args ats hop;split at h
    ·rename_i ST XT sx x h0 h1 hs0 hx0;obtain⟨hw,hn,hsz,hT,es,hrow,hnew,hall,hpos,q1,q2⟩:=h;intro ro gg a w hs i hi hcalm K Q hK;simp only[putF_eq,applyF_eq]at q1 q2;have p1:=hK _ _ _ q1 hr.2.1;have p2:=hK _ _ _ q2 hr.2.2;exact grow_rel hop h0 h1 hs0 hx0 hw hn (of_decide_eq_true hsz) hT es hrow hnew hall hpos hr.1 hs hi hcalm (by simpa[Eff.apply]using p1) (by simpa[Eff.apply]using p2)
    ·exact h.elim
   ·exact h.elim
 ·exact hr.elim
 ·exact nomatch h
 ·exact nomatch h
theorem stepC_can(hNe:NestRel P X.N)(hz:X.N=nestK P){n:Nat}{ρ:Type}{p:ρ→Prop}{g:G P ρ}{H0:List ABlk}{k:G P ρ→OpRes→Foot→Prop}(h:stepC P X true H0 ops n0 o nid g s k)(hr:g.can n p):
 StepDet X ops n0 o nid s n p k:=by
 unfold stepC at h;grind [stepC1_can]
theorem runC_can(hNe:NestRel P X.N)(hz:X.N=nestK P){n:Nat}{ρ:Type}{p:ρ→Prop}{H0:List ABlk}:∀(l:List (Oper×Nat)) (i:Nat) (g:G P ρ) (s:St) (k:G P ρ→OpRes→List Foot→Prop),runC P X true H0 ops n0 l g s k→g.can n p→
 ∃orcs:Nat→Orc,(∀j,OrcOk P (orcs j))∧∃res fs g',runOps P X.cfg orcs ops n0 i l s=some (res,fs)∧k g' res fs∧g'.can n p
 | [],i,g,s,k,h,hr=>⟨fun _=>orc0,fun _=>orc0_ok,.ok s,[],g,rfl,h,hr⟩
 | (o,nid)::rest,i,g,s,k,h,hr=>by
  simp only[runC]at h;obtain⟨g1,h,hr⟩:=tick_can h hr;obtain⟨orc,ho,res,f,g2,hs,h,hr⟩:=stepC_can hNe hz h hr;cases res with
  |ok s'=>
   obtain⟨A,H,D⟩:=s';simp only[spineF_eq]at h;obtain⟨orcs,hos,res,fs,g3,hrun,hk,hr⟩:=runC_can hNe hz rest (i+1) g2 _ _ h hr;refine⟨fun j=>if j=i then orc else orcs j,fun j=>(by grind:OrcOk P (if j=i then orc else orcs j)),res,f::fs,g3,?_,hk,hr⟩
   grind [runOps,runOps_congr]
  |pan v s'=>
   exact⟨fun _=>orc,fun _=>ho,.pan v s',[f],g2,by simp only[runOps,hs],h,hr⟩
theorem regionC_can(hNe:NestRel P X.N)(hz:X.N=nestK P){n:Nat}{ρ:Type}{p:ρ→Prop}{H0:List ABlk}{g:G P ρ}{s:St}{k:G P ρ→OpRes→Prop}(h:regionC P X H0 ops true g s k)(hr:g.can n p):
 ∃orcs:Nat→Orc,(∀j,OrcOk P (orcs j))∧∃res g',regionI P X.cfg orcs ops true s=some res∧k g' res∧g'.can n p:=by
 simp only[regionC,natF_eq,newsF_eq]at h;obtain⟨orcs,ho,res,fs,g',hrun,hk,hr⟩:=runC_can hNe hz _ 0 _ _ _ h hr;refine⟨orcs,ho,?_⟩;simp only[regionI,natF_eq,newsF_eq,hrun];grind
theorem stepD_any(hNe:NestRel P X.N){n:Nat}{ρ:Type}{p:ρ→Prop}{g:G P ρ}{H0:List ABlk}{k:G P ρ→OpRes→Foot→Prop}(h:stepC P X false H0 ops n0 o nid g s k)(hr:g.can n p):
 ∃s2,Weak H0 s s2∧StepAny P ops o s2 n p k:=by
 unfold stepC at h;split at h
 ·rename_i l g';simp only[G.can]at hr;obtain⟨s',hw,h⟩:=tidyC_inv hr.1 h;refine⟨s',hw,?_⟩;rcases stepC1_can hNe (fun e=>by cases e) h hr.2 with h |⟨_,h⟩
  ·exact h.any
  ·exact h
 ·refine⟨s,.refl _ _,?_⟩;rcases stepC1_can hNe (fun e=>by cases e) h hr with h |⟨_,h⟩
  ·exact h.any
  ·exact h
theorem runD_any(hNe:NestRel P X.N){n:Nat}{ρ:Type}{p:ρ→Prop}{H0:List ABlk}:∀(l:List (Oper×Nat)) (i:Nat) (g:G P ρ) (s:St) (k:G P ρ→OpRes→List Foot→Prop),runC P X false H0 ops n0 l g s k→g.can n p→
 (∀(j:Nat),(l[j]?).map (fun(p:Oper×Nat)=>p.1)=(ops.toList.drop i)[j]?)→
 ∀(fro:Option Nat),(∀(k:Nat) (o:Oper),ops[k]? =some o→Calm fro o)→∀(gg:Gh) (ww:World) (Q:Exit→Act→World→Prop),Inv gg H0 ww→∀(g1:Gh) (a:Act) (w:World),Sim g1 s a w→Later gg H0 ww g1 s.H w→
  (∀g' res fs,k g' res fs→g'.can n p→RegPost Q gg H0 ww res)→wpOpsIn (Fr fro) 0 P ops Q (List.range' i l.length) a w
 | [],i,g,s,k,h,hr,_=>fun _ _ _ _ _ _ g1 a w hs hl hp=>hp g (.ok s) [] h hr g1 a w hs hl
 | (o,nid)::rest,i,g,s,k,h,hr,hj=>by
  intro fro hcalm gg ww Q hi0 g1 a w hs hl hp;have hi:ops[i]? =some o:=by
   have:=hj 0;simp at this;exact this.symm
  simp only[runC]at h;obtain⟨g',h,hr⟩:=tick_can h hr;obtain⟨s2,hw2,hany⟩:=stepD_any hNe h hr;simp only[List.length_cons,List.range'_succ,wpOpsIn_cons];obtain⟨g2,hs2,hl2⟩:=hw2 gg ww g1 a w hi0 hl hs;refine hany fro g2 a w hs2 i hi (hcalm i o hi) _ Q fun g3 res f hk hr3=>?_
  cases res with
  |ok s'=>
   obtain⟨A,H,D⟩:=s';simp only[spineF_eq]at hk;intro g5 a' w' hs' hla;exact runD_any hNe rest (i+1) g3 ⟨A,H,D⟩ _ hk hr3 (fun j=>by
    have:=hj (j+1);grind) fro hcalm gg ww Q hi0 g5 a' w' hs' (hl2.trans hla) (fun g' res fs h1 h2=>hp g' res _ h1 h2)
  |pan v s'=>exact fun g' w' x hv hs' hla hx=>hp g3 (.pan v s') _ hk hr3 g' a w' x hv hs' (hl2.trans hla) hx
theorem regionD_any(hNe:NestRel P X.N){H0:List ABlk}{n:Nat}{ρ:Type}{p:ρ→Prop}{id:Nat}{g:G P ρ}{s:St}{k:G P ρ→OpRes→Prop}(h:regionC P X H0 ops false g s k)(hr:g.can n p):
 ∀(fro:Option Nat),(∀(k:Nat) (o:Oper),ops[k]? =some o→Calm fro o)→∀(gg:Gh) (ww:World),Inv gg H0 ww→Does P fro gg H0 ww (.region id ops false) s fun o s'=>∃g' res,k g' res∧g'.can n p∧o=(outOf res).1∧s'=(outOf res).2:=by
 intro fro hcalm gg ww hi0 Q g1 a w hs hl hp;simp only[regionC,natF_eq,newsF_eq]at h;generalize (if countAllocs ops.toList=0 then 0 else tailFree s.H)=t0 at h
 generalize countAllocs ops.toList - t0=m0 at h;generalize s.H.length - t0=f0 at h;obtain⟨i1,i2⟩:=hs.inv.reserve m0;have hs0:Sim g1 {s with H:=s.H++List.replicate m0 .unborn} a w:=⟨i1,hs.tmps,hs.defs⟩;refine wpIn_region ?_;rw[List.range_eq_range'];have:=runD_any hNe _ 0 _ _ _ h hr (fun j=>by rw[numbered_get];simp) fro hcalm gg ww Q hi0 g1 a w hs0 (hl.trans i2) (fun g' res fs hk hr'=>by
  simp only[Bool.not_false,if_true]at hk;have:=hp _ _ ⟨g',res,hk,hr',rfl,rfl⟩;cases res with
  |ok s'=>exact this
  |pan v s'=>exact this)
 grind [numbered_len]
theorem range_rel{f:FuncId}{pa qa:List AVal}{l:Nat}{H1:List ABlk}{D1:List DefA}{ids:List Nat}{Φ:ARes→List ABlk→Prop}{ro fro:Option Nat}{fid:FuncId}{x:Operand}{ps:Array Tmp}{assign body:Code}{s:St}{gg:Gh}{a:Act}{w:World}{Q:Exit→Act→World→Prop}
 (hro:RoOk gg ro fro) (hf:evalA s.A x=.fn (.func f) pa qa) (hen:enterA ro fid ps assign body s=some (l,H1,D1)) (hfn:FnRel P f (pa++[.yld l]++qa) (mask ids H1) Φ) (hs:Sim gg s a w)
 (hK:∀a1 H2,Φ a1 H2→(∃e out s',mergeFin H1 ids (some (a1,H2))=some (.ok e)∧endA l D1 s (e.apply H1)=some (out,s')∧OutPost Q gg s.H w s' out)∨
  (∃v,mergeFin H1 ids (some (a1,H2))=some (.pan v ids)∧OutPost Q gg s.H w {s with H:=ids.foldl (fun H i=>H.set i .dead) H1,D:=D1} (.pan v))):(Code.rangeFunc x ps assign body).wpIn (Fr fro) 0 P Q a w:=by
 have hev:=hs.eval x;rw[hf]at hev;refine wpIn_rangeFunc fun fn _=>?_
 obtain⟨k,mark,w1,g1,hrun,i1,l1,rk,hd⟩:=enter_sound (P:=P) hro hs hen fn;have hev1:=R_mono l1.ext _ _ hev;simp only[R]at hev1;obtain⟨va,vb,hfo,ra,rb⟩:=hev1;have hl:RL g1 w1 (pa++[.yld l]++qa) ((va.toArray++ #[Value.func (.yield k) #[] #[]])++vb.toArray).toList:=by
  simp only[Array.toList_append];refine RL_append (RL_append (by simpa using ra) ?_) (by simpa using rb)
  simp only[RL,R];exact⟨_,_,rfl,⟨k,0,rk,rfl⟩,rfl⟩
 have ht:=RL_mono l1.ext _ _ hs.tmps;obtain⟨⟨fn1,c1,k1,k2,k3⟩,hcalls⟩:=hfn;have hcalls:=hcalls g1 w1 _ (inv_mask i1 _) hl;refine⟨k,mark,w1,{target:=.fn (.func f) vb.toArray,args:=va.toArray++ #[Value.func (.yield k) #[] #[]]},w1,f,(va.toArray++ #[Value.func (.yield k) #[] #[]])++vb.toArray,w1,hrun,?_,fun _ _=>trivial,?_,depth_Fr fro,calls_Fr ?_⟩
 ·have hc:a.eval (.const (.func (.yield k) #[] #[]))=.func (.yield k) #[] #[]:=rfl;simp[resolve,hfo,Deferred.ofValue,hc]
 ·simp[invoke,run_callFunc k1 k2 k3]
 ·refine hcalls.mono ?_;rintro e w' ⟨a1,H2,hΦ,hc⟩;rcases hK a1 H2 hΦ with⟨ef,out,s',hm,hend,hpost⟩ |⟨v,hm,hpost⟩
  ·obtain⟨r',H',he,hp⟩:=mergeFin_post i1 hm;simp only[Option.some.injEq,Prod.mk.injEq]at he;obtain⟨rfl,rfl⟩:=he;rcases hp with⟨eff,he,hp⟩ |⟨v',he,_⟩
   ·cases he;obtain⟨y,g',rfl,hi',_,hla⟩:=hp e w' hc;exact end_sound (a:={a with defers:=mark++a.defers}) (hla.ext.rho _ _ _ rk) hi' (RL_mono hla.ext _ _ ht) (RD_mono hla.ext _ _ hd) hend (hpost.later (l1.trans hla))
   ·cases he
  ·obtain⟨r',H',he,hp⟩:=mergeFin_post i1 hm;simp only[Option.some.injEq,Prod.mk.injEq]at he;obtain⟨rfl,rfl⟩:=he;rcases hp with⟨eff,he,hp⟩ |⟨v',he,hfl,hp⟩
   ·cases he
   ·cases he;obtain⟨y,rfl,hi',hr,hla⟩:=hp e w' hc;exact hpost g1 {a with defers:=mark++a.defers} w' y hfl ⟨hi',RL_mono hla.ext _ _ ht,RD_mono hla.ext _ _ hd⟩ (l1.trans hla) hr
def Comes(P:Program)[Globs](ro:Option Nat)(H0:List ABlk)(c:Code)(s:St){ρ:Type}(n:Nat)(p:ρ→Prop)(k:G P ρ→AOut→St→Prop):Prop:=
 ∀fro g0 w0,Inv g0 H0 w0→RoOk g0 ro fro→Does P fro g0 H0 w0 c s fun o s'=>∃g',k g' o s'∧g'.can n p
theorem Comes.weak{ro:Option Nat}{H0:List ABlk}{c:Code}{s s1:St}{ρ:Type}{n:Nat}{p:ρ→Prop}{k:G P ρ→AOut→St→Prop}(hw:Weak H0 s s1)(h:Comes P ro H0 c s1 n p k):Comes P ro H0 c s n p k:=
 fun fro g0 w0 hi hro=>.weak hi hw (h fro g0 w0 hi hro)
theorem Does.post'{fro:Option Nat}{g0:Gh}{H0:List ABlk}{w0:World}(hi0:Inv g0 H0 w0){c:Code}{s:St}{Φ Ψ:AOut→St→Prop}(h:Does P fro g0 H0 w0 c s Φ)(hw:∀o s1,Φ o s1→∃s2,Weak H0 s1 s2∧Ψ o s2):Does P fro g0 H0 w0 c s Ψ:=
 fun Q g a w hs hl hk=>h Q g a w hs hl fun o' s' hf=>let⟨_,h1,h2⟩:=hw o' s' hf;OutPost.weak hi0 h1 (hk _ _ h2)
theorem joinC_can{H0:List ABlk}{sh:Sh}{Y:sh.El→AOut×St}{n:Nat}{g:G P sh.El}{o:AOut}{s:St}{q:sh.El→Prop}(h:joinC H0 Y g o s)(hr:g.can n q):∃s' t,Weak H0 s s'∧(o,s')=Y t∧q t:=by
 unfold joinC at h;split at h
 ·rename_i ts t';obtain⟨hok,hq⟩:=hr;grind [tidyC_inv]
 ·exact hr.elim
 ·exact nomatch h
theorem round_can{n:Nat}{σ:Type}{sh:Sh}{H0:List ABlk}{E:σ→St}{Y:sh.El→AOut×St}{g:G P (σ⊕sh.El)}{o:AOut}{s:St}{q:σ⊕sh.El→Prop}(h:roundC H0 E Y g o s)(hr:g.can n q):
 ∃s' v,q v∧Weak H0 s s'∧match v with | .inl a=>o=.normal∧s'=E a | .inr t=>o≠ .normal∧(o,s')=Y t:=by
 unfold roundC at h;split at h
 ·rename_i ts a;obtain⟨hok,hq⟩:=hr;grind [tidyC_inv]
 ·rename_i ts t;obtain⟨hok,hq⟩:=hr;grind [tidyC_inv]
 ·exact hr.elim
 ·exact nomatch h
theorem sealC_rel(hNe:NestRel P X.N){H0:List ABlk}{n:Nat}{σ:Type}{sh:Sh}{b:Code}{E:σ→St}{s:St}{Y:sh.El→AOut×St}{p:σ⊕sh.El→Prop}{f:G P (σ⊕sh.El)→Prop}
 (ih:∀g,f g→g.can n p→Comes P X.ro H0 b s n p (roundC H0 E Y)) {g:G P (σ⊕sh.El)} (h:sealC X.N X.ro H0 b E s Y g f) (hr:g.can n p):
 Comes P X.ro H0 b s n p (roundC H0 E Y):=by
 unfold sealC at h;split at h
 ·exact hNe.lp h hr
 ·exact ih _ h hr
theorem gxC_rel(hm:P.follows .mixedOrders=true)(hNe:NestRel P X.N)(hnd:X.nd=true){H0:List ABlk}{n:Nat}:∀(c:Code) {ρ:Type} (p:ρ→Prop) (g:G P ρ) (s:St) (k:G P ρ→AOut→St→Prop),gxC P X H0 c g s k→g.can n p→Comes P X.ro H0 c s n p k:=by
 have hat:X.at true=X.still:=by simp[Env.at,hnd,Env.still]
 have hst:NestRel P X.still.N:=by
  refine⟨fun h hr=>?_,fun h=>h.elim,fun h=>h.elim⟩
  simp only[Env.still,nestK]at h;split at h
  ·exact conK_rel h hr
  ·exact h.elim
 intro c;induction c with
 |skip=>intro ρ p g s k h hr fro g0 w0 _ _;exact .skip ⟨g,h,hr⟩
 |region id ops draw=>
  intro ρ p g s k h hr;simp only[gxC]at h;split at h
  ·exact h.elim
  rename_i hoff;obtain⟨s1,g1,hw,h,hr⟩:=preC_can h hr;refine .weak hw ?_;cases draw with
  |false=>
   intro fro g0 w0 hi hro;refine(regionD_any (X:=X) hNe (id:=id) h hr fro (calm_of hro hoff) g0 w0 hi).mono ?_;rintro o s' ⟨g',res,hk,hr',rfl,rfl⟩;cases res with
   |ok s'=>exact⟨g',hk,hr'⟩
   |pan v s'=>exact⟨g',hk,hr'⟩
  |true=>
   rw[hat]at h;obtain⟨orcs,ho,res,g',hreg,h,hr⟩:=regionC_can hst rfl h hr;intro fro g0 w0 hi hro;cases res with
   |ok s'=>exact .region hm ho (calm_of hro hoff) hreg ⟨g',h,hr⟩
   |pan v s'=>exact .region hm ho (calm_of hro hoff) hreg ⟨g',h,hr⟩
 |seq a b iha ihb=>
  intro ρ p g s k h hr fro g0 w0 hi hro;simp only[gxC]at h;refine .seq ((iha p g s _ h hr fro g0 w0 hi hro).mono ?_);rintro o s' ⟨g1,h1,hr1⟩;cases o with
  |normal=>exact ihb p g1 s' k h1 hr1 fro g0 w0 hi hro
  |exit id=>exact⟨g1,h1,hr1⟩
  |ret=>exact⟨g1,h1,hr1⟩
  |pan v=>exact⟨g1,h1,hr1⟩
 |cond c a b iha ihb=>
  have main:∀{ρ:Type} (p:ρ→Prop) (g:G P ρ) (s:St) (k:G P ρ→AOut→St→Prop),condC P X H0 c a b (fun g s k=>gxC P X H0 a g s k) (fun g s k=>gxC P X H0 b g s k) g s k→g.can n p→Comes P X.ro H0 (.cond c a b) s n p k:=by
   intro ρ p g s k h hr;unfold condC at h;obtain⟨s1,g1,hw,h,hr⟩:=preC_can h hr;obtain⟨g1,h,hr⟩:=tick_can h hr;refine .weak hw ?_;split at h
   ·rename_i m g2;have hr2:(G.less m g2).can n p:=by rw[G.less_can];simpa[G.can]using hr
    split at h
    ·rename_i hc;exact fun fro g0 w0 hi hro=>.cond true hc (iha p _ _ k h hr2 fro g0 w0 hi hro)
    ·rename_i hc;exact fun fro g0 w0 hi hro=>.cond false hc (ihb p _ _ k h hr2 fro g0 w0 hi hro)
    ·exact h.elim
   ·exact hr.elim
   ·exact nomatch h
  intro ρ p g s k h hr;simp only[gxC]at h;split at h
  ·rename_i sh Y g1 kk;intro fro g0 w0 hi hro;refine(main _ g1 s _ h.1 hr fro g0 w0 hi hro).post' hi ?_;rintro o s1 ⟨g',hj,hr'⟩;obtain⟨s2,t,hw,e,hq⟩:=joinC_can hj hr';have e1:o=(Y t).1:=congrArg Prod.fst e;have e2:s2=(Y t).2:=congrArg Prod.snd e;refine⟨s2,hw,kk t,?_,hq⟩;rw[e1,e2];exact(sh.all_iff _).1 h.2 t
  ·exact main p g s k h hr
 |block id b ih=>
  have main:∀{ρ:Type} (p:ρ→Prop) (g:G P ρ) (s:St) (k:G P ρ→AOut→St→Prop),gxC P X H0 b g s (blockC id k)→g.can n p→Comes P X.ro H0 (.block id b) s n p k:=by
   intro ρ p g s k h hr fro g0 w0 hi hro;refine .block ((ih p g s _ h hr fro g0 w0 hi hro).mono ?_);rintro o s' ⟨g',h1,hr'⟩;refine⟨g',?_,hr'⟩;unfold blockC at h1;cases o with
   |exit id'=>
    grind [behind]
   |normal=>exact h1
   |ret=>exact h1
   |pan v=>exact h1
  intro ρ p g s k h hr;simp only[gxC]at h;split at h
  ·rename_i sh Y g1 kk;intro fro g0 w0 hi hro;refine(main _ g1 s _ h.1 hr fro g0 w0 hi hro).post' hi ?_;rintro o s1 ⟨g',hj,hr'⟩;obtain⟨s2,t,hw,e,hq⟩:=joinC_can hj hr';have e1:o=(Y t).1:=congrArg Prod.fst e;have e2:s2=(Y t).2:=congrArg Prod.snd e;refine⟨s2,hw,kk t,?_,hq⟩;rw[e1,e2];exact(sh.all_iff _).1 h.2 t
  ·exact main p g s k h hr
 |loop b ih=>
  intro ρ p g s k h hr;simp only[gxC]at h;split at h
  ·rename_i m g1;simp only[G.can]at hr;intro fro g0 w0 hi hro;refine .loop hi (n:=m) (s0:=s) (fun m s=>∃g,iterC (fun g s k=>gxC P X H0 b g s k) m g s k∧g.can n p) (fun s ⟨g,h,_⟩=>h.elim) (.refl _ _) ⟨g1,h,hr⟩ ?_
   rintro m s1 ⟨g2,h2,hr2⟩;simp only[iterC]at h2;refine(ih p g2 s1 _ h2 hr2 fro g0 w0 hi hro).mono ?_;rintro o s3 ⟨g3,h3,hr3⟩;refine⟨s3,.refl _ _,?_⟩;grind
  ·rename_i σ sh hd E Y a0 body kk;obtain⟨h0,hb,hx⟩:=h;obtain⟨hok,hr⟩:=hr;have hx:=(sh.all_iff _).1 hx;obtain⟨_,h0,rfl⟩:=tidyC_inv hok h0;intro fro g0 w0 hi hro;refine .loop hi (n:=n) (s0:=E a0) (fun m s1=>∃a,s1=E a∧iterP (fun a q=>(body a).can n q) m a fun t=>(kk t).can n p) (fun s ⟨a,_,h⟩=>by simp[iterP]at h) h0 ⟨a0,rfl,hr⟩ ?_
   rintro m s1 ⟨a,rfl,hit⟩;simp only[iterP]at hit;refine(sealC_rel hNe (fun g h hr=>ih _ g (E a) _ h hr) (hb a) hit fro g0 w0 hi hro).mono ?_
   grind [round_can]
  ·rename_i hsh sh hd E Y a0 body kk;obtain⟨h0,hb,hx⟩:=h;have hb:=(hsh.all_iff _).1 hb;obtain⟨hok,hr⟩:=hr;have hx:=(sh.all_iff _).1 hx;obtain⟨_,h0,rfl⟩:=tidyC_inv hok h0;intro fro g0 w0 hi hro;refine .loop hi (n:=n) (s0:=E a0) (fun m s1=>∃a,s1=E a∧iterP (fun a q=>(body a).can n q) m a fun t=>(kk t).can n p) (fun s ⟨a,_,h⟩=>by simp[iterP]at h) h0 ⟨a0,rfl,hr⟩ ?_
   rintro m s1 ⟨a,rfl,hit⟩;simp only[iterP]at hit;refine(sealC_rel hNe (fun g h hr=>ih _ g (E a) _ h hr) (hb a) hit fro g0 w0 hi hro).mono ?_
   grind [round_can]
  ·exact hr.elim
  ·exact nomatch h
 |exit id=>intro ρ p g s k h hr fro g0 w0 _ _;exact .exit ⟨g,h,hr⟩
 |ret=>intro ρ p g s k h hr fro g0 w0 _ _;exact .ret ⟨g,h,hr⟩
 |rangeFunc x ps as bd=>
  intro ρ p g s k h hr;simp only[gxC]at h;obtain⟨s1,g1,hw,h,hr⟩:=preC_can h hr;refine .weak hw ?_;split at h
  ·rename_i pr g2;obtain⟨_,h⟩:=h;simp only[G.can]at hr;split at h
   ·rename_i f pa qa hf;split at h
    ·rename_i l H1 D1 hen;rw[spineF_eq]at h;obtain⟨hpr,h⟩:=h;split at h
     ·rename_i ids rs hcl;simp only[headsF_eq]at h;have hfn:=hNe.fn h hr;intro fro g0 w0 hi hro Q g a w hs hl hp;refine range_rel (hro.mono hl.ext) hf hen hfn hs ?_;rintro a1 H2 ⟨g3,hk,hr3⟩;rcases finC_inv hk with⟨e,hmg,hk⟩ |⟨v,hmg,hk⟩
      ·simp only[applyF_eq]at hk;split at hk
       ·rename_i out s' hend;exact .inl ⟨e,out,s',hmg,hend,(hp _ _ ⟨g3,hk,hr3⟩).later hl⟩
       ·exact hk.elim
      ·exact .inr ⟨v,hmg,(hp _ _ ⟨g3,hk,hr3⟩).later hl⟩
     ·exact h.elim
    ·exact h.elim
   ·exact h.elim
  ·exact hr.elim
  ·exact nomatch h
 |_=>intro ρ p g s k h hr;exact h.elim
theorem Comes1.trim{g:Gh}{w w':World}{e:Ending}{H H1:List ABlk}{a:ARes}{pr:List Nat}(hi:Inv g H w)(h:Comes1 g H w a H1 e w')(hpan:∀v,a=.pan v→v.flat=true)(ha:a.refsLt H.length=true)(hl:lowB pr H.length 0 (H1.take H.length)=true)
 (hp:∀i,pr.contains i=true→∃x,H1[i]? =some x∧prBlk x=true):Comes1 g H w a (H1.take H.length) e w':=by
 obtain⟨g1,hi1,hla,he⟩:=h;have hlen:(H1.take H.length).length=H.length:=by rw[List.length_take];have:=hla.len;omega
 have hK:H1.take H.length++H1.drop H.length=H1:=List.take_append_drop _ _;obtain⟨i1,i2⟩:=Inv.drop (n:=H.length) (K:=H1.take H.length) (L:=H1.drop H.length) hi (by rw[hK];exact hi1) (by rw[hK];exact hla) hlen rfl fun b x hx=>.inl (by
  rcases lowB_get hl b x hx with hc |hc
  ·grind [prBlk_inv,blkLt,refsLtL_pure,refsLt_pure]
  ·exact hc)
 refine⟨g1.upto H.length,i1,i2,?_⟩;cases a with
 |ret v=>
  obtain⟨x,rfl,hx⟩:=he;exact⟨x,rfl,R_restrict (n:=H.length) (g:=g1) (g2:=g1.upto H.length) (fun _ _ h=>h) (fun b ver x hb he=>by grind [Gh.upto]) v x ha hx⟩
 |pan v=>
  obtain⟨x,rfl,hx⟩:=he;exact⟨x,rfl,R_flat v x (hpan v rfl) hx⟩
theorem FnRel.of(hm : P.follows .mixedOrders = true)(hN : ∀ (f : FuncId) (fn : Func), P.funcs[f]? = some fn → fn.name ≠ "runtime.NumGoroutine"){L : Nat}{f : FuncId}{fn : Func}{c : Code}{args : List AVal}{H0 : List ABlk}{Θ : AOut → St → Prop}{Φ : ARes → List ABlk → Prop}
 (hf:P.funcs[f]? =some fn) (hb:fn.body=some c) (hd:∀g0 w0,Inv g0 H0 w0→Does P none g0 H0 w0 c ⟨frameA fn.ntmps args,H0,[]⟩ Θ)
 (hΘ:∀o s,Θ o s→∃s' a H1,Weak H0 s s'∧landRO P cfg L fn o s'=some (a,H1)∧∃a' H1',Φ a' H1'∧∀g w e w',Inv g H0 w→Comes1 g H0 w a H1 e w'→Comes1 g H0 w a' H1' e w'):FnRel P f args H0 Φ:=by
 refine⟨⟨fn,c,hf,hb,hN f fn hf⟩,fun gh w vs hi hl=>callsIn_wide.1 (callsIn_of_wp_marks (F:=Fr none) (n:=0) hf hb trivial ?_)⟩
 have hsim:Sim gh ⟨frameA fn.ntmps args,H0,[]⟩ {tmps:=vs++Array.replicate (fn.ntmps - vs.size) undef,defers:=[]} w:=⟨hi,frame_RL hl _,rfl⟩;refine hd gh w hi _ gh _ w hsim (Later.refl _ _ _) fun o1 s1 ht=>?_
 obtain⟨s',a,H1,hwk,hlo,a',H1',hΦ,hcv⟩:=hΘ o1 s1 ht;refine OutPost.weak hi hwk ?_;have key:∀(m:Option AVal) (u:FrameMode),landR P cfg L fn m s'=some (a,H1)→∀g' a0 w',Sim g' s' a0 w'→Later gh H0 w g' s'.H w'→ModeOk g' w' m u→
  LeavesInM (Fr none) 0 P fn a0.tmps (fun e w'=>∃a H1,Φ a H1∧Comes1 gh H0 w a H1 e w') a0.defers u w':=by
  intro m u hla g' a0 w' hs' hlat hmo;obtain⟨m',H',rr,h1,h2,h3,h4⟩:=landR_inv hla;refine leavesInM_mono ?_ (leave_sound hm hN orc0_ok s'.D a0.defers m u s'.H g' w' m' H' hs'.defs hs'.inv hs'.tmps hmo h1 h2 hlat);rintro e w2 ⟨g2,hi2,hla2,he2⟩;refine⟨a',H1',hΦ,hcv gh w e w2 hi ⟨g2,hi2,hla2,?_⟩⟩;cases rr with
  |ret v=>rw[h3 v rfl];obtain⟨x,rfl,hx⟩:=he2;exact⟨x,rfl,R_wkD _ _ hx⟩
  |pan v=>rw[h4 v rfl];exact he2
 cases o1 with
 |normal=>exact fun g' a' w' hs' hlat=>key none .returning hlo g' a' w' hs' hlat rfl
 |ret=>exact fun g' a' w' hs' hlat=>key none .returning hlo g' a' w' hs' hlat rfl
 |exit id=>simp[landRO]at hlo
 |pan v=>exact fun g' a' w' x hv hs' hlat hrx=>key (some v) (.panicking [{v:=x,recovered:=false}]) hlo g' a' w' hs' hlat ⟨hv,x,rfl,hrx⟩
theorem nestN_rel(hm : P.follows .mixedOrders = true)(hN : ∀ (f : FuncId) (fn : Func), P.funcs[f]? = some fn → fn.name ≠ "runtime.NumGoroutine") : ∀ d, NestRel P (nestN P cfg true d)
 | 0=>⟨fun h=>h.elim,fun h=>h.elim,fun h=>h.elim⟩
 |d+1=>by
  have ih:=nestN_rel hm hN d;constructor
  ·intro ρ n f args H g k p h hr;simp only[nestN,fnN]at h;split at h
   ·exact conK_rel h hr
   split at h
   ·rename_i fn hf;split at h
    ·rename_i c hb;have hd:=gxC_rel (X:=⟨cfg,none,nestN P cfg true d,true⟩) hm ih rfl c p g _ _ h hr;refine FnRel.of (cfg:=cfg) (L:=10) hm hN hf hb (fun g0 w0 hi=>hd none g0 w0 hi trivial) ?_
     rintro o s1 ⟨g1,h,hr⟩;unfold endN at h;split at h
     ·rename_i ts pr g2;obtain⟨hok,hr⟩:=hr;simp only[G.can]at hr;obtain⟨s',hw,h⟩:=tidyC_inv hok h;split at h
      ·rename_i a H1 hla;obtain⟨_,hpr,h⟩:=h;grind [spineF_eq,Comes1.trim,landRO_flat,prC_ok]
      ·exact h.elim
     ·exact hr.elim
     ·exact nomatch h
    ·exact h.elim
   ·exact h.elim
  ·intro ρ n b args H g k p h hr;simp only[nestN,rndN]at h;split at h
   ·rename_i st pend fid A ps assign body hb;split at h
    ·rename_i hlen;have hlen:=Nat.eq_of_beq_eq_true hlen;have hd1:=gxC_rel (X:=⟨cfg,some b,nestN P cfg true d,true⟩) hm ih rfl assign p g _ _ h hr;intro gh w vs k1 sz hi hl hk;obtain⟨k0,tmps0,dk0,fn0,q1,q2,q3⟩:=hi.good b _ hb;rw[hk]at q1;simp only[Option.some.injEq,Prod.mk.injEq]at q1;obtain⟨rfl,rfl⟩:=q1;have hvs:=(RL_get _ _ hl).1;refine⟨_,q2,by grind,?_⟩
     rw[roundTmps_eq _ ps vs rfl];have hsim:Sim gh ⟨setAll A ps args,H,[]⟩ {tmps:=(ps.zip vs.toList).foldl (fun(tmps:Array Value) (p:Tmp×Value)=>tmps.setIfInBounds p.1 p.2) tmps0,defers:=[]} w:=
      ⟨hi,setAll_RL ps args A _ tmps0 q3 hl,rfl⟩
     refine roundIn_of_wpIn trivial ?_;refine hd1 (some k1) gh w hi ⟨0,hk⟩ _ gh _ w hsim (Later.refl _ _ _) ?_;rintro oo ss ⟨g1,h1,hr1⟩;cases oo with
     |exit id=>exact h1.elim
     |ret=>exact h1.elim
     |pan v=>exact h1.elim
     |normal=>
      simp only at h1;split at h1
      ·rename_i pend1 fid1 A1 ps1 as1 bd1 hb1;rw[spineF_eq]at h1;have hd2:=gxC_rel (X:=⟨cfg,some b,nestN P cfg true d,true⟩) hm ih rfl body p g1 _ _ h1 hr1;intro gg1 a1 w1 hs1 hla1;have hk1:=hla1.ext.rho _ _ _ hk;obtain⟨k2,tmps1,dk1,fn1,u1,u2,u3⟩:=hs1.inv.good b _ hb1;rw[hk1]at u1;simp only[Option.some.injEq,Prod.mk.injEq]at u1;obtain⟨rfl,-⟩:=u1;refine⟨_,run_beginRound u2 rfl,?_⟩;obtain⟨i2,l2⟩:=hs1.inv.put (y:=.loop .busy pend1 fid1 A1 ps1 as1 bd1)
        (ob:=.loop {state:=.busy,pending:=pend1,fn:=fn1,tmps:=tmps1,params:=ps1.toArray,assign:=as1,body:=bd1,defers:=dk1}) hb1 rfl hk1 rfl (shape?_loop u2)
        fun hext=>⟨_,tmps1,dk1,fn1,hk1,World.putObj_heap_same (Array.getElem?_eq_some_iff.1 u2).1,RL_mono hext _ _ u3⟩
       have hsim2:Sim gg1 {ss with H:=ss.H.set b (.loop .busy pend1 fid1 A1 ps1 as1 bd1)} a1 (w1.putObj k1 (.loop {state:=.busy,pending:=pend1,fn:=fn1,tmps:=tmps1,params:=ps1.toArray,assign:=as1,body:=bd1,defers:=dk1})):=
        ⟨i2,RL_mono l2.ext _ _ hs1.tmps,RD_mono l2.ext _ _ hs1.defs⟩
       refine hd2 (some k1) gh w hi ⟨0,hk⟩ _ gg1 a1 _ hsim2 (hla1.trans l2) ?_;rintro oo2 ss2 ⟨g2,h2,hr2⟩;unfold endB at h2;split at h2
       ·rename_i j hj;split at h2
        ·rename_i ts g3;obtain⟨hok,hr2⟩:=hr2;obtain⟨s3,hw,h2⟩:=tidyC_inv hok h2;split at h2
         ·rename_i H2 hmk;refine OutPost.weak hi hw ?_;have hend:∀g' a' w',Sim g' s3 a' w'→Later gh H w g' s3.H w'→
           ∃v w'',(Instr.endRound k1 j).run P w'=.ok v w''∧∃a H1,(∃g',k g' a H1∧g'.can n p)∧Comes1 gh H w a H1 (.returned v) w'':=by
           intro g' a' w' hs' hla';obtain⟨rr,e1,e2,e3⟩:=marked_sound hs'.inv (hla'.ext.rho _ _ _ hk) hmk;exact⟨_,_,run_endRound j e1,_,_,⟨g3,h2,hr2⟩,g',e2,hla'.trans e3,_,rfl,by simp[R]⟩
          cases oo2 with
          |normal=>
           simp only[jumpOf,Option.some.injEq]at hj;subst hj;exact fun g' a' w' h1 h2=>hend g' a' w' h1 h2
          |ret=>
           simp only[jumpOf,Option.some.injEq]at hj;subst hj;exact fun g' a' w' h1 h2=>hend g' a' w' h1 h2
          |exit id=>
           simp only[jumpOf,Option.some.injEq]at hj;subst hj;exact fun g' a' w' h1 h2=>hend g' a' w' h1 h2
          |pan v=>cases hj
         ·exact h2.elim
        ·exact hr2.elim
        ·exact nomatch h2
       ·exact h2.elim
      ·exact h1.elim
    ·exact h.elim
   ·exact h.elim
  ·intro σ sh n ro H0 b g E s Y p h hr;obtain⟨h⟩:=h;exact gxC_rel (X:=⟨cfg,ro,nestN P cfg true d,true⟩) hm ih rfl b p g s _ h hr
def fnCX{ρ:Type}(P:Program)[Globs](cfg:Cfg)(L:Nat)(f:FuncId)(args:List AVal)(out:ρ→ARes)(g:G P ρ):Prop:=
 match P.funcs[f]? with
 |some fn=>match fn.body with
  |some c=>gxC P (envN P cfg) [] c g ⟨frameA fn.ntmps args,[],[]⟩ fun g o s=>endC P cfg L fn out g o s
  |none=>False
 |none=>False
theorem endC_can{n L:Nat}{ρ:Type}{fn:Func}{out:ρ→ARes}{g:G P ρ}{o:AOut}{s:St}{p:ρ→Prop}(h:endC P cfg L fn out g o s)(hr:g.can n p):∃s' r,p r∧Weak [] s s'∧landO P cfg L fn o s'=some (out r):=by
 unfold endC at h;split at h
 ·rename_i ts r;obtain⟨hok,hp⟩:=hr;grind [tidyC_inv]
 ·exact hr.elim
 ·exact nomatch h
theorem fnCX_sound(hm : P.follows .mixedOrders = true)(hN : ∀ (f : FuncId) (fn : Func), P.funcs[f]? = some fn → fn.name ≠ "runtime.NumGoroutine"){L : Nat}{f : FuncId}{args : List AVal}{ρ : Type}{out : ρ → ARes}{g : G P ρ}
 (h:fnCX P cfg L f args out g) {n:Nat} {a:ARes} (hr:g.can n fun x=>out x=a):FnVal P f args a:=by
 unfold fnCX at h;split at h
 ·rename_i fn hf;split at h
  ·rename_i c hb;refine⟨⟨fn,c,hf,hb,hN f fn hf⟩,fun gh w vs hi hl=>callsIn_wide.1 (callsIn_of_wp_marks (F:=Fr none) (n:=0) hf hb trivial ?_)⟩
   have hsim:Sim gh ⟨frameA fn.ntmps args,[],[]⟩ {tmps:=vs++Array.replicate (fn.ntmps - vs.size) undef,defers:=[]} w:=⟨hi,frame_RL hl _,rfl⟩;have hd:=gxC_rel (X:=envN P cfg) hm (nestN_rel hm hN 9) rfl c _ g _ _ h hr;refine hd none gh w hi trivial _ gh _ w hsim (Later.refl _ _ _) ?_;rintro o1 s1 ⟨g',h',hr'⟩;obtain⟨s',r',rfl,hwk,hlo⟩:=endC_can h' hr';refine OutPost.weak hi hwk ?_;have key:∀(m:Option AVal) (u:FrameMode),landA P cfg L fn m s'=some (out r')→∀g' a' w',Sim g' s' a' w'→Later gh [] w g' s'.H w'→ModeOk g' w' m u→
    LeavesInM (Fr none) 0 P fn a'.tmps (Comes1 gh [] w (out r') []) a'.defers u w':=by
    intro m u hla g' a' w' hs' hlat hmo;obtain⟨m',H',rr,H1,h1,h2,h3⟩:=landA_inv hla;refine leavesInM_mono ?_ (leave_sound hm hN orc0_ok s'.D a'.defers m u s'.H g' w' m' H' hs'.defs hs'.inv hs'.tmps hmo h1 h2 hlat);rintro e w2 ⟨g2,hi2,hla2,he2⟩;exact land_sound hi hi2 hla2 h3 he2
   cases o1 with
   |normal=>exact fun g' a' w' hs' hlat=>key none .returning hlo g' a' w' hs' hlat rfl
   |ret=>exact fun g' a' w' hs' hlat=>key none .returning hlo g' a' w' hs' hlat rfl
   |exit id=>simp[landO]at hlo
   |pan v=>exact fun g' a' w' x hv hs' hlat hrx=>key (some v) (.panicking [{v:=x,recovered:=false}]) hlo g' a' w' hs' hlat ⟨hv,x,rfl,hrx⟩
  ·exact h.elim
 ·exact h.elim
structure CtrN(P:Program)[Globs]:Type 1 where
 f:FuncId
 X:Type
 args:X→List AVal
 sh:Sh
 out:sh.El→ARes
 g:X→G P sh.El
 ok:∀n x a,(g x).can n (fun y=>out y=a)→FnVal P f (args x) a
def CtrN.of[hp:Plain P](cfg:Cfg)(L:Nat)(f:FuncId)(X:Type)(args:X→List AVal)(sh:Sh)(out:sh.El→ARes)(g:X→G P sh.El)(h:∀x,fnCX P cfg L f (args x) out (g x)=(g x).claims (leafF out)):CtrN P where
 f:=f
 X:=X
 args:=args
 sh:=sh
 out:=out
 g:=g
 ok:=fun n x a hr=>fnCX_sound hp.mixed hp.names (n:=n) (by rw[h x];exact G.claims_hold (fun _=>rfl) (g x)) hr
def CtrN.all(c:CtrN P)(S:Nat→c.X→Option c.sh.El)(h:∀n x r,S n x=some r→∃m,(c.g x).can m fun y=>c.out y=c.out r):Ctr P where
 f:=c.f
 X:=c.X
 args:=c.args
 sh:=c.sh
 out:=c.out
 S:=S
 ok:=fun n x r hr=>let⟨m,hm⟩:=h n x r hr;c.ok m x (c.out r) hm
end
end Go.AM
end
section
namespace Go.AM
section
variable {K V:Type}
end
section
variable {K V:Type}
end
def sidxO(t:ByteArray)(i:Int):OpT Int where
 run:=if 0≤i then(t[i.toNat]?).map fun b=>(b.toNat:Int)else none
 eff x:={val:=.sc (.int .u8 x)}
 ids:=[]
 chk _ P _ _ op rho _:=match op with
  | .index T a b=>(match P.underlying T with |some .string=>true |_=>false)=true∧rho a=.sc (.string t)∧intOf (rho b)=some i
  |_=>False
 claim:=(@Eq Bool true true)∧AVal.sc (.string t)=AVal.sc (.string t)∧some i=some i
 holds:=⟨rfl,rfl,rfl⟩
 sound gl P cfg nid op rho H h x hx:=by
  cases op<;>try exact h.elim
  rename_i T a b;obtain⟨h1,h2,h3⟩:=h;split at h1
  ·rename_i hu;have hb:∃k,rho b=.sc (.int k i):=by
    unfold intOf at h3;split at h3
    ·rename_i k n hb;simp only[Option.some.injEq]at h3;subst h3;exact⟨k,hb⟩
    ·cases h3
   obtain⟨k,hb⟩:=hb;split at hx
   ·rename_i h0;obtain⟨q,hq,rfl⟩:=Option.map_eq_some_iff.1 hx;simp[opPre,allocs,opA,h2,hb,indexA,hu,h0,hq,yields,Rd.bind,Rd.run,Rd.reads]
   ·cases hx
  ·cases h1
end Go.AM
end
section
namespace Go.AM
section
variable [Globs] {P:Program} {cfg:Cfg}
def fwdB(bs:List Nat)(n j:Nat):Nat:=match bs[j]? with
 |some b=>b
 |none=>n+(j - bs.length)
def backB(bs:List Nat)(n b:Nat):Option Nat:=match idxIn b bs 0 with
 |some j=>some j
 |none=>match Nat.blt b n with
  |true=>none
  |false=>some (bs.length+(b - n))
def outR(bs:List Nat)(n:Nat):Ren:=fun j v=>some (fwdB bs n j,v)
def inR(bs:List Nat)(n:Nat):Ren:=fun b v=>(backB bs n b).map fun j=>(j,v)
def placesB(bs:List Nat)(n m:Nat):Bool:=nodupB bs&&bs.all (fun b=>Nat.blt b n)&&Nat.beq bs.length m
theorem placesB_inv{bs:List Nat}{n m:Nat}(h:placesB bs n m=true):nodupB bs=true∧(∀b∈bs,b<n)∧bs.length=m:=by
 simp only[placesB,Bool.and_eq_true,List.all_eq_true,Nat.blt_eq]at h;simp_all
theorem back_fwd{bs:List Nat}{n:Nat}(hn:nodupB bs=true)(hlt:∀b∈bs,b<n)(j:Nat):backB bs n (fwdB bs n j)=some j:=by
 unfold fwdB;split
 ·rename_i b hb;have:=idxIn_nodup 0 hn hb;grind [backB]
 ·rename_i hb;rw[List.getElem?_eq_none_iff]at hb;have hno:idxIn (n+(j - bs.length)) bs 0=none:=by
   cases hi:idxIn (n+(j - bs.length)) bs 0 with
   |none=>rfl
   |some i=>
    obtain⟨_,h2⟩:=idxIn_get hi;have:=hlt _ (List.mem_of_getElem? h2);omega
  simp only[backB,hno];have:Nat.blt (n+(j - bs.length)) n=false:=by
   rw[← Bool.not_eq_true,Nat.blt_eq];omega
  grind
theorem fwd_back{bs:List Nat}{n b j:Nat}(h:backB bs n b=some j):fwdB bs n j=b:=by
 unfold backB at h;split at h
 ·rename_i i hi;simp only[Option.some.injEq]at h;subst h;obtain⟨_,h2⟩:=idxIn_get hi;grind [fwdB]
 ·split at h
  ·cases h
  ·rename_i hb;rw[← Bool.not_eq_true,Nat.blt_eq]at hb;grind [fwdB]
mutual
theorem ren_ren{f f':Ren}(h:∀b v,∃b',f b v=some (b',v)∧f' b' v=some (b,v)):∀(a:AVal),(a.ren f).ren f'=a
 | .sc _=>rfl
 | .agg cs=>by simp only[AVal.ren,ren_renL h cs]
 | .tup cs=>by simp only[AVal.ren,ren_renL h cs]
 | .ptr b v i o=>by obtain⟨b',h1,h2⟩:=h b v;simp[AVal.ren,h1,h2]
 | .cptr .. =>rfl
 | .sl b v sz o n=>by obtain⟨b',h1,h2⟩:=h b v;simp[AVal.ren,h1,h2]
 | .lst _=>rfl
 | .fn g a b=>by simp only[AVal.ren,ren_renL h a,ren_renL h b]
 | .ifc t v=>by simp only[AVal.ren,ren_ren h v]
 | .mp b=>by obtain⟨b',h1,h2⟩:=h b 0;simp[AVal.ren,h1,h2]
 | .yld b=>by obtain⟨b',h1,h2⟩:=h b 0;simp[AVal.ren,h1,h2]
 | .sa b v i o s n=>by obtain⟨b',h1,h2⟩:=h b v;simp[AVal.ren,h1,h2]
 | .glob .. =>rfl
 | .emp=>rfl
 | .nz _=>rfl
 | .junk=>rfl
theorem ren_renL{f f':Ren}(h:∀b v,∃b',f b v=some (b',v)∧f' b' v=some (b,v)):∀(l:List AVal),AVal.renL f' (AVal.renL f l)=l
 | []=>rfl
 |a::as=>by simp only[AVal.renL,ren_ren h a,ren_renL h as]
end
def placeAt(f:Ren)(bs pu:List Nat)(H:List ABlk):Nat→Nat→List ABlk
 | 0,_=>[]
 |k+1,i=>(match idxIn i bs 0 with
  |some j=>renBlk f (pu.contains j) none (H.getD j .dead)
  |none=>.dead)::placeAt f bs pu H k (i+1)
def renTail(f:Ren)(pu:List Nat):Nat→List ABlk→List ABlk
 |_,[]=>[]
 |j,x::xs=>renBlk f (pu.contains j) none x::renTail f pu (j+1) xs
def placeH(bs pu:List Nat)(n:Nat)(H:List ABlk):List ABlk:=placeAt (outR bs n) bs pu H n 0++renTail (outR bs n) pu bs.length (H.drop bs.length)
theorem placeAt_length(f:Ren)(bs pu:List Nat)(H:List ABlk):∀(k i:Nat),(placeAt f bs pu H k i).length=k
 | 0,_=>rfl
 |k+1,i=>by simp[placeAt,placeAt_length f bs pu H k (i+1)]
theorem placeAt_get(f:Ren)(bs pu:List Nat)(H:List ABlk):∀(k i b:Nat),b<k→(placeAt f bs pu H k i)[b]? =some (match idxIn (i+b) bs 0 with |some j=>renBlk f (pu.contains j) none (H.getD j .dead) |none=>.dead)
 | 0,_,_,h=>by omega
 |k+1,i,0,_=>by simp[placeAt]
 |k+1,i,b+1,h=>by
  simp only[placeAt,List.getElem?_cons_succ];rw[placeAt_get f bs pu H k (i+1) b (by omega),show i+1+b=i+(b+1)by omega]
theorem renTail_length(f:Ren)(pu:List Nat):∀(j:Nat) (l:List ABlk),(renTail f pu j l).length=l.length
 |_,[]=>rfl
 |j,_::xs=>by simp[renTail,renTail_length f pu (j+1) xs]
theorem renTail_get(f:Ren)(pu:List Nat):∀(j:Nat) (l:List ABlk) (b:Nat),(renTail f pu j l)[b]? =(l[b]?).map fun x=>renBlk f (pu.contains (j+b)) none x
 |_,[],_=>by simp[renTail]
 |j,_::xs,0=>by simp[renTail]
 |j,_::xs,b+1=>by
  simp only[renTail,List.getElem?_cons_succ];rw[renTail_get f pu (j+1) xs b,show j+1+b=j+(b+1)by omega]
theorem placeH_length(bs pu:List Nat)(n:Nat)(H:List ABlk):(placeH bs pu n H).length=n+(H.length - bs.length):=by
 simp[placeH,placeAt_length,renTail_length]
theorem placeH_get{bs pu:List Nat}{n:Nat}{H:List ABlk}(hlt:∀b∈bs,b<n)(hl:bs.length≤H.length)(b:Nat):
 (placeH bs pu n H)[b]? =match backB bs n b with
  |some j=>(H[j]?).map fun x=>renBlk (outR bs n) (pu.contains j) none x
  |none=>some .dead:=by
 by_cases hb:b<n
 ·rw[placeH,List.getElem?_append_left (by rw[placeAt_length];exact hb),placeAt_get _ _ _ _ _ _ _ hb]
  simp only[Nat.zero_add,backB];cases hi:idxIn b bs 0 with
  |some j=>
   obtain⟨_,h2⟩:=idxIn_get hi;grind
  |none=>
   have:Nat.blt b n=true:=by rw[Nat.blt_eq];exact hb
   simp[this]
 ·have hno:idxIn b bs 0=none:=by
   cases hi:idxIn b bs 0 with
   |none=>rfl
   |some i=>
    obtain⟨_,h2⟩:=idxIn_get hi;exact absurd (hlt _ (List.mem_of_getElem? h2)) hb
  have h2:Nat.blt b n=false:=by rw[← Bool.not_eq_true,Nat.blt_eq];exact hb
  grind [placeH,placeAt_length,renTail_get,backB]
theorem renBlk_live0(f:Ren)(p:Bool)(x:ABlk):(renBlk f p none x).live=x.live:=by cases x<;>rfl
theorem renBlk_back{f f':Ren}(h:∀b v,∃b',f b v=some (b',v)∧f' b' v=some (b,v))(p:Bool){x:ABlk}(hp:p=true→pureBlk x=true)(hl:x.live≠none):RenB f' (renBlk f p none x) x:=by
 cases x with
 |unborn=>exact absurd rfl hl
 |dead=>exact absurd rfl hl
 |row v sz rows=>
  refine⟨rfl,?_⟩;cases p with
  |true=>grind [pureBlk]
  |false=>exact .inr (by simp[List.map_map,Function.comp_def,ren_renL h])
 |map c es=>
  refine⟨rfl,?_⟩;cases p with
  |true=>grind [pureBlk]
  |false=>exact .inr (by simp[List.map_map,Function.comp_def,ren_ren h])
 |loop st pend fid A ps as bd=>exact⟨rfl,rfl,rfl,rfl,rfl,rfl,(ren_renL h A).symm⟩
 |defs=>trivial
 |iter m since seen stepped=>exact⟨rfl,rfl,rfl,(ren_ren h m).symm⟩
def ARes.renR(f:Ren):ARes→ARes
 | .ret u=>.ret (u.ren f)
 | .pan u=>.pan u
open Classical in
theorem FnRef.place{f:FuncId}{args:List AVal}{H H1:List ABlk}{r:ARes}(h:FnRef P f args H r H1){bs pu puO:List Nat}{n:Nat}(hb:placesB bs n H.length=true)(hl1:H.length≤H1.length)(hpu:PuOk pu H)(hpo:PuOk puO H1)(hf:∀v,r=.pan v→v.flat=true):
 FnRef P f (AVal.renL (outR bs n) args) (placeH bs pu n H) (r.renR (outR bs n)) (placeH bs puO n H1):=by
 obtain⟨hn,hlt,hm⟩:=placesB_inv hb;have hinv:∀b v,∃b',outR bs n b v=some (b',v)∧inR bs n b' v=some (b,v):=fun b v=>⟨_,rfl,by simp[inR,back_fwd hn hlt]⟩
 refine⟨h.1,fun g w vs hi hl=>?_⟩
 have hK:=placeH_get (pu:=pu) (H:=H) hlt (by omega)
 have hK1:=placeH_get (pu:=puO) (H:=H1) hlt (by omega)
 have hKf:∀j,(placeH bs pu n H)[fwdB bs n j]? =(H[j]?).map fun x=>renBlk (outR bs n) (pu.contains j) none x:=fun j=>by rw[hK,back_fwd hn hlt]
 have hKlen:=placeH_length bs pu n H;have hK1len:=placeH_length bs puO n H1;generalize placeH bs pu n H=K at*;generalize placeH bs puO n H1=K1 at*;have hpb:∀{j x},H[j]? =some x→pu.contains j=true→pureBlk x=true:=fun hx hc=>hpu _ (by simpa using hc) _ hx
 have hpb1:∀{j x},H1[j]? =some x→puO.contains j=true→pureBlk x=true:=fun hx hc=>hpo _ (by simpa using hc) _ hx
 let g':Gh:=⟨fun j v=>g.rho (fwdB bs n j) v,g.st⟩
 have hi':Inv g' H w:=by
  refine hi.ren (f:=inR bs n) ⟨rfl,fun b v b' v' x hr hx=>?_,fun j x' hx=>?_,fun j v hj=>?_,fun j x' v v' hx hv hlt'=>?_⟩
  ·simp only[inR,Option.map_eq_some_iff,Prod.mk.injEq]at hr;grind [fwdB,fwd_back]
  ·by_cases hl:x'.live=none
   ·exact .inl hl
   ·obtain⟨v,hv⟩:=Option.ne_none_iff_exists'.1 hl;refine .inr ⟨fwdB bs n j,_,v,v,by rw[hKf,hx];rfl,by rw[renBlk_live0];exact hv,hv,by simp[inR,back_fwd hn hlt],rfl,renBlk_back hinv _ (fun hc=>hpb hx hc) hl⟩
  ·show g.rho (fwdB bs n j) v=none;refine hi.fresh _ _ ?_;rcases hj with hj |hj
   ·left;rw[hKf,hj];rfl
   grind
  ·exact hi.next (fwdB bs n j) _ v v' (by rw[hKf,hx];rfl) (by rw[renBlk_live0];exact hv) hlt'
 have hl':RL g' w args vs.toList:=by
  have:=RL_ren (g:=g) (g':=g') (f:=inR bs n) (fun _ _ h=>h) (fun b v b' v' x hr hx=>by
   simp only[inR,Option.map_eq_some_iff,Prod.mk.injEq]at hr;grind [fwdB,fwd_back]) _ _ hl
  rwa[ren_renL hinv]at this
 refine(h.2 g' w vs hi' hl').mono fun e w' ⟨g1',hi1,hla,he⟩=>?_
 let g1:Gh:=⟨fun b v=>match backB bs n b with |some j=>g1'.rho j v |none=>g.rho b v,g1'.st⟩
 have g1f:∀j v,g1.rho (fwdB bs n j) v=g1'.rho j v:=fun j v=>by simp only[g1,back_fwd hn hlt]
 have own1:∀k,Owned g' H k→Owned g K k:=by
  rintro k ⟨j,x,v,z,hx,hv,hk⟩;exact⟨fwdB bs n j,_,v,z,by rw[hKf,hx];rfl,by rw[renBlk_live0];exact hv,hk⟩
 have own2:∀k,Owned g1 K1 k→Owned g1' H1 k:=by
  rintro k ⟨b,x,v,z,hx,hv,hk⟩;rw[hK1]at hx;simp only[g1]at hk;split at hx
  ·rename_i j hj;rw[hj]at hk;obtain⟨y,hy,rfl⟩:=Option.map_eq_some_iff.1 hx;exact⟨j,y,v,z,hy,by rw[renBlk_live0]at hv;exact hv,hk⟩
  ·simp only[Option.some.injEq]at hx;subst hx;cases hv
 have hinv1:Inv g1 K1 w':=by
  refine hi1.ren (f:=outR bs n) ⟨rfl,fun j v b' v' x hr hx=>?_,fun b x' hx=>?_,fun b v hb=>?_,fun b x' v v' hx hv hlt'=>?_⟩
  ·grind [outR]
  ·rw[hK1]at hx;split at hx
   ·rename_i j hj;obtain⟨y,hy,rfl⟩:=Option.map_eq_some_iff.1 hx;by_cases hl:y.live=none
    ·grind [renBlk_live0]
    ·obtain⟨v,hv⟩:=Option.ne_none_iff_exists'.1 hl;grind [renBlk_live0,outR,fwd_back,renBlk_ren]
   ·simp only[Option.some.injEq]at hx;subst hx;exact .inl rfl
  ·rcases hb with hb |hb
   ·rw[hK1]at hb;split at hb
    ·rename_i j hj;obtain⟨y,hy,he⟩:=Option.map_eq_some_iff.1 hb;have:y=.unborn:=by cases y<;>simp[renBlk]at he<;>rfl
     subst this;simp only[g1,hj];exact hi1.fresh j v (.inl hy)
    ·cases hb
   ·have hno:K1[b]? =none:=List.getElem?_eq_none_iff.2 hb;rw[hK1]at hno;split at hno
    ·rename_i j hj;simp only[g1,hj];exact hi1.fresh j v (.inr (by simpa using hno))
    ·cases hno
  ·rw[hK1]at hx;split at hx
   ·rename_i j hj;obtain⟨y,hy,rfl⟩:=Option.map_eq_some_iff.1 hx;rw[renBlk_live0]at hv;simp only[g1,hj];exact hi1.next j y v v' hy hv hlt'
   ·simp only[Option.some.injEq]at hx;subst hx;cases hv
 refine⟨g1,hinv1,⟨⟨fun b v y hy=>?_,hla.ext.st,hla.ext.cell,hla.ext.shape⟩,hla.size,fun k hk ho=>hla.keep k hk fun o=>ho (own1 k o),fun k hk ho=>own1 k (hla.own k hk (own2 k ho)),by omega,hla.os,hla.tape,hla.output,
  fun k o hk hs=>(hla.stk k o hk hs).imp_right fun h=>⟨own1 k h.1,fun o=>h.2 (own2 k o)⟩,fun b hb=>?_,fun b v k z hk=>?_⟩,?_⟩
 ·simp only[g1];split
  ·rename_i j hj;exact hla.ext.rho j v y (by grind [fwdB,fwd_back])
  ·exact hy
 ·rw[hK]at hb;rw[hK1];split at hb
  ·rename_i j hj;obtain⟨y,hy,he⟩:=Option.map_eq_some_iff.1 hb;have:y=.dead:=by cases y<;>simp[renBlk]at he<;>rfl
   subst this;obtain⟨d1,d2⟩:=hla.deadk j hy;rw[d1];refine⟨rfl,fun v=>?_⟩
   grind [fwdB,fwd_back]
  grind
 ·simp only[g1]at hk;split at hk
  ·rename_i j hj;rcases hla.newk j v k z hk with⟨v1,z1,h1⟩ |h1
   ·grind [fwdB,fwd_back]
   ·exact .inr h1
  ·exact .inl ⟨v,z,hk⟩
 ·cases r with
  |ret u=>
   obtain⟨y,rfl,hy⟩:=he;exact⟨y,rfl,R_ren (g:=g1') (g':=g1) (f:=outR bs n) (fun _ _ h=>h) (fun j v b' v' x hr hx=>by
    grind [outR]) _ _ hy⟩
  |pan u=>
   obtain⟨y,rfl,hy⟩:=he;exact⟨y,rfl,R_flat _ _ (hf u rfl) hy⟩
structure CtrM(P:Program)[Globs]:Type 1 where
 c:CtrR P
 m:Nat
 pu:List Nat
 puO:List Nat
 hl:∀x,(c.heap x).length=m
 ho:∀x r,m≤(c.outH x r).length
 hp:∀x,PuOk pu (c.heap x)
 hq:∀x r,PuOk puO (c.outH x r)
 hf:∀r v,c.out r=.pan v→v.flat=true
def CtrM.at(c:CtrM P)(bs:List Nat)(n:Nat)(h:placesB bs n c.m=true):CtrR P where
 f:=c.c.f
 X:=c.c.X
 args:=fun x=>AVal.renL (outR bs n) (c.c.args x)
 heap:=fun x=>placeH bs c.pu n (c.c.heap x)
 sh:=c.c.sh
 out:=fun r=>(c.c.out r).renR (outR bs n)
 outH:=fun x r=>placeH bs c.puO n (c.c.outH x r)
 S:=c.c.S
 ok:=fun k x r hr=>FnRef.place (c.c.ok k x r hr) (by rw[c.hl];exact h) (by rw[c.hl];exact c.ho x r) (c.hp x) (c.hq x r) fun v hv=>c.hf r v hv
inductive AtEndM (P:Program) [Globs] {ρ:Type} (a:ARes) (H1:List ABlk) (out:ρ→ARes×List ABlk):Prop
def landM{ρ:Type}(P:Program)[Globs](out:ρ→ARes×List ABlk)(g:G P ρ)(a:ARes)(H1:List ABlk):Prop:=
 match g with
 | .done _ r=>some (a,H1)=some (out r)
 | .fail=>True
 |_=>AtEndM P a H1 out
def fnM{ρ:Type}(P:Program)[Globs](cfg:Cfg)(nd:Bool)(f:FuncId)(args:List AVal)(H:List ABlk)(out:ρ→ARes×List ABlk)(g:G P ρ):Prop:=
 fnN P cfg nd (nestN P cfg nd 8) f args H g (landM P out)
theorem fnM_sound(hm : P.follows .mixedOrders = true)(hN : ∀ (f : FuncId) (fn : Func), P.funcs[f]? = some fn → fn.name ≠ "runtime.NumGoroutine"){nd : Bool}{f : FuncId}{args : List AVal}{H : List ABlk}{ρ : Type}{out : ρ → ARes × List ABlk}{g : G P ρ}
 (h:fnM P cfg nd f args H out g) {n:Nat} {r:ρ} (hr:g.run n=some r):FnRef P f args H (out r).1 (out r).2:=by
 obtain⟨g',a,H1,hk,hr',hf⟩:=(nestN_ok (cfg:=cfg) (nd:=nd) hm hN 9).fn (show(nestN P cfg nd 9).fn f args H g (landM P out)from h) hr;unfold landM at hk;split at hk
 ·grind [G.run]
 ·simp[G.run]at hr'
 ·exact nomatch hk
theorem fnM_any(hm : P.follows .mixedOrders = true)(hN : ∀ (f : FuncId) (fn : Func), P.funcs[f]? = some fn → fn.name ≠ "runtime.NumGoroutine"){f : FuncId}{args : List AVal}{H : List ABlk}{ρ : Type}{out : ρ → ARes × List ABlk}{g : G P ρ}
 (h:fnM P cfg true f args H out g) {n:Nat} {r:ARes×List ABlk} (hr:g.can n fun y=>out y=r):FnRef P f args H r.1 r.2:=by
 have hf:=(nestN_rel (cfg:=cfg) hm hN 9).fn (show(nestN P cfg true 9).fn f args H g (landM P out)from h) hr;refine⟨hf.1,fun g w vs hi hl=>(hf.2 g w vs hi hl).mono fun e w' ⟨a,H1,⟨g',hk,hr'⟩,hc⟩=>?_⟩
 unfold landM at hk;split at hk
 ·obtain⟨_,rfl⟩:=hr';grind
 ·exact hr'.elim
 ·exact nomatch hk
def ARes.okPan:ARes→Bool
 | .ret _=>true
 | .pan v=>v.flat
theorem ARes.okPan_inv{r:ARes}(h:r.okPan=true):∀v,r=.pan v→v.flat=true:=by
 rintro v rfl;exact h
theorem PuOk.of{l:List PU}{pu:List Nat}{H:List ABlk}(h:puC l H)(e:l.map (·.b)=pu):PuOk pu H:=e▸puC_ok h
structure MemT(X:Type)(sh:Sh)(args:X→List AVal)(heap:X→List ABlk)(out:sh.El→ARes)(outH:X→sh.El→List ABlk) where
 m:Nat
 pu:List Nat
 puO:List Nat
 pus:X→List PU
 puOs:X→sh.El→List PU
 hl:∀x,(heap x).length=m
 ho:∀x,sh.all fun r=>Nat.ble m (outH x r).length=true
 hp:∀x,puC (pus x) (heap x)
 hpu:∀x,(pus x).map (·.b)=pu
 hq:∀x,sh.all fun r=>puC (puOs x r) (outH x r)
 hqu:∀x,sh.all fun r=>(puOs x r).map (·.b)=puO
 hf:sh.all fun r=>(out r).okPan=true
def CtrM.of[hp:Plain P](cfg:Cfg)(f:FuncId)(X:Type)(args:X→List AVal)(heap:X→List ABlk)(sh:Sh)(out:sh.El→ARes)(outH:X→sh.El→List ABlk)(g:X→G P sh.El)(t:MemT X sh args heap out outH)
 (h:∀x,fnM P cfg false f (args x) (heap x) (fun r=>(out r,outH x r)) (g x)=(g x).claims (leafR fun r=>(out r,outH x r))):CtrM P where
 c:={
  f:=f
  X:=X
  args:=args
  heap:=heap
  sh:=sh
  out:=out
  outH:=outH
  S:=fun n x=>(g x).run n
  ok:=fun n x r hr=>fnM_sound hp.mixed hp.names (out:=fun r=>(out r,outH x r)) (by rw[h x];exact G.claims_hold (fun _=>rfl) (g x)) hr}
 m:=t.m
 pu:=t.pu
 puO:=t.puO
 hl:=t.hl
 ho:=fun x r=>Nat.le_of_ble_eq_true ((sh.all_iff _).1 (t.ho x) r)
 hp:=fun x=>.of (t.hp x) (t.hpu x)
 hq:=fun x r=>.of ((sh.all_iff _).1 (t.hq x) r) ((sh.all_iff _).1 (t.hqu x) r)
 hf:=fun r=>ARes.okPan_inv ((sh.all_iff _).1 t.hf r)
structure CtrMN(P:Program)[Globs]:Type 1 where
 f:FuncId
 X:Type
 args:X→List AVal
 heap:X→List ABlk
 sh:Sh
 out:sh.El→ARes
 outH:X→sh.El→List ABlk
 g:X→G P sh.El
 t:MemT X sh args heap out outH
 ok:∀n x r,(g x).can n (fun y=>(out y,outH x y)=r)→FnRef P f (args x) (heap x) r.1 r.2
def CtrMN.of[hp:Plain P](cfg:Cfg)(f:FuncId)(X:Type)(args:X→List AVal)(heap:X→List ABlk)(sh:Sh)(out:sh.El→ARes)(outH:X→sh.El→List ABlk)(g:X→G P sh.El)(t:MemT X sh args heap out outH)
 (h:∀x,fnM P cfg true f (args x) (heap x) (fun r=>(out r,outH x r)) (g x)=(g x).claims (leafR fun r=>(out r,outH x r))):CtrMN P where
 f:=f
 X:=X
 args:=args
 heap:=heap
 sh:=sh
 out:=out
 outH:=outH
 g:=g
 t:=t
 ok:=fun n x r hr=>fnM_any hp.mixed hp.names (out:=fun r=>(out r,outH x r)) (by rw[h x];exact G.claims_hold (fun _=>rfl) (g x)) hr
def CtrMN.all(c:CtrMN P)(S:Nat→c.X→Option c.sh.El)(h:∀n x r,S n x=some r→∃m,(c.g x).can m fun y=>(c.out y,c.outH x y)=(c.out r,c.outH x r)):CtrM P where
 c:={
  f:=c.f
  X:=c.X
  args:=c.args
  heap:=c.heap
  sh:=c.sh
  out:=c.out
  outH:=c.outH
  S:=S
  ok:=fun n x r hr=>let⟨m,hm⟩:=h n x r hr;c.ok m x (c.out r,c.outH x r) hm}
 m:=c.t.m
 pu:=c.t.pu
 puO:=c.t.puO
 hl:=c.t.hl
 ho:=fun x r=>Nat.le_of_ble_eq_true ((c.sh.all_iff _).1 (c.t.ho x) r)
 hp:=fun x=>.of (c.t.hp x) (c.t.hpu x)
 hq:=fun x r=>.of ((c.sh.all_iff _).1 (c.t.hq x) r) ((c.sh.all_iff _).1 (c.t.hqu x) r)
 hf:=fun r=>ARes.okPan_inv ((c.sh.all_iff _).1 c.t.hf r)
end
end Go.AM
end
section
namespace Go.AM
section
variable [Globs] {P:Program}
end
end Go.AM
end
section
namespace Go.AM
def rfC(n:Nat):Code→Option (Code×Code)
 | .seq a b=>match rfC n a with
  |some r=>some r
  |none=>rfC n b
 | .cond _ a b=>match rfC n a with
  |some r=>some r
  |none=>rfC n b
 | .block i c=>match Nat.beq i n,c with
  |true,.rangeFunc _ _ a b=>some (a,b)
  |_,_=>rfC n c
 | .loop b=>rfC n b
 | .rangeFunc _ _ _ b=>rfC n b
 | .scope b=>rfC n b
 |_=>none
def rfP(P:Program)(f n:Nat):Code×Code:=match P.funcs[f]? with
 |some fn=>match fn.body with
  |some c=>(rfC n c).getD (.skip,.skip)
  |none=>(.skip,.skip)
 |none=>(.skip,.skip)
def tn:Nat→List AVal
 | 0=>[]
 |n+1=>.sc (.tuple #[])::tn n
def gD{X:Type}(l:List X)(d:X)(j:Nat):X:=l.getD j d
def gDs{X:Type}(c:X→AVal)(l:List X)(d:X):Nat→Nat→List AVal
 |_,0=>[]
 |j,n+1=>c (gD l d j)::gDs c l d (j+1) n
theorem gDs_get{X:Type}(c:X→AVal)(l:List X)(d:X):∀(n j i:Nat),i<n→(gDs c l d j n)[i]? =some (c (gD l d (j+i)))
 | 0,_,_,h=>absurd h (by omega)
 |n+1,j,0,_=>by simp[gDs]
 |n+1,j,i+1,h=>by
  rw[gDs,List.getElem?_cons_succ,gDs_get c l d n (j+1) i (by omega),show j+1+i=j+(i+1)by omega]
theorem gDs_len{X:Type}(c:X→AVal)(l:List X)(d:X):∀(n j:Nat),(gDs c l d j n).length=n
 | 0,_=>rfl
 |n+1,j=>by simp[gDs,gDs_len c l d n]
theorem gDs_all{X:Type}(c:X→AVal)(l:List X)(d:X):gDs c l d 0 l.length=l.map c:=by
 apply List.ext_getElem?;intro i;by_cases hi:i<l.length
 ·rw[gDs_get c l d _ 0 i hi];simp[gD,List.getElem?_eq_getElem hi]
 ·rw[List.getElem?_eq_none (by rw[gDs_len];omega),List.getElem?_eq_none (by simpa using hi)]
def ldG{X:Type}(l:List X)(d:X)(c:X→AVal)(n b ver sz:Nat):OpT Unit where
 run:=if l.length=n then some ()else none
 eff _:={val:=.agg (gDs c l d 0 n)}
 ids:=[b]
 chk gl P cfg nid op rho H:=match op with
  | .load T a=>rho a=.ptr b ver 0 0∧H[b]? =some (.row ver sz [l.map c])∧aggT P T=true∧sizeT P T=some n
  |_=>False
 claim:=AVal.ptr b ver 0 0=AVal.ptr b ver 0 0∧some (ABlk.row ver sz [l.map c])=some (ABlk.row ver sz [l.map c])∧ @Eq Bool true true∧some n=some n
 holds:=⟨rfl,rfl,rfl,rfl⟩
 sound gl P cfg nid op rho H h x hx:=by
  cases op<;>try exact h.elim
  rename_i T a;obtain⟨h1,h2,h3,h4⟩:=h;split at hx
  ·rename_i h0;subst h0;rw[gDs_all];simp[opPre,allocs,opA,h1,loadA,rowOf,h2,loadIn,h3,h4,yields,Rd.bind,Rd.run,Rd.reads];rw[List.take_of_length_le (by simp)]
  ·cases hx
def arrEl(P:Program)(T:TypeId):Option (Nat×Nat×Bool×Bool):=match P.underlying T with
 |some (.array n e)=>(sizeT P e).map fun s=>(n,s,aggT P e,(P.underlying e).isSome)
 |_=>none
def ixG{X:Type}(l:List X)(d:X)(c:X→AVal)(n:Nat)(i:Int):OpT X where
 run:=if 0≤i∧i<n then some (gD l d i.toNat)else none
 eff x:={val:=c x}
 ids:=[]
 chk gl P cfg nid op rho H:=match op with
  | .index T a k=>rho a=.agg (gDs c l d 0 n)∧intOf (rho k)=some i∧arrEl P T=some (n,1,false,true)
  |_=>False
 claim:=AVal.agg (gDs c l d 0 n)=AVal.agg (gDs c l d 0 n)∧some i=some i∧some (n,1,false,true)=some (n,1,false,true)
 holds:=⟨rfl,rfl,rfl⟩
 sound gl P cfg nid op rho H h x hx:=by
  cases op<;>try exact h.elim
  rename_i T a q;obtain⟨h1,h2,h3⟩:=h;obtain⟨k,h2⟩:=intOf_some h2;unfold arrEl at h3;split at h3
  ·rename_i n' e hu;obtain⟨s',hs,he⟩:=Option.map_eq_some_iff.1 h3;simp only[Prod.mk.injEq]at he;obtain⟨rfl,rfl,e3,e4⟩:=he;split at hx
   ·rename_i h0;cases hx;have hop:indexA P T (rho a) i=some (c (gD l d i.toNat)):=by
     rw[h1];unfold indexA;rw[hu];simp only[if_pos h0,hs,Option.bind_some,loadIn,e3,e4,Nat.mul_one,if_true,Bool.false_eq_true,if_false,gDs_get c l d n' 0 i.toNat (by omega),Nat.zero_add]
    simp[opPre,allocs,opA,h2,hop,yields,Rd.bind,Rd.run,Rd.reads]
   ·cases hx
  ·cases h3
end Go.AM
end
