/- Parts put together. No conditions. -/
import Derived.Test.YtiohninblcifpaaGreatDoorAb
import Derived.ProofKit
import Derived.OpenShut
import Derived.JoinedCond
import Derived.LaidLaws
set_option linter.unusedSectionVars false
set_option linter.unusedSimpArgs false
section
namespace Go.AM
open Go.ChangeShapes Go.WideShapes Go.ChangeAt Go.RowKit
def Gh.bare(w:World):Gh:={ai:=fun _ _=>none,st:=fun k _=>k<w.heap.size}
section
variable [aF]
theorem Gh.Qi(w:World)(hg:oL (Gh.bare w) w):Inv (Gh.bare w) [] w:=
 ⟨fun b x h=>by simp at h,fun b b' x x' v v' k z z' h=>by simp at h,fun b ak _=>rfl,fun b x v ver' h=>by simp at h,fun b x v k z o h=>by simp at h,fun _ _ h=>h,hg⟩
theorem Lm{w w':World}{g':Gh}{H':List af}(h:aQ (Gh.bare w) [] w g' H' w'):Below w.heap.size w w':=
 ⟨h.os,h.tape.1,h.output,h.size,fun k hk=>h.keep k hk fF⟩
end
section
variable {H:Type} {enc:TypeId×Value→H} {P:Program}
theorem IX{f:Func}{s:ChangeSpec}{apart fresh handsOn again:Bool}{W W':World}{args:Array Value}{v:Value}{ds gs:List (DataW H)}{before pa pv:List MemPlace}
 (hW:DataW.Whole enc P f.params.toList s.vars apart W args.toList ds gs before)
 (hres:∀(b:Nat) (sp:Nat→Bool) (hd:Bool),DataW.TrodAll enc P W' b sp hd f.resultTypes.toList (v.resultList f.resultTypes.size) (s.fn H (ds++gs)).results [])
 (hargs:∀sp:Nat→Bool,(∀p∈before,sp p.block=true)→DataW.TrodAll enc P W' 0 sp true f.params.toList args.toList (s.fn H (ds++gs)).args pa)
 (hvars:∀sp:Nat→Bool,(∀p∈before,sp p.block=true)→DataW.TrodVars enc P W' sp s.vars (s.fn H (ds++gs)).vars pv)
 (hps:before=pa++pv) (hb:Below W.heap.size W W')
 (hok:∀(j:Nat) (t:TypeId) (r:Value),f.resultTypes[j]? =some t→(v.resultList f.resultTypes.size)[j]? =some r→Value.okWide P W' .any 0 t r):
 s.post enc P f apart fresh handsOn again W args v W':=by
 have hold:∀p∈before,(fun b=>decide (b<W.heap.size)) p.block=true:=fun p hp=>by simpa using hW.lt p hp
 have hlt:=hW.lt;refine⟨ds,gs,before,[],pa,pv,hW,hres _ _ _,hargs _ hold,hvars _ hold,World.keptBut_mono (fun p hp=>⟨hp,?_⟩) (hb.frame (· ∈before)),fun _=>?_⟩
 ·rw[hps,List.mem_append]at hp;exact Or.inr hp
 ·obtain⟨_,_,_,_,_,hz,hn⟩:=hW;refine⟨hok,_,_,([]++pa)++pv,⟨[]++pa,pv,trodAll_append (hargs _ (fun _ _=>rfl)) (hres _ _ _),hvars _ (fun _ _=>rfl),rfl,?_,?_⟩,?_⟩
  ·intro b off hp;have hm:MemPlace.cell b off∈before:=by rw[hps];simpa using hp
   rw[hb.frozen (hlt _ hm)];exact hz b off hm
  ·intro ha;have:=hn ha;rw[hps]at this;simpa using this
  ·intro p hp _;rw[hps];simpa using hp
end
end Go.AM
end
section
namespace Go.AM
structure Entry where
 f:FuncId
 args:List AVal
 res:AVal
def Bz(f:FuncId)(args:List AVal):List Entry→Option AVal
 | []=>none
 |e::es=>if e.f==f&&vh e.args args then some e.res else Bz f args es
def xg[aF](P:Program)(cfg:fE)(tbl:List Entry)(loops:Nat):Nat→jU
 | 0=>⟨fun _ _ _=>none,fun _ _ _=>none⟩
 |n+1=>⟨fun f args H=>match(match H with | []=>Bz f args tbl |_=>none)with
  |some r=>some (.ret r,[])
  |none=>FO P cfg (xg P cfg tbl loops n) loops f args H,roundOf P cfg (xg P cfg tbl loops n) loops⟩
section
variable [aF] {P:Program} {cfg:fE}
def Hi(P:Program)(e:Entry):Prop:=
 (∃ fn c, P.funcs[e.f]? = some fn ∧ fn.body = some c ∧ fn.name ≠ "runtime.NumGoroutine") ∧
 ∀g w (vs:Array Value),Inv g [] w→RL g w e.args vs.toList→Calls P e.f vs w (ff g [] w (.ret e.res) [])
def Cc(P:Program)(tbl:List Entry):Prop:=∀e∈tbl,Hi P e
theorem Cc.nil:Cc P []:=fun _ h=>by cases h
theorem Cc.cons{e:Entry}{tbl:List Entry}(h:Hi P e)(h':Cc P tbl):Cc P (e::tbl):=fun x hx=>by
 rcases List.mem_cons.1 hx with rfl |hx
 ·exact h
 ·exact h' x hx
theorem Dl{f:FuncId}{args:List AVal}{r:AVal}:∀{tbl:List Entry},Bz f args tbl=some r→∃e∈tbl,e.f=f∧e.args=args∧e.res=r
 | [],h=>by simp[Bz]at h
 |e::es,h=>by
  simp only[Bz]at h;split at h
  ·rename_i hc;simp only[Bool.and_eq_true,beq_iff_eq]at hc;simp only[Option.some.injEq]at h;exact⟨e,by simp,hc.1,rq _ _ hc.2,h⟩
  ·obtain⟨e',h1,h2⟩:=Dl h;exact⟨e',List.mem_cons_of_mem _ h1,h2⟩
theorem A0(hm : P.follows .mixedOrders = true)(hN : ∀ (f : FuncId) (fn : Func), P.funcs[f]? = some fn → fn.name ≠ "runtime.NumGoroutine"){tbl : List Entry}(ht : Cc P tbl)(loops : Nat) : ∀ n, gL P (xg P cfg tbl loops n)
 | 0=>⟨fun _ _ _ _ _ h=>by simp[xg]at h,fun _ _ _ _ _ h=>by simp[xg]at h⟩
 |n+1=>by
  refine⟨fun f args H r H1 h=>?_,fun _ _ _ _ _ h=>IW hm (A0 hm hN ht loops n) h⟩
  simp only[xg]at h;split at h
  ·rename_i v hv;simp only[Option.some.injEq,Prod.mk.injEq]at h;obtain⟨rfl,rfl⟩:=h;cases H with
   |nil=>
    obtain⟨e,he,rfl,rfl,rfl⟩:=Dl hv;exact ht e he
   |cons x xs=>cases hv
  ·exact JR hm hN (A0 hm hN ht loops n) h
def BA(orc:jU)(e:Entry):Bool:=match orc.fn e.f e.args []with
 |some (.ret v,H1)=>match(snap jT v).run H1 with
  |some v'=>same v' e.res
  |none=>false
 |_=>false
theorem Qj{orc:jU}(ho:gL P orc){e:Entry}(h:BA orc e=true):Hi P e:=by
 unfold BA at h;split at h
 ·rename_i v H1 hc;split at h
  ·rename_i v' hs;have:=wh _ _ h;subst this;obtain⟨h1,h2⟩:=ho.fn _ _ _ _ _ hc;refine⟨h1,fun g w vs hi hl=>(h2 g w vs hi hl).mono ?_⟩
   rintro en w' ⟨g',hi',hla,x,rfl,hr⟩;obtain⟨r1,r2⟩:=pO hi' _ _ _ _ hs hr;refine⟨iL g' H1,hi'.iL,⟨⟨fun b ak x hx=>?_,fun k o hk=>.inl (hla.ext.st k o hk),hla.ext.cell,hla.ext.shape⟩,hla.size,hla.keep,fun k _ ho=>absurd ho fF,Nat.le_refl _,hla.os,hla.tape,hla.output,fun k o hk hst=>?_,fun b hb=>by simp at hb,fun b ak k z h=>by cases h⟩,x,rfl,r1⟩
   ·rw[hi.fresh b ak (.inr (by simp))]at hx;cases hx
   ·rcases hst with hst |hst
    ·exact(hla.stk k o hk hst).imp_right fun h=>absurd h.1 fF
    ·exact absurd (hla.own k hk hst) fF
  ·cases h
 ·cases h
end
end Go.AM
end
section
namespace Go.AM
def litVal:Lit→Option Value
 | .bool b=>some (.bool b)
 | .int k n=>some (.int k n)
 | .string l=>some (.string ⟨l.toArray⟩)
 |_=>none
mutual
def xh{H:Type}:DataW H→Option (List Value)
 | .lit l=>(litVal l).map fun v=>[v]
 | .agg ds=>xL ds
 |_=>none
def xL{H:Type}:List (DataW H)→Option (List Value)
 | []=>some []
 |d::ds=>match xh d,xL ds with
  |some a,some b=>some (a++b)
  |_,_=>none
end
section
variable {H:Type} {enc:TypeId×Value→H} {P:Program} {w:World} {base:Nat} {sp:Nat→Bool} {held:Bool}
theorem vn{t n:Nat}(h:dz P t=some n):P.cellsOf t=n:=by
 unfold dz at h;simp[Program.cellsOf,h]
theorem HV{s:Nat}{cs:List Value}{F:List Value→Option (DataW H×List MemPlace)}(hF:∀c x v,F c=some x→xh x.1=some v→c=v):∀(xs:List (DataW H×List MemPlace)) (off:Nat) (vs:List Value),
 (∀i,i<xs.length→F ((cs.drop (off+i*s)).take s)=xs[i]?)→xL (xs.map (·.1))=some vs→(cs.drop off).take (xs.length*s)=vs
 | [],off,vs,_,h=>by simp[xL]at h;simp[h]
 |x::xs,off,vs,hx,h=>by
  simp only[List.map_cons,xL]at h;split at h
  ·rename_i a b ha hb;simp only[Option.some.injEq]at h;subst h;have h0:=hx 0 (by simp)
   simp only[Nat.zero_mul,Nat.add_zero,List.getElem?_cons_zero]at h0;have e0:=hF _ _ _ h0 ha;have e1:=HV hF xs (off+s) b (fun i hi=>by
    have:=hx (i+1) (by simpa using hi)
    rw[List.getElem?_cons_succ]at this;rw[← this,Nat.add_mul,Nat.one_mul];congr 3;omega) hb
   rw[List.length_cons,Nat.add_mul,Nat.one_mul,Nat.add_comm,List.take_add,e0,List.drop_drop,e1]
  ·cases h
theorem EN{K:TypeId→Option (List Kd)}{cs:List Value}{F:TypeId→List Value→Option (DataW H×List MemPlace)}(hF:∀t ks c x v,K t=some ks→F t c=some x→xh x.1=some v→c=v):
 ∀(fl:List Field) (off:Nat) (ks:List Kd) (xs:List (DataW H×List MemPlace)) (vs:List Value),dW.kindsFields P K fl off=some ks→xs.length=fl.length→
  (∀(i:Nat) (f:Field),fl[i]? =some f→F f.type ((cs.drop f.offset).take (P.cellsOf f.type))=xs[i]?)→xL (xs.map (·.1))=some vs→(cs.drop off).take ks.length=vs
 | [],off,ks,xs,vs,hk,hl,_,h=>by
  grind [dW.kindsFields,xL]
 |f::fl,off,ks,[],vs,_,hl,_,_=>by simp at hl
 |f::fl,off,ks,x::xs,vs,hk,hl,hx,h=>by
  simp only[dW.kindsFields]at hk;split at hk
  ·rename_i hc;split at hk
   ·rename_i k1 hk1;split at hk
    ·rename_i hsz;obtain⟨k2,hk2,rfl⟩:=Option.map_eq_some_iff.1 hk;simp only[beq_iff_eq]at hsz;simp only[List.map_cons,xL]at h;split at h
     ·rename_i a b ha hb;simp only[Option.some.injEq]at h;subst h;have h0:=hx 0 f (by simp)
      simp only[List.getElem?_cons_zero]at h0;have e0:=hF _ _ _ _ _ hk1 h0 ha;rw[hc.2,vn hsz]at e0;have e1:=EN hF fl (off+k1.length) k2 xs b hk2 (by simpa using hl) (fun i f' hf=>by
       have:=hx (i+1) f' (by simpa using hf)
       simpa using this) hb
      rw[List.length_append,List.take_add,e0,List.drop_drop,e1]
     ·cases h
    ·cases hk
   ·cases hk
  ·cases hk
theorem HW:∀(d t:Nat) (ks:List Kd) (fuel:Nat) (cs:List Value) (x:DataW H×List MemPlace) (vs:List Value),dW P d t=some ks→DataW.trod enc P w base sp held fuel t cs=some x→xh x.1=some vs→cs=vs
 | 0,_,_,_,_,_,_,hk,_,_=>by simp[dW]at hk
 |d+1,t,ks,fuel,cs,x,vs,hk,h,hv=>by
  have ih:=HW d;simp only[dW]at hk;split at hk
  ·rename_i hu;have:∃b,cs=[.bool b]∧x=(.lit (.bool b),[]):=by
    cases fuel with
    |zero=>simp[DataW.trod]at h
    |succ n=>
     unfold DataW.trod at h;grind
   grind [xh,litVal]
  ·rename_i k hu;obtain⟨n,rfl,rfl,_⟩:=DataW.trod_int hu h;simpa[xh,litVal]using hv
  ·rename_i hu;obtain⟨s,rfl,rfl,_⟩:=DataW.trod_string hu h;simpa[xh,litVal]using hv
  ·rename_i fs hu;split at hk
   ·cases hk
   ·split at hk
    ·rename_i ks' hks;split at hk
     ·rename_i hsz;simp only[Option.some.injEq]at hk;subst hk;simp only[beq_iff_eq]at hsz;obtain⟨xs,n,rfl,rfl,hl,hxl,hget⟩:=DataW.trod_struct hu h;simp only[xh]at hv;have:=EN (P:=P) (cs:=cs) (K:=dW P d) (F:=fun t c=>DataW.trod enc P w base sp held n t c) (fun t ks c x v hk hf hv=>ih t ks n c x v hk hf hv) fs.toList 0 ks' xs vs hks (by simpa using hxl) (fun i f hf=>hget i f (by simpa using hf)) hv
      grind [vn]
     ·cases hk
    ·cases hk
  ·rename_i n e hu;split at hk
   ·rename_i ks' hks;split at hk
    ·rename_i hsz;simp only[Bool.and_eq_true,beq_iff_eq]at hsz;obtain⟨xs,m,rfl,rfl,hl,hxl,hget⟩:=DataW.trod_array hu h;simp only[xh]at hv;rw[vn hsz.1]at hget;have:=HV (s:=ks'.length) (cs:=cs) (F:=fun c=>DataW.trod enc P w base sp held m e c) (fun c x v hf hv=>ih e ks' m c x v hks hf hv) xs 0 vs (fun i hi=>by
      grind) hv
     grind [vn]
    ·cases hk
   ·cases hk
  ·cases hk
theorem MY{name:String}{d:DataW Unit}{rest:List (String×DataW Unit)}{g t:Nat}{ks:List Kd}{vs:List Value}(hg:P.globalNamed name=some g)(hty:(P.globals[g]?).map (·.type)=some t)(hk:dW P 9 t=some ks)(hv:xh d=some vs)
 (h:laidMet P ((name,d)::rest) w):w.var? P name=some vs.toArray:=by
 obtain⟨ps,⟨g',t',cs,fuel,p,q,hg',ht',hvar,hd,_,_⟩,_⟩:=h;obtain rfl:=Option.some.inj (hg.symm.trans hg');obtain rfl:=Option.some.inj (hty.symm.trans ht');have:=HW _ _ _ _ _ _ _ hk hd hv;rw[hvar,← this]
theorem OE[gl:aF]{name:String}{g:Nat}{vs:List Value}(hg:P.globalNamed name=some g)(hvar:w.var? P name=some vs.toArray)(h1:vs.all (·.oneCell')=true)(hgl:∀i cs,gl.default.cells i=some cs→i=g∧cs=vs.map .sc):oL (Gh.bare w) w:=by
 intro i cs hi;obtain⟨rfl,rfl⟩:=hgl i cs hi;refine⟨?_,yL fun j x hx=>?_⟩
 ·exact ri.2 fun x hx=>by
   obtain⟨v,_,rfl⟩:=List.mem_map.1 hx;rfl
 ·rw[List.getElem?_map]at hx;obtain⟨v,hv,rfl⟩:=Option.map_eq_some_iff.1 hx;have hc:=World.var?_cell hg hvar j;rw[List.getElem?_toArray,hv]at hc;have hlt:i<w.heap.size:=by
   apply Decidable.byContradiction;intro hn;simp[World.cell?,Array.getElem?_eq_none (Nat.le_of_not_lt hn)]at hc
  rw[Nat.zero_add];exact⟨hlt,v,hc,List.all_eq_true.1 h1 v (List.mem_of_getElem? hv),by simp[R]⟩
end
end Go.AM
end
section
namespace Go.AM
abbrev Ren:=Nat→Nat→Option (Nat×Nat)
namespace AVal
mutual
def jE(f:Ren):AVal→AVal
 | .sc v=>.sc v
 | .agg cs=>.agg (og f cs)
 | .ct cs=>.ct (og f cs)
 | .ptr b ak i o=>match f b ak with
  |some (b',ver')=>.ptr b' ver' i o
  |none=>.aq
 | .bU cs o=>.bU cs o
 | .sl b ak sz o n=>match f b ak with
  |some (b',ver')=>.sl b' ver' sz o n
  |none=>.aq
 | .aB rows=>.aB rows
 | .fn g a b=>.fn g (og f a) (og f b)
 | .fQ t v=>.fQ t (jE f v)
 | .mp b=>match f b 0 with
  |some (b',0)=>.mp b'
  |_=>.aq
 | .jv b=>match f b 0 with
  |some (b',0)=>.jv b'
  |_=>.aq
 | .sa b ak i o s n=>match f b ak with
  |some (b',ver')=>.sa b' ver' i o s n
  |none=>.aq
 | .gN i o=>.gN i o
 | .emp=>.emp
 | .nz b=>.nz b
 | .aq=>.aq
def og(f:Ren):List AVal→List AVal
 | []=>[]
 |a::as=>jE f a::og f as
end
theorem EO(f:Ren):∀(l:List AVal),(og f l).length=l.length
 | []=>rfl
 |_::as=>by simp[og,EO f as]
end AVal
section
variable [aF] {g g':Gh} {w:World} {f:Ren}
mutual
theorem F3(hst:∀k o,g.st k o→g'.st k o)(hf:∀b v b' v' x,f b v=some (b',v')→g.ai b v=some x→g'.ai b' v'=some x):∀(v:AVal) (x:Value),R g w v x→R g' w (v.jE f) x
 | .sc _,x,hr=>by simpa[R,AVal.jE]using hr
 | .agg cs,x,hr=>by
  simp only[R,AVal.jE]at hr ⊢;obtain⟨vs,e,h1,hl⟩:=hr;exact⟨vs,e,h1,tL hst hf cs vs hl⟩
 | .ct cs,x,hr=>by
  simp only[R,AVal.jE]at hr ⊢;obtain⟨vs,e,hl⟩:=hr;exact⟨vs,e,tL hst hf cs vs hl⟩
 | .ptr b ak i o,x,hr=>by
  grind [R,AVal.jE]
 | .bU cs o,x,hr=>by
  grind [R,AVal.jE,ki]
 | .sl b ak sz o n,x,hr=>by
  grind [R,AVal.jE]
 | .aB rows,x,hr=>by
  simp only[R,AVal.jE]at hr ⊢;obtain⟨a,cap,e,hle,hr⟩:=hr;refine⟨a,cap,e,hle,?_⟩;rcases hr with h0 |⟨k,off,sz,ha,hc⟩
  ·exact .inl h0
  ·exact .inr ⟨k,off,sz,ha,Eb hst rows k off sz hc⟩
 | .fn _ a b,x,hr=>by
  simp only[R,AVal.jE]at hr ⊢;obtain⟨va,vb,e,h1,h2⟩:=hr;exact⟨va,vb,e,tL hst hf a va h1,tL hst hf b vb h2⟩
 | .fQ t v,x,hr=>by
  simp only[R,AVal.jE]at hr ⊢;obtain⟨y,e,h1⟩:=hr;exact⟨y,e,F3 hst hf v y h1⟩
 | .mp b,x,hr=>by
  grind [R,AVal.jE]
 | .jv b,x,hr=>by
  grind [R,AVal.jE]
 | .sa b ak i o s n,x,hr=>by
  grind [R,AVal.jE]
 | .gN i o,x,hr=>by simpa[R,AVal.jE]using hr
 | .emp,x,hr=>by simpa[R,AVal.jE]using hr
 | .nz _,x,hr=>by simpa[R,AVal.jE]using hr
 | .aq,x,_=>by simp[R,AVal.jE]
theorem tL(hst:∀k o,g.st k o→g'.st k o)(hf:∀b v b' v' x,f b v=some (b',v')→g.ai b v=some x→g'.ai b' v'=some x):∀(v:List AVal) (x:List Value),RL g w v x→RL g' w (AVal.og f v) x
 | [],x,hr=>by simpa[RL,AVal.og]using hr
 |a::as,x,hr=>by
  simp only[RL,AVal.og]at hr ⊢;obtain⟨y,ys,e,h1,h2⟩:=hr;exact⟨y,ys,e,F3 hst hf a y h1,tL hst hf as ys h2⟩
end
def JS(f:Ren):af→af→Prop
 | .row _ sz rows,.row _ sz' rows'=>sz'=sz∧((rows'=rows∧rows.all AVal.aS=true)∨rows'=rows.map (AVal.og f))
 | .map c es,.map c' es'=>c'=c∧((es'=es∧es.all (fun p=>p.1.pure&&p.2.1.pure)=true)∨es'=es.map fun p=>(p.1.jE f,p.2.1.jE f,p.2.2))
 | .loop st pend fid A ps as bd,.loop st' pend' fid' A' ps' as' bd'=>st'=st∧pend'=pend∧fid'=fid∧ps'=ps∧as'=as∧bd'=bd∧A'=AVal.og f A
 | .defs,.defs=>True
 | .iter m since seen stepped,.iter m' since' seen' stepped'=>since'=since∧seen'=seen∧stepped'=stepped∧m'=m.jE f
 |_,_=>False
structure MZ(g g':Gh)(H H':List af)(f:Ren):Prop where
 st:g'.st=g.st
 ai:∀b v b' v' x,f b v=some (b',v')→g.ai b v=some x→g'.ai b' v'=some x
 blk:∀(b':Nat) (x':af),H'[b']? =some x'→x'.live=none∨∃b x v v',H[b]? =some x∧x.live=some v∧x'.live=some v'∧f b v=some (b',v')∧g'.ai b' v'=g.ai b v∧JS f x x'
 fresh:∀b' v,(H'[b']? =some .aV∨H'.length≤b')→g'.ai b' v=none
 next:∀(b':Nat) (x':af) v v',H'[b']? =some x'→x'.live=some v→v<v'→g'.ai b' v'=none
theorem Qk{H H':List af}(h:MZ g g' H H' f){b b' v v':Nat}{x x':af}(hg:Good g w b x)(hv:x.live=some v)(hv':x'.live=some v')(hr:g'.ai b' v'=g.ai b v)(hb:JS f x x'):Good g' w b' x':=by
 have hst:∀k o,g.st k o→g'.st k o:=fun k o h'=>by rw[h.st];exact h'
 cases x<;>cases x'<;>simp only[JS]at hb<;>try exact hb.elim
 case row.row ak sz rows ver' sz' rows'=>
  simp only[af.live,Option.some.injEq]at hv hv';subst hv;subst hv';obtain⟨rfl,hb⟩:=hb;rcases hg with⟨k,c,e,h1,h2,h3,h4,h5⟩ |⟨rfl,h2,h3⟩
  ·rcases hb with⟨rfl,hp⟩ |rfl
   ·refine .inl ⟨k,c,e,hr.trans h1,h2,iT _ _ fun j r hj=>?_,h4,h5⟩
    obtain⟨r1,r2⟩:=cH _ _ _ _ h3 hj;obtain⟨vs,v1,v2,v3,v4⟩:=fD r2;exact⟨r1,ej (nA hst _ _ (List.all_eq_true.1 hp r (List.mem_of_getElem? hj)) v3) v2 v4⟩
   ·refine .inl ⟨k,c,e,hr.trans h1,h2,iT _ _ fun j r hj=>?_,by simpa using h4,h5⟩
    rw[List.getElem?_map]at hj;obtain⟨r0,hj0,rfl⟩:=Option.map_eq_some_iff.1 hj;obtain⟨r1,r2⟩:=cH _ _ _ _ h3 hj0;obtain⟨vs,v1,v2,v3,v4⟩:=fD r2;exact⟨by rw[AVal.EO,r1],ej (tL hst h.ai _ _ v3) v2 v4⟩
  ·rcases hb with⟨rfl,_⟩ |rfl
   ·exact .inr ⟨rfl,hr.trans h2,h3⟩
   ·exact .inr ⟨rfl,hr.trans h2,h3⟩
 case map.map c es c' es'=>
  simp only[af.live,Option.some.injEq]at hv hv';subst hv;subst hv';obtain⟨rfl,hb⟩:=hb;obtain⟨k,ents,h1,h2,h3⟩:=hg;refine⟨k,ents,hr.trans h1,h2,?_⟩;grind [nE,xG,kM,F3,h.ai]
 case loop.loop=>
  simp only[af.live,Option.some.injEq]at hv hv';subst hv;subst hv';obtain⟨rfl,rfl,rfl,rfl,rfl,rfl,rfl⟩:=hb;obtain⟨k,tmps,dk,fn,h1,h2,h3⟩:=hg;exact⟨k,tmps,dk,fn,hr.trans h1,h2,tL hst h.ai _ _ h3⟩
 case iter.iter=>
  simp only[af.live,Option.some.injEq]at hv hv';subst hv;subst hv';obtain⟨rfl,rfl,rfl,rfl⟩:=hb;obtain⟨k,mo,h1,h2,h3⟩:=hg;exact⟨k,mo,hr.trans h1,h2,F3 hst h.ai _ _ h3⟩
 case defs.defs=>
  simp only[af.live,Option.some.injEq]at hv hv';subst hv;subst hv';obtain⟨k,h1,h2⟩:=hg;exact⟨k,hr.trans h1,h2⟩
theorem Inv.jE{H H':List af}(hi:Inv g H w)(h:MZ g g' H H' f):Inv g' H' w:=by
 have hst:∀k o,g.st k o→g'.st k o:=fun k o h'=>by rw[h.st];exact h'
 refine⟨?_,?_,h.fresh,h.next,?_,?_,hi.dc.st hst⟩
 ·intro b' x' hb';rcases h.blk b' x' hb' with hl |⟨b,x,v,v',h1,h2,h3,h4,h5,h6⟩
  ·cases x'<;>simp[af.live]at hl<;>trivial
  ·exact Qk h (hi.good b x h1) h2 h3 h5 h6
 ·intro b1 b2 x1 x2 v1 v2 k z1 z2 hb1 hb2 l1 l2 k1 k2;rcases h.blk b1 x1 hb1 with hl |⟨c1,y1,u1,u1',p1,p2,p3,p4,p5,p6⟩
  ·rw[l1]at hl;cases hl
  ·rcases h.blk b2 x2 hb2 with hl |⟨c2,y2,u2,u2',q1,q2,q3,q4,q5,q6⟩
   ·rw[l2]at hl;cases hl
   ·rw[l1]at p3;cases p3;rw[l2]at q3;cases q3;rw[p5]at k1;rw[q5]at k2;have:=hi.inj c1 c2 y1 y2 u1 u2 k z1 z2 p1 q1 p2 q2 k1 k2;grind
 ·intro b' x' v k z o hb' hl hk hs;rcases h.blk b' x' hb' with hl' |⟨b,x,u,u',p1,p2,p3,p4,p5,p6⟩
  ·rw[hl]at hl';cases hl'
  ·rw[hl]at p3;cases p3;rw[p5]at hk;rw[h.st]at hs;exact hi.free b x u k z o p1 p2 hk hs
 ·intro k o hs;rw[h.st]at hs;exact hi.eU k o hs
end
def iF[aF](H0:List af)(s s':St):Prop:=
 ∀(g0:Gh) (w0:World) (g:Gh) (a:Act) (w:World),Inv g0 H0 w0→aQ g0 H0 w0 g s.H w→eT g s a w→∃g',eT g' s' a w∧aQ g0 H0 w0 g' s'.H w
theorem iF.refl[aF](H0:List af)(s:St):iF H0 s s:=fun _ _ g _ _ _ hl hs=>⟨g,hs,hl⟩
theorem iF.trans[aF]{H0:List af}{s s1 s2:St}(h:iF H0 s s1)(h':iF H0 s1 s2):iF H0 s s2:=fun g0 w0 g a w hi hl hs=>
 let⟨g1,hs1,hl1⟩:=h g0 w0 g a w hi hl hs
 h' g0 w0 g1 a w hi hl1 hs1
def af.tM:af→Option Nat
 | .row v _ _=>some v
 |_=>none
def qE:af→Bool
 | .row _ _ rows=>rows.all AVal.aS
 | .map _ es=>es.all fun p=>p.1.pure&&p.2.1.pure
 |_=>true
def Dm(pu:List Nat)(H:List af):Prop:=∀b∈pu,∀x,H[b]? =some x→qE x=true
def oE(b:Nat):List Nat→Nat→Option Nat
 | [],_=>none
 |c::cs,j=>match c==b with
  |true=>some j
  |false=>oE b cs (j+1)
def zk:List Nat→Bool
 | []=>true
 |c::cs=> !cs.contains c&&zk cs
def nI(bump:List Nat)(H0 H:List af)(b:Nat):Option (Nat×Nat):=
 match bump.contains b with
 |true=>match(H0[b]?).bind af.tM,(H[b]?).bind af.tM with
  |some v0,some v1=>some (v0,v1)
  |_,_=>none
 |false=>none
def td(H0:List af)(b:Nat):Bool:=match H0[b]? with
 |some .aV=>false
 |some _=>true
 |none=>false
theorem L9{H0:List af}{b:Nat}(h:td H0 b=true):b<H0.length:=by
 grind [td]
theorem F4{H0:List af}{b:Nat}(h:td H0 b=false):H0[b]? =some .aV∨H0.length≤b:=by
 grind [td]
def qM(bl bump:List Nat)(H0 H:List af):Ren:=fun b v=>
 match td H0 b with
 |true=>match nI bump H0 H b with
  |some (v0,v1)=>if v=v1 then some (b,v0+1)else none
  |none=>some (b,v)
 |false=>match oE b bl 0 with
  |some j=>if(H[b]?).bind af.live=some v then some (H0.length+j,0)else none
  |none=>none
def jb(f:Ren)(p:Bool)(v':Option Nat):af→af
 | .row v sz rows=>.row (v'.getD v) sz (match p with |true=>rows |false=>rows.map (AVal.og f))
 | .map c es=>.map c (match p with |true=>es |false=>es.map fun p=>(p.1.jE f,p.2.1.jE f,p.2.2))
 | .loop st pend fid A ps as bd=>.loop st pend fid (AVal.og f A) ps as bd
 | .iter m since seen stepped=>.iter (m.jE f) since seen stepped
 |x=>x
def oS(f:Ren)(pu bump:List Nat)(H0 H:List af):Nat→List af→List af
 |_,[]=>[]
 |b,x::xs=>(match td H0 b with |true=>jb f (pu.contains b) ((nI bump H0 H b).map (·.1+1)) x |false=>.aV)::oS f pu bump H0 H (b+1) xs
def Fl(f:Ren):List ta→Option (List ta)
 | []=>some []
 | .call h args::ds=>(Fl f ds).map (.call h (AVal.og f args):: ·)
 | .mark b::ds=>if f b 0=some (b,0)then(Fl f ds).map (.mark b:: ·)else none
def Ql(bl bump pu:List Nat)(H0:List af)(s:St):Option St:=
 match zk bl&&bl.all (fun b=> !td H0 b&&decide (b<s.H.length))with
 |true=>match Fl (qM bl bump H0 s.H) s.D with
  |some D=>some ⟨AVal.og (qM bl bump H0 s.H) s.A,oS (qM bl bump H0 s.H) pu bump H0 s.H 0 (s.H.take H0.length)++bl.map (fun b=>jb (qM bl bump H0 s.H) (pu.contains b) (some 0) (s.H.getD b .dead)),D⟩
  |none=>none
 |false=>none
theorem uQ:∀{bl:List Nat} {b i j:Nat},oE b bl i=some j→i≤j∧bl[j - i]? =some b
 | [],b,i,j,h=>by simp[oE]at h
 |c::cs,b,i,j,h=>by
  simp only[oE]at h;split at h
  ·grind
  ·obtain⟨h1,h2⟩:=uQ h;grind
theorem A2:∀{bl:List Nat} {b j:Nat} (i:Nat),zk bl=true→bl[j]? =some b→oE b bl i=some (i+j)
 | [],b,j,i,_,h=>by simp at h
 |c::cs,b,0,i,_,h=>by simp at h;subst h;simp[oE]
 |c::cs,b,j+1,i,hn,h=>by
  simp only[zk,Bool.and_eq_true,Bool.not_eq_true']at hn;simp only[List.getElem?_cons_succ]at h;have hne:(c==b)=false:=by
   apply beq_false_of_ne;rintro rfl;have:=List.mem_of_getElem? h;simp[this]at hn
  simp only[oE,hne];rw[A2 (i+1) hn.2 h,show i+1+j=i+(j+1)by omega]
theorem A3(f:Ren)(pu bump:List Nat)(H0 H:List af):∀(l:List af) (b j:Nat),(oS f pu bump H0 H b l)[j]? =(l[j]?).map fun x=>match td H0 (b+j)with |true=>jb f (pu.contains (b+j)) ((nI bump H0 H (b+j)).map (·.1+1)) x |false=>.aV
 | [],b,j=>by simp[oS]
 |x::xs,b,0=>by simp[oS]
 |x::xs,b,j+1=>by
  simp only[oS,List.getElem?_cons_succ];rw[A3 f pu bump H0 H xs (b+1) j,show b+1+j=b+(j+1)by omega]
theorem qF(f:Ren)(p:Bool)(v':Option Nat)(x:af):(jb f p v' x).live=match x with | .row v _ _=>some (v'.getD v) |x=>x.live:=by cases x<;>rfl
theorem yN(f:Ren)(p:Bool)(v':Option Nat){x:af}(hp:p=true→qE x=true)(hl:x.live≠none):JS f x (jb f p v' x):=by
 cases x with
 |row v sz rows=>
  refine⟨rfl,?_⟩;cases p with
  |true=>exact .inl ⟨rfl,hp rfl⟩
  |false=>exact .inr rfl
 |map c es=>
  refine⟨rfl,?_⟩;cases p with
  |true=>exact .inl ⟨rfl,hp rfl⟩
  |false=>exact .inr rfl
 |loop=>exact⟨rfl,rfl,rfl,rfl,rfl,rfl,rfl⟩
 |defs=>trivial
 |iter=>exact⟨rfl,rfl,rfl,rfl⟩
 |aV=>exact absurd rfl hl
 |dead=>exact absurd rfl hl
def oh(bl bump:List Nat)(H0 H:List af)(g:Gh):Gh:=
 {ai:=fun b v=>match decide (b<H0.length)with
  |true=>match td H0 b with
   |true=>match nI bump H0 H b with
    |some (v0,v1)=>if v≤v0 then g.ai b v else if v=v0+1 then g.ai b v1 else none
    |none=>g.ai b v
   |false=>none
  |false=>match bl[b - H0.length]? with
   |some c=>if v=0 then(match(H[c]?).bind af.live with |some u=>g.ai c u |none=>none)else none
   |none=>none
  st:=g.st}
theorem EP{x:af}{v:Nat}(h:x.tM=some v):x.live=some v:=by cases x<;>simp[af.tM]at h<;>simp[af.live,h]
theorem tN{bump:List Nat}{H0 H:List af}{b v0 v1:Nat}(h:nI bump H0 H b=some (v0,v1)):(∃x0,H0[b]? =some x0∧x0.tM=some v0)∧∃x1,H[b]? =some x1∧x1.tM=some v1:=by
 grind [nI]
theorem Qm[aF]{bl bump pu:List Nat}{H0:List af}{s s':St}(BB:Dm pu s.H)(h:Ql bl bump pu H0 s=some s'):iF H0 s s':=by
 intro g0 w0 g a w hi0 hl hs;unfold Ql at h;split at h
 ·rename_i hc;simp only[Bool.and_eq_true,List.all_eq_true,decide_eq_true_eq,Bool.not_eq_true']at hc;obtain⟨hnd,hbl⟩:=hc;split at h
  ·rename_i D hD;simp only[Option.some.injEq]at h;subst h;have hlen:H0.length≤s.H.length:=hl.len;have htl:(s.H.take H0.length).length=H0.length:=by simp;omega
   have hrl:(oS (qM bl bump H0 s.H) pu bump H0 s.H 0 (s.H.take H0.length)).length=H0.length:=by
    have:∀(l:List af) (b:Nat),(oS (qM bl bump H0 s.H) pu bump H0 s.H b l).length=l.length:=by
     intro l;induction l with
     |nil=>intro b;rfl
     |cons x xs ih=>intro b;simp[oS,ih]
    rw[this,htl]
   have side:∀(b':Nat) (x':af),(oS (qM bl bump H0 s.H) pu bump H0 s.H 0 (s.H.take H0.length)++bl.map (fun b=>jb (qM bl bump H0 s.H) (pu.contains b) (some 0) (s.H.getD b .dead)))[b']? =some x'→
    (b'<H0.length∧td H0 b'=true∧∃x,s.H[b']? =some x∧x'=jb (qM bl bump H0 s.H) (pu.contains b') ((nI bump H0 s.H b').map (·.1+1)) x)∨
    (b'<H0.length∧td H0 b'=false∧x'=.aV)∨
    (H0.length≤b'∧∃b x,bl[b' - H0.length]? =some b∧s.H[b]? =some x∧x'=jb (qM bl bump H0 s.H) (pu.contains b) (some 0) x):=by
    intro b' x' hx;by_cases hb:b'<H0.length
    ·grind [A3,td]
    ·grind
   have hpure:∀b x,s.H[b]? =some x→pu.contains b=true→qE x=true:=fun b x hx hc=>BB b (by simpa using hc) x hx
   have ok:MZ g (oh bl bump H0 s.H g) s.H (oS (qM bl bump H0 s.H) pu bump H0 s.H 0 (s.H.take H0.length)++bl.map (fun b=>jb (qM bl bump H0 s.H) (pu.contains b) (some 0) (s.H.getD b .dead))) (qM bl bump H0 s.H):=by
    refine⟨rfl,?_,?_,?_,?_⟩
    ·intro b v b' v' x hf hr;unfold qM at hf;split at hf
     ·grind [L9,oh]
     ·rename_i hlt;split at hf
      ·rename_i j hj;split at hf
       ·rename_i hv;simp only[Option.some.injEq,Prod.mk.injEq]at hf;obtain⟨rfl,rfl⟩:=hf;obtain⟨_,hj⟩:=uQ hj;have h1:decide (H0.length+j<H0.length)=false:=by simp
        simp only[oh,h1,Nat.add_sub_cancel_left];grind
       ·cases hf
      ·cases hf
    ·intro b' x' hx;rcases side b' x' hx with⟨hlt,hold,x,h1,rfl⟩ |⟨_,_,rfl⟩ |⟨hge,b,x,h1,h2,rfl⟩
     ·by_cases hlv:x.live=none
      ·grind [qF,af.live]
      ·right;obtain⟨v,hv⟩:=Option.ne_none_iff_exists'.1 hlv;have hlt':decide (b'<H0.length)=true:=by simpa using hlt
       cases hbu:nI bump H0 s.H b' with
       |none=>
        refine⟨b',x,v,v,h1,hv,?_,by simp only[qM,hold,hbu],by simp only[oh,hlt',hold,hbu],yN _ _ _ (hpure _ _ h1) hlv⟩
        grind [qF,af.live]
       |some p=>
        obtain⟨v0,v1⟩:=p;obtain⟨_,x1,q1,q2⟩:=tN hbu;rw[h1]at q1;cases q1;have:v=v1:=by rw[EP q2]at hv;cases hv;rfl
        subst this;refine⟨b',x,v,v0+1,h1,hv,?_,by simp only[qM,hold,hbu,if_true],?_,yN _ _ _ (hpure _ _ h1) hlv⟩
        ·grind [qF,af.tM]
        grind [oh]
     ·exact .inl rfl
     ·by_cases hlv:x.live=none
      ·grind [qF,af.live]
      ·right;obtain⟨v,hv⟩:=Option.ne_none_iff_exists'.1 hlv;have hbge:=(hbl b (List.mem_of_getElem? h1)).1;have hlt2:decide (b'<H0.length)=false:=by simp;omega
       refine⟨b,x,v,0,h2,hv,?_,?_,?_,yN _ _ _ (hpure _ _ h2) hlv⟩
       ·rw[qF];cases x<;>simp[af.live]at hv ⊢
       ·simp only[qM,hbge,A2 0 hnd h1,Nat.zero_add];grind
       grind [oh]
    ·intro b' v hb;rcases hb with hb |hb
     ·rcases side b' _ hb with⟨hlt,hold,x,h1,hx⟩ |⟨hlt,hold,_⟩ |⟨hge,b,x,h1,h2,hx⟩
      ·have hx':x=.aV:=by cases x<;>simp[jb]at hx;rfl
       subst hx';have hlt':decide (b'<H0.length)=true:=by simpa using hlt
       have hbu:nI bump H0 s.H b'=none:=by
        cases hbu:nI bump H0 s.H b' with
        |none=>rfl
        |some p=>
         grind [tN,af.tM]
       simp only[oh,hlt',hold,hbu];exact hs.inv.fresh b' v (.inl h1)
      ·grind [oh]
      ·have hx':x=.aV:=by cases x<;>simp[jb]at hx;rfl
       grind [oh,af.live]
     grind [oh]
    ·intro b' x' v v' hx hv hlt;rcases side b' x' hx with⟨hlb,hold,x,h1,rfl⟩ |⟨_,_,rfl⟩ |⟨hge,b,x,h1,h2,rfl⟩
     ·have hlt':decide (b'<H0.length)=true:=by simpa using hlb
      rw[qF]at hv;cases hbu:nI bump H0 s.H b' with
      |none=>
       simp only[oh,hlt',hold,hbu];rw[hbu]at hv;refine hs.inv.next b' x v v' h1 ?_ hlt;grind [af.live]
      |some p=>
       grind [tN,oh,af.tM]
     ·cases hv
     grind [oh]
   refine⟨oh bl bump H0 s.H g,⟨hs.inv.jE ok,tL (g:=g) (g':=oh bl bump H0 s.H g) (fun _ _ h=>h) ok.ai _ _ hs.tmps,?_⟩,?_⟩
   ·have key:∀(l l':List ta) (ds:List Deferred),Fl (qM bl bump H0 s.H) l=some l'→RD g w l ds→RD (oh bl bump H0 s.H g) w l' ds:=by
     intro l;induction l with
     |nil=>intro l' ds h hd;simp[Fl]at h;subst h;exact hd
     |cons d l ih=>
      intro l' ds h hd;obtain⟨d',ds',rfl,h1,h2⟩:=hd;cases d with
      |call f args=>
       simp only[Fl,Option.map_eq_some_iff]at h;obtain⟨l2,h,rfl⟩:=h;obtain⟨cap,t1,t2⟩:=h1;exact⟨d',ds',rfl,⟨cap,t1,tL (g:=g) (g':=oh bl bump H0 s.H g) (fun _ _ h=>h) ok.ai _ _ t2⟩,ih _ _ h h2⟩
      |mark b=>
       simp only[Fl]at h;split at h
       ·rename_i hb;obtain⟨l2,h0,rfl⟩:=Option.map_eq_some_iff.1 h;obtain⟨k,sz,t1,t2⟩:=h1;exact⟨d',ds',rfl,⟨k,sz,ok.ai _ _ _ _ _ hb t1,t2⟩,ih _ _ h0 h2⟩
       ·cases h
    exact key _ _ _ hD hs.defs
   ·refine⟨⟨?_,hl.ext.st,hl.ext.cell,hl.ext.shape⟩,hl.size,hl.keep,?_,by simp[hrl],hl.os,hl.tape,hl.output,fun k o hk hs=>?_,?_,?_⟩
    ·intro b v x hx;have hold:td H0 b=true:=by
      cases ho:td H0 b with
      |true=>rfl
      |false=>rw[hi0.fresh b v (F4 ho)]at hx;cases hx
     have hlt':decide (b<H0.length)=true:=by simpa using L9 hold
     cases hbu:nI bump H0 s.H b with
     |none=>simp only[oh,hlt',hold,hbu];exact hl.ext.ai b v x hx
     |some p=>
      obtain⟨v0,v1⟩:=p;obtain⟨⟨x0,q1,q2⟩,_⟩:=tN hbu;simp only[oh,hlt',hold,hbu];have:v≤v0:=by
       apply Decidable.byContradiction;intro hn;rw[hi0.next b x0 v0 v q1 (EP q2) (by omega)]at hx;cases hx
      rw[if_pos this];exact hl.ext.ai b v x hx
    ·rintro k hk ⟨b',x',v',z,h1,h2,h3⟩;rcases ok.blk b' x' h1 with hn |⟨b,x,v,v2,p1,p2,p3,p4,p5,p6⟩
     ·rw[h2]at hn;cases hn
     ·rw[h2]at p3;cases p3;rw[p5]at h3;exact hl.own k hk ⟨b,x,v,z,p1,p2,h3⟩
    ·rcases hl.stk k o hk hs with h1 |⟨h1,h2⟩
     ·exact .inl h1
     ·refine .inr ⟨h1,?_⟩;rintro⟨b',x',v',z,q1,q2,q3⟩;rcases ok.blk b' x' q1 with hn |⟨b,x,v,v2,p1,p2,p3,p4,p5,p6⟩
      ·rw[q2]at hn;cases hn
      ·rw[q2]at p3;cases p3;rw[p5]at q3;exact h2 ⟨b,x,v,z,p1,p2,q3⟩
    ·intro b hb;have hlt:b<H0.length:=(List.getElem?_eq_some_iff.1 hb).1;have hlt':decide (b<H0.length)=true:=by simpa using hlt
     obtain⟨d1,d2⟩:=hl.tZ b hb;have hbu:nI bump H0 s.H b=none:=by
      cases hbu:nI bump H0 s.H b with
      |none=>rfl
      |some p=>
       grind [tN,af.tM]
     have hold:td H0 b=true:=by simp[td,hb]
     refine⟨?_,fun ak=>by grind [oh]⟩
     rw[List.getElem?_append_left (by omega),A3,Nat.zero_add,List.getElem?_take,if_pos hlt,d1]
     simp only[Option.map_some,hold];rfl
    ·intro b' v' k z hr;simp only[oh]at hr;split at hr
     ·split at hr
      ·split at hr
       ·split at hr
        ·exact hl.s9 b' _ k z hr
        ·split at hr
         ·exact hl.s9 b' _ k z hr
         ·cases hr
       ·exact hl.s9 b' _ k z hr
      ·cases hr
     ·split at hr
      ·rename_i c hcb;split at hr
       ·split at hr
        ·rcases hl.s9 c _ k z hr with⟨u,z',hu⟩ |hn
         ·have:=(hbl c (List.mem_of_getElem? hcb)).1;rw[hi0.fresh c u (F4 this)]at hu;cases hu
         ·exact .inr hn
        ·cases hr
       ·cases hr
      ·cases hr
  ·cases h
 ·cases h
def OG:AVal→AVal
 | .sc (.slice none 0 0)=>.aB []
 | .emp=>.aB []
 | .nz _=>.aB []
 |v=>v
mutual
def jx:AVal→AVal
 | .sc v=>OG (.sc v)
 | .emp=>.aB []
 | .nz _=>.aB []
 | .agg cs=>.agg (nJ cs)
 | .ct cs=>.ct (nJ cs)
 | .fn f a b=>.fn f (nJ a) (nJ b)
 | .fQ t v=>.fQ t v
 | .bU cs o=>.bU (nJ cs) o
 |v=>v
def nJ:List AVal→List AVal
 | []=>[]
 |a::as=>jx a::nJ as
end
section
variable [aF] {g:Gh} {w:World}
theorem Jf{v:AVal}{x:Value}(h:R g w v x):R g w (OG v) x:=by
 unfold OG;grind [gx,R]
mutual
theorem Qn:∀(v:AVal),v.pure=true→(jx v).pure=true
 | .sc v,h=>by
  simp only[jx,OG];split<;>simp_all [AVal.pure]
 | .emp,_=>by simp[jx,AVal.pure]
 | .nz _,_=>by simp[jx,AVal.pure]
 | .agg cs,h=>by simp only[AVal.pure]at h;simp only[jx,AVal.pure,uu cs h]
 | .ct cs,h=>by simp only[AVal.pure]at h;simp only[jx,AVal.pure,uu cs h]
 | .fn f a b,h=>by simp only[AVal.pure,Bool.and_eq_true]at h;simp only[jx,AVal.pure,uu a h.1,uu b h.2,Bool.and_self]
 | .fQ t v,h=>by simpa only[jx]using h
 | .bU cs o,_=>by simp[jx,AVal.pure]
 | .ptr ..,h=>by simpa only[jx]using h
 | .sl ..,h=>by simpa only[jx]using h
 | .aB _,h=>by simpa only[jx]using h
 | .mp _,h=>by simpa only[jx]using h
 | .jv _,h=>by simpa only[jx]using h
 | .sa ..,h=>by simpa only[jx]using h
 | .gN ..,h=>by simpa only[jx]using h
 | .aq,h=>by simpa only[jx]using h
theorem uu:∀(l:List AVal),AVal.aS l=true→AVal.aS (nJ l)=true
 | [],_=>rfl
 |a::as,h=>by simp only[AVal.aS,Bool.and_eq_true]at h;simp only[nJ,AVal.aS,Qn a h.1,uu as h.2,Bool.and_self]
end
mutual
theorem Ed:∀(v:AVal) (x:Value),R g w v x→R g w (jx v) x
 | .sc v,x,h=>by simp only[jx];exact Jf h
 | .emp,x,h=>by simp only[jx];exact Jf (v:=.emp) h
 | .nz b,x,h=>by simp only[jx];exact Jf (v:=.nz b) h
 | .agg cs,x,h=>by
  simp only[jx,R]at h ⊢;obtain⟨vs,e,h1,hl⟩:=h;exact⟨vs,e,h1,xM cs vs hl⟩
 | .ct cs,x,h=>by
  simp only[jx,R]at h ⊢;obtain⟨vs,e,hl⟩:=h;exact⟨vs,e,xM cs vs hl⟩
 | .fn f a b,x,h=>by
  simp only[jx,R]at h ⊢;obtain⟨va,vb,e,h1,h2⟩:=h;exact⟨va,vb,e,xM a va h1,xM b vb h2⟩
 | .fQ t v,x,h=>by simpa only[jx]using h
 | .bU cs o,x,h=>by
  simp only[jx,R]at h ⊢;obtain⟨k,off,e,hp,hc⟩:=h;exact⟨k,off,e,uu cs hp,JT cs k off hc⟩
 | .ptr ..,x,h=>by simpa only[jx]using h
 | .sl ..,x,h=>by simpa only[jx]using h
 | .aB _,x,h=>by simpa only[jx]using h
 | .mp _,x,h=>by simpa only[jx]using h
 | .jv _,x,h=>by simpa only[jx]using h
 | .sa ..,x,h=>by simpa only[jx]using h
 | .gN ..,x,h=>by simpa only[jx]using h
 | .aq,x,h=>by simpa only[jx]using h
theorem xM:∀(l:List AVal) (vs:List Value),RL g w l vs→RL g w (nJ l) vs
 | [],vs,h=>by simpa only[nJ]using h
 |a::as,vs,h=>by
  simp only[nJ,RL]at h ⊢;obtain⟨y,ys,e,h1,h2⟩:=h;exact⟨y,ys,e,Ed a y h1,xM as ys h2⟩
theorem JT:∀(l:List AVal) (k o:Nat),RC g w l k o→RC g w (nJ l) k o
 | [],k,o,h=>by simpa only[nJ]using h
 |a::as,k,o,h=>by
  simp only[nJ,RC]at h ⊢;obtain⟨⟨hs,y,hy,ho,hr⟩,h2⟩:=h;exact⟨⟨hs,y,hy,ho,Ed a y hr⟩,JT as k (o+1) h2⟩
end
theorem Ma{A:List AVal}{vs:List Value}{d:Nat}{v v':AVal}(h:RL g w A vs)(hd:A[d]? =some v)(hv:∀x,R g w v x→R g w v' x):RL g w (A.set d v') vs:=by
 grind [dJ,u6]
theorem Inv.OH{H:List af}(hi:Inv g H w){b ak sz i j:Nat}{rows:List (List AVal)}{cs:List AVal}{v v':AVal}(hb:H[b]? =some (.row ak sz rows))(hcs:rows[i]? =some cs)(hj:cs[j]? =some v)(hv:∀x,R g w v x→R g w v' x):
 Inv g (H.set b (.row ak sz (rows.set i (cs.set j v')))) w∧aQ g H w g (H.set b (.row ak sz (rows.set i (cs.set j v')))) w:=by
 have hlt:b<H.length:=(List.getElem?_eq_some_iff.1 hb).1;have f:∀(b':Nat) (x':af) (v1:Nat),(H.set b (.row ak sz (rows.set i (cs.set j v'))))[b']? =some x'→x'.live=some v1→∃x1,H[b']? =some x1∧x1.live=some v1:=by
  intro b' x' v1 h hl;rcases bP h with⟨rfl,he,_⟩ |⟨_,h⟩
  ·subst he;exact⟨_,hb,hl⟩
  ·exact⟨x',h,hl⟩
 refine⟨⟨?_,?_,?_,?_,?_,hi.eU,hi.dc⟩,⟨Ext.refl g w,Nat.le_refl _,fun _ _ _=>rfl,?_,by simp,rfl,⟨rfl,Nat.le_refl _⟩,rfl,fun _ _ _ h=>.inl h,?_,fun _ ak _ z h=>.inl ⟨ak,z,h⟩⟩⟩
 ·intro b' x h;rcases bP h with⟨rfl,he,_⟩ |⟨hne,h⟩
  ·subst he;rcases hi.good _ _ hb with⟨k,c,e,h1,h2,h3,h4,h5⟩ |⟨h1,_⟩
   ·refine .inl ⟨k,c,e,h1,h2,iT _ _ fun i' r hi'=>?_,by simpa using h4,h5⟩
    by_cases hii:i=i'
    ·subst hii;have hil:i<rows.length:=(List.getElem?_eq_some_iff.1 hcs).1;rw[List.getElem?_set_self hil]at hi';cases hi';obtain⟨r1,r2⟩:=cH _ _ _ _ h3 hcs;obtain⟨vs,v1,v2,v3,v4⟩:=fD r2;exact⟨by simpa using r1,ej (Ma v3 hj hv) v2 v4⟩
    ·rw[List.getElem?_set_ne hii]at hi';exact cH _ _ _ _ h3 hi'
   ·subst h1;simp at hcs
  ·exact hi.good b' x h
 ·intro b1 b2 x1 x2 v1 v2 k z1 z2 h1 h2 l1 l2 k1 k2;obtain⟨y1,p1,p2⟩:=f _ _ _ h1 l1;obtain⟨y2,q1,q2⟩:=f _ _ _ h2 l2;exact hi.inj b1 b2 y1 y2 v1 v2 k z1 z2 p1 q1 p2 q2 k1 k2
 ·intro b' v h;rcases h with h |h
  ·rcases bP h with⟨rfl,he,_⟩ |⟨_,h⟩
   ·cases he
   ·exact hi.fresh b' v (.inl h)
  ·exact hi.fresh b' v (.inr (by simpa using h))
 ·intro b' x v v' h hl hv;obtain⟨y1,p1,p2⟩:=f _ _ _ h hl;exact hi.next b' y1 v v' p1 p2 hv
 ·intro b' x v k z o h hl hk;obtain⟨y1,p1,p2⟩:=f _ _ _ h hl;exact hi.free b' y1 v k z o p1 p2 hk
 ·rintro k _ ⟨b',x,v,z,h,hl,hz⟩;obtain⟨y1,p1,p2⟩:=f _ _ _ h hl;exact⟨b',y1,v,z,p1,p2,hz⟩
 grind
end
inductive Pl where
 |s (d:Nat)
 |c (d j:Nat)
 |b (b j:Nat)
def uv(s:St):Pl→Option AVal
 | .s d=>s.A[d]?
 | .c d j=>match s.A[d]? with
  |some (.ptr b ak i o)=>match s.H[b]? with
   |some (.row v _ rows)=>match decide (v=ak)with
    |true=>(rows[i]?).bind fun cs=>cs[o+j]?
    |false=>none
   |_=>none
  |_=>none
 | .b b j=>match s.H[b]? with
  |some (.row _ _ rows)=>(rows[0]?).bind fun cs=>cs[j]?
  |_=>none
def Cd(s:St)(v':AVal):Pl→St
 | .s d=>{s with A:=s.A.set d v'}
 | .c d j=>match s.A[d]? with
  |some (.ptr b _ i o)=>match s.H[b]? with
   |some (.row v sz rows)=>{s with H:=s.H.set b (.row v sz (rows.set i ((rows.getD i []).set (o+j) v')))}
   |_=>s
  |_=>s
 | .b b j=>match s.H[b]? with
  |some (.row v sz rows)=>{s with H:=s.H.set b (.row v sz (rows.set 0 ((rows.getD 0 []).set j v')))}
  |_=>s
theorem yO[aF]{s:St}{p:Pl}{v v':AVal}(hp:uv s p=some v){g:Gh}{a:Act}{w:World}(hs:eT g s a w)(hv:∀x,R g w v x→R g w v' x):eT g (Cd s v' p) a w∧aQ g s.H w g (Cd s v' p).H w:=by
 cases p with
 |s d=>exact⟨⟨hs.inv,Ma hs.tmps hp hv,hs.defs⟩,aQ.refl _ _ _⟩
 |c d j=>
  simp only[uv]at hp;split at hp
  ·rename_i b ak i o hd;split at hp
   ·rename_i v0 sz rows hb;split at hp
    ·obtain⟨cs,h1,h2⟩:=Option.bind_eq_some_iff.1 hp;obtain⟨i1,i2⟩:=hs.inv.OH hb h1 h2 hv;have hgd:rows.getD i []=cs:=by rw[List.getD_eq_getElem?_getD,h1];rfl
     simp only[Cd,hd,hb,hgd];exact⟨⟨i1,bM i2.ext _ _ hs.tmps,eo i2.ext _ _ hs.defs⟩,i2⟩
    ·cases hp
   ·cases hp
  ·cases hp
 |b b j=>
  simp only[uv]at hp;split at hp
  ·rename_i v0 sz rows hb;obtain⟨cs,h1,h2⟩:=Option.bind_eq_some_iff.1 hp;obtain⟨i1,i2⟩:=hs.inv.OH hb h1 h2 hv;have hgd:rows.getD 0 []=cs:=by rw[List.getD_eq_getElem?_getD,h1];rfl
   simp only[Cd,hb,hgd];exact⟨⟨i1,bM i2.ext _ _ hs.tmps,eo i2.ext _ _ hs.defs⟩,i2⟩
  ·cases hp
def SV(s:St)(p:Pl):Option St:=match uv s p with
 |some v=>some (Cd s (OG v) p)
 |none=>none
theorem Qo[aF]{H0:List af}{s s':St}{p:Pl}(h:SV s p=some s'):iF H0 s s':=by
 unfold SV at h;split at h
 ·rename_i v hv;simp only[Option.some.injEq]at h;subst h;intro g0 w0 g a w _ hl hs;obtain⟨h1,h2⟩:=yO hv hs fun _=>Jf
  exact⟨g,h1,hl.trans h2⟩
 ·cases h
def Qp(s:St)(p:Pl)(sz:Nat):Option St:=match uv s p,decide (0<sz)with
 |some (.sc (.slice none 0 0)),true=>some (Cd {s with H:=s.H++[.row 0 sz []]} (.sl s.H.length 0 sz 0 0) p)
 |some _,_=>some s
 |none,_=>none
theorem OI[aF]{H0:List af}{s s':St}{p:Pl}{sz:Nat}(h:Qp s p sz=some s'):iF H0 s s':=by
 unfold Qp at h;split at h
 ·rename_i hv hz;simp only[Option.some.injEq]at h;subst h;intro g0 w0 g a w _ hl hs;obtain⟨i1,i2⟩:=hs.inv.Uu (sz:=sz) (by simpa using hz)
  have hs1:eT g {s with H:=s.H++[.row 0 sz []]} a w:=⟨i1,bM i2.ext _ _ hs.tmps,eo i2.ext _ _ hs.defs⟩;have hv1:uv {s with H:=s.H++[.row 0 sz []]} p=some (.sc (.slice none 0 0)):=by
   cases p with
   |s d=>exact hv
   |c d j=>
    grind [uv]
   |b b j=>
    grind [uv]
  obtain⟨h1,h2⟩:=yO hv1 hs1 (v':=.sl s.H.length 0 sz 0 0) fun x hx=>by
   have:=gx hx;subst this;simp[R]
  exact⟨g,h1,(hl.trans i2).trans h2⟩
 ·grind [iF.refl]
 ·cases h
set_option linter.unusedVariables false in
theorem Qq[aF]{g:Gh}{H:List af}{w:World}{g0:Gh}{H0:List af}{w0:World}(hi0:Inv g0 H0 w0)(hi:Inv g H w)(hl:aQ g0 H0 w0 g H w){b ak sz:Nat}{rows:List (List AVal)}(hb:H[b]? =some (.row ak sz rows)):
 Inv {ai:=g.ai,st:=fun k o=>g.st k o∨∃z,g.ai b ak=some (k,z)} (H.set b .dead) w∧aQ g0 H0 w0 {ai:=g.ai,st:=fun k o=>g.st k o∨∃z,g.ai b ak=some (k,z)} (H.set b .dead) w∧
 Ext g w {ai:=g.ai,st:=fun k o=>g.st k o∨∃z,g.ai b ak=some (k,z)} w:=by
 have hext:Ext g w {ai:=g.ai,st:=fun k o=>g.st k o∨∃z,g.ai b ak=some (k,z)} w:=⟨fun _ _ _ h=>h,fun _ _ h=>.inl h,fun _ _ _=>rfl,fun _ _ h=>h⟩
 have f:∀(b':Nat) (x':af),(H.set b af.dead)[b']? =some x'→x'=.dead∨(b'≠b∧H[b']? =some x'):=by
  intro b' x' h;rcases bP h with⟨rfl,he,_⟩ |⟨h1,h⟩
  ·exact .inl he
  ·exact .inr ⟨h1,h⟩
 refine⟨⟨?_,?_,?_,?_,?_,?_,hi.dc.mono hext⟩,⟨⟨hl.ext.ai,fun k o h=>.inl (hl.ext.st k o h),hl.ext.cell,hl.ext.shape⟩,hl.size,hl.keep,?_,by simpa using hl.len,hl.os,hl.tape,hl.output,?_,?_,hl.s9⟩,hext⟩
 ·intro b' x' h;rcases f _ _ h with rfl |⟨hne,h⟩
  ·trivial
  ·exact ku hext (hi.good b' x' h) (fun _ _ _ _ _=>rfl) fun _ _ h=>h
 ·intro b1 b2 x1 x2 v1 v2 k z1 z2 h1 h2 l1 l2;rcases f _ _ h1 with rfl |⟨_,h1⟩
  ·cases l1
  ·rcases f _ _ h2 with rfl |⟨_,h2⟩
   ·cases l2
   ·exact hi.inj b1 b2 x1 x2 v1 v2 k z1 z2 h1 h2 l1 l2
 ·grind [hi.fresh]
 ·intro b' x' v v' h hlv;rcases f _ _ h with rfl |⟨_,h⟩
  ·cases hlv
  ·exact hi.next b' x' v v' h hlv
 ·intro b' x' v k z o h hlv hk hs;rcases f _ _ h with rfl |⟨hne,h⟩
  ·cases hlv
  ·rcases hs with hs |⟨z',hz⟩
   ·exact hi.free b' x' v k z o h hlv hk hs
   ·exact hne (hi.inj b' b x' _ v ak k z z' h hb hlv rfl hk hz)
 ·intro k o hs;rcases hs with hs |⟨z,hz⟩
  ·exact hi.eU k o hs
  ·exact hi.qY hb rfl hz
 ·rintro k hk ⟨b',x',v,z,h,hlv,hz⟩;rcases f _ _ h with rfl |⟨_,h⟩
  ·cases hlv
  ·exact hl.own k hk ⟨b',x',v,z,h,hlv,hz⟩
 ·rintro k o hk (hs |⟨z,hz⟩)
  ·rcases hl.stk k o hk hs with h1 |⟨h1,h2⟩
   ·exact .inl h1
   ·refine .inr ⟨h1,?_⟩;rintro⟨b',x',v,z,h,hlv,hz⟩;rcases f _ _ h with rfl |⟨_,h⟩
    ·cases hlv
    ·exact h2 ⟨b',x',v,z,h,hlv,hz⟩
  ·refine .inr ⟨hl.own k hk ⟨b,_,ak,z,hb,rfl,hz⟩,?_⟩;rintro⟨b',x',v,z',h,hlv,hz'⟩;rcases f _ _ h with rfl |⟨hne,h⟩
   ·cases hlv
   ·exact hne (hi.inj b' b x' _ v ak k z' z h hb hlv rfl hz' hz)
 ·intro b1 hb1;obtain⟨d1,d2⟩:=hl.tZ b1 hb1;grind
def Qr(_H0:List af)(s:St)(p:Pl)(rows:List (List AVal)):Option St:=match uv s p with
 |some (.sl b ak sz 0 _)=>match s.H[b]? with
  |some (.row ver' sz' _)=>match decide (ver'=ak∧sz'=sz)with
   |true=>some (Cd {s with H:=s.H.set b .dead} (.aB rows) p)
   |false=>none
  |_=>none
 |_=>none
def TV(s:St)(p:Pl)(rows:List (List AVal)):Prop:=∃b ak sz,uv s p=some (.sl b ak sz 0 rows.length)∧s.H[b]? =some (.row ak sz rows)∧rows.all AVal.aS=true
theorem OJ[aF]{H0:List af}{s s':St}{p:Pl}{rows:List (List AVal)}(hok:TV s p rows)(h:Qr H0 s p rows=some s'):iF H0 s s':=by
 obtain⟨b,ak,sz,h1,h2,h3⟩:=hok;unfold Qr at h;rw[h1]at h;simp only at h;split at h
 ·rename_i ver' sz' rows' hb;rw[h2]at hb;simp only[Option.some.injEq,af.row.injEq]at hb;obtain⟨rfl,rfl,rfl⟩:=hb;split at h
  ·simp only[Option.some.injEq]at h;subst h;intro g0 w0 g a w hi0 hl hs;obtain⟨i1,i2,i3⟩:=Qq hi0 hs.inv hl h2;have hs1:eT {ai:=g.ai,st:=fun k o=>g.st k o∨∃z,g.ai b ak=some (k,z)} {s with H:=s.H.set b .dead} a w:=⟨i1,bM i3 _ _ hs.tmps,eo i3 _ _ hs.defs⟩
   have key0:∀(l:List AVal) (j:Nat) (y:AVal),AVal.aS l=true→l[j]? =some y→y.pure=true:=by
    intro l;induction l with
    |nil=>intro j y _ h;simp at h
    |cons c cs ih3=>
     grind [AVal.aS]
   have hgp:uv {s with H:=s.H.set b .dead} p=some (.sl b ak sz 0 rows.length):=by
    cases p with
    |s d=>exact h1
    |c d j=>
     simp only[uv]at h1 ⊢;split at h1
     ·grind [af.row.injEq,AVal.pure]
     ·cases h1
    |b b2 j=>
     grind [uv,af.row.injEq,AVal.pure]
   obtain⟨q1,q2⟩:=yO hgp hs1 (v':=.aB rows) fun x hx=>by
    simp only[R]at hx ⊢;rcases hx with⟨hn,rfl⟩ |⟨k,cap,e',sz2,hk,rfl,hsh,hcs,hm,hmax⟩
    ·simp_all
    ·obtain⟨k',c,e,r1,r2,r3,r4,r5,r6⟩:=hs.inv.row b ak _ _ h2 hk;rw[hk]at r1;simp at r1;subst r1;refine⟨_,cap,rfl,by omega,.inr ⟨k,0*sz,sz,rfl,B7 fun i r hr=>?_⟩⟩
     obtain⟨t1,t2⟩:=cH _ _ _ _ r3 hr;grind [yL,kV,oJ,iC]
   exact⟨_,q1,i2.trans q2⟩
  ·cases h
 ·cases h
end Go.AM
end
section
namespace Go.AM
def jl(n:Nat):List AVal:=List.replicate n .aq
def ap(a b:List AVal):List AVal:=a++b
section
variable [aF] {P:Program} {cfg:fE} {g:Gh} {H:List af} {w:World} {fro:Option Nat}
def fu(P:Program)(fro:Option Nat)(g0:Gh)(H0:List af)(w0:World)[aF](c:Code)(s:St)(Φ:bh→St→Prop):Prop:=
 ∀(Q:Exit→Act→World→Prop) (g:Gh) (a:Act) (w:World),eT g s a w→aQ g0 H0 w0 g s.H w→(∀o s',Φ o s'→fq Q g0 H0 w0 s' o)→c.wpIn (Fr fro) 0 P Q a w
variable {g0:Gh} {H0:List af} {w0:World}
theorem fu.mono{c:Code}{s:St}{Φ Ψ:bh→St→Prop}(h:fu P fro g0 H0 w0 c s Φ)(hp:∀o s',Φ o s'→Ψ o s'):fu P fro g0 H0 w0 c s Ψ:=
 fun Q g a w hs hl hk=>h Q g a w hs hl fun o s' hf=>hk o s' (hp o s' hf)
theorem fu.skip{s:St}{Φ:bh→St→Prop}(h:Φ .normal s):fu P fro g0 H0 w0 .skip s Φ:=
 fun _ g a w hs hl hp=>wpIn_skip (hp _ _ h g a w hs hl)
theorem fu.exit{s:St}{Φ:bh→St→Prop}{id:Nat}(h:Φ (.exit id) s):fu P fro g0 H0 w0 (.exit id) s Φ:=
 fun _ g a w hs hl hp=>wpIn_exit (hp _ _ h g a w hs hl)
theorem fu.ret{s:St}{Φ:bh→St→Prop}(h:Φ .ret s):fu P fro g0 H0 w0 .ret s Φ:=
 fun _ g a w hs hl hp=>wpIn_ret (hp _ _ h g a w hs hl)
def Ee:eG→bh×St
 | .ok s=>(.normal,s)
 | .aW v s=>(.aW v,s)
theorem fu.region(hm:P.follows .mixedOrders=true){orcs:Nat→jU}(ho:∀k,gL P (orcs k)){id:Nat}{ops:Array Oper}{draw:Bool}{s:St}{r:eG}{Φ:bh→St→Prop}(hcalm:∀(k:Nat) (o:Oper),ops[k]? =some o→Calm fro o)
 (h:uP P cfg orcs ops draw s=some r) (hr:Φ (Ee r).1 (Ee r).2):fu P fro g0 H0 w0 (.region id ops draw) s Φ:=by
 intro Q g a w hs hl hp;cases r with
 |ok s'=>exact vm hm ho hcalm h hs (qD.later (r:=.ok s') (hp _ _ hr) hl)
 |aW v s'=>exact vm hm ho hcalm h hs (qD.later (r:=.aW v s') (hp _ _ hr) hl)
theorem fu.seq{a b:Code}{s:St}{Φ:bh→St→Prop}(h:fu P fro g0 H0 w0 a s fun o s'=>match o with | .normal=>fu P fro g0 H0 w0 b s' Φ |o=>Φ o s'):fu P fro g0 H0 w0 (.seq a b) s Φ:=by
 intro Q g x w hs hl hp;refine wpIn_seq (h _ g x w hs hl fun o s' hf=>?_)
 cases o with
 |normal=>exact fun g' a' w' hs' hla=>hf Q g' a' w' hs' hla hp
 |exit id=>exact hp _ _ hf
 |ret=>exact hp _ _ hf
 |aW v=>exact hp _ _ hf
theorem fu.cond{c:Operand}{a b:Code}{s:St}{Φ:bh→St→Prop}(z:Bool)(hc:cK s.A c=.sc (.bool z))(h:fu P fro g0 H0 w0 (if z then a else b) s Φ):fu P fro g0 H0 w0 (.cond c a b) s Φ:=by
 intro Q g x w hs hl hp;have hev:=hs.eval c;rw[hc]at hev;simp only[R]at hev;cases z with
 |true=>exact wpIn_cond_true hev (h Q g x w hs hl hp)
 |false=>exact wpIn_cond_false hev (h Q g x w hs hl hp)
def behind(id:Nat):bh→bh
 | .exit id'=>if id'=id then .normal else .exit id'
 |o=>o
theorem fu.block{id:Nat}{b:Code}{s:St}{Φ:bh→St→Prop}(h:fu P fro g0 H0 w0 b s fun o s'=>Φ (behind id o) s'):fu P fro g0 H0 w0 (.block id b) s Φ:=by
 intro Q g x w hs hl hp;refine wpIn_block (h _ g x w hs hl fun o s' hf=>?_)
 cases o with
 |normal=>exact fun g' a' w' hs' hla=>hp _ _ hf g' a' w' hs' hla
 |exit id'=>
  intro g' a' w' hs' hla;by_cases he:id'=id
  ·simp only[behind,he,if_true]at hf;simp only[Exit.inBlock,he,if_true];exact hp _ _ hf g' a' w' hs' hla
  ·simp only[behind,he,if_false]at hf;simp only[Exit.inBlock,he,if_false];exact hp _ _ hf g' a' w' hs' hla
 |ret=>exact fun g' a' w' hs' hla=>hp _ _ hf g' a' w' hs' hla
 |aW v=>exact fun g' a' w' x hv hs' hla hr=>hp _ _ hf g' a' w' x hv hs' hla hr
theorem fq.weak{Q:Exit→Act→World→Prop}{g0:Gh}{H0:List af}{w0:World}(hi0:Inv g0 H0 w0){s' s'':St}{o:bh}(hw:iF H0 s' s'')(h:fq Q g0 H0 w0 s'' o):fq Q g0 H0 w0 s' o:=by
 cases o with
 |normal=>exact fun g' a' w' hs hl'=>let⟨g2,h1,h2⟩:=hw g0 w0 g' a' w' hi0 hl' hs;h g2 a' w' h1 h2
 |exit id=>exact fun g' a' w' hs hl'=>let⟨g2,h1,h2⟩:=hw g0 w0 g' a' w' hi0 hl' hs;h g2 a' w' h1 h2
 |ret=>exact fun g' a' w' hs hl'=>let⟨g2,h1,h2⟩:=hw g0 w0 g' a' w' hi0 hl' hs;h g2 a' w' h1 h2
 |aW v=>exact fun g' a' w' x hv hs hl' hr=>let⟨g2,h1,h2⟩:=hw g0 w0 g' a' w' hi0 hl' hs;h g2 a' w' x hv h1 h2 (kN _ _ hv hr)
theorem fu.weak(hi0:Inv g0 H0 w0){c:Code}{s s1:St}{Φ:bh→St→Prop}(hw:iF H0 s s1)(h:fu P fro g0 H0 w0 c s1 Φ):fu P fro g0 H0 w0 c s Φ:=by
 intro Q g a w hs hl hp;obtain⟨g2,h1,h2⟩:=hw g0 w0 g a w hi0 hl hs;exact h Q g2 a w h1 h2 hp
theorem fu.loop(hi0:Inv g0 H0 w0){b:Code}{s s0:St}{n:Nat}{Φ:bh→St→Prop}(J:Nat→St→Prop)(h0:∀s,¬J 0 s)(hs0:iF H0 s s0)(hJ:J n s0)
 (hb:∀n s1,J (n+1) s1→fu P fro g0 H0 w0 b s1 fun o s2=>∃s3,iF H0 s2 s3∧match o with | .normal=>J n s3 |o=>Φ o s3):fu P fro g0 H0 w0 (.loop b) s Φ:=by
 intro Q gs a0 ws hs hl hp;have key:∀(n:Nat) (s1:St) (g:Gh) (a:Act) (w:World),J n s1→eT g s1 a w→aQ g0 H0 w0 g s1.H w→
  ∀(fr:Frame) (k:List Item) (cs:List Frame),fr.roundOf=(Fr fro).round→∃e a' w',Q e a' w'∧ArrivesIn (Machine.fenced P (Fr fro)) P (lone (fr.atR a (.code b:: .inLoop b::k)) cs w) fr k cs e a' w':=by
  intro n;induction n with
  |zero=>grind
  |succ n ih=>
   intro s1 g a w hj hsim hla fr k cs hfr;have hstep:b.wpIn (Fr fro) 0 P (Exit.then (fun a' w'=>∀(fr:Frame) (k:List Item) (cs:List Frame),fr.roundOf=(Fr fro).round→∃e a2 w2,Q e a2 w2∧ArrivesIn (Machine.fenced P (Fr fro)) P (lone (fr.atR a' (.code b:: .inLoop b::k)) cs w') fr k cs e a2 w2) Q) a w:=by
    refine hb n s1 hj _ g a w hsim hla fun o s2 ⟨s3,hw,hf⟩=>?_
    cases o with
    |normal=>
     intro g' a' w' hs' hla';obtain⟨g2,h1,h2⟩:=hw g0 w0 g' a' w' hi0 hla' hs';exact ih s3 g2 a' w' hf h1 h2
    |exit id=>exact fq.weak hi0 (o:=.exit id) hw (hp _ _ hf)
    |ret=>exact fq.weak hi0 (o:=.ret) hw (hp _ _ hf)
    |aW v=>exact fq.weak hi0 (o:=.aW v) hw (hp _ _ hf)
   obtain⟨e,a₁,w₁,hq,harr⟩:=hstep fr (.inLoop b::k) cs hfr trivial (Ec _ _);cases e with
   |normal=>
    obtain⟨e₂,a₂,w₂,hq₂,harr₂⟩:=hq fr k cs hfr;exact⟨e₂,a₂,w₂,hq₂,.of_steps (StepsIn.trans harr (.one (fenced_calm (n:=0) trivial (Ec _ _) rfl) stepR_inLoop)) harr₂⟩
   |exit id=>exact⟨_,a₁,w₁,hq,.pass (x:=.inLoop b) rfl (fun _ _=>.inl (by simp)) harr⟩
   |goto l=>exact⟨_,a₁,w₁,hq,.pass (x:=.inLoop b) rfl (fun _ _=>.inl (by simp)) harr⟩
   |ret=>exact⟨_,a₁,w₁,hq,.pass (x:=.inLoop b) rfl (fun _ _=>.inl (by simp)) harr⟩
   |panic ch=>exact⟨_,a₁,w₁,hq,.pass (x:=.inLoop b) rfl (fun _ _=>.inl (by simp)) harr⟩
   |outgrown=>exact⟨_,a₁,w₁,hq,.pass (x:=.inLoop b) rfl (fun _ _=>.inl (by simp)) harr⟩
 obtain⟨g1,h1,h2⟩:=hs0 g0 w0 gs a0 ws hi0 hl hs;intro fr k cs hfr _ hroom;obtain⟨e,a',w',hq,harr⟩:=key n s0 g1 a0 ws hJ h1 h2 fr k cs hfr;exact⟨e,a',w',hq,.of_steps (.one (fenced_calm trivial hroom rfl) stepR_loop) harr⟩
end
inductive Sh:Type 1 where
 |one (τ:Type)
 |two (a b:Sh)
def Sh.El:Sh→Type
 | .one τ=>τ
 | .two a b=>a.El⊕b.El
def Sh.all:(s:Sh)→(s.El→Prop)→Prop
 | .one _,p=>∀x,p x
 | .two a b,p=>a.all (fun x=>p (.inl x))∧b.all (fun x=>p (.inr x))
theorem Sh.bX:∀(s:Sh) (p:s.El→Prop),s.all p↔∀x,p x
 | .one _,p=>Iff.rfl
 | .two a b,p=>by
  simp only[Sh.all,Sh.bX a,Sh.bX b];exact⟨fun h x=>match x with | .inl y=>h.1 y | .inr y=>h.2 y,fun h=>⟨fun y=>h (.inl y),fun y=>h (.inr y)⟩⟩
namespace AVal
mutual
def yF(b v:Nat):AVal→AVal
 | .sc x=>.sc x
 | .agg cs=>.agg (vo b v cs)
 | .ct cs=>.ct (vo b v cs)
 | .ptr _ _ i o=>.ptr b v i o
 | .bU cs o=>.bU cs o
 | .sl _ _ sz o n=>.sl b v sz o n
 | .aB rows=>.aB rows
 | .fn f c d=>.fn f (vo b v c) (vo b v d)
 | .fQ t a=>.fQ t (yF b v a)
 | .mp x=>.mp x
 | .jv x=>.jv x
 | .sa _ _ i o s n=>.sa b v i o s n
 | .gN i o=>.gN i o
 | .emp=>.emp
 | .nz x=>.nz x
 | .aq=>.aq
def vo(b v:Nat):List AVal→List AVal
 | []=>[]
 |a::as=>yF b v a::vo b v as
end
mutual
def ue:AVal→Bool
 | .sc _=>true
 | .agg cs=>mU cs
 | .ct cs=>mU cs
 | .ptr b v .. =>b==0&&v==0
 | .bU .. =>true
 | .sl b v .. =>b==0&&v==0
 | .aB _=>true
 | .fn _ c d=>mU c&&mU d
 | .fQ _ a=>ue a
 | .mp _=>false
 | .jv _=>false
 | .sa b v .. =>b==0&&v==0
 | .gN _ _=>true
 | .emp=>true
 | .nz _=>true
 | .aq=>true
def mU:List AVal→Bool
 | []=>true
 |a::as=>ue a&&mU as
end
mutual
def but(b:Nat):AVal→AVal
 | .sc x=>.sc x
 | .agg cs=>.agg (zl b cs)
 | .ct cs=>.ct (zl b cs)
 | .ptr c v i o=>match Nat.beq c b with
  |true=>.ptr c v i o
  |false=>.aq
 | .bU cs o=>.bU cs o
 | .sl c v sz o n=>match Nat.beq c b with
  |true=>.sl c v sz o n
  |false=>.aq
 | .aB rows=>.aB rows
 | .fn f c d=>.fn f (zl b c) (zl b d)
 | .fQ t a=>.fQ t (but b a)
 | .mp _=>.aq
 | .jv _=>.aq
 | .sa c v i o s n=>match Nat.beq c b with
  |true=>.sa c v i o s n
  |false=>.aq
 | .gN i o=>.gN i o
 | .emp=>.emp
 | .nz x=>.nz x
 | .aq=>.aq
def zl(b:Nat):List AVal→List AVal
 | []=>[]
 |a::as=>but b a::zl b as
end
end AVal
def af.lX:af→Bool
 | .row ak _ rows=>ak==0&&rows.all AVal.aS
 |_=>false
def af.mc(v:Nat):af→af
 | .row _ sz rows=>.row v sz rows
 |x=>x
def aP.Ce:aP→Bool
 | .ret v=>v.pure
 | .aW v=>v.flat
def AVal.Av(b v:Nat):AVal→AVal
 | .sl _ _ sz o n=>.sl b v sz o n
 |u=>u
def aP.Av(b v:Nat):aP→aP
 | .ret u=>.ret (u.Av b v)
 | .aW u=>.aW u
def aP.CO:aP→Bool
 | .ret (.sl b v _ _ _)=>b==0&&v==0
 | .ret u=>u.pure
 | .aW u=>u.flat
theorem aP.OK{r:aP}(h:r.Ce=true):r.CO=true:=by
 cases r with
 |ret u=>cases u<;>first |exact h |cases h
 |aW u=>exact h
def jV(P:Program)[aF](f:FuncId)(args:List AVal)(r:aP):Prop:=
 (∃ fn c, P.funcs[f]? = some fn ∧ fn.body = some c ∧ fn.name ≠ "runtime.NumGoroutine") ∧
 ∀g w (vs:Array Value),Inv g [] w→RL g w args vs.toList→Calls P f vs w (ff g [] w r [])
def bO(P:Program)[aF](f:FuncId)(args:List AVal)(H:List af)(r:aP)(H1:List af):Prop:=
 (∃ fn c, P.funcs[f]? = some fn ∧ fn.body = some c ∧ fn.name ≠ "runtime.NumGoroutine") ∧
 ∀g w (vs:Array Value),Inv g H w→RL g w args vs.toList→Calls P f vs w (ff g H w r H1)
structure yf(P:Program)[aF]:Type 1 where
 f:FuncId
 X:Type
 args:X→List AVal
 heap:X→List af
 sh:Sh
 out:sh.El→aP
 ig:X→sh.El→List af
 S:Nat→X→Option sh.El
 ok:∀n x r,S n x=some r→bO P f (args x) (heap x) (out r) (ig x r)
structure aD(P:Program)[aF]:Type 1 where
 f:FuncId
 X:Type
 args:X→List AVal
 sh:Sh
 out:sh.El→aP
 S:Nat→X→Option sh.El
 ok:∀n x r,S n x=some r→jV P f (args x) (out r)
structure dF(P:Program)[aF]:Type 1 where
 f:FuncId
 X:Type
 args:X→List AVal
 blk:X→af
 sh:Sh
 out:sh.El→aP
 qN:X→sh.El→af
 S:Nat→X→Option sh.El
 a0:∀x,AVal.mU (args x)=true
 b0:∀x,(blk x).lX=true
 b1:∀x r,(qN x r).lX=true∨qN x r=.dead
 r0:∀r,(out r).CO=true
 ok:∀n x r,S n x=some r→bO P f (args x) [blk x] (out r) [qN x r]
structure mO(X:Type) where
 run:Option X
 bk:X→di
 ids:List Nat
 nK:aF→Program→fE→Nat→Op→(Operand→AVal)→List af→Prop
 gX:Prop
 holds:gX
 sound:∀(gl:aF) (P:Program) (cfg:fE) (nid:Nat) (op:Op) (ai:Operand→AVal) (H:List af),nK gl P cfg nid op ai H→∀x,run=some x→
  (bD P cfg nid ai op).run H=some (.bk (bk x))∧(bD P cfg nid ai op).reads H=ids
structure PU where
 b:Nat
 blk:af
 pf:qE blk=true
def vp:af→Bool
 | .row _ _ rows=>rows.all AVal.aS
 | .map _ es=>es.all fun p=>p.1.pure&&p.2.1.pure
 |_=>false
theorem Aw{x:af}(h:vp x=true):(∃v sz rows,x=.row v sz rows∧rows.all AVal.aS=true)∨∃c es,x=.map c es∧(es.all fun p=>p.1.pure&&p.2.1.pure)=true:=by
 unfold vp at h;grind
structure PR where
 b:Nat
 blk:af
 pf:vp blk=true
def PR.ofRow(b ak sz:Nat)(rows:List (List AVal))(pf:rows.all AVal.aS=true):PR:=⟨b,.row ak sz rows,pf⟩
structure FZ where
 p:Pl
 b:Nat
 ak:Nat
 sz:Nat
 n:Nat
 rows:List (List AVal)
 pf:rows.all AVal.aS=true
structure PK where
 b:Nat
 mb:Nat
 n:Nat
 es:List (AVal×AVal×Nat)
 pf:es.length=n∧∀(i:Nat) p,es[i]? =some p→p.2.2=i
structure GK where
 {X:Type}
 l:List X
 m:List X
 enc:X→List AVal
 n:Nat
 bytes:Nat
 b:Nat
 ak:Nat
 len:Nat
def GK.ok(z:GK):Bool:=decide (z.len=z.l.length)&&roomy (z.l.length+z.m.length) z.bytes
def F5(P:Program)(ST XT:TypeId):Option (Nat×Nat):=
 match P.underlying ST,P.underlying XT with
 |some (.slice e),some (.slice _)=>match P.info? e with
  |some i=>if decide (0<i.size)&&kO i then some (i.size,i.bytes)else none
  |none=>none
 |_,_=>none
structure RW where
 p:Pl
 rows:List (List AVal)
 rows':List (List AVal)
 pf:rows.map nJ=rows'
inductive TS where
 |keep (l:List Nat)
 |wk (p:Pl)
 |own (p:Pl) (sz:Nat)
 |iL (z:FZ)
 |RA (z:RW)
 |cut (bl bump:List Nat) (pu:List PU)
inductive G (P:Program) [aF]:Type→Type 1 where
 |stop {ρ:Type}:G P ρ
 |done {ρ:Type} (ts:List TS) (r:ρ):G P ρ
 |fail {ρ:Type}:G P ρ
 |skip {ρ:Type} (n:Nat) (g:G P ρ):G P ρ
 |br {ρ:Type} (d:Tmp) (c:Bool) (t f:G P ρ):G P ρ
 |ER {ρ:Type} (d:Tmp) (k:IntKind) (x c:Int) (t f:G P ρ):G P ρ
 |sp {ρ:Type} (c:Bool) (t f:G P ρ):G P ρ
 |op {ρ X:Type} (t:mO X) (k:X→G P ρ):G P ρ
 |call {ρ:Type} (c:aD P) (x:c.X) (k:c.sh.El→G P ρ):G P ρ
 |cV {ρ:Type} (c:yf P) (x:c.X) (k:c.sh.El→G P ρ):G P ρ
 |bw {ρ:Type} (c:dF P) (b v:Nat) (ex:List PR) (x:c.X) (k:c.sh.El→G P ρ):G P ρ
 |tidy {ρ:Type} (l:List TS) (g:G P ρ):G P ρ
 |loop {ρ σ:Type} (sh:Sh) (hd:List TS) (E:σ→St) (X:sh.El→bh×St) (a0:σ) (body:σ→G P (σ⊕sh.El)) (k:sh.El→G P ρ):G P ρ
 |nq {ρ:Type} (hs sh:Sh) (hd:List TS) (E:hs.El→St) (X:sh.El→bh×St) (a0:hs.El) (body:hs.El→G P (hs.El⊕sh.El)) (k:sh.El→G P ρ):G P ρ
 |gu {ρ:Type} (n:Nat) (g:G P ρ):G P ρ
 |xk {ρ:Type} (Q:Prop) (h:Q) (g:G P ρ):G P ρ
 |join {ρ:Type} (sh:Sh) (Y:sh.El→bh×St) (g:G P sh.El) (k:sh.El→G P ρ):G P ρ
 |pick {ρ:Type} (z:PK) (seen:List Nat) (k:Option Nat→G P ρ):G P ρ
 |grow {ρ:Type} (z:GK) (k:Bool→G P ρ):G P ρ
 |inl {ρ:Type} (pr:List PR) (g:G P ρ):G P ρ
def aO:List TS→Bool
 | []=>true
 | .iL z::ts=>decide (z.n=z.rows.length)&&aO ts
 |_::ts=>aO ts
def bV{σ τ:Type}(f:σ→Option (σ⊕τ)):Nat→σ→Option τ
 | 0,_=>none
 |n+1,a=>match f a with
  |some (.inl a')=>bV f n a'
  |some (.inr t)=>some t
  |none=>none
section
variable {P:Program} [aF]
def G.run(n:Nat):{ρ:Type}→G P ρ→Option ρ
 |_,.stop=>none
 |_,.done ts r=>if aO ts then some r else none
 |_,.fail=>none
 |_,.skip _ g=>g.run n
 |_,.br _ c t f=>if c then t.run n else f.run n
 |_,.ER _ _ x c t f=>if x=c then t.run n else f.run n
 |_,.sp c t f=>if c then t.run n else f.run n
 |_,.op t k=>t.run.bind fun x=>(k x).run n
 |_,.call c x k=>(c.S n x).bind fun r=>(k r).run n
 |_,.cV c x k=>(c.S n x).bind fun r=>(k r).run n
 |_,.bw c _ _ _ x k=>(c.S n x).bind fun r=>(k r).run n
 |_,.tidy l g=>if aO l then g.run n else none
 |_,.loop _ hd _ _ a0 body k=>if aO hd then(bV (fun a=>(body a).run n) n a0).bind fun t=>(k t).run n else none
 |_,.nq _ _ hd _ _ a0 body k=>if aO hd then(bV (fun a=>(body a).run n) n a0).bind fun t=>(k t).run n else none
 |_,.gu _ g=>g.run n
 |_,.xk _ _ g=>g.run n
 |_,.join _ _ g k=>(g.run n).bind fun t=>(k t).run n
 |_,.pick _ _ _=>none
 |_,.grow _ _=>none
 |_,.inl _ g=>g.run n
def M0{σ:Type}{sh:Sh}(E:σ→St)(X:sh.El→bh×St):σ⊕sh.El→Prop
 | .inl a=>(bh.normal,E a)=(bh.normal,E a)
 | .inr t=>X t=X t
def TW{sh:Sh}(Y:sh.El→bh×St)(t:sh.El):Prop:=Y t=Y t
def Fm:List PU→Prop
 | []=>True
 |p::ps=>some p.blk=some p.blk∧Fm ps
def Cf:List PR→Prop
 | []=>True
 |p::ps=>some p.blk=some p.blk∧Cf ps
def mV:List TS→Prop→Prop
 | [],q=>q
 | .keep _::ts,q=>mV ts q
 | .wk _::ts,q=>mV ts q
 | .own _ _::ts,q=>mV ts q
 | .iL z::ts,q=>some (AVal.sl z.b z.ak z.sz 0 z.n)=some (AVal.sl z.b z.ak z.sz 0 z.n)∧some (af.row z.ak z.sz z.rows)=some (af.row z.ak z.sz z.rows)∧mV ts q
 | .cut _ _ pu::ts,q=>Fm pu∧mV ts q
 | .RA z::ts,q=>some (AVal.aB z.rows)=some (AVal.aB z.rows)∧mV ts q
omit [aF] in
theorem CP:∀(l:List PU),Fm l
 | []=>trivial
 |_::ps=>⟨rfl,CP ps⟩
omit [aF] in
theorem yg:∀(l:List PR),Cf l
 | []=>trivial
 |_::ps=>⟨rfl,yg ps⟩
omit [aF] in
theorem iD{q:Prop}(h:q):∀(l:List TS),mV l q
 | []=>h
 | .keep _::ts=>iD h ts
 | .wk _::ts=>iD h ts
 | .own _ _::ts=>iD h ts
 | .iL _::ts=>⟨rfl,rfl,iD h ts⟩
 | .cut _ _ pu::ts=>⟨CP pu,iD h ts⟩
 | .RA _::ts=>⟨rfl,iD h ts⟩
def G.fI:{ρ:Type}→(ρ→Prop)→G P ρ→Prop
 |_,_,.stop=>True
 |_,leaf,.done ts r=>mV ts (leaf r)
 |_,_,.fail=>True
 |_,leaf,.skip _ g=>g.fI leaf
 |_,leaf,.br _ c t f=>some (AVal.sc (.bool c))=some (AVal.sc (.bool c))∧t.fI leaf∧f.fI leaf
 |_,leaf,.ER _ k x _ t f=>some (AVal.sc (.int k x))=some (AVal.sc (.int k x))∧t.fI leaf∧f.fI leaf
 |_,leaf,.sp _ t f=>t.fI leaf∧f.fI leaf
 |_,leaf,.op t k=>some true=some true∧t.gX∧∀x,(k x).fI leaf
 |_,leaf,.call c x k=>some true=some true∧some (c.f,c.args x)=some (c.f,c.args x)∧c.sh.all fun r=>(k r).fI leaf
 |_,leaf,.cV c x k=>some true=some true∧some (c.f,c.args x,c.heap x)=some (c.f,c.args x,c.heap x)∧c.sh.all fun r=>(k r).fI leaf
 |_,leaf,.bw c b v ex x k=>some true=some true∧Cf ex∧some (c.f,AVal.vo b v (c.args x),some ((c.blk x).mc v))=some (c.f,AVal.vo b v (c.args x),some ((c.blk x).mc v))∧c.sh.all fun r=>(k r).fI leaf
 |_,leaf,.tidy l g=>mV l (g.fI leaf)
 |_,leaf,.loop sh hd E X a0 body k=>mV hd (E a0=E a0)∧(∀a,(body a).fI (M0 E X))∧sh.all fun t=>(k t).fI leaf
 |_,leaf,.nq hs sh hd E X a0 body k=>mV hd (E a0=E a0)∧(hs.all fun a=>(body a).fI (M0 E X))∧sh.all fun t=>(k t).fI leaf
 |_,leaf,.gu _ g=>g.fI leaf
 |_,_,.xk Q _ _=>Q
 |_,leaf,.join sh Y g k=>g.fI (TW Y)∧sh.all fun t=>(k t).fI leaf
 |_,leaf,.pick z seen k=>some true=some true∧AVal.ptr z.b 0 0 0=AVal.ptr z.b 0 0 0∧some (af.iter (.mp z.mb) z.n seen z.n)=some (af.iter (.mp z.mb) z.n seen z.n)∧some (af.map z.n z.es)=some (af.map z.n z.es)∧(k none).fI leaf∧∀i,(k (some i)).fI leaf
 |_,leaf,.grow z k=>some true=some true∧some af.aV=some af.aV∧ @Eq Bool true true∧some (z.n,z.bytes)=some (z.n,z.bytes)∧AVal.sl z.b z.ak z.n 0 z.len=AVal.sl z.b z.ak z.n 0 z.len∧some (af.row z.ak z.n (z.l.map z.enc))=some (af.row z.ak z.n (z.l.map z.enc))∧some (z.m.map z.enc)=some (z.m.map z.enc)∧(∀_:z.X,z.n=z.n)∧ @Eq Bool false false∧(k true).fI leaf∧(k false).fI leaf
 |_,leaf,.inl pr g=>some true=some true∧Cf pr∧g.fI leaf
omit [aF] in
theorem ES{σ:Type}{sh:Sh}(E:σ→St)(X:sh.El→bh×St):∀r,M0 E X r
 | .inl _=>rfl
 | .inr _=>rfl
theorem G.bS:∀{ρ:Type} {leaf:ρ→Prop} (_:∀r,leaf r) (g:G P ρ),g.fI leaf
 |_,_,_,.stop=>trivial
 |_,_,h,.done ts r=>iD (h r) ts
 |_,_,_,.fail=>trivial
 |_,_,h,.skip _ g=>G.bS h g
 |_,_,h,.br _ _ t f=>⟨rfl,G.bS h t,G.bS h f⟩
 |_,_,h,.ER _ _ _ _ t f=>⟨rfl,G.bS h t,G.bS h f⟩
 |_,_,h,.sp _ t f=>⟨G.bS h t,G.bS h f⟩
 |_,_,h,.op t k=>⟨rfl,t.holds,fun x=>G.bS h (k x)⟩
 |_,_,h,.call c _ k=>⟨rfl,rfl,(c.sh.bX _).2 fun r=>G.bS h (k r)⟩
 |_,_,h,.cV c _ k=>⟨rfl,rfl,(c.sh.bX _).2 fun r=>G.bS h (k r)⟩
 |_,_,h,.bw c _ _ ex _ k=>⟨rfl,yg ex,rfl,(c.sh.bX _).2 fun r=>G.bS h (k r)⟩
 |_,_,h,.tidy l g=>iD (G.bS h g) l
 |_,_,h,.loop sh hd E X _ body k=>⟨iD rfl hd,fun a=>G.bS (ES E X) (body a),(sh.bX _).2 fun t=>G.bS h (k t)⟩
 |_,_,h,.nq hs sh hd E X _ body k=>⟨iD rfl hd,(hs.bX _).2 fun a=>G.bS (ES E X) (body a),(sh.bX _).2 fun t=>G.bS h (k t)⟩
 |_,_,h,.gu _ g=>G.bS h g
 |_,_,_,.xk _ q _=>q
 |_,_,h,.join sh _ g k=>⟨G.bS (fun _=>rfl) g,(sh.bX _).2 fun t=>G.bS h (k t)⟩
 |_,_,h,.pick _ _ k=>⟨rfl,rfl,rfl,rfl,G.bS h (k none),fun i=>G.bS h (k (some i))⟩
 |_,_,h,.grow _ k=>⟨rfl,rfl,rfl,rfl,rfl,rfl,rfl,fun _=>rfl,rfl,G.bS h (k true),G.bS h (k false)⟩
 |_,_,h,.inl pr g=>⟨rfl,yg pr,G.bS h g⟩
def G.less{ρ:Type}:Nat→G P ρ→G P ρ
 | 0,g=>g
 |n+1,g=>.skip (n+1) g
theorem G.JU{ρ:Type}(n m:Nat)(g:G P ρ):(G.less m g).run n=g.run n:=by cases m<;>simp[G.less,G.run]
end
structure A4(P:Program)[aF] where
 fn:{ρ:Type}→FuncId→List AVal→List af→G P ρ→(G P ρ→aP→List af→Prop)→Prop
 CM:{ρ:Type}→Nat→List AVal→List af→G P ρ→(G P ρ→aP→List af→Prop)→Prop
 lp:{σ:Type}→{sh:Sh}→Option Nat→List af→Code→G P (σ⊕sh.El)→(σ→St)→St→(sh.El→bh×St)→Prop
structure Env(P:Program)[aF] where
 cfg:fE
 ro:Option Nat
 N:A4 P
 nd:Bool
def TX(P:Program)[aF]:A4 P:=⟨fun _ _ _ _ _=>False,fun _ _ _ _ _=>False,fun _ _ _ _ _ _ _=>False⟩
def M1(P:Program)[aF]{ρ:Type}(f:FuncId)(args:List AVal)(H:List af)(c:yf P)(x:c.X)(kk:c.sh.El→G P ρ)(k:G P ρ→aP→List af→Prop):Prop:=
 some true=some true∧some (f,nJ args,H)=some (c.f,c.args x,c.heap x)∧c.sh.all fun r=>k (kk r) (c.out r) (c.ig x r)
def uf(P:Program)[aF]:A4 P:=⟨fun f args H g k=>match g with
 | .cV c x kk=>M1 P f args H c x kk k
 |_=>False,fun _ _ _ _ _=>False,fun _ _ _ _ _ _ _=>False⟩
def Env.at{P:Program}[aF](X:Env P)(draw:Bool):Env P:=match draw&&X.nd with
 |true=>{X with N:=uf P}
 |false=>X
inductive Uw (P:Program) [aF] {ρ:Type} (X:Env P) (ops:Array Oper) (n0:Nat) (o:Oper) (nid:Nat) (s:St) (k:G P ρ→eG→gK→Prop) (draw:Bool) (H0:List af):Prop
inductive SX (P:Program) [aF] {ρ:Type} (X:Env P) (c:Operand) (a b:Code) (s:St) (k:G P ρ→bh→St→Prop) (H0:List af):Prop
inductive SY (P:Program) [aF] {ρ:Type} (X:Env P) (b:Code) (s:St) (k:G P ρ→bh→St→Prop) (H0:List af):Prop
inductive Sc (P:Program) [aF] {ρ:Type} (X:Env P) (f:Operand) (ps:Array Tmp) (assign body:Code) (s:St) (k:G P ρ→bh→St→Prop) (H0:List af):Prop
inductive TY (P:Program) [aF] {ρ:Type} (fn:Func) (o:bh) (s:St) (out:ρ→aP):Prop
inductive SZ (P:Program) [aF] {ρ:Type} (fn:Func) (o:bh) (s:St) (H0:List af) (k:G P ρ→List PR→bh→St→Prop):Prop
inductive S0 (P:Program) [aF] {ρ:Type} (b:Nat) (o:bh) (s:St) (H0:List af) (k:G P ρ→St→Prop):Prop
inductive S1 (P:Program) [aF] {sh:Sh} (H0:List af) (o:bh) (s:St) (Y:sh.El→bh×St):Prop
inductive Sd (P:Program) [aF] {σ:Type} {sh:Sh} (H0:List af) (o:bh) (s:St) (E:σ→St) (X:sh.El→bh×St):Prop
inductive F6 (P:Program) [aF] {ρ:Type} (ops:Array Oper) (o:Oper) (s:St) (g:G P ρ):Prop
def xl(keep:List Nat):Nat→List AVal→List AVal
 |_,[]=>[]
 |i,a::as=>(match keep.contains i with |true=>a |false=>.aq)::xl keep (i+1) as
def Mb:List PU→List af→Prop
 | [],_=>True
 |p::ps,H=>H[p.b]? =some p.blk∧Mb ps H
def Mc:List PR→List af→Prop
 | [],_=>True
 |p::ps,H=>H[p.b]? =some p.blk∧Mc ps H
def jJ(H0:List af):List TS→St→(St→Prop)→Prop
 | [],s,k=>k s
 | .keep l::ts,s,k=>iy (xl l 0 s.A) fun A=>jJ H0 ts {s with A:=A} k
 | .wk p::ts,s,k=>match SV s p with
  |some s=>jJ H0 ts s k
  |none=>False
 | .own p sz::ts,s,k=>match Qp s p sz with
  |some s=>jJ H0 ts s k
  |none=>False
 | .iL z::ts,s,k=>uv s z.p=some (.sl z.b z.ak z.sz 0 z.n)∧s.H[z.b]? =some (.row z.ak z.sz z.rows)∧match Qr H0 s z.p z.rows with
  |some s=>jJ H0 ts s k
  |none=>False
 | .RA z::ts,s,k=>uv s z.p=some (.aB z.rows)∧jJ H0 ts (Cd s (.aB z.rows') z.p) k
 | .cut bl bump pu::ts,s,k=>Mb pu s.H∧match Ql bl bump (pu.map (·.b)) H0 s with
  |some ⟨A,H,D⟩=>iy A fun A=>iy H fun H=>jJ H0 ts ⟨A,H,D⟩ k
  |none=>False
section
variable {P:Program} [aF]
def oF{ρ:Type}:G P ρ→St→(G P ρ→St→Prop)→Prop
 | .br d c t f,s,k=>s.A[d]? =some (.sc (.bool c))∧(B4 s.A d (.sc (.bool true)) fun A=>oF t {s with A:=A} k)∧(B4 s.A d (.sc (.bool false)) fun A=>oF f {s with A:=A} k)
 | .ER d ik x c t f,s,k=>s.A[d]? =some (.sc (.int ik x))∧(B4 s.A d (.sc (.int ik c)) fun A=>oF t {s with A:=A} k)∧oF f s k
 | .sp _ t f,s,k=>oF t s k∧oF f s k
 | .fail,_,_=>True
 |g,s,k=>k g s
def wz:jU:=⟨fun _ _ _=>none,fun _ _ _=>none⟩
def M3(r:Option (aP×List af)):jU:=⟨fun _ _ _=>r,fun _ _ _=>none⟩
def M4(H:List af):Option Pre→Option (FuncId×List AVal×List af)
 |some (.kY f args ids)=>some (f,nJ args,mask ids H)
 |_=>none
def Ef(ids:List Nat):List Nat→Bool
 | []=>true
 |c::cs=>ids.contains c&&Ef ids cs
def Ay:List Nat→List Nat→List Nat
 | [],seen=>seen
 |b::todo,seen=>match seen.contains b with
  |true=>Ay todo seen
  |false=>Ay todo (b::seen)
def wA:List Nat→List Nat→List Nat
 | [],_=>[]
 |b::todo,seen=>match seen.contains b with
  |true=>wA todo seen
  |false=>b::wA todo (b::seen)
def sH(P:Program)[aF](cfg:fE)(ids:List Nat)(ai:Operand→AVal):Op→Option (FuncId×List AVal×List Nat×List Nat)
 | .call {callee:=.value f,args:=args,.. }=>match ai f with
  | .fn (.func n) p q=>match P.funcs[n]? with
   |some fn=>match fn.body.isNone||cfg.val n||cfg.fz n with
    |false=>
     let l:=AVal.oD (p++args.toList.map ai++q)
     match Ef ids l&&Nat.ble l.length 900 with
     |true=>some (n,p++args.toList.map ai++q,Ay l [],wA l [])
     |false=>none
    |true=>none
   |none=>none
  |_=>none
 |_=>none
def Qs(H:List af)(b:Nat):Option (FuncId×List AVal×List Nat×List Nat)→Option (FuncId×List AVal×Option af)
 |some (f,args,ids,_)=>match ids.contains b with
  |true=>some (f,AVal.zl b (nJ args),H[b]?)
  |false=>none
 |none=>none
def Eg:Option (FuncId×List AVal×List Nat×List Nat)→List Nat×List Nat
 |some (_,_,ids,rs)=>(ids,rs)
 |none=>([],[])
def JV:Option Pre→Option (FuncId×List AVal)
 |some (.D9 f args _)=>some (f,nJ args)
 |_=>none
def sI(pr:List Nat)(H:List af):Nat→List Nat→List Nat→Option (List Nat×List Nat)
 |_,[],seen=>some (seen,[])
 | 0,_::_,_=>none
 |n+1,b::todo,seen=>match seen.contains b with
  |true=>sI pr H n todo seen
  |false=>match pr.contains b with
   |true=>(sI pr H n todo (b::seen)).map fun p=>(p.1,b::p.2)
   |false=>match H[b]? with
    |some (.row _ _ rows)=>(sI pr H n ((if rows.all AVal.aS then[]else AVal.oD rows.flatten)++todo) (b::seen)).map fun p=>(p.1,b::p.2)
    |some (.loop _ _ _ A _ _ _)=>(sI pr H n (AVal.oD A++todo) (b::seen)).map fun p=>(p.1,b::p.2)
    |some (.iter m _ _ _)=>(sI pr H n (AVal.refs m++todo) (b::seen)).map fun p=>(p.1,b::p.2)
    |some _=>(sI pr H n todo (b::seen)).map fun p=>(p.1,b::p.2)
    |none=>none
def Fo(P:Program)[aF](cfg:fE)(pr:List Nat)(ai:Operand→AVal)(op:Op)(H:List af):Option ((FuncId⊕Nat)×List AVal×List Nat×List Nat):=
 match op with
 | .call {callee:=.value f,args:=args,.. }=>match ai f with
  | .fn (.func n) p q=>match P.funcs[n]? with
   |some fn=>match fn.body.isNone||cfg.val n||cfg.fz n with
    |false=>match sI pr H 1000 (AVal.oD (p++args.toList.map ai++q)) []with
     |some (ids,rs)=>some (.inl n,p++args.toList.map ai++q,ids,rs)
     |none=>none
    |true=>none
   |none=>none
  | .jv b=>match sI pr H 1000 (b::AVal.oD (args.toList.map ai)) []with
   |some (ids,rs)=>some (.inr b,args.toList.map ai,ids,rs)
   |none=>none
  |_=>none
 |_=>none
def Dn(ids:List Nat)(H:List af)(a:aP)(H1:List af)(k:di→List Nat→Bool→Prop)(kp:AVal→Prop):Prop:=
 match a with
 | .ret v=>match Nat.beq H1.length H.length with
  |true=>k {val:=v,dV:=ids.map fun i=>(i,H1.getD i .dead)} ids false
  |false=>match fG H ids (some (.ret v,H1))with
   |some (.ok e)=>Hf e fun e=>k e (e.dV.map (·.1)) (!e.news.isEmpty)
   |_=>False
 | .aW v=>match v.flat with
  |true=>kp v
  |false=>False
def rA{ρ:Type}(P:Program)[gl:aF](X:Env P)(draw:Bool)(H0:List af)(ops:Array Oper)(n0:Nat)(o:Oper)(nid:Nat)(g:G P ρ)(s:St)(k:G P ρ→eG→gK→Prop):Prop:=
 match g with
 | .skip (n+1) g'=>match fH P X.cfg wz ops n0 o nid s with
  |some (r,f)=>k (G.less n g') r f
  |none=>F6 P ops o s g'
 | .op t kk=>iZ ops s.A o=some true∧t.nK gl P X.cfg nid o.op (cK s.A) s.H∧∀x,Hf (t.bk x) fun e=>tc s.A o.dst e.val fun A=>qm e s.H fun H=>
  k (kk x) (.ok {s with A:=A,H:=H}) (iz n0 t.ids (.bk e) (e.dV.map (·.1)) (!e.news.isEmpty))
 | .call c x kk=>iZ ops s.A o=some true∧JV ((bD P X.cfg nid (cK s.A) o.op).run s.H)=some (c.f,c.args x)∧
  c.sh.all fun r=>match fH P X.cfg (M3 (some (c.out r,[]))) ops n0 o nid s with
   |some (r',f)=>k (kk r) r' f
   |none=>F6 P ops o s (kk r)
 | .cV c x kk=>iZ ops s.A o=some true∧M4 s.H ((bD P X.cfg nid (cK s.A) o.op).run s.H)=some (c.f,c.args x,c.heap x)∧
  c.sh.all fun r=>match fH P X.cfg (M3 (some (c.out r,c.ig x r))) ops n0 o nid s with
   |some (r',f)=>k (kk r) r' f
   |none=>F6 P ops o s (kk r)
 | .bw c b v ex x kk=>iZ ops s.A o=some true∧Mc ex s.H∧Qs s.H b (sH P X.cfg (b::ex.map (·.b)) (cK s.A) o.op)=some (c.f,AVal.vo b v (c.args x),some ((c.blk x).mc v))∧
  c.sh.all fun r=>match c.out r with
   | .ret u=>tc s.A o.dst (u.Av b v) fun A=>qm {val:=u.Av b v,dV:=[(b,(c.qN x r).mc v)]} s.H fun H=>k (kk r) (.ok {s with A:=A,H:=H})
    (iz n0 (Eg (sH P X.cfg (b::ex.map (·.b)) (cK s.A) o.op)).2 (.kY 0 [] []) (Eg (sH P X.cfg (b::ex.map (·.b)) (cK s.A) o.op)).1 false)
   | .aW u=>k (kk r) (.aW u {s with H:=(Eg (sH P X.cfg (b::ex.map (·.b)) (cK s.A) o.op)).1.foldl (fun H i=>H.set i .dead) s.H})
    (iz n0 (Eg (sH P X.cfg (b::ex.map (·.b)) (cK s.A) o.op)).2 (.kY 0 [] []) (Eg (sH P X.cfg (b::ex.map (·.b)) (cK s.A) o.op)).1 false)
 | .inl pr g'=>iZ ops s.A o=some true∧Mc pr s.H∧match Fo P X.cfg (pr.map (·.b)) (cK s.A) o.op s.H with
  |some (.inl f,args,ids,rs)=>vg (mask ids s.H) fun Hm=>X.N.fn f args Hm g' fun g2 a H1=>Dn ids s.H a H1 (fun e ws nw=>tc s.A o.dst e.val fun A=>qm e s.H fun H=>k g2 (.ok {s with A:=A,H:=H}) (iz n0 rs (.kY 0 [] []) ws nw))
   (fun v=>k g2 (.aW v {s with H:=ids.foldl (fun H i=>H.set i .dead) s.H}) (iz n0 rs (.kY 0 [] []) ids false))
  |some (.inr b,args,ids,rs)=>vg (mask ids s.H) fun Hm=>X.N.CM b args Hm g' fun g2 a H1=>Dn ids s.H a H1 (fun e ws nw=>tc s.A o.dst e.val fun A=>qm e s.H fun H=>k g2 (.ok {s with A:=A,H:=H}) (iz n0 rs (.kY 0 [] []) ws nw))
   (fun v=>k g2 (.aW v {s with H:=ids.foldl (fun H i=>H.set i .dead) s.H}) (iz n0 rs (.kY 0 [] []) ids false))
  |none=>F6 P ops o s g'
 | .pick z seen kk=>match draw with
  |true=>False
  |false=>(match o.op with
   | .next it false=>iZ ops s.A o=some true∧(cK s.A it=.ptr z.b 0 0 0∧s.H[z.b]? =some (.iter (.mp z.mb) z.n seen z.n)∧s.H[z.mb]? =some (.map z.n z.es)∧
    (tc s.A o.dst (.ct [.sc (.bool false)]) fun A=>k (kk none) (.ok {s with A:=A}) ⟨[],[]⟩)∧
    ∀i,tc s.A o.dst (.ct [.sc (.bool true),.aq,.aq]) fun A=>qm {val:=nothing,dV:=[(z.b,.iter (.mp z.mb) z.n (seen++[i]) z.n)]} s.H fun H=>k (kk (some i)) (.ok {s with A:=A,H:=H}) ⟨[],[]⟩)
   |_=>False)
 | .grow z kk=>match draw with
  |true=>False
  |false=>(match o.op with
   | .call {callee:=.builtin .append,args:=args,argTypes:=ats}=>match ats[0]?,ats[1]?,args[0]?,args[1]? with
    |some ST,some XT,some sx,some x=>iZ ops s.A o=some true∧s.H[nid]? =some .aV∧decide (args.size=2)=true∧F5 P ST XT=some (z.n,z.bytes)∧cK s.A sx=.sl z.b z.ak z.n 0 z.len∧s.H[z.b]? =some (.row z.ak z.n (z.l.map z.enc))∧
     (elems (cK s.A x)).run s.H=some (z.m.map z.enc)∧(∀x,(z.enc x).length=z.n)∧z.m.isEmpty=false∧
     (tc s.A o.dst (.sl z.b z.ak z.n 0 (z.l++z.m).length) fun A=>qm {val:=nothing,dV:=[(z.b,.row z.ak z.n ((z.l++z.m).map z.enc))]} s.H fun H=>k (kk true) (.ok {s with A:=A,H:=H}) ⟨[],[]⟩)∧
     (tc s.A o.dst (.sl nid 0 z.n 0 (z.l++z.m).length) fun A=>qm {val:=nothing,dV:=[(nid,.row 0 z.n ((z.l++z.m).map z.enc))]} s.H fun H=>k (kk false) (.ok {s with A:=A,H:=H}) ⟨[],[]⟩)
    |_,_,_,_=>False
   |_=>False)
 | .fail=>True
 | .stop=>Uw P X ops n0 o nid s k draw H0
 |g=>F6 P ops o s g
def yP{ρ:Type}(P:Program)[gl:aF](X:Env P)(draw:Bool)(H0:List af)(ops:Array Oper)(n0:Nat)(o:Oper)(nid:Nat)(g:G P ρ)(s:St)(k:G P ρ→eG→gK→Prop):Prop:=
 match g with
 | .tidy l g'=>match draw with
  |true=>False
  |false=>jJ H0 l s fun s'=>rA P X draw H0 ops n0 o nid g' s' k
 |g=>rA P X draw H0 ops n0 o nid g s k
def A5{ρ:Type}(P:Program)[aF](X:Env P)(draw:Bool)(H0:List af)(ops:Array Oper)(n0:Nat):List (Oper×Nat)→G P ρ→St→(G P ρ→eG→List gK→Prop)→Prop
 | [],g,s,k=>k g (.ok s) []
 | (o,nid)::rest,g,s,k=>oF g s fun g s=>yP P X draw H0 ops n0 o nid g s fun g r f=>match r with
  | .ok ⟨A,H,D⟩=>iy A fun A=>iy H fun H=>iy D fun D=>A5 P X draw H0 ops n0 rest g ⟨A,H,D⟩ fun g r fs=>k g r (f::fs)
  | .aW v s'=>k g (.aW v s') [f]
def sJ{ρ:Type}(P:Program)[aF](X:Env P)(H0:List af)(ops:Array Oper)(draw:Bool)(g:G P ρ)(s:St)(k:G P ρ→eG→Prop):Prop:=
 jS (mM ops.toList) fun c=>jS (if c=0 then 0 else pN s.H) fun t=>jS (c - t) fun m=>
 FM s.H (List.replicate m .aV) fun H1=>
 jS H1.length fun n0=>A5 P X draw H0 ops n0 (numbered (s.H.length - t) ops.toList) g {s with H:=H1} fun g r feet=>
  if !draw then k g r else
  if wm ops&&feet.length==ops.size&&indep ops (CheckFast.beforeF ops) feet then
   match r with
   | .ok s'=>k g (.ok s')
   | .aW v s'=>if feet.all (fun f=>f.writes.isEmpty)then k g (.aW v {s' with A:=ops.toList.foldl (fun A o=>ic A o.dst .aq) s'.A})else False
  else False
def Fp{ρ:Type}(H0:List af)(g:G P ρ)(s:St)(k:G P ρ→St→Prop):Prop:=match g with
 | .tidy l g'=>jJ H0 l s fun s'=>k g' s'
 |g=>k g s
def Eh{ρ:Type}(f:G P ρ→St→(G P ρ→bh→St→Prop)→Prop):Nat→G P ρ→St→(G P ρ→bh→St→Prop)→Prop
 | 0,_,_,_=>False
 |n+1,g,s,k=>f g s fun g o s'=>match o with
  | .normal=>Eh f n g s' k
  |o=>k g o s'
def oT{σ:Type}{sh:Sh}(H0:List af)(E:σ→St)(X:sh.El→bh×St)(g:G P (σ⊕sh.El))(o:bh)(s:St):Prop:=
 match g with
 | .done ts (.inl a)=>jJ H0 ts s fun s'=>(o,s')=(bh.normal,E a)
 | .done ts (.inr t)=>match o with
  | .normal=>False
  |o=>jJ H0 ts s fun s'=>(o,s')=X t
 | .fail=>True
 |_=>Sd P H0 o s E X
def Ei{sh:Sh}(H0:List af)(Y:sh.El→bh×St)(g:G P sh.El)(o:bh)(s:St):Prop:=
 match g with
 | .done ts t=>jJ H0 ts s fun s'=>(o,s')=Y t
 | .fail=>True
 |_=>S1 P H0 o s Y
def Ej{ρ:Type}(P:Program)[aF](X:Env P)(H0:List af)(c:Operand)(a b:Code)(wa wb:G P ρ→St→(G P ρ→bh→St→Prop)→Prop)(g:G P ρ)(s:St)(k:G P ρ→bh→St→Prop):Prop:=
 Fp H0 g s fun g s=>oF g s fun g s=>match g with
  | .skip (n+1) g=>match cK s.A c with
   | .sc (.bool true)=>wa (G.less n g) s k
   | .sc (.bool false)=>wb (G.less n g) s k
   |_=>False
  | .fail=>True
  |_=>SX P X c a b s k H0
def BC{ρ:Type}(id:Nat)(k:G P ρ→bh→St→Prop)(g:G P ρ)(o:bh)(s':St):Prop:=match o with
 | .exit id'=>if id'=id then k g .normal s' else k g (.exit id') s'
 |o=>k g o s'
def yQ(P:Program)[aF](cfg:fE)(L:Nat)(fn:Func)(m:Option AVal)(s:St):Option (aP×List af):=
 match leave P cfg wz L s.D m s.H with
 |some (m',H')=>match ending P fn s.A m' H' with
  |some (.ret v,H1)=>some (.ret (jx v),H1)
  |some (.aW v,H1)=>match v.flat with
   |true=>some (.aW v,H1)
   |false=>none
  |none=>none
 |none=>none
def rB(P:Program)[aF](cfg:fE)(L:Nat)(fn:Func)(o:bh)(s:St):Option (aP×List af):=
 match o with
 | .normal=>yQ P cfg L fn none s
 | .ret=>yQ P cfg L fn none s
 | .aW v=>yQ P cfg L fn (some v) s
 | .exit _=>none
def Ek{σ:Type}{sh:Sh}(N:A4 P)(ro:Option Nat)(H0:List af)(b:Code)(E:σ→St)(s:St)(Y:sh.El→bh×St)(g:G P (σ⊕sh.El))(f:G P (σ⊕sh.El)→Prop):Prop:=
 match g with
 | .xk _ _ g=>N.lp ro H0 b g E s Y
 |g=>f g
def jF(P:Program)[aF](X:Env P)(H0:List af):Code→{ρ:Type}→G P ρ→St→(G P ρ→bh→St→Prop)→Prop
 | .skip,_,g,s,k=>k g .normal s
 | .region _ ops draw,_,g,s,k=>match X.ro.isSome&&ops.toList.any Bv with
  |true=>False
  |false=>Fp H0 g s fun g s=>sJ P (X.at draw) H0 ops draw g s fun g r=>match r with
   | .ok s'=>k g .normal s'
   | .aW v s'=>k g (.aW v) s'
 | .seq a b,_,g,s,k=>jF P X H0 a g s fun g o s'=>match o with
  | .normal=>jF P X H0 b g s' k
  |o=>k g o s'
 | .cond c a b,_,g,s,k=>match g with
  | .join sh Y g1 kk=>Ej P X H0 c a b (fun g s k=>jF P X H0 a g s k) (fun g s k=>jF P X H0 b g s k) g1 s (Ei H0 Y)∧sh.all fun t=>k (kk t) (Y t).1 (Y t).2
  |g=>Ej P X H0 c a b (fun g s k=>jF P X H0 a g s k) (fun g s k=>jF P X H0 b g s k) g s k
 | .block id b,_,g,s,k=>match g with
  | .join sh Y g1 kk=>jF P X H0 b g1 s (BC id (Ei H0 Y))∧sh.all fun t=>k (kk t) (Y t).1 (Y t).2
  |g=>jF P X H0 b g s (BC id k)
 | .loop b,_,g,s,k=>match g with
  | .gu n g=>Eh (fun g s k=>jF P X H0 b g s k) n g s k
  | .loop sh hd E Y a0 body kk=>(jJ H0 hd s fun s'=>s'=E a0)∧(∀a,Ek X.N X.ro H0 b E (E a) Y (body a) fun g=>jF P X H0 b g (E a) (oT H0 E Y))∧sh.all fun t=>k (kk t) (Y t).1 (Y t).2
  | .nq hs sh hd E Y a0 body kk=>(jJ H0 hd s fun s'=>s'=E a0)∧(hs.all fun a=>Ek X.N X.ro H0 b E (E a) Y (body a) fun g=>jF P X H0 b g (E a) (oT H0 E Y))∧sh.all fun t=>k (kk t) (Y t).1 (Y t).2
  | .fail=>True
  |_=>SY P X b s k H0
 | .exit id,_,g,s,k=>k g (.exit id) s
 | .ret,_,g,s,k=>k g .ret s
 | .rangeFunc f ps assign body,_,g,s,k=>Fp H0 g s fun g s=>match g with
  | .inl pr g=>(some true=some true)∧match cK s.A f with
   | .fn (.func n) p q=>match De X.ro 0 ps assign body s with
    |some (l,H1,D1)=>iy H1 fun H1=>Mc pr H1∧match sI (pr.map (·.b)) H1 1000 (AVal.oD (p++[.jv l]++q)) []with
     |some (ids,_)=>vg (mask ids H1) fun Hm=>X.N.fn n (p++[.jv l]++q) Hm g fun g2 a H2=>Dn ids H1 a H2
      (fun e _ _=>qm e H1 fun H3=>match JG l D1 s H3 with
       |some (out,s')=>k g2 out s'
       |none=>False)
      (fun v=>k g2 (.aW v) {s with H:=ids.foldl (fun H i=>H.set i .dead) H1,D:=D1})
     |none=>False
    |none=>False
   |_=>False
  | .fail=>True
  |_=>Sc P X f ps assign body s k H0
 |_,_,_,_,_=>False
def Fq(pr:List Nat)(n:Nat):Nat→List af→Bool
 |_,[]=>true
 |i,x::xs=>(match pr.contains i with
  |true=>true
  |false=>xe n x)&&Fq pr n (i+1) xs
def aP.gG(n:Nat):aP→Bool
 | .ret v=>v.gG n
 | .aW _=>true
def RB(pr:List PR)(n:Nat)(a:aP)(H1:List af)(k:aP→List af→Prop):Prop:=
 Mc pr H1∧match a.gG n&&Fq (pr.map (·.b)) n 0 (H1.take n)with
  |true=>iy (H1.take n) fun H=>k a H
  |false=>k a H1
def Qt{ρ:Type}(P:Program)[aF](cfg:fE)(fn:Func)(H0:List af)(g:G P ρ)(o:bh)(s:St)(k:G P ρ→aP→List af→Prop):Prop:=
 match g with
 | .tidy ts (.inl pr g)=>jJ H0 ts s fun s=>match rB P cfg 10 fn o s with
  |some (a,H1)=>(some true=some true)∧RB pr H0.length a H1 (k g)
  |none=>False
 | .fail=>True
 |_=>SZ P fn o s H0 fun g pr o s=>match rB P cfg 10 fn o s with
  |some (a,H1)=>RB pr H0.length a H1 (k g)
  |none=>False
def RE(P:Program)[aF](cfg:fE)(nd:Bool)(N:A4 P){ρ:Type}(f:FuncId)(args:List AVal)(H:List af)(g:G P ρ)(k:G P ρ→aP→List af→Prop):Prop:=
 match g with
 | .cV c x kk=>M1 P f args H c x kk k
 |g=>match P.funcs[f]? with
  |some fn=>match fn.body with
   |some c=>jF P ⟨cfg,none,N,nd⟩ H c g ⟨l9 fn.ntmps args,H,[]⟩ fun g o s=>Qt P cfg fn H g o s k
   |none=>False
  |none=>False
def Qu{ρ:Type}(P:Program)[aF](b:Nat)(H0:List af)(g:G P ρ)(o:bh)(s:St)(k:G P ρ→aP→List af→Prop):Prop:=
 match ru o with
 |some j=>match g with
  | .tidy ts g=>jJ H0 ts s fun s=>match marked b (if j.isNone then .ready else .done) j s.H with
   |some H2=>k g (.ret (.sc (.bool j.isNone))) H2
   |none=>False
  | .fail=>True
  |_=>S0 P b o s H0 fun g s=>match marked b (if j.isNone then .ready else .done) j s.H with
   |some H2=>k g (.ret (.sc (.bool j.isNone))) H2
   |none=>False
 |none=>False
def Qv(P:Program)[aF](cfg:fE)(nd:Bool)(N:A4 P){ρ:Type}(b:Nat)(args:List AVal)(H:List af)(g:G P ρ)(k:G P ρ→aP→List af→Prop):Prop:=
 match H[b]? with
 |some (.loop _ _ _ A ps assign body)=>match Nat.beq ps.length args.length with
  |true=>jF P ⟨cfg,some b,N,nd⟩ H assign g ⟨tI A ps args,H,[]⟩ fun g o s1=>match o with
   | .normal=>match s1.H[b]? with
    |some (.loop .ready pend1 fid1 A1 ps1 as1 bd1)=>iy (s1.H.set b (.loop .busy pend1 fid1 A1 ps1 as1 bd1)) fun H1=>
     jF P ⟨cfg,some b,N,nd⟩ H body g {s1 with H:=H1} fun g o s2=>Qu P b H g o s2 k
    |_=>False
   |_=>False
  |false=>False
 |_=>False
inductive OL (P:Program) [aF] (cfg:fE) (nd:Bool) (N:A4 P) (ro:Option Nat) (H0:List af) (b:Code) {σ:Type} {sh:Sh} (g:G P (σ⊕sh.El)) (E:σ→St) (s:St) (Y:sh.El→bh×St):Prop
 |mk (h:jF P ⟨cfg,ro,N,nd⟩ H0 b g s (oT H0 E Y)):OL P cfg nd N ro H0 b g E s Y
def kE(P:Program)[aF](cfg:fE)(nd:Bool):Nat→A4 P
 | 0=>TX P
 |n+1=>⟨RE P cfg nd (kE P cfg nd n),Qv P cfg nd (kE P cfg nd n),fun ro H0 b g E s Y=>OL P cfg nd (kE P cfg nd n) ro H0 b g E s Y⟩
def M5(P:Program)[aF](cfg:fE):Env P:=⟨cfg,none,kE P cfg false 9,false⟩
def S2(P:Program)[aF](cfg:fE):Env P:=⟨cfg,none,kE P cfg true 9,true⟩
end
end Go.AM
end
section
namespace Go.AM
section
variable [aF] {P:Program} {g g':Gh} {w:World}
theorem Dp(hst:∀k o,g.st k o→g'.st k o){c:Array Value}:∀(l:List AVal) (o:Nat),AVal.aS l=true→dO g w c l o→dO g' w c l o
 | [],_,_,_=>trivial
 |a::as,o,hp,h=>by
  simp only[AVal.aS,Bool.and_eq_true]at hp;obtain⟨⟨y,h1,h2,h3⟩,h4⟩:=h;exact⟨⟨y,h1,h2,kM hst a y hp.1 h3⟩,Dp hst as (o+1) hp.2 h4⟩
theorem tO(hst:∀k o,g.st k o→g'.st k o){c:Array Value}{sz:Nat}:∀(l:List (List AVal)) (o:Nat),l.all AVal.aS=true→gr g w c sz l o→gr g' w c sz l o
 | [],_,_,_=>trivial
 |r::rs,o,hp,h=>by
  simp only[List.all_cons,Bool.and_eq_true]at hp;exact⟨⟨h.1.1,Dp hst r o hp.1 h.1.2⟩,tO hst rs (o+sz) hp.2 h.2⟩
mutual
theorem RF{b v:Nat}(hst:∀k o,g.st k o→g'.st k o)(hrho:∀x,g.ai b v=some x→g'.ai 0 0=some x):∀(a:AVal) (x:Value),a.ue=true→R g w (a.yF b v) x→R g' w a x
 | .sc _,x,_,hr=>by simpa[R,AVal.yF]using hr
 | .agg cs,x,hp,hr=>by
  simp only[R,AVal.ue,AVal.yF]at hr hp ⊢;obtain⟨vs,e,h1,hl⟩:=hr;exact⟨vs,e,h1,zm hst hrho cs vs hp hl⟩
 | .ct cs,x,hp,hr=>by
  simp only[R,AVal.ue,AVal.yF]at hr hp ⊢;obtain⟨vs,e,hl⟩:=hr;exact⟨vs,e,zm hst hrho cs vs hp hl⟩
 | .ptr b' v' i o,x,hp,hr=>by
  grind [R,AVal.ue,AVal.yF]
 | .bU cs o,x,_,hr=>by
  grind [R,AVal.yF,ki]
 | .sl b' v' sz o n,x,hp,hr=>by
  grind [R,AVal.ue,AVal.yF]
 | .aB rows,x,_,hr=>kM hst _ x rfl (by simpa only[AVal.yF]using hr)
 | .fn f c d,x,hp,hr=>by
  simp only[R,AVal.ue,AVal.yF,Bool.and_eq_true]at hr hp ⊢;obtain⟨va,vb,e,h1,h2⟩:=hr;exact⟨va,vb,e,zm hst hrho c va hp.1 h1,zm hst hrho d vb hp.2 h2⟩
 | .fQ t a,x,hp,hr=>by
  simp only[R,AVal.ue,AVal.yF]at hr hp ⊢;obtain⟨y,e,h1⟩:=hr;exact⟨y,e,RF hst hrho a y hp h1⟩
 | .mp _,_,hp,_=>by simp[AVal.ue]at hp
 | .jv _,_,hp,_=>by simp[AVal.ue]at hp
 | .sa b' v' i o s n,x,hp,hr=>by
  grind [R,AVal.ue,AVal.yF]
 | .gN i o,x,_,hr=>by simpa[R,AVal.yF]using hr
 | .emp,x,_,hr=>by simpa[R,AVal.yF]using hr
 | .nz _,x,_,hr=>by simpa[R,AVal.yF]using hr
 | .aq,x,_,_=>by simp[R]
theorem zm{b v:Nat}(hst:∀k o,g.st k o→g'.st k o)(hrho:∀x,g.ai b v=some x→g'.ai 0 0=some x):∀(a:List AVal) (x:List Value),AVal.mU a=true→RL g w (AVal.vo b v a) x→RL g' w a x
 | [],x,_,hr=>by simpa[RL,AVal.vo]using hr
 |a::as,x,hp,hr=>by
  simp only[RL,AVal.mU,AVal.vo,Bool.and_eq_true]at hr hp ⊢;obtain⟨y,ys,e,h1,h2⟩:=hr;exact⟨y,ys,e,RF hst hrho a y hp.1 h1,zm hst hrho as ys hp.2 h2⟩
end
theorem zn{x:af}(h:x.lX=true):∃sz rows,x=.row 0 sz rows∧rows.all AVal.aS=true:=by
 unfold af.lX at h;grind
open Classical in
theorem bO.move{f:FuncId}{args:List AVal}{x x':af}{r:aP}(h:bO P f args [x] r [x'])(ha:AVal.mU args=true)(hx:x.lX=true)(hx':x'.lX=true)(hr:r.CO=true)
 (b v:Nat) (H:List af) (hb:H[b]? =some (x.mc v)) (hd:∀b',b'≠b→∀y,H[b']? =some y→y=.dead):bO P f (AVal.vo b v args) H (r.Av b v) (H.set b (x'.mc v)):=by
 obtain⟨sz,rows,rfl,hp⟩:=zn hx;obtain⟨sz',rows',rfl,hp'⟩:=zn hx';simp only[af.mc]at hb ⊢;have hblt:b<H.length:=(List.getElem?_eq_some_iff.1 hb).1;refine⟨h.1,fun g w vs hi hl=>?_⟩
 let g':Gh:=⟨fun b' v'=>if b'=0∧v'=0 then g.ai b v else none,g.st⟩
 have h00:g'.ai 0 0=g.ai b v:=by simp[g']
 have hno:∀b' v',¬(b'=0∧v'=0)→g'.ai b' v'=none:=fun b' v' hc=>by simp[g',hc]
 have hst:∀k o,g.st k o→g'.st k o:=fun _ _ h=>h
 have hi':Inv g' [.row 0 sz rows] w:=by
  refine⟨fun b' y hy=>?_,fun b1 b2 y1 y2 v1 v2 k z z' e1 e2 _ _ _ _=>?_,fun b' v' hc=>?_,fun b' y v1 v2 hy hv hlt=>?_,fun b' y v1 k z o hy hv hk=>?_,hi.eU,fun i cs hc=>⟨(hi.dc i cs hc).1,ki hst _ _ _ (hi.dc i cs hc).1 (hi.dc i cs hc).2⟩⟩
  ·cases b' with
   |zero=>
    simp only[List.getElem?_cons_zero,Option.some.injEq]at hy;subst hy;rcases hi.good b _ hb with⟨k,c,e,h1,h2,h3,h4,h5⟩ |⟨h1,h2,h3⟩
    ·exact .inl ⟨k,c,e,by rw[h00];exact h1,h2,tO hst rows 0 hp h3,h4,h5⟩
    ·exact .inr ⟨h1,by rw[h00];exact h2,h3⟩
   |succ n=>simp at hy
  ·grind
  ·grind
  ·grind
  ·by_cases hc:b'=0∧v1=0
   ·obtain⟨rfl,rfl⟩:=hc;rw[h00]at hk;exact hi.free b _ v k z o hb rfl hk
   ·rw[hno _ _ hc]at hk;cases hk
 have hl':RL g' w args vs.toList:=zm hst (fun x hx=>by rw[h00];exact hx) _ _ ha hl
 refine(h.2 g' w vs hi' hl').mono fun e w' ⟨g1',hi1,hla,he⟩=>?_
 have hown:∀k,gz g' [.row 0 sz rows] k→gz g H k:=by
  rintro k ⟨b',y,v',z,hy,hv,hk⟩;by_cases hc:b'=0∧v'=0
  ·obtain⟨rfl,rfl⟩:=hc;rw[h00]at hk;exact⟨b,_,v,z,hb,rfl,hk⟩
  ·rw[hno _ _ hc]at hk;cases hk
 have hown':∀k,gz g H k→gz g' [.row 0 sz rows] k:=by
  rintro k ⟨b',y,v',z,hy,hv,hk⟩;by_cases hc:b'=b
  ·subst hc;rw[hb]at hy;cases hy;simp only[af.live,Option.some.injEq]at hv;subst hv;exact⟨0,_,0,z,rfl,rfl,by rw[h00];exact hk⟩
  ·rw[hd b' hc y hy]at hv;cases hv
 let g1:Gh:=⟨fun b' v'=>if b'=b∧v'=v then g1'.ai 0 0 else g.ai b' v',g1'.st⟩
 have e00:g1.ai b v=g1'.ai 0 0:=by simp[g1]
 have eno:∀b' v',¬(b'=b∧v'=v)→g1.ai b' v'=g.ai b' v':=fun b' v' hc=>by simp[g1,hc]
 have hst1:∀k o,g1'.st k o→g1.st k o:=fun _ _ h=>h
 have hget:∀b',b'≠b→(H.set b (.row v sz' rows'))[b']? =H[b']? :=fun b' hc=>List.getElem?_set_ne (Ne.symm hc)
 have hself:(H.set b (.row v sz' rows'))[b]? =some (.row v sz' rows'):=List.getElem?_set_self hblt;have hinv1:Inv g1 (H.set b (.row v sz' rows')) w':=by
  refine⟨fun b' y hy=>?_,fun b1 b2 y1 y2 v1 v2 k z z' e1 e2 l1 l2 _ _=>?_,fun b' v' hc=>?_,fun b' y v1 v2 hy hv hlt=>?_,fun b' y v1 k z o hy hv hk=>?_,hi1.eU,fun i cs hc=>⟨(hi1.dc i cs hc).1,ki hst1 _ _ _ (hi1.dc i cs hc).1 (hi1.dc i cs hc).2⟩⟩
  ·by_cases hc:b'=b
   ·subst hc;rw[hself]at hy;cases hy;rcases hi1.good 0 _ rfl with⟨k,c,e,h1,h2,h3,h4,h5⟩ |⟨h1,h2,h3⟩
    ·exact .inl ⟨k,c,e,by rw[e00];exact h1,h2,tO hst1 rows' 0 hp' h3,h4,h5⟩
    ·exact .inr ⟨h1,by rw[e00];exact h2,h3⟩
   ·rw[hget b' hc]at hy;rw[hd b' hc y hy];trivial
  ·have key:∀(b':Nat) (y:af) (v':Nat),(H.set b (.row v sz' rows'))[b']? =some y→y.live=some v'→b'=b:=by
    intro b' y v' hy hv;by_cases hc:b'=b
    ·exact hc
    ·rw[hget b' hc]at hy;rw[hd b' hc y hy]at hv;cases hv
   grind
  ·have hne:b'≠b:=by
    rintro rfl;rcases hc with hc |hc
    ·rw[hself]at hc;cases hc
    ·rw[List.length_set]at hc;omega
   rw[eno _ _ (fun hh=>hne hh.1)]
   refine hi.fresh b' v' ?_;grind
  ·by_cases hc:b'=b
   ·subst hc;rw[hself]at hy;cases hy;simp only[af.live,Option.some.injEq]at hv;subst hv;rw[eno _ _ (by omega)]
    exact hi.next b' _ v v2 hb rfl hlt
   ·rw[hget b' hc]at hy;rw[hd b' hc y hy]at hv;cases hv
  ·by_cases hc:b'=b
   ·subst hc;rw[hself]at hy;cases hy;simp only[af.live,Option.some.injEq]at hv;subst hv;rw[e00]at hk;exact hi1.free 0 _ 0 k z o rfl rfl hk
   ·rw[hget b' hc]at hy;rw[hd b' hc y hy]at hv;cases hv
 have hback:∀k,gz g1 (H.set b (.row v sz' rows')) k→gz g1' [.row 0 sz' rows'] k:=by
  rintro k ⟨b',y,v',z,hy,hv,hkz⟩;by_cases hc:b'=b
  ·subst hc;rw[hself]at hy;cases hy;simp only[af.live,Option.some.injEq]at hv;subst hv;rw[e00]at hkz;exact⟨0,_,0,z,rfl,rfl,hkz⟩
  ·rw[hget b' hc]at hy;rw[hd b' hc y hy]at hv;cases hv
 refine⟨g1,hinv1,⟨⟨fun b' v' y hy=>?_,fun k o hk=>hla.ext.st k o hk,hla.ext.cell,hla.ext.shape⟩,hla.size,fun k hk ho=>hla.keep k hk fun hc=>ho (hown k hc),fun k hk ho=>?_,by grind,hla.os,hla.tape,hla.output,fun k o hk hs=>(hla.stk k o hk hs).imp_right fun h=>⟨hown k h.1,fun ho=>h.2 (hback k ho)⟩,fun b' hb'=>?_,fun b' v' k z hk=>?_⟩,?_⟩
 ·by_cases hc:b'=b∧v'=v
  ·obtain⟨rfl,rfl⟩:=hc;rw[e00];exact hla.ext.ai 0 0 y (by rw[h00];exact hy)
  ·rw[eno _ _ hc];exact hy
 ·refine hown k (hla.own k hk ?_);grind
 ·grind
 ·by_cases hc:b'=b∧v'=v
  ·obtain⟨rfl,rfl⟩:=hc;rw[e00]at hk;rcases hla.s9 0 0 k z hk with⟨v1,z1,h1⟩ |h1
   ·grind
   ·exact .inr h1
  grind
 ·cases r with
  |ret u=>
   obtain⟨y,rfl,hy⟩:=he;have hq:(∃sz o n,u=.sl 0 0 sz o n)∨(u.pure=true∧u.Av b v=u):=by
    cases u with
    |sl b1 v1 sz o n=>
     grind [aP.CO]
    |_=>exact .inr ⟨hr,rfl⟩
   rcases hq with⟨sz,o,n,rfl⟩ |⟨hp2,he2⟩
   ·refine⟨y,rfl,?_⟩;grind [AVal.Av,R]
   ·refine⟨y,rfl,?_⟩;grind [kM]
  |aW u=>
   obtain⟨y,rfl,hy⟩:=he;exact⟨y,rfl,kN _ _ hr hy⟩
open Classical in
theorem bO.TZ{f:FuncId}{args:List AVal}{x:af}{r:aP}(h:bO P f args [x] r [.dead])(ha:AVal.mU args=true)(hx:x.lX=true)(hr:r.CO=true)
 (b v:Nat) (H:List af) (hb:H[b]? =some (x.mc v)) (hd:∀b',b'≠b→∀y,H[b']? =some y→y=.dead):bO P f (AVal.vo b v args) H (r.Av b v) (H.set b .dead):=by
 obtain⟨sz,rows,rfl,hp⟩:=zn hx;simp only[af.mc]at hb ⊢;have hblt:b<H.length:=(List.getElem?_eq_some_iff.1 hb).1;refine⟨h.1,fun g w vs hi hl=>?_⟩
 let g':Gh:=⟨fun b' v'=>if b'=0∧v'=0 then g.ai b v else none,g.st⟩
 have h00:g'.ai 0 0=g.ai b v:=by simp[g']
 have hno:∀b' v',¬(b'=0∧v'=0)→g'.ai b' v'=none:=fun b' v' hc=>by simp[g',hc]
 have hst:∀k o,g.st k o→g'.st k o:=fun _ _ h=>h
 have hi':Inv g' [.row 0 sz rows] w:=by
  refine⟨fun b' y hy=>?_,fun b1 b2 y1 y2 v1 v2 k z z' e1 e2 _ _ _ _=>?_,fun b' v' hc=>?_,fun b' y v1 v2 hy hv hlt=>?_,fun b' y v1 k z o hy hv hk=>?_,hi.eU,fun i cs hc=>⟨(hi.dc i cs hc).1,ki hst _ _ _ (hi.dc i cs hc).1 (hi.dc i cs hc).2⟩⟩
  ·cases b' with
   |zero=>
    simp only[List.getElem?_cons_zero,Option.some.injEq]at hy;subst hy;rcases hi.good b _ hb with⟨k,c,e,h1,h2,h3,h4,h5⟩ |⟨h1,h2,h3⟩
    ·exact .inl ⟨k,c,e,by rw[h00];exact h1,h2,tO hst rows 0 hp h3,h4,h5⟩
    ·exact .inr ⟨h1,by rw[h00];exact h2,h3⟩
   |succ n=>simp at hy
  ·grind
  ·grind
  ·grind
  ·by_cases hc:b'=0∧v1=0
   ·obtain⟨rfl,rfl⟩:=hc;rw[h00]at hk;exact hi.free b _ v k z o hb rfl hk
   ·rw[hno _ _ hc]at hk;cases hk
 have hl':RL g' w args vs.toList:=zm hst (fun x hx=>by rw[h00];exact hx) _ _ ha hl
 refine(h.2 g' w vs hi' hl').mono fun e w' ⟨g1',hi1,hla,he⟩=>?_
 have hown:∀k,gz g' [.row 0 sz rows] k→gz g H k:=by
  rintro k ⟨b',y,v',z,hy,hv,hk⟩;by_cases hc:b'=0∧v'=0
  ·obtain⟨rfl,rfl⟩:=hc;rw[h00]at hk;exact⟨b,_,v,z,hb,rfl,hk⟩
  ·rw[hno _ _ hc]at hk;cases hk
 have hown':∀k,gz g H k→gz g' [.row 0 sz rows] k:=by
  rintro k ⟨b',y,v',z,hy,hv,hk⟩;by_cases hc:b'=b
  ·subst hc;rw[hb]at hy;cases hy;simp only[af.live,Option.some.injEq]at hv;subst hv;exact⟨0,_,0,z,rfl,rfl,by rw[h00];exact hk⟩
  ·rw[hd b' hc y hy]at hv;cases hv
 let g1:Gh:=⟨fun b' v'=>if b'=b∧v'=v then g1'.ai 0 0 else g.ai b' v',g1'.st⟩
 have e00:g1.ai b v=g1'.ai 0 0:=by simp[g1]
 have eno:∀b' v',¬(b'=b∧v'=v)→g1.ai b' v'=g.ai b' v':=fun b' v' hc=>by simp[g1,hc]
 have hst1:∀k o,g1'.st k o→g1.st k o:=fun _ _ h=>h
 have hget:∀b',b'≠b→(H.set b .dead)[b']? =H[b']? :=fun b' hc=>List.getElem?_set_ne (Ne.symm hc)
 have hself:(H.set b .dead)[b]? =some .dead:=List.getElem?_set_self hblt;have hinv1:Inv g1 (H.set b .dead) w':=by
  refine⟨fun b' y hy=>?_,fun b1 b2 y1 y2 v1 v2 k z z' e1 e2 l1 l2 _ _=>?_,fun b' v' hc=>?_,fun b' y v1 v2 hy hv hlt=>?_,fun b' y v1 k z o hy hv hk=>?_,hi1.eU,fun i cs hc=>⟨(hi1.dc i cs hc).1,ki hst1 _ _ _ (hi1.dc i cs hc).1 (hi1.dc i cs hc).2⟩⟩
  ·by_cases hc:b'=b
   ·subst hc;rw[hself]at hy;cases hy
    trivial
   ·rw[hget b' hc]at hy;rw[hd b' hc y hy];trivial
  ·have key:∀(b':Nat) (y:af) (v':Nat),(H.set b .dead)[b']? =some y→y.live=some v'→b'=b:=by
    intro b' y v' hy hv;by_cases hc:b'=b
    ·exact hc
    ·rw[hget b' hc]at hy;rw[hd b' hc y hy]at hv;cases hv
   grind
  ·have hne:b'≠b:=by
    rintro rfl;rcases hc with hc |hc
    ·rw[hself]at hc;cases hc
    ·rw[List.length_set]at hc;omega
   rw[eno _ _ (fun hh=>hne hh.1)]
   refine hi.fresh b' v' ?_;grind
  ·by_cases hc:b'=b
   ·subst hc;rw[hself]at hy;cases hy;cases hv
   ·rw[hget b' hc]at hy;rw[hd b' hc y hy]at hv;cases hv
  ·by_cases hc:b'=b
   ·subst hc;rw[hself]at hy;cases hy;cases hv
   ·rw[hget b' hc]at hy;rw[hd b' hc y hy]at hv;cases hv
 have hback:∀k,gz g1 (H.set b .dead) k→gz g1' [.dead] k:=by
  rintro k ⟨b',y,v',z,hy,hv,hkz⟩;by_cases hc:b'=b
  ·subst hc;rw[hself]at hy;cases hy;cases hv
  ·rw[hget b' hc]at hy;rw[hd b' hc y hy]at hv;cases hv
 refine⟨g1,hinv1,⟨⟨fun b' v' y hy=>?_,fun k o hk=>hla.ext.st k o hk,hla.ext.cell,hla.ext.shape⟩,hla.size,fun k hk ho=>hla.keep k hk fun hc=>ho (hown k hc),fun k hk ho=>?_,by grind,hla.os,hla.tape,hla.output,fun k o hk hs=>(hla.stk k o hk hs).imp_right fun h=>⟨hown k h.1,fun ho=>h.2 (hback k ho)⟩,fun b' hb'=>?_,fun b' v' k z hk=>?_⟩,?_⟩
 ·by_cases hc:b'=b∧v'=v
  ·obtain⟨rfl,rfl⟩:=hc;rw[e00];exact hla.ext.ai 0 0 y (by rw[h00];exact hy)
  ·rw[eno _ _ hc];exact hy
 ·refine hown k (hla.own k hk ?_);grind
 ·grind
 ·by_cases hc:b'=b∧v'=v
  ·obtain⟨rfl,rfl⟩:=hc;rw[e00]at hk;rcases hla.s9 0 0 k z hk with⟨v1,z1,h1⟩ |h1
   ·grind
   ·exact .inr h1
  grind
 ·cases r with
  |ret u=>
   obtain⟨y,rfl,hy⟩:=he;have hq:(∃sz o n,u=.sl 0 0 sz o n)∨(u.pure=true∧u.Av b v=u):=by
    cases u with
    |sl b1 v1 sz o n=>
     grind [aP.CO]
    |_=>exact .inr ⟨hr,rfl⟩
   rcases hq with⟨sz,o,n,rfl⟩ |⟨hp2,he2⟩
   ·refine⟨y,rfl,?_⟩;grind [AVal.Av,R]
   ·refine⟨y,rfl,?_⟩;grind [kM]
  |aW u=>
   obtain⟨y,rfl,hy⟩:=he;exact⟨y,rfl,kN _ _ hr hy⟩
theorem bO.T0{f:FuncId}{args:List AVal}{x x':af}{r:aP}(h:bO P f args [x] r [x'])(ha:AVal.mU args=true)(hx:x.lX=true)(hx':x'.lX=true∨x'=.dead)(hr:r.CO=true)
 (b v:Nat) (H:List af) (hb:H[b]? =some (x.mc v)) (hd:∀b',b'≠b→∀y,H[b']? =some y→y=.dead):bO P f (AVal.vo b v args) H (r.Av b v) (H.set b (x'.mc v)):=by
 rcases hx' with hx' |rfl
 ·exact h.move ha hx hx' hr b v H hb hd
 ·exact h.TZ ha hx hr b v H hb hd
theorem bO.frame{f:FuncId}{args:List AVal}{H:List af}{r:aP}{b:Nat}{y:af}(h:bO P f args (mask [b] H) r ((mask [b] H).set b y))(hb:b<H.length):bO P f args H r (H.set b y):=by
 refine⟨h.1,fun g w vs hi hl=>(h.2 g w vs (pP hi [b]) hl).mono fun e w' ⟨g1,hi1,hla,he⟩=>?_⟩
 have hlen:((mask [b] H).set b y).length=H.length:=by rw[List.length_set,qC]
 have:=Inv.merge hi hi1 hla (by omega)
 have e1:merged [b] H ((mask [b] H).set b y)=H.set b y:=by
  simp only[merged,List.foldl_cons,List.foldl_nil];rw[List.getD_eq_getElem?_getD,List.getElem?_set_self (by rw[qC];exact hb)];rfl
 have e2:((mask [b] H).set b y).drop H.length=[]:=List.drop_of_length_le (by omega)
 rw[e1,e2,List.append_nil]at this;exact⟨g1,this.1,this.2,he⟩
mutual
theorem xm(n:Nat):∀(v:AVal),v.pure=true→v.gG n=true
 | .sc _,_=>rfl
 | .agg cs,h=>by simp only[AVal.pure,AVal.gG]at h ⊢;exact lB n cs h
 | .ct cs,h=>by simp only[AVal.pure,AVal.gG]at h ⊢;exact lB n cs h
 | .ptr ..,h=>by simp[AVal.pure]at h
 | .bU ..,_=>rfl
 | .sl ..,h=>by simp[AVal.pure]at h
 | .aB _,_=>rfl
 | .fn f a b,h=>by
  simp only[AVal.pure,AVal.gG,Bool.and_eq_true]at h ⊢;exact⟨lB n a h.1,lB n b h.2⟩
 | .fQ t v,h=>by simp only[AVal.pure,AVal.gG]at h ⊢;exact xm n v h
 | .mp _,h=>by simp[AVal.pure]at h
 | .jv _,h=>by simp[AVal.pure]at h
 | .sa ..,h=>by simp[AVal.pure]at h
 | .gN ..,_=>rfl
 | .emp,_=>rfl
 | .nz _,_=>rfl
 | .aq,_=>rfl
theorem lB(n:Nat):∀(l:List AVal),AVal.aS l=true→AVal.oI n l=true
 | [],_=>rfl
 |a::as,h=>by
  simp only[AVal.aS,AVal.oI,Bool.and_eq_true]at h ⊢;exact⟨xm n a h.1,lB n as h.2⟩
end
theorem bO.take{f:FuncId}{args:List AVal}{H H1:List af}{a:aP}(h:bO P f args H a H1)(h0:0<H.length)(ha:a.CO=true)(hb:∀x∈H1.take H.length,x.lX=true∨x=.dead):bO P f args H a (H1.take H.length):=by
 refine⟨h.1,fun g w vs hi hl=>(h.2 g w vs hi hl).mono fun e w' ⟨g1,hi1,hla,he⟩=>?_⟩
 have hlen:(H1.take H.length).length=H.length:=by rw[List.length_take];have:=hla.len;omega
 have hK:H1.take H.length++H1.drop H.length=H1:=List.take_append_drop _ _;obtain⟨i1,i2⟩:=Inv.drop (n:=H.length) (K:=H1.take H.length) (L:=H1.drop H.length) hi (by rw[hK];exact hi1) (by rw[hK];exact hla) hlen rfl fun b x hx=>.inl (by
  rcases hb x (List.mem_of_getElem? hx)with hb |rfl
  ·grind [zn,xe,lB]
  ·rfl)
 refine⟨g1.upto H.length,i1,i2,?_⟩;cases a with
 |ret v=>
  obtain⟨x,rfl,hx⟩:=he;refine⟨x,rfl,?_⟩;by_cases hp:v.pure=true
  ·exact kM (g:=g1) (g2:=g1.upto H.length) (fun _ _ h=>h) v x hp hx
  ·cases v<;>try exact absurd ha hp
   rename_i b ak sz o n;simp only[aP.CO,Bool.and_eq_true,beq_iff_eq]at ha;obtain⟨rfl,rfl⟩:=ha;simp only[R]at hx ⊢;rcases hx with hx |⟨k,cap,e,s,h1,h2⟩
   ·exact .inl hx
   ·exact .inr ⟨k,cap,e,s,by simpa[Gh.upto,h0]using h1,h2⟩
 |aW v=>
  obtain⟨x,rfl,hx⟩:=he;exact⟨x,rfl,kN v x ha hx⟩
theorem Fs{pr:List Nat}{n:Nat}:∀{L:List af} {i:Nat},Fq pr n i L=true→∀(b:Nat) (x:af),L[b]? =some x→pr.contains (i+b)=true∨xe n x=true
 | [],_,_,b,x,h=>by simp at h
 |y::ys,i,hl,0,x,h=>by
  grind [Fq]
 |y::ys,i,hl,b+1,x,h=>by
  simp only[Fq,Bool.and_eq_true]at hl;have:=Fs hl.2 b x (by simpa using h)
  grind
theorem bO.trim{f:FuncId}{args:List AVal}{H H1:List af}{a:aP}{pr:List Nat}(h:bO P f args H a H1)(hpan:∀v,a=.aW v→v.flat=true)(ha:a.gG H.length=true)(hl:Fq pr H.length 0 (H1.take H.length)=true)
 (hp:∀i,pr.contains i=true→∃x,H1[i]? =some x∧vp x=true):bO P f args H a (H1.take H.length):=by
 refine⟨h.1,fun g w vs hi hl'=>(h.2 g w vs hi hl').mono fun e w' ⟨g1,hi1,hla,he⟩=>?_⟩
 have hlen:(H1.take H.length).length=H.length:=by rw[List.length_take];have:=hla.len;omega
 have hK:H1.take H.length++H1.drop H.length=H1:=List.take_append_drop _ _;obtain⟨i1,i2⟩:=Inv.drop (n:=H.length) (K:=H1.take H.length) (L:=H1.drop H.length) hi (by rw[hK];exact hi1) (by rw[hK];exact hla) hlen rfl fun b x hx=>.inl (by
  rcases Fs hl b x hx with hc |hc
  ·grind [Aw,xe,lB,xm]
  ·exact hc)
 refine⟨g1.upto H.length,i1,i2,?_⟩;cases a with
 |ret v=>
  obtain⟨x,rfl,hx⟩:=he;exact⟨x,rfl,nF (n:=H.length) (g:=g1) (g2:=g1.upto H.length) (fun _ _ h=>h) (fun b ak x hb he=>by grind [Gh.upto]) v x ha hx⟩
 |aW v=>
  obtain⟨x,rfl,hx⟩:=he;exact⟨x,rfl,kN v x (hpan v rfl) hx⟩
mutual
theorem RG{b:Nat}:∀(a:AVal) (x:Value),R g w a x→R g w (a.but b) x
 | .sc _,x,hr=>by simpa only[AVal.but]using hr
 | .agg cs,x,hr=>by
  simp only[R,AVal.but]at hr ⊢;obtain⟨vs,e,h1,hl⟩:=hr;exact⟨vs,e,h1,BE cs vs hl⟩
 | .ct cs,x,hr=>by
  simp only[R,AVal.but]at hr ⊢;obtain⟨vs,e,hl⟩:=hr;exact⟨vs,e,BE cs vs hl⟩
 | .ptr ..,x,hr=>by
  grind [AVal.but,R]
 | .bU ..,x,hr=>by simpa only[AVal.but]using hr
 | .sl ..,x,hr=>by
  grind [AVal.but,R]
 | .aB _,x,hr=>by simpa only[AVal.but]using hr
 | .fn f c d,x,hr=>by
  simp only[R,AVal.but]at hr ⊢;obtain⟨va,vb,e,h1,h2⟩:=hr;exact⟨va,vb,e,BE c va h1,BE d vb h2⟩
 | .fQ t a,x,hr=>by
  simp only[R,AVal.but]at hr ⊢;obtain⟨y,e,h1⟩:=hr;exact⟨y,e,RG a y h1⟩
 | .mp _,_,_=>by simp[AVal.but,R]
 | .jv _,_,_=>by simp[AVal.but,R]
 | .sa ..,x,hr=>by
  grind [AVal.but,R]
 | .gN ..,x,hr=>by simpa only[AVal.but]using hr
 | .emp,x,hr=>by simpa only[AVal.but]using hr
 | .nz _,x,hr=>by simpa only[AVal.but]using hr
 | .aq,x,_=>by simp[AVal.but,R]
theorem BE{b:Nat}:∀(a:List AVal) (x:List Value),RL g w a x→RL g w (AVal.zl b a) x
 | [],x,hr=>by simpa[RL,AVal.zl]using hr
 |a::as,x,hr=>by
  simp only[RL,AVal.zl]at hr ⊢;obtain⟨y,ys,e,h1,h2⟩:=hr;exact⟨y,ys,e,RG a y h1,BE as ys h2⟩
end
theorem bO.but{b:Nat}{f:FuncId}{args:List AVal}{H H1:List af}{r:aP}(h:bO P f (AVal.zl b args) H r H1):bO P f args H r H1:=
 ⟨h.1,fun g w vs hi hl=>h.2 g w vs hi (BE _ _ hl)⟩
end
end Go.AM
end
section
namespace Go.AM
section
variable [aF] {P:Program} {cfg:fE} {X:Env P}
theorem sK:gL P wz:=⟨fun _ _ _ _ _ h=>by simp[wz]at h,fun _ _ _ _ _ h=>by simp[wz]at h⟩
open Classical in
noncomputable def qo(f:FuncId)(args:List AVal)(H:List af)(r:aP)(H1:List af):jU:=
 ⟨fun f' args' H'=>if f'=f∧args'=args∧H'=H then some (r,H1)else none,fun _ _ _=>none⟩
theorem Az{f:FuncId}{args:List AVal}{H H1:List af}{r:aP}(h:bO P f args H r H1):gL P (qo f args H r H1):=by
 refine⟨fun f' args' H' r' H1' hr=>?_,fun _ _ _ _ _ h=>by simp[qo]at h⟩
 simp only[qo]at hr;split at hr
 ·rename_i hc;obtain⟨rfl,rfl,rfl⟩:=hc;simp only[Option.some.injEq,Prod.mk.injEq]at hr;obtain⟨rfl,rfl⟩:=hr;exact h
 ·cases hr
open Classical in
noncomputable def BF(f:FuncId)(args:List AVal)(r:aP):jU:=
 ⟨fun f' args' H=>if f'=f∧args'=args∧H=[]then some (r,[])else none,fun _ _ _=>none⟩
theorem M6{f:FuncId}{args:List AVal}{r:aP}(h:jV P f args r):gL P (BF f args r):=by
 refine⟨fun f' args' H r' H1 hr=>?_,fun _ _ _ _ _ h=>by simp[BF]at h⟩
 simp only[BF]at hr;split at hr
 ·rename_i hc;obtain⟨rfl,rfl,rfl⟩:=hc;simp only[Option.some.injEq,Prod.mk.injEq]at hr;obtain⟨rfl,rfl⟩:=hr;exact h
 ·cases hr
def F7(P:Program)[aF](b:Nat)(args:List AVal)(H:List af)(r:aP)(H1:List af):Prop:=
 ∀g w (vs:Array Value) k sz,Inv g H w→RL g w args vs.toList→g.ai b 0=some (k,sz)→
  ∃rec,w.heap[k]? =some (.loop rec)∧vs.size=rec.params.size∧RoundIn Fence.wide 0 P k rec.fn (mN rec vs) rec.assign rec.body w (ff g H w r H1)
open Classical in
noncomputable def Dq(b:Nat)(args:List AVal)(H:List af)(r:aP)(H1:List af):jU:=
 ⟨fun _ _ _=>none,fun b' args' H'=>if b'=b∧args'=args∧H'=H then some (r,H1)else none⟩
theorem OM{b:Nat}{args:List AVal}{H H1:List af}{r:aP}(h:F7 P b args H r H1):gL P (Dq b args H r H1):=by
 refine⟨fun _ _ _ _ _ h=>by simp[Dq]at h,fun b' args' H' r' H1' hr=>?_⟩
 simp only[Dq]at hr;split at hr
 ·rename_i hc;obtain⟨rfl,rfl,rfl⟩:=hc;simp only[Option.some.injEq,Prod.mk.injEq]at hr;obtain⟨rfl,rfl⟩:=hr;exact h
 ·cases hr
theorem F7.wk{b:Nat}{args:List AVal}{H H1:List af}{r:aP}(h:F7 P b (nJ args) H r H1):F7 P b args H r H1:=
 fun g w vs k sz hi hl hk=>h g w vs k sz hi (xM _ _ hl) hk
structure oU(P:Program)[aF](N:A4 P):Prop where
 fn:∀{ρ:Type} {n:Nat} {f:FuncId} {args:List AVal} {H:List af} {g:G P ρ} {k:G P ρ→aP→List af→Prop} {r:ρ},N.fn f args H g k→g.run n=some r→
  ∃g' a H1,k g' a H1∧g'.run n=some r∧bO P f args H a H1
 CM:∀{ρ:Type} {n:Nat} {b:Nat} {args:List AVal} {H:List af} {g:G P ρ} {k:G P ρ→aP→List af→Prop} {r:ρ},N.CM b args H g k→g.run n=some r→
  ∃g' a H1,k g' a H1∧g'.run n=some r∧F7 P b args H a H1
 lp:∀{σ:Type} {sh:Sh} {n:Nat} {ro:Option Nat} {H0:List af} {b:Code} {g:G P (σ⊕sh.El)} {E:σ→St} {s:St} {Y:sh.El→bh×St} {q:σ⊕sh.El},N.lp ro H0 b g E s Y→g.run n=some q→
  ∃(g':G P (σ⊕sh.El)) (o:bh) (s':St),oT H0 E Y g' o s'∧g'.run n=some q∧∀fro g0 w0,Inv g0 H0 w0→oe g0 ro fro→fu P fro g0 H0 w0 b s fun o1 s1=>o1=o∧s1=s'
variable {ops:Array Oper} {n0 nid:Nat} {o:Oper} {s:St}
theorem Dr{orc orc':jU}(h:iZ ops s.A o=some true→∀pre,(bD P cfg nid (cK s.A) o.op).run s.H=some pre→finish orc s.H pre=finish orc' s.H pre):
 fH P cfg orc ops n0 o nid s=fH P cfg orc' ops n0 o nid s:=by
 grind [fH]
theorem mE{n:Nat}{ρ:Type}{r:ρ}:∀{g:G P ρ} {s:St} {k:G P ρ→St→Prop},oF g s k→g.run n=some r→∃g',k g' s∧g'.run n=some r
 | .br d c t f,s,k,h,hr=>by
  simp only[oF,oN]at h;obtain⟨hd,h1,h2⟩:=h;have hset:s.A.set d (.sc (.bool c))=s.A:=by
   apply List.ext_getElem?;intro j;by_cases hj:d=j
   ·grind
   ·rw[List.getElem?_set_ne hj]
  cases c with
  |true=>
   rw[hset]at h1;simp only[G.run,if_true]at hr;exact mE h1 hr
  |false=>
   rw[hset]at h2;simp only[G.run,Bool.false_eq_true,if_false]at hr;exact mE h2 hr
 | .ER d ik x c t f,s,k,h,hr=>by
  simp only[oF,oN]at h;obtain⟨hd,h1,h2⟩:=h;by_cases hx:x=c
  ·subst hx;have hset:s.A.set d (.sc (.int ik x))=s.A:=by
    apply List.ext_getElem?;intro j;by_cases hj:d=j
    ·grind
    ·rw[List.getElem?_set_ne hj]
   rw[hset]at h1;simp only[G.run,if_true]at hr;exact mE h1 hr
  ·simp only[G.run,hx,if_false]at hr;exact mE h2 hr
 | .sp c t f,s,k,h,hr=>by
  simp only[oF]at h;cases c with
  |true=>
   simp only[G.run,if_true]at hr;exact mE h.1 hr
  |false=>
   simp only[G.run,Bool.false_eq_true,if_false]at hr;exact mE h.2 hr
 | .fail,s,k,h,hr=>by simp[G.run]at hr
 | .stop,s,k,h,hr=>by simp[G.run]at hr
 | .done ..,s,k,h,hr=>⟨_,h,hr⟩
 | .skip ..,s,k,h,hr=>⟨_,h,hr⟩
 | .op ..,s,k,h,hr=>⟨_,h,hr⟩
 | .call ..,s,k,h,hr=>⟨_,h,hr⟩
 | .cV ..,s,k,h,hr=>⟨_,h,hr⟩
 | .bw ..,s,k,h,hr=>⟨_,h,hr⟩
 | .tidy ..,s,k,h,hr=>⟨_,h,hr⟩
 | .loop ..,s,k,h,hr=>⟨_,h,hr⟩
 | .nq ..,s,k,h,hr=>⟨_,h,hr⟩
 | .gu ..,s,k,h,hr=>⟨_,h,hr⟩
 | .xk ..,s,k,h,hr=>⟨_,h,hr⟩
 | .join ..,s,k,h,hr=>⟨_,h,hr⟩
 | .inl ..,s,k,h,hr=>⟨_,h,hr⟩
theorem Ln{x:Option Pre}{f:FuncId}{args:List AVal}(h:JV x=some (f,args)):∃args' own,x=some (.D9 f args' own)∧nJ args'=args:=by
 unfold JV at h;grind
theorem jV.wk{f:FuncId}{args:List AVal}{r:aP}(h:jV P f (nJ args) r):jV P f args r:=
 ⟨h.1,fun g w vs hi hl=>h.2 g w vs hi (xM _ _ hl)⟩
theorem M7{H:List af}{x:Option Pre}{f:FuncId}{args:List AVal}{H1:List af}(h:M4 H x=some (f,args,H1)):∃args' ids,x=some (.kY f args' ids)∧nJ args'=args∧mask ids H=H1:=by
 unfold M4 at h;grind
theorem zo{ids:List Nat}{H:List af}(hp:∀i,ids.contains i=true→∃x,H[i]? =some x∧vp x=true):
 ∀(n:Nat) (l seen:List Nat),Ef ids l=true→l.length≤n→(closure n l seen).run H=some (Ay l seen)∧(closure n l seen).reads H=wA l seen
 |_,[],_,_,_=>by simp[closure,Rd.run,Rd.reads,Ay,wA]
 | 0,_::_,_,_,h=>by simp at h
 |n+1,c::cs,seen,h,hl=>by
  simp only[Ef,Bool.and_eq_true]at h;simp only[List.length_cons]at hl;simp only[closure,Ay,wA];cases hc:seen.contains c with
  |true=>
   simp only[if_true];exact zo hp n cs seen h.2 (by omega)
  |false=>
   obtain⟨x,hb,hpb⟩:=hp c h.1;obtain⟨q1,q2⟩:=zo hp n cs (c::seen) h.2 (by omega)
   grind [Aw,Rd.run,Rd.reads]
theorem Ds{ids:List Nat}:∀(l seen:List Nat),Ef ids l=true→(∀i∈seen,ids.contains i=true)→∀i∈Ay l seen,ids.contains i=true
 | [],_,_,hs,i,hi=>hs i hi
 |c::cs,seen,h,hs,i,hi=>by
  simp only[Ef,Bool.and_eq_true]at h;simp only[Ay]at hi;cases hc:seen.contains c with
  |true=>rw[hc]at hi;exact Ds cs seen h.2 hs i hi
  |false=>
   rw[hc]at hi;refine Ds cs (c::seen) h.2 (fun j hj=>?_) i hi
   grind
theorem lY{α β:Type}{H:List af}:∀{m:Rd α} {f:α→β} {x:α},m.run H=some x→(m.bind fun y=>.done (f y)).run H=some (f x)∧(m.bind fun y=>.done (f y)).reads H=m.reads H
 | .done a,f,x,h=>by grind [Rd.run,Rd.bind,Rd.reads]
 | .get b k,f,x,h=>by
  simp only[Rd.run]at h;split at h
  ·rename_i y hy;have:=lY (f:=f) h;simp[Rd.bind,Rd.run,Rd.reads,hy,this]
  ·cases h
theorem JW{ids:List Nat}{ai:Operand→AVal}{op:Op}{nid:Nat}{H:List af}{f:FuncId}{args:List AVal}{js rs:List Nat}(h:sH P cfg ids ai op=some (f,args,js,rs))
 (hp:∀i,ids.contains i=true→∃x,H[i]? =some x∧vp x=true):
 (bD P cfg nid ai op).run H=some (.kY f args js)∧(bD P cfg nid ai op).reads H=rs∧∀i∈js,ids.contains i=true:=by
 unfold sH at h;split at h
 ·rename_i g _ _ _;split at h
  ·rename_i n p q hg;split at h
   ·rename_i fn hfn;split at h
    ·rename_i hc;simp only[Bool.or_eq_false_iff]at hc;dsimp only at h;split at h
     ·rename_i ho;simp only[Option.some.injEq,Prod.mk.injEq]at h;simp only[Bool.and_eq_true]at ho;have ho2:=Nat.le_of_ble_eq_true ho.2;obtain⟨rfl,rfl,rfl,rfl⟩:=h;obtain⟨q1,q2⟩:=zo hp 1000 _ [] ho.1 (by omega)
      simp only[bD,hg,hfn,hc.1.1,Bool.false_eq_true,if_false,qB,hc.1.2,hc.2];exact⟨(lY q1).1,(lY q1).2.trans q2,Ds _ [] ho.1 (by simp)⟩
     ·cases h
    ·cases h
   ·cases h
  ·cases h
 ·cases h
theorem ON{H:List af}{b:Nat}{x:Option (FuncId×List AVal×List Nat×List Nat)}{f:FuncId}{args:List AVal}{y:Option af}(h:Qs H b x=some (f,args,y)):∃args' ids rs,x=some (f,args',ids,rs)∧AVal.zl b (nJ args')=args∧H[b]? =y∧ids.contains b=true:=by
 unfold Qs at h;grind
theorem BG:∀{l:List PR} {H:List af},Mc l H→∀i,(l.map (·.b)).contains i=true→∃x,H[i]? =some x∧vp x=true
 | [],_,_,i,h=>by simp at h
 |p::ps,H,hc,i,h=>by
  simp only[List.map_cons,List.contains_cons,Bool.or_eq_true,beq_iff_eq]at h;rcases h with rfl |h
  ·exact⟨_,hc.1,p.pf⟩
  ·exact BG hc.2 i h
theorem bO.wk{f:FuncId}{args:List AVal}{H H1:List af}{r:aP}(h:bO P f (nJ args) H r H1):bO P f args H r H1:=
 ⟨h.1,fun g w vs hi hl=>h.2 g w vs hi (xM _ _ hl)⟩
theorem pS{pr:List Nat}{H:List af}(hp:∀i,pr.contains i=true→∃x,H[i]? =some x∧vp x=true):
 ∀(n:Nat) (l seen ids rs:List Nat),sI pr H n l seen=some (ids,rs)→(closure n l seen).run H=some ids∧(closure n l seen).reads H=rs
 |_,[],seen,ids,rs,h=>by
  grind [sI,closure,Rd.run,Rd.reads]
 | 0,_::_,_,_,_,h=>by simp[sI]at h
 |n+1,b::todo,seen,ids,rs,h=>by
  simp only[sI]at h;simp only[closure];cases hc:seen.contains b with
  |true=>
   rw[hc]at h;simp only[if_true];exact pS hp n todo seen ids rs h
  |false=>
   rw[hc]at h;simp only[Bool.false_eq_true,if_false];cases hpr:pr.contains b with
   |true=>
    rw[hpr]at h;simp only[Option.map_eq_some_iff,Prod.exists,Prod.mk.injEq]at h;obtain⟨ids',rs',h,rfl,rfl⟩:=h;obtain⟨x,hb,hpb⟩:=hp b hpr;obtain⟨q1,q2⟩:=pS hp n todo (b::seen) _ _ h;grind [Aw,Rd.run,Rd.reads]
   |false=>
    rw[hpr]at h;simp only at h;split at h
    ·rename_i v sz rows hb;simp only[Option.map_eq_some_iff,Prod.exists,Prod.mk.injEq]at h;obtain⟨ids',rs',h,rfl,rfl⟩:=h;obtain⟨q1,q2⟩:=pS hp n _ (b::seen) _ _ h;grind [Rd.run,Rd.reads]
    ·rename_i hb;simp only[Option.map_eq_some_iff,Prod.exists,Prod.mk.injEq]at h;obtain⟨ids',rs',h,rfl,rfl⟩:=h;obtain⟨q1,q2⟩:=pS hp n _ (b::seen) _ _ h;grind [Rd.run,Rd.reads]
    ·rename_i hb;simp only[Option.map_eq_some_iff,Prod.exists,Prod.mk.injEq]at h;obtain⟨ids',rs',h,rfl,rfl⟩:=h;obtain⟨q1,q2⟩:=pS hp n _ (b::seen) _ _ h;grind [Rd.run,Rd.reads]
    ·rename_i x hx hl hit hb;simp only[Option.map_eq_some_iff,Prod.exists,Prod.mk.injEq]at h;obtain⟨ids',rs',h,rfl,rfl⟩:=h;obtain⟨q1,q2⟩:=pS hp n _ (b::seen) _ _ h;grind [Rd.run,Rd.reads]
    ·cases h
def JX:FuncId⊕Nat→List AVal→List Nat→Pre
 | .inl f,args,ids=>.kY f args ids
 | .inr b,args,ids=>.round b args ids
theorem Md{cfg:fE}{pr:List Nat}{ai:Operand→AVal}{op:Op}{H:List af}{t:FuncId⊕Nat}{args:List AVal}{ids rs:List Nat}(hp:∀i,pr.contains i=true→∃x,H[i]? =some x∧vp x=true)
 (h:Fo P cfg pr ai op H=some (t,args,ids,rs)):(bD P cfg nid ai op).run H=some (JX t args ids)∧(bD P cfg nid ai op).reads H=rs:=by
 unfold Fo at h;split at h
 ·rename_i g _ _ _;split at h
  ·rename_i n p q hg;split at h
   ·rename_i fn hfn;split at h
    ·rename_i hc;simp only[Bool.or_eq_false_iff]at hc;split at h
     ·rename_i ids' rs' hcl;simp only[Option.some.injEq,Prod.mk.injEq]at h;obtain⟨rfl,rfl,rfl,rfl⟩:=h;obtain⟨q1,q2⟩:=pS hp _ _ _ _ _ hcl;simp only[bD,hg,hfn,hc.1.1,Bool.false_eq_true,if_false,qB,hc.1.2,hc.2];exact⟨(lY q1).1,(lY q1).2.trans q2⟩
     ·cases h
    ·cases h
   ·cases h
  ·rename_i b hg;split at h
   ·rename_i ids' rs' hcl;simp only[Option.some.injEq,Prod.mk.injEq]at h;obtain⟨rfl,rfl,rfl,rfl⟩:=h;obtain⟨q1,q2⟩:=pS hp _ _ _ _ _ hcl;simp only[bD,hg];exact⟨(lY q1).1,(lY q1).2.trans q2⟩
   ·cases h
  ·cases h
 ·cases h
theorem wB{ids:List Nat}{H H1:List af}{a:aP}{k:di→List Nat→Bool→Prop}{kp:AVal→Prop}(h:Dn ids H a H1 k kp):
 (∃e,fG H ids (some (a,H1))=some (.ok e)∧k e (e.dV.map (·.1)) (!e.news.isEmpty))∨(∃v,fG H ids (some (a,H1))=some (.aW v ids)∧kp v):=by
 unfold Dn at h;split at h
 ·rename_i v;split at h
  ·rename_i hl;have hl:=Nat.eq_of_beq_eq_true hl;refine .inl ⟨{val:=v,dV:=ids.map fun i=>(i,H1.getD i .dead)},?_,?_⟩
   ·grind [fG]
   ·simpa[List.map_map,Function.comp_def]using h
  grind [lN]
 grind [fG]
theorem lC(hNe:oU P X.N){n:Nat}{ρ:Type}{r:ρ}{g:G P ρ}{draw:Bool}{H0:List af}{k:G P ρ→eG→gK→Prop}(h:rA P X draw H0 ops n0 o nid g s k)(hr:g.run n=some r):
 ∃orc,gL P orc∧∃res f g',fH P X.cfg orc ops n0 o nid s=some (res,f)∧k g' res f∧g'.run n=some r:=by
 unfold rA at h;split at h
 ·rename_i m g';split at h
  ·rename_i res f hs;exact⟨wz,sK,res,f,_,hs,h,by rw[G.JU];simpa[G.run]using hr⟩
  ·exact nomatch h
 ·rename_i X t kk;obtain⟨hw,hc,hk⟩:=h;simp only[G.run]at hr;cases hx:t.run with
  |none=>rw[hx]at hr;cases hr
  |some x=>
   rw[hx]at hr;obtain⟨h1,h2⟩:=t.sound _ _ _ _ _ _ _ hc x hx;have hk:=hk x;simp only[lN,gT,fe]at hk;refine⟨wz,sK,_,_,kk x,?_,hk,by simpa using hr⟩
   grind [fH,finish,lN,gT,fe]
 ·rename_i c x kk;obtain⟨hw,hc,hk⟩:=h;simp only[G.run]at hr;cases hx:c.S n x with
  |none=>rw[hx]at hr;cases hr
  |some q=>
   rw[hx]at hr;have hk:=(c.sh.bX _).1 hk q;obtain⟨args',own,hp,he⟩:=Ln hc;split at hk
   ·rename_i res f hs;refine⟨BF c.f args' (c.out q),M6 (jV.wk (by rw[he];exact c.ok n x q hx)),res,f,kk q,?_,hk,by simpa using hr⟩
    rw[← hs];refine Dr fun _ pre hpre=>?_
    rw[hp]at hpre;simp only[Option.some.injEq]at hpre;subst hpre;simp[finish,fR,BF,M3]
   ·exact nomatch hk
 ·rename_i c x kk;obtain⟨hw,hc,hk⟩:=h;simp only[G.run]at hr;cases hx:c.S n x with
  |none=>rw[hx]at hr;cases hr
  |some q=>
   rw[hx]at hr;have hk:=(c.sh.bX _).1 hk q;obtain⟨args',ids,hp,he,hm⟩:=M7 hc;split at hk
   ·rename_i res f hs;refine⟨qo c.f args' (c.heap x) (c.out q) (c.ig x q),Az (bO.wk (by rw[he];exact c.ok n x q hx)),res,f,kk q,?_,hk,by simpa using hr⟩
    rw[← hs];refine Dr fun _ pre hpre=>?_
    rw[hp]at hpre;simp only[Option.some.injEq]at hpre;subst hpre;simp[finish,fR,dn,qo,M3,hm]
   ·exact nomatch hk
 ·rename_i c b v ex x kk;obtain⟨hw,hex,hc,hk⟩:=h;simp only[G.run]at hr;cases hx:c.S n x with
  |none=>rw[hx]at hr;cases hr
  |some q=>
   rw[hx]at hr;have hk:=(c.sh.bX _).1 hk q;obtain⟨args',ids,rs,hp,he,hb,hbi⟩:=ON hc;obtain⟨bsz,brows,hbx,hbp⟩:=zn (c.b0 x);have hpure:∀i,(b::ex.map (·.b)).contains i=true→∃x,s.H[i]? =some x∧vp x=true:=by
    intro i hi;simp only[List.contains_cons,Bool.or_eq_true,beq_iff_eq]at hi;rcases hi with rfl |hi
    ·exact⟨.row v bsz brows,by rw[hb,hbx];rfl,hbp⟩
    ·exact BG hex i hi
   have hcall:=hp;obtain⟨hp,hrd,hsub⟩:=JW (nid:=nid) (H:=s.H) hp hpure;have hlt:∀i∈ids,i<s.H.length:=fun i hi=>by
    grind
   have hblt:b<s.H.length:=(List.getElem?_eq_some_iff.1 hb).1
   let H':=mask ids s.H
   have hl':H'.length=s.H.length:=qC _ _;have hmb:(mask [b] H')[b]? =some ((c.blk x).mc v):=by rw[Bx (by simp),Bx hbi];exact hb
   have hmd:∀b',b'≠b→∀y,(mask [b] H')[b']? =some y→y=.dead:=by
    intro b' hne y hy;rcases ry hy with⟨h1,_⟩ |⟨_,h2,_⟩
    ·grind
    ·exact h2
   have href:=bO.frame (bO.T0 (c.ok n x q hx) (c.a0 x) (c.b0 x) (c.b1 x q) (c.r0 q) b v (mask [b] H') hmb hmd) (by omega)
   have horc:=Az (P:=P) (bO.wk (args:=args') (bO.but (b:=b) (by rw[he];exact href)))
   refine⟨_,horc,?_⟩;have hlen:(H'.set b ((c.qN x q).mc v)).length=s.H.length:=by rw[List.length_set,qC]
   have hdrop:(H'.set b ((c.qN x q).mc v)).drop s.H.length=[]:=List.drop_of_length_le (by rw[hlen];exact Nat.le_refl _)
   have hid:Eg (sH P X.cfg (b::ex.map (·.b)) (cK s.A) o.op)=(ids,rs):=by rw[hcall];rfl
   cases ho:c.out q with
   |ret u=>
    rw[ho]at hk;simp only[gT,fe,hid]at hk;refine⟨_,_,kk q,?_,hk,by simpa using hr⟩
    have happ:∀val news,news=[]→di.apply {val:=val,dV:=ids.map fun i=>(i,(H'.set b ((c.qN x q).mc v)).getD i .dead),news:=news} s.H=di.apply {val:=u.Av b v,dV:=[(b,(c.qN x q).mc v)]} s.H:=by
     intro val news hn;subst hn;simp only[di.apply,List.append_nil,List.foldl_cons,List.foldl_nil,List.foldl_map];apply List.ext_getElem?;intro j;rw[wq,List.getElem?_set];by_cases hj:b=j
     ·grind
     ·grind [Bx]
    unfold fH;rw[hw];simp only[hp,hrd,finish,fR,dn,qo,and_self,if_true,aP.Av,fG,hlen,Nat.le_refl,hdrop,ite_self,lN,gT,fe,List.isEmpty_nil,Bool.not_true,H'];simp only[iz,xH];rw[happ _ _ rfl];simp_all
   |aW u=>
    rw[ho]at hk;have hfl:u.flat=true:=by have:=c.r0 q;rw[ho]at this;exact this
    simp only[hid]at hk;refine⟨_,_,kk q,?_,hk,by simpa using hr⟩
    unfold fH;rw[hw];simp only[hp,hrd,finish,fR,dn,qo,and_self,if_true,aP.Av,fG,hfl,H'];simp only[iz,xH]
 ·rename_i pr g';obtain⟨hw,hpr,hc⟩:=h;simp only[G.run]at hr;have hpure:=BG hpr;split at hc
  ·rename_i f args ids rs hx;obtain⟨hp,hrd⟩:=Md (nid:=nid) hpure hx;simp only[JX]at hp;simp only[dn]at hc;obtain⟨g2,a,H1,hk,hr2,hfn⟩:=hNe.fn hc hr;refine⟨_,Az hfn,?_⟩;rcases wB hk with⟨e,hm,hk⟩ |⟨v,hm,hk⟩
   ·simp only[gT,fe]at hk;refine⟨_,_,g2,?_,hk,hr2⟩;unfold fH;rw[hw];simp only[hp,hrd,finish,fR,dn,qo,and_self,if_true,hm,lN,gT,fe];simp only[iz,xH]
   ·refine⟨_,_,g2,?_,hk,hr2⟩;unfold fH;rw[hw];simp only[hp,hrd,finish,fR,dn,qo,and_self,if_true,hm];simp only[iz,xH]
  ·rename_i b args ids rs hx;obtain⟨hp,hrd⟩:=Md (nid:=nid) hpure hx;simp only[JX]at hp;simp only[dn]at hc;obtain⟨g2,a,H1,hk,hr2,hfn⟩:=hNe.CM hc hr;refine⟨_,OM hfn,?_⟩;rcases wB hk with⟨e,hm,hk⟩ |⟨v,hm,hk⟩
   ·simp only[gT,fe]at hk;refine⟨_,_,g2,?_,hk,hr2⟩;unfold fH;rw[hw];simp only[hp,hrd,finish,fR,dn,Dq,and_self,if_true,hm,lN,gT,fe];simp only[iz,xH]
   ·refine⟨_,_,g2,?_,hk,hr2⟩;unfold fH;rw[hw];simp only[hp,hrd,finish,fR,dn,Dq,and_self,if_true,hm];simp only[iz,xH]
  ·exact nomatch hc
 ·simp[G.run]at hr
 ·simp[G.run]at hr
 ·simp[G.run]at hr
 ·exact nomatch h
 ·exact nomatch h
theorem zq{orc orc':Nat→jU}:∀(l:List (Oper×Nat)) (i:Nat) (s:St),(∀j,i≤j→orc j=orc' j)→lu P X.cfg orc ops n0 i l s=lu P X.cfg orc' ops n0 i l s
 | [],_,_,_=>rfl
 | (o,nid)::rest,i,s,h=>by
  simp only[lu,h i (Nat.le_refl _)];split
  ·rw[zq rest (i+1) _ fun j hj=>h j (by omega)]
  ·rfl
  ·rfl
theorem Lo(hNe:oU P X.N){n:Nat}{ρ:Type}{r:ρ}{g:G P ρ}{H0:List af}{k:G P ρ→eG→gK→Prop}(h:yP P X true H0 ops n0 o nid g s k)(hr:g.run n=some r):
 ∃orc,gL P orc∧∃res f g',fH P X.cfg orc ops n0 o nid s=some (res,f)∧k g' res f∧g'.run n=some r:=by
 unfold yP at h;grind [lC]
theorem F8(hNe:oU P X.N){n:Nat}{ρ:Type}{r:ρ}{H0:List af}:∀(l:List (Oper×Nat)) (i:Nat) (g:G P ρ) (s:St) (k:G P ρ→eG→List gK→Prop),A5 P X true H0 ops n0 l g s k→g.run n=some r→
 ∃orcs:Nat→jU,(∀j,gL P (orcs j))∧∃res fs g',lu P X.cfg orcs ops n0 i l s=some (res,fs)∧k g' res fs∧g'.run n=some r
 | [],i,g,s,k,h,hr=>⟨fun _=>wz,fun _=>sK,.ok s,[],g,rfl,h,hr⟩
 | (o,nid)::rest,i,g,s,k,h,hr=>by
  simp only[A5]at h;obtain⟨g1,h,hr⟩:=mE h hr;obtain⟨orc,ho,res,f,g2,hs,h,hr⟩:=Lo hNe h hr;cases res with
  |ok s'=>
   obtain⟨A,H,D⟩:=s';simp only[dS]at h;obtain⟨orcs,hos,res,fs,g3,hrun,hk,hr⟩:=F8 hNe rest (i+1) g2 _ _ h hr;refine⟨fun j=>if j=i then orc else orcs j,fun j=>(by grind:gL P (if j=i then orc else orcs j)),res,f::fs,g3,?_,hk,hr⟩
   grind [lu,zq]
  |aW v s'=>
   exact⟨fun _=>orc,fun _=>ho,.aW v s',[f],g2,by simp only[lu,hs],h,hr⟩
theorem IY(hNe:oU P X.N){n:Nat}{ρ:Type}{r:ρ}{H0:List af}{g:G P ρ}{s:St}{k:G P ρ→eG→Prop}(h:sJ P X H0 ops true g s k)(hr:g.run n=some r):
 ∃orcs:Nat→jU,(∀j,gL P (orcs j))∧∃res g',uP P X.cfg orcs ops true s=some res∧k g' res∧g'.run n=some r:=by
 simp only[sJ,gR,rj]at h;obtain⟨orcs,ho,res,fs,g',hrun,hk,hr⟩:=F8 hNe _ 0 _ _ _ h hr;refine⟨orcs,ho,?_⟩;simp only[uP,gR,rj,hrun];grind
theorem HX(keep:List Nat):∀(A:List AVal) (i j:Nat),(xl keep i A)[j]? =(A[j]?).map fun a=>match keep.contains (i+j)with |true=>a |false=>.aq
 | [],_,_=>by simp[xl]
 |a::as,i,0=>rfl
 |a::as,i,j+1=>by
  simp only[xl,List.getElem?_cons_succ];rw[HX keep as (i+1) j,show i+1+j=i+(j+1)by omega]
theorem Se{g:Gh}{w:World}{keep:List Nat}{A:List AVal}{vs:List Value}(h:RL g w A vs):RL g w (xl keep 0 A) vs:=by
 obtain⟨h1,h2⟩:=dJ _ _ h;have hlen:(xl keep 0 A).length=A.length:=by
  have:∀(A:List AVal) (i:Nat),(xl keep i A).length=A.length:=by
   intro A;induction A with
   |nil=>intro i;rfl
   |cons a as ih=>intro i;simp[xl,ih]
  exact this A 0
 grind [u6,HX,R]
theorem JY:∀{l:List PU} {H:List af},Mb l H→Dm (l.map (·.b)) H
 | [],_,_=>fun _ h=>by simp at h
 |p::ps,H,h=>by
  intro b hb x hx;simp only[List.map_cons,List.mem_cons]at hb;rcases hb with rfl |hb
  ·rw[h.1]at hx;cases hx;exact p.pf
  ·exact JY h.2 b hb x hx
theorem Me:∀(l:List AVal),(nJ l).length=l.length
 | []=>rfl
 |_::l=>by simp[nJ,Me l]
theorem OO{g:Gh}{w:World}:∀(l:List (List AVal)) (k o sz:Nat),RR g w l k o sz→RR g w (l.map nJ) k o sz
 | [],_,_,_,_=>by simp[RR]
 |r::rs,k,o,sz,h=>by
  simp only[RR,List.map_cons]at h ⊢;exact⟨⟨by rw[Me];exact h.1.1,uu _ h.1.2.1,JT _ _ _ h.1.2.2⟩,OO rs k (o+sz) sz h.2⟩
theorem Qw{g:Gh}{w:World}{rows:List (List AVal)}{x:Value}(h:R g w (.aB rows) x):R g w (.aB (rows.map nJ)) x:=by
 simp only[R,List.length_map]at h ⊢;obtain⟨a,cap,e,h1,h2⟩:=h;refine⟨a,cap,e,h1,?_⟩;rcases h2 with h2 |⟨k,off,sz,ha,hr⟩
 ·exact .inl h2
 ·exact .inr ⟨k,off,sz,ha,OO _ _ _ _ hr⟩
theorem dA{H0:List af}:∀{ts:List TS} {s:St} {k:St→Prop},aO ts=true→jJ H0 ts s k→∃s',iF H0 s s'∧k s'
 | [],s,k,_,h=>⟨s,.refl _ _,h⟩
 | .keep l::ts,s,k,hok,h=>by
  simp only[jJ,dS]at h;obtain⟨s',h1,h2⟩:=dA (by simpa only[aO]using hok) h
  exact⟨s',iF.trans (s1:={s with A:=xl l 0 s.A}) (fun _ _ g a w _ hl hs=>⟨g,⟨hs.inv,Se hs.tmps,hs.defs⟩,hl⟩) h1,h2⟩
 | .wk p::ts,s,k,hok,h=>by
  simp only[jJ]at h;split at h
  ·rename_i s1 hw;obtain⟨s',h1,h2⟩:=dA (by simpa only[aO]using hok) h
   exact⟨s',(Qo hw).trans h1,h2⟩
  ·exact h.elim
 | .own p sz::ts,s,k,hok,h=>by
  simp only[jJ]at h;split at h
  ·rename_i s1 hw;obtain⟨s',h1,h2⟩:=dA (by simpa only[aO]using hok) h
   exact⟨s',(OI hw).trans h1,h2⟩
  ·exact h.elim
 | .iL z::ts,s,k,hok,h=>by
  simp only[jJ]at h;simp only[aO,Bool.and_eq_true,decide_eq_true_eq]at hok;obtain⟨q1,q2,h⟩:=h;split at h
  ·rename_i s1 hw;obtain⟨s',h1,h2⟩:=dA hok.2 h;exact⟨s',(OJ ⟨z.b,z.ak,z.sz,by rw[q1,hok.1],q2,z.pf⟩ hw).trans h1,h2⟩
  ·exact h.elim
 | .RA z::ts,s,k,hok,h=>by
  simp only[jJ]at h;obtain⟨q1,h⟩:=h;obtain⟨s',h1,h2⟩:=dA (by simpa only[aO]using hok) h
  refine⟨s',iF.trans (s1:=Cd s (.aB z.rows') z.p) (fun _ _ g a w _ hl hs=>?_) h1,h2⟩
  obtain⟨p1,p2⟩:=yO q1 hs (v':=.aB z.rows') fun x hx=>by rw[← z.pf];exact Qw hx
  exact⟨g,p1,hl.trans p2⟩
 | .cut bl bump pu::ts,s,k,hok,h=>by
  simp only[jJ,dS]at h;obtain⟨q1,h⟩:=h;split at h
  ·rename_i A H D hw;obtain⟨s',h1,h2⟩:=dA (by simpa only[aO]using hok) h
   exact⟨s',(Qm (JY q1) hw).trans h1,h2⟩
  ·exact h.elim
theorem Lp(hNe:oU P X.N){n:Nat}{ρ:Type}{r:ρ}{g:G P ρ}{H0:List af}{k:G P ρ→eG→gK→Prop}(h:yP P X false H0 ops n0 o nid g s k)(hr:g.run n=some r):
 ∃s2,iF H0 s s2∧∃orc,gL P orc∧∃res f g',fH P X.cfg orc ops n0 o nid s2=some (res,f)∧k g' res f∧g'.run n=some r:=by
 unfold yP at h;split at h
 ·grind [G.run,dA,lC]
 ·exact⟨s,.refl _ _,lC hNe h hr⟩
theorem F9(hNe:oU P X.N){n:Nat}{ρ:Type}{r:ρ}{H0:List af}:∀(l:List (Oper×Nat)) (i:Nat) (g:G P ρ) (s:St) (k:G P ρ→eG→List gK→Prop),A5 P X false H0 ops n0 l g s k→g.run n=some r→
 (∀(j:Nat),(l[j]?).map (fun(p:Oper×Nat)=>p.1)=(ops.toList.drop i)[j]?)→∃g' res fs,k g' res fs∧g'.run n=some r∧
 ∀(fro:Option Nat),(∀(k:Nat) (o:Oper),ops[k]? =some o→Calm fro o)→∀(gg:Gh) (ww:World) (Q:Exit→Act→World→Prop),Inv gg H0 ww→∀(g1:Gh) (a:Act) (w:World),eT g1 s a w→aQ gg H0 ww g1 s.H w→qD Q gg H0 ww res→wpOpsIn (Fr fro) 0 P ops Q (List.range' i l.length) a w
 | [],i,g,s,k,h,hr,_=>⟨g,.ok s,[],h,hr,fun _ _ _ _ _ _ g1 a w hs hl hp=>hp g1 a w hs hl⟩
 | (o,nid)::rest,i,g,s,k,h,hr,hj=>by
  have hi:ops[i]? =some o:=by
   have:=hj 0;simp at this;exact this.symm
  simp only[A5]at h;obtain⟨g',h,hr⟩:=mE h hr;obtain⟨s2,hw2,orc,ho,res,f,g3,hst,h,hr⟩:=Lp hNe h hr;cases res with
  |ok s'=>
   obtain⟨A,H,D⟩:=s';simp only[dS]at h;obtain⟨g4,res4,fs4,hk4,hr4,hwp⟩:=F9 hNe rest (i+1) g3 ⟨A,H,D⟩ _ h hr (fun j=>by
    have:=hj (j+1);grind)
   refine⟨g4,res4,_,hk4,hr4,fun fro hcalm gg ww Q hi0 g1 a w hs hl hp=>?_⟩
   simp only[List.length_cons,List.range'_succ,wpOpsIn_cons];obtain⟨g2,hs2,hl2⟩:=hw2 gg ww g1 a w hi0 hl hs;exact pR ho hs2 hi (hcalm i o hi) hst fun g5 a' w' hs' hla=>hwp fro hcalm gg ww Q hi0 g5 a' w' hs' (hl2.trans hla) hp
  |aW v s'=>
   refine⟨g3,.aW v s',_,h,hr,fun fro hcalm gg ww Q hi0 g1 a w hs hl hp=>?_⟩
   simp only[List.length_cons,List.range'_succ,wpOpsIn_cons];obtain⟨g2,hs2,hl2⟩:=hw2 gg ww g1 a w hi0 hl hs;exact pR ho hs2 hi (hcalm i o hi) hst fun g' w' x hv hs' hla hx=>hp g' a w' x hv hs' (hl2.trans hla) hx
theorem IZ(hNe:oU P X.N){H0:List af}{n:Nat}{ρ:Type}{r:ρ}{id:Nat}{g:G P ρ}{s:St}{k:G P ρ→eG→Prop}(h:sJ P X H0 ops false g s k)(hr:g.run n=some r):
 ∃g' res,k g' res∧g'.run n=some r∧∀(fro:Option Nat),(∀(k:Nat) (o:Oper),ops[k]? =some o→Calm fro o)→∀(gg:Gh) (ww:World),Inv gg H0 ww→fu P fro gg H0 ww (.region id ops false) s fun o s'=>o=(Ee res).1∧s'=(Ee res).2:=by
 simp only[sJ,gR,rj]at h;generalize (if mM ops.toList=0 then 0 else pN s.H)=t0 at h
 generalize mM ops.toList - t0=m0 at h;generalize s.H.length - t0=f0 at h;obtain⟨g',res,fs,hk,hr',hwp⟩:=F9 hNe _ 0 _ _ _ h hr (fun j=>by rw[rz];simp)
 simp only[Bool.not_false,if_true]at hk;refine⟨g',res,hk,hr',fun fro hcalm gg ww hi0 Q g1 a w hs hl hp=>?_⟩
 obtain⟨i1,i2⟩:=hs.inv.reserve m0;have hs0:eT g1 {s with H:=s.H++List.replicate m0 .aV} a w:=⟨i1,hs.tmps,hs.defs⟩;refine wpIn_region ?_;rw[List.range_eq_range'];have:=hwp fro hcalm gg ww Q hi0 g1 a w hs0 (hl.trans i2) (by
  have:=hp _ _ ⟨rfl,rfl⟩;cases res with
  |ok s'=>exact this
  |aW v s'=>exact this)
 grind [vl]
theorem Cg{H0:List af}{n:Nat}{ρ:Type}{r:ρ}{g:G P ρ}{s:St}{k:G P ρ→St→Prop}(h:Fp H0 g s k)(hr:g.run n=some r):∃s' g',iF H0 s s'∧k g' s'∧g'.run n=some r:=by
 unfold Fp at h;split at h
 ·grind [G.run,dA]
 ·exact⟨s,g,.refl _ _,h,hr⟩
theorem HY{n:Nat}{σ:Type}{sh:Sh}{H0:List af}{E:σ→St}{X:sh.El→bh×St}{g:G P (σ⊕sh.El)}{o:bh}{s:St}{q:σ⊕sh.El}(h:oT H0 E X g o s)(hr:g.run n=some q):
 ∃s',iF H0 s s'∧match q with | .inl a=>o=.normal∧s'=E a | .inr t=>o≠ .normal∧(o,s')=X t:=by
 unfold oT at h;split at h
 ·grind [G.run,dA]
 ·grind [G.run,dA]
 ·simp[G.run]at hr
 ·exact nomatch h
def JZ(P:Program)[aF](H0:List af)(ro:Option Nat)(b:Code):Nat→St→bh→St→Prop
 | 0,_,_,_=>False
 |n+1,s,o,s'=>∃o1 s1,(∀fro g0 w0,Inv g0 H0 w0→oe g0 ro fro→fu P fro g0 H0 w0 b s fun o2 s2=>o2=o1∧s2=s1)∧
  match o1 with
  | .normal=>JZ P H0 ro b n s1 o s'
  |o1=>o1=o∧s1=s'
theorem HZ{ro:Option Nat}{H0:List af}{b:Code}{n:Nat}{ρ:Type}{r:ρ}{k:G P ρ→bh→St→Prop}
 (ih:∀(g:G P ρ) (s:St) (k:G P ρ→bh→St→Prop),jF P X H0 b g s k→g.run n=some r→∃g' o s',k g' o s'∧g'.run n=some r∧∀fro g0 w0,Inv g0 H0 w0→oe g0 ro fro→fu P fro g0 H0 w0 b s fun o1 s1=>o1=o∧s1=s'):
 ∀(m:Nat) (g:G P ρ) (s:St),Eh (fun g s k=>jF P X H0 b g s k) m g s k→g.run n=some r→∃g' o s',k g' o s'∧g'.run n=some r∧o≠ .normal∧JZ P H0 ro b m s o s'
 | 0,_,_,h,_=>h.elim
 |m+1,g,s,h,hr=>by
  simp only[Eh]at h;obtain⟨g1,o1,s1,hk,hr1,hd⟩:=ih g s _ h hr;cases o1 with
  |normal=>
   obtain⟨g',o,s',h1,h2,h3,h4⟩:=HZ ih m g1 s1 hk hr1;exact⟨g',o,s',h1,h2,h3,.normal,s1,hd,h4⟩
  |exit id=>exact⟨g1,_,s1,hk,hr1,(fun h=>(by cases h)),_,s1,hd,rfl,rfl⟩
  |ret=>exact⟨g1,_,s1,hk,hr1,(fun h=>(by cases h)),_,s1,hd,rfl,rfl⟩
  |aW v=>exact⟨g1,_,s1,hk,hr1,(fun h=>(by cases h)),_,s1,hd,rfl,rfl⟩
theorem wC{ro fro:Option Nat}{g0:Gh}{ops:Array Oper}(hro:oe g0 ro fro)(h:(ro.isSome&&ops.toList.any Bv)=false):∀(k:Nat) (o:Oper),ops[k]? =some o→Calm fro o:=by
 intro k o hk;cases ro with
 |none=>
  cases fro with
  |none=>exact .inl rfl
  |some k=>exact hro.elim
 |some b=>
  right;grind
theorem fu.post{fro:Option Nat}{g0:Gh}{H0:List af}{w0:World}(hi0:Inv g0 H0 w0){c:Code}{s s1 s2:St}{o:bh}(hw:iF H0 s1 s2)(h:fu P fro g0 H0 w0 c s fun o1 s'=>o1=o∧s'=s1):
 fu P fro g0 H0 w0 c s fun o1 s'=>o1=o∧s'=s2:=
 fun Q g a w hs hl hk=>h Q g a w hs hl fun o' s' ⟨e1,e2⟩=>by grind [fq.weak]
theorem H6{H0:List af}{sh:Sh}{Y:sh.El→bh×St}{n:Nat}{g:G P sh.El}{o:bh}{s:St}{t:sh.El}(h:Ei H0 Y g o s)(hr:g.run n=some t):∃s',iF H0 s s'∧(o,s')=Y t:=by
 unfold Ei at h;split at h
 ·grind [G.run,dA]
 ·simp[G.run]at hr
 ·exact nomatch h
theorem Mf{ρ:Type}{n:Nat}{f:FuncId}{args:List AVal}{H:List af}{c:yf P}{x:c.X}{kk:c.sh.El→G P ρ}{k:G P ρ→aP→List af→Prop}{r:ρ}(h:M1 P f args H c x kk k)(hr:(G.cV c x kk).run n=some r):
 ∃g' a H1,k g' a H1∧g'.run n=some r∧bO P f args H a H1:=by
 obtain⟨_,he,h⟩:=h;simp only[Option.some.injEq,Prod.mk.injEq]at he;obtain⟨rfl,ha,rfl⟩:=he;obtain⟨q,hq,hr⟩:=Option.bind_eq_some_iff.1 (show(c.S n x).bind (fun q=>(kk q).run n)=some r from hr)
 refine⟨kk q,c.out q,c.ig x q,(c.sh.bX _).1 h q,hr,bO.wk ?_⟩;rw[ha];exact c.ok n x q hq
theorem wD:oU P (uf P):=by
 refine⟨fun h hr=>?_,fun h=>h.elim,fun h=>h.elim⟩
 simp only[uf]at h;split at h
 ·exact Mf h hr
 ·exact h.elim
theorem T1(hNe:oU P X.N)(draw:Bool):oU P (X.at draw).N:=by
 grind [Env.at,wD]
theorem S3(draw:Bool):(X.at draw).cfg=X.cfg:=by unfold Env.at;split<;>rfl
theorem H7(hNe:oU P X.N){H0:List af}{n:Nat}{σ:Type}{sh:Sh}{b:Code}{E:σ→St}{s:St}{Y:sh.El→bh×St}{q:σ⊕sh.El}{f:G P (σ⊕sh.El)→Prop}
 (ih:∀g,f g→g.run n=some q→∃(g':G P (σ⊕sh.El)) (o:bh) (s':St),oT H0 E Y g' o s'∧g'.run n=some q∧∀fro g0 w0,Inv g0 H0 w0→oe g0 X.ro fro→fu P fro g0 H0 w0 b s fun o1 s1=>o1=o∧s1=s')
 {g:G P (σ⊕sh.El)} (h:Ek X.N X.ro H0 b E s Y g f) (hr:g.run n=some q):
 ∃(g':G P (σ⊕sh.El)) (o:bh) (s':St),oT H0 E Y g' o s'∧g'.run n=some q∧∀fro g0 w0,Inv g0 H0 w0→oe g0 X.ro fro→fu P fro g0 H0 w0 b s fun o1 s1=>o1=o∧s1=s':=by
 unfold Ek at h;split at h
 ·exact hNe.lp h (by simpa[G.run]using hr)
 ·exact ih _ h hr
theorem y8(hm:P.follows .mixedOrders=true)(hNe:oU P X.N){H0:List af}{n:Nat}:∀(c:Code) {ρ:Type} (r:ρ) (g:G P ρ) (s:St) (k:G P ρ→bh→St→Prop),jF P X H0 c g s k→g.run n=some r→
 ∃g' o s',k g' o s'∧g'.run n=some r∧∀fro g0 w0,Inv g0 H0 w0→oe g0 X.ro fro→fu P fro g0 H0 w0 c s fun o1 s1=>o1=o∧s1=s':=by
 intro c;induction c with
 |skip=>intro ρ r g s k h hr;exact⟨g,.normal,s,h,hr,fun _ _ _ _ _=>.skip ⟨rfl,rfl⟩⟩
 |region id ops draw=>
  intro ρ r g s k h hr;simp only[jF]at h;split at h
  ·exact h.elim
  rename_i hoff;obtain⟨s1,g1,hw,h,hr⟩:=Cg h hr;cases draw with
  |false=>
   obtain⟨g',res,hk,hr',hd⟩:=IZ hNe (id:=id) h hr;cases res with
   |ok s'=>exact⟨g',.normal,s',hk,hr',fun fro g0 w0 hi hro=>.weak hi hw (hd fro (wC hro hoff) g0 w0 hi)⟩
   |aW v s'=>exact⟨g',.aW v,s',hk,hr',fun fro g0 w0 hi hro=>.weak hi hw (hd fro (wC hro hoff) g0 w0 hi)⟩
  |true=>
   obtain⟨orcs,ho,res,g',hreg,h,hr⟩:=IY (T1 hNe true) h hr;rw[S3]at hreg;cases res with
   |ok s'=>exact⟨g',.normal,s',h,hr,fun fro g0 w0 hi hro=>.weak hi hw (.region hm ho (wC hro hoff) hreg ⟨rfl,rfl⟩)⟩
   |aW v s'=>exact⟨g',.aW v,s',h,hr,fun fro g0 w0 hi hro=>.weak hi hw (.region hm ho (wC hro hoff) hreg ⟨rfl,rfl⟩)⟩
 |seq a b iha ihb=>
  intro ρ r g s k h hr;simp only[jF]at h;obtain⟨g1,o1,s1,h1,hr1,d1⟩:=iha r g s _ h hr;cases o1 with
  |normal=>
   obtain⟨g2,o2,s2,h2,hr2,d2⟩:=ihb r g1 s1 k h1 hr1;refine⟨g2,o2,s2,h2,hr2,fun fro g0 w0 hi hro=>.seq ((d1 fro g0 w0 hi hro).mono fun o s' ⟨e1,e2⟩=>?_)⟩
   grind
  |exit id=>exact⟨g1,_,s1,h1,hr1,fun fro g0 w0 hi hro=>.seq ((d1 fro g0 w0 hi hro).mono fun o s' ⟨e1,e2⟩=>by grind)⟩
  |ret=>exact⟨g1,_,s1,h1,hr1,fun fro g0 w0 hi hro=>.seq ((d1 fro g0 w0 hi hro).mono fun o s' ⟨e1,e2⟩=>by grind)⟩
  |aW v=>exact⟨g1,_,s1,h1,hr1,fun fro g0 w0 hi hro=>.seq ((d1 fro g0 w0 hi hro).mono fun o s' ⟨e1,e2⟩=>by grind)⟩
 |cond c a b iha ihb=>
  have main:∀{ρ:Type} (r:ρ) (g:G P ρ) (s:St) (k:G P ρ→bh→St→Prop),Ej P X H0 c a b (fun g s k=>jF P X H0 a g s k) (fun g s k=>jF P X H0 b g s k) g s k→g.run n=some r→
   ∃g' o s',k g' o s'∧g'.run n=some r∧∀fro g0 w0,Inv g0 H0 w0→oe g0 X.ro fro→fu P fro g0 H0 w0 (.cond c a b) s fun o1 s1=>o1=o∧s1=s':=by
   intro ρ r g s k h hr;unfold Ej at h;obtain⟨s1,g1,hw,h,hr⟩:=Cg h hr;obtain⟨g1,h,hr⟩:=mE h hr;split at h
   ·rename_i m g2;have hr2:(G.less m g2).run n=some r:=by rw[G.JU];simpa[G.run]using hr
    split at h
    ·rename_i hc;obtain⟨g',o,s',h1,h2,d⟩:=iha r _ _ k h hr2;exact⟨g',o,s',h1,h2,fun fro g0 w0 hi hro=>.weak hi hw (.cond true hc (d fro g0 w0 hi hro))⟩
    ·rename_i hc;obtain⟨g',o,s',h1,h2,d⟩:=ihb r _ _ k h hr2;exact⟨g',o,s',h1,h2,fun fro g0 w0 hi hro=>.weak hi hw (.cond false hc (d fro g0 w0 hi hro))⟩
    ·exact h.elim
   ·simp[G.run]at hr
   ·exact nomatch h
  intro ρ r g s k h hr;simp only[jF]at h;split at h
  ·rename_i sh Y g1 kk;obtain⟨t,ht,hr⟩:=Option.bind_eq_some_iff.1 (show(g1.run n).bind (fun t=>(kk t).run n)=some r from hr)
   obtain⟨g',o,s',h1,h2,d⟩:=main t g1 s _ h.1 ht;obtain⟨s'',hw,e⟩:=H6 h1 h2;have e1:o=(Y t).1:=congrArg Prod.fst e;have e2:s''=(Y t).2:=congrArg Prod.snd e;refine⟨kk t,(Y t).1,(Y t).2,(sh.bX _).1 h.2 t,hr,fun fro g0 w0 hi hro=>?_⟩
   rw[← e1,← e2];exact(d fro g0 w0 hi hro).post hi hw
  ·exact main r g s k h hr
 |block id b ih=>
  have main:∀{ρ:Type} (r:ρ) (g:G P ρ) (s:St) (k:G P ρ→bh→St→Prop),jF P X H0 b g s (BC id k)→g.run n=some r→
   ∃g' o s',k g' o s'∧g'.run n=some r∧∀fro g0 w0,Inv g0 H0 w0→oe g0 X.ro fro→fu P fro g0 H0 w0 (.block id b) s fun o1 s1=>o1=o∧s1=s':=by
   intro ρ r g s k h hr;obtain⟨g1,o1,s1,h1,hr1,d1⟩:=ih r g s _ h hr;refine⟨g1,behind id o1,s1,?_,hr1,fun fro g0 w0 hi hro=>.block ((d1 fro g0 w0 hi hro).mono fun o s' ⟨e1,e2⟩=>by grind)⟩
   unfold BC at h1;cases o1 with
   |exit id'=>
    grind [behind]
   |normal=>exact h1
   |ret=>exact h1
   |aW v=>exact h1
  intro ρ r g s k h hr;simp only[jF]at h;split at h
  ·rename_i sh Y g1 kk;obtain⟨t,ht,hr⟩:=Option.bind_eq_some_iff.1 (show(g1.run n).bind (fun t=>(kk t).run n)=some r from hr)
   obtain⟨g',o,s',h1,h2,d⟩:=main t g1 s _ h.1 ht;obtain⟨s'',hw,e⟩:=H6 h1 h2;have e1:o=(Y t).1:=congrArg Prod.fst e;have e2:s''=(Y t).2:=congrArg Prod.snd e;refine⟨kk t,(Y t).1,(Y t).2,(sh.bX _).1 h.2 t,hr,fun fro g0 w0 hi hro=>?_⟩
   rw[← e1,← e2];exact(d fro g0 w0 hi hro).post hi hw
  ·exact main r g s k h hr
 |loop b ih=>
  intro ρ r g s k h hr;simp only[jF]at h;split at h
  ·rename_i m g1;simp only[G.run]at hr;obtain⟨g',o,s',h1,h2,hne,hrd⟩:=HZ (ro:=X.ro) (fun g s k h hr=>ih r g s k h hr) m g1 s h hr
   refine⟨g',o,s',h1,h2,fun fro g0 w0 hi hro=>.loop hi (n:=m) (s0:=s) (fun m s=>JZ P H0 X.ro b m s o s') (fun s h=>h.elim) (.refl _ _) hrd ?_⟩
   rintro m s1 ⟨o1,s2,hd,hx⟩;refine(hd fro g0 w0 hi hro).mono fun o3 s3 ⟨e1,e2⟩=>?_
   subst e1;subst e2;refine⟨s3,.refl _ _,?_⟩;grind
  ·rename_i σ sh hd E Y a0 body kk;obtain⟨h0,hb,hx⟩:=h;simp only[G.run,Option.ite_none_right_eq_some]at hr;obtain⟨hok,hr⟩:=hr;cases ht:bV (fun a=>(body a).run n) n a0 with
   |none=>rw[ht]at hr;cases hr
   |some t=>
    rw[ht]at hr;have hx:=(sh.bX _).1 hx t;obtain⟨_,h0,rfl⟩:=dA hok h0;refine⟨kk t,(Y t).1,(Y t).2,hx,by simpa using hr,fun fro g0 w0 hi hro=>.loop hi (n:=n) (s0:=E a0) (fun m s1=>∃a,s1=E a∧bV (fun a=>(body a).run n) m a=some t) (fun s ⟨a,_,h⟩=>by simp[bV]at h) h0 ⟨a0,rfl,ht⟩ ?_⟩
    rintro m s1 ⟨a,rfl,hit⟩;simp only[bV]at hit;cases hq:(body a).run n with
    |none=>rw[hq]at hit;cases hit
    |some q=>
     rw[hq]at hit;obtain⟨g',o',s',h',hr',d'⟩:=H7 hNe (fun g h hr=>ih q g (E a) _ h hr) (hb a) hq
     refine(d' fro g0 w0 hi hro).mono fun o2 s2 ⟨e1,e2⟩=>?_
     grind [HY]
  ·rename_i hsh sh hd E Y a0 body kk;obtain⟨h0,hb,hx⟩:=h;have hb:=(hsh.bX _).1 hb;simp only[G.run,Option.ite_none_right_eq_some]at hr;obtain⟨hok,hr⟩:=hr;cases ht:bV (fun a=>(body a).run n) n a0 with
   |none=>rw[ht]at hr;cases hr
   |some t=>
    rw[ht]at hr;have hx:=(sh.bX _).1 hx t;obtain⟨_,h0,rfl⟩:=dA hok h0;refine⟨kk t,(Y t).1,(Y t).2,hx,by simpa using hr,fun fro g0 w0 hi hro=>.loop hi (n:=n) (s0:=E a0) (fun m s1=>∃a,s1=E a∧bV (fun a=>(body a).run n) m a=some t) (fun s ⟨a,_,h⟩=>by simp[bV]at h) h0 ⟨a0,rfl,ht⟩ ?_⟩
    rintro m s1 ⟨a,rfl,hit⟩;simp only[bV]at hit;cases hq:(body a).run n with
    |none=>rw[hq]at hit;cases hit
    |some q=>
     rw[hq]at hit;obtain⟨g',o',s',h',hr',d'⟩:=H7 hNe (fun g h hr=>ih q g (E a) _ h hr) (hb a) hq
     refine(d' fro g0 w0 hi hro).mono fun o2 s2 ⟨e1,e2⟩=>?_
     grind [HY]
  ·simp[G.run]at hr
  ·exact nomatch h
 |exit id=>intro ρ r g s k h hr;exact⟨g,_,s,h,hr,fun _ _ _ _ _=>.exit ⟨rfl,rfl⟩⟩
 |ret=>intro ρ r g s k h hr;exact⟨g,_,s,h,hr,fun _ _ _ _ _=>.ret ⟨rfl,rfl⟩⟩
 |rangeFunc x ps as bd=>
  intro ρ r g s k h hr;simp only[jF]at h;obtain⟨s1,g1,hw,h,hr⟩:=Cg h hr;split at h
  ·rename_i pr g2;obtain⟨_,h⟩:=h;simp only[G.run]at hr;split at h
   ·rename_i f p q hf;split at h
    ·rename_i l H1 D1 hen;rw[dS]at h;obtain⟨hpr,h⟩:=h;split at h
     ·rename_i ids rs hcl;simp only[dn]at h;obtain⟨hq,_⟩:=pS (BG hpr) _ _ _ _ _ hcl;obtain⟨g3,a,H2,hk,hr3,hfn⟩:=hNe.fn h hr;have ho:=Az hfn;have hran:∀out s',Bu (qo f (p++[.jv l]++q) (mask ids H1) a H2) X.ro 0 (cK s1.A x) ps as bd s1=some (out,s')→∀fro g0 w0,Inv g0 H0 w0→oe g0 X.ro fro→fu P fro g0 H0 w0 (.rangeFunc x ps as bd) s fun o1 s1=>o1=out∧s1=s':=by
       intro out s' hra fro g0 w0 hi hro;refine .weak hi hw fun Q g a w hs hl hp=>?_
       exact EL ho (hro.mono hl.ext) hra hs ((hp out s' ⟨rfl,rfl⟩).later hl)
      rcases wB hk with⟨e,hm,hk⟩ |⟨v,hm,hk⟩
      ·simp only[fe]at hk;split at hk
       ·rename_i out s' hend;refine⟨g3,out,s',hk,hr3,hran out s' ?_⟩;simp only[Bu,hf,hen,dS,hq,finish,fR,dn,qo,and_self,if_true,hm,lN,fe,hend]
       ·exact hk.elim
      ·refine⟨g3,_,_,hk,hr3,hran _ _ ?_⟩;simp only[Bu,hf,hen,dS,hq,finish,fR,dn,qo,and_self,if_true,hm]
     ·exact h.elim
    ·exact h.elim
   ·exact h.elim
  ·simp[G.run]at hr
  ·exact nomatch h
 |_=>intro ρ r g s k h hr;exact h.elim
theorem kQ{F:Fence}{fn:Func}{tmps:Array Value}{R R':Ending→World→Prop}(hR:∀e w,R e w→R' e w):∀{ds:List Deferred} {m:Nat} {u:FrameMode} {w:World},LeavesInM F m P fn tmps R ds u w→LeavesInM F m P fn tmps R' ds u w
 | [],m,u,w,h=>by
  cases u with
  |run=>exact h
  |returning=>obtain⟨v,h1,h2⟩:=h;exact⟨v,h1,hR _ _ h2⟩
  |panicking chain=>exact hR _ _ h
 |d::ds,m,u,w,h=>by
  obtain⟨hrun,h⟩:=h;refine⟨hrun,?_⟩;rcases h with⟨r,w',htar,htake,hrest⟩ |⟨hn,fv,cap,f,args,htar,hinv,hlead,hcall⟩
  ·exact .inl ⟨r,w',htar,htake,kQ hR hrest⟩
  ·refine .inr ⟨hn,fv,cap,f,args,htar,hinv,hlead,hcall.mono fun e u' w' h=>?_⟩
   cases e with
   |returned v=>exact kQ hR h
   |panicked chain=>exact kQ hR h
   |outgrown=>exact hR _ _ h
theorem H8{L:Nat}{fn:Func}{m:Option AVal}{s:St}{r':aP}{H1:List af}(h:yQ P cfg L fn m s=some (r',H1)):
 ∃m' H' r,leave P cfg wz L s.D m s.H=some (m',H')∧ending P fn s.A m' H'=some (r,H1)∧(∀v,r=.ret v→r'=.ret (jx v))∧(∀v,r=.aW v→r'=.aW v):=by
 grind [yQ]
theorem bO.of(hm : P.follows .mixedOrders = true)(hN : ∀ (f : FuncId) (fn : Func), P.funcs[f]? = some fn → fn.name ≠ "runtime.NumGoroutine"){L : Nat}{f : FuncId}{fn : Func}{c : Code}{args : List AVal}{H0 H1 : List af}{a : aP}{o : bh}{s s' : St}
 (hf:P.funcs[f]? =some fn) (hb:fn.body=some c) (hd:∀g0 w0,Inv g0 H0 w0→fu P none g0 H0 w0 c ⟨l9 fn.ntmps args,H0,[]⟩ fun o1 s1=>o1=o∧s1=s) (hwk:iF H0 s s') (hlo:rB P cfg L fn o s'=some (a,H1)):bO P f args H0 a H1:=by
 refine⟨⟨fn,c,hf,hb,hN f fn hf⟩,fun gh w vs hi hl=>callsIn_wide.1 (callsIn_of_wp_marks (F:=Fr none) (n:=0) hf hb trivial ?_)⟩
 have hsim:eT gh ⟨l9 fn.ntmps args,H0,[]⟩ {tmps:=vs++Array.replicate (fn.ntmps - vs.size) undef,defers:=[]} w:=⟨hi,wv hl _,rfl⟩;refine hd gh w hi _ gh _ w hsim (aQ.refl _ _ _) fun o1 s1 ⟨e1,e2⟩=>?_
 subst e1;subst e2;refine fq.weak hi hwk ?_;have key:∀(m:Option AVal) (u:FrameMode),yQ P cfg L fn m s'=some (a,H1)→∀g' a' w',eT g' s' a' w'→aQ gh H0 w g' s'.H w'→nH g' w' m u→
  LeavesInM (Fr none) 0 P fn a'.tmps (ff gh H0 w a H1) a'.defers u w':=by
  intro m u hla g' a' w' hs' hlat hmo;obtain⟨m',H',rr,h1,h2,h3,h4⟩:=H8 hla;refine kQ ?_ (kZ hm hN sK s'.D a'.defers m u s'.H g' w' m' H' hs'.defs hs'.inv hs'.tmps hmo h1 h2 hlat);rintro e w2 ⟨g2,hi2,hla2,he2⟩;refine⟨g2,hi2,hla2,?_⟩;cases rr with
  |ret v=>rw[h3 v rfl];obtain⟨x,rfl,hx⟩:=he2;exact⟨x,rfl,Ed _ _ hx⟩
  |aW v=>rw[h4 v rfl];exact he2
 cases o1 with
 |normal=>exact fun g' a' w' hs' hlat=>key none .returning hlo g' a' w' hs' hlat rfl
 |ret=>exact fun g' a' w' hs' hlat=>key none .returning hlo g' a' w' hs' hlat rfl
 |exit id=>simp[rB]at hlo
 |aW v=>exact fun g' a' w' x hv hs' hlat hrx=>key (some v) (.panicking [{v:=x,recovered:=false}]) hlo g' a' w' hs' hlat ⟨hv,x,rfl,hrx⟩
theorem Ch{L:Nat}{fn:Func}{m:Option AVal}{s:St}{a:aP}{H1:List af}(h:yQ P cfg L fn m s=some (a,H1)):∀v,a=.aW v→v.flat=true:=by
 grind [yQ]
theorem ET{L:Nat}{fn:Func}{o:bh}{s:St}{a:aP}{H1:List af}(h:rB P cfg L fn o s=some (a,H1)):∀v,a=.aW v→v.flat=true:=by
 cases o with
 |normal=>exact Ch h
 |ret=>exact Ch h
 |exit id=>simp[rB]at h
 |aW v=>exact Ch h
theorem Ci{nd : Bool}(hm : P.follows .mixedOrders = true)(hN : ∀ (f : FuncId) (fn : Func), P.funcs[f]? = some fn → fn.name ≠ "runtime.NumGoroutine") : ∀ d, oU P (kE P cfg nd d)
 | 0=>⟨fun h=>h.elim,fun h=>h.elim,fun h=>h.elim⟩
 |d+1=>by
  have ih:=Ci (nd:=nd) hm hN d;constructor
  ·intro ρ n f args H g k r h hr;simp only[kE,RE]at h;split at h
   ·exact Mf h hr
   split at h
   ·rename_i fn hf;split at h
    ·rename_i c hb;obtain⟨g1,o,s1,h,hr,hd⟩:=y8 (X:=⟨cfg,none,kE P cfg nd d,nd⟩) hm ih c r g _ _ h hr;unfold Qt at h;split at h
     ·rename_i ts pr g2;simp only[G.run,Option.ite_none_right_eq_some]at hr;obtain⟨s',hw,h⟩:=dA hr.1 h;split at h
      ·rename_i a H1 hla;have hfn:=bO.of hm hN hf hb (fun g0 w0 hi=>hd none g0 w0 hi trivial) hw hla
       obtain⟨_,hpr,h⟩:=h;grind [dS,bO.trim,ET,BG]
      ·exact h.elim
     ·simp[G.run]at hr
     ·exact nomatch h
    ·exact h.elim
   ·exact h.elim
  ·intro ρ n b args H g k r h hr;simp only[kE,Qv]at h;split at h
   ·rename_i st pend fid A ps assign body hb;split at h
    ·rename_i hlen;have hlen:=Nat.eq_of_beq_eq_true hlen;obtain⟨g1,o1,s1,h,hr,hd1⟩:=y8 (X:=⟨cfg,some b,kE P cfg nd d,nd⟩) hm ih assign r g _ _ h hr;split at h
     ·split at h
      ·rename_i pend1 fid1 A1 ps1 as1 bd1 hb1;rw[dS]at h;obtain⟨g2,o2,s2,h,hr,hd2⟩:=y8 (X:=⟨cfg,some b,kE P cfg nd d,nd⟩) hm ih body r g1 _ _ h hr;unfold Qu at h;split at h
       ·rename_i j hj;split at h
        ·rename_i ts g3;simp only[G.run,Option.ite_none_right_eq_some]at hr;obtain⟨s3,hw,h⟩:=dA hr.1 h;split at h
         ·rename_i H2 hmk;refine⟨g3,_,H2,h,hr.2,fun gh w vs k sz hi hl hk=>?_⟩
          obtain⟨k0,tmps0,dk0,fn0,q1,q2,q3⟩:=hi.good b _ hb;rw[hk]at q1;simp only[Option.some.injEq,Prod.mk.injEq]at q1;obtain⟨rfl,rfl⟩:=q1;have hvs:=(dJ _ _ hl).1;refine⟨_,q2,by grind,?_⟩
          rw[zi _ ps vs rfl];have hsim:eT gh ⟨tI A ps args,H,[]⟩ {tmps:=(ps.zip vs.toList).foldl (fun(tmps:Array Value) (p:Tmp×Value)=>tmps.setIfInBounds p.1 p.2) tmps0,defers:=[]} w:=
           ⟨hi,Au ps args A _ tmps0 q3 hl,rfl⟩
          refine roundIn_of_wpIn trivial ?_;refine hd1 (some k) gh w hi ⟨0,hk⟩ _ gh _ w hsim (aQ.refl _ _ _) fun oo ss ⟨e1,e2⟩=>?_
          subst e1;subst e2;intro gg1 a1 w1 hs1 hla1;have hk1:=hla1.ext.ai _ _ _ hk;obtain⟨k1,tmps1,dk1,fn1,u1,u2,u3⟩:=hs1.inv.good b _ hb1;rw[hk1]at u1;simp only[Option.some.injEq,Prod.mk.injEq]at u1;obtain⟨rfl,-⟩:=u1;refine⟨_,run_beginRound u2 rfl,?_⟩;obtain⟨i2,l2⟩:=hs1.inv.put (y:=.loop .busy pend1 fid1 A1 ps1 as1 bd1)
           (ob:=.loop {state:=.busy,pending:=pend1,fn:=fn1,tmps:=tmps1,params:=ps1.toArray,assign:=as1,body:=bd1,defers:=dk1}) hb1 rfl hk1 rfl (tK u2)
           fun hext=>⟨_,tmps1,dk1,fn1,hk1,World.putObj_heap_same (Array.getElem?_eq_some_iff.1 u2).1,bM hext _ _ u3⟩
          have hsim2:eT gg1 {ss with H:=ss.H.set b (.loop .busy pend1 fid1 A1 ps1 as1 bd1)} a1 (w1.putObj k (.loop {state:=.busy,pending:=pend1,fn:=fn1,tmps:=tmps1,params:=ps1.toArray,assign:=as1,body:=bd1,defers:=dk1})):=
           ⟨i2,bM l2.ext _ _ hs1.tmps,eo l2.ext _ _ hs1.defs⟩
          refine hd2 (some k) gh w hi ⟨0,hk⟩ _ gg1 a1 _ hsim2 (hla1.trans l2) fun oo2 ss2 ⟨e1,e2⟩=>?_
          subst e1;subst e2;refine fq.weak hi hw ?_;have hend:∀g' a' w',eT g' s3 a' w'→aQ gh H w g' s3.H w'→
           ∃v w'',(Instr.endRound k j).run P w'=.ok v w''∧ff gh H w (.ret (.sc (.bool j.isNone))) H2 (.returned v) w'':=by
           intro g' a' w' hs' hla';obtain⟨rr,e1,e2,e3⟩:=zj hs'.inv (hla'.ext.ai _ _ _ hk) hmk;exact⟨_,_,run_endRound j e1,g',e2,hla'.trans e3,_,rfl,by simp[R]⟩
          cases oo2 with
          |normal=>
           simp only[ru,Option.some.injEq]at hj;subst hj;exact fun g' a' w' h1 h2=>hend g' a' w' h1 h2
          |ret=>
           simp only[ru,Option.some.injEq]at hj;subst hj;exact fun g' a' w' h1 h2=>hend g' a' w' h1 h2
          |exit id=>
           simp only[ru,Option.some.injEq]at hj;subst hj;exact fun g' a' w' h1 h2=>hend g' a' w' h1 h2
          |aW v=>cases hj
         ·exact h.elim
        ·simp[G.run]at hr
        ·exact nomatch h
       ·exact h.elim
      ·exact h.elim
     ·exact h.elim
    ·exact h.elim
   ·exact h.elim
  ·intro σ sh n ro H0 b g E s Y q h hr;obtain⟨h⟩:=h;exact y8 (X:=⟨cfg,ro,kE P cfg nd d,nd⟩) hm ih b q g s _ h hr
end
end Go.AM
end
section
namespace Go.AM
section
variable [aF] {P:Program} {cfg:fE}
def Cj(P:Program)[aF](cfg:fE)(L:Nat)(fn:Func)(m:Option AVal)(s:St):Option aP:=
 match leave P cfg wz L s.D m s.H with
 |some (m',H')=>match ending P fn s.A m' H' with
  |some (.ret v,H1)=>match(snap jT v).run H1 with
   |some v'=>some (.ret (jx v'))
   |none=>none
  |some (.aW v,_)=>match v.flat with
   |true=>some (.aW v)
   |false=>none
  |none=>none
 |none=>none
def Ga(P:Program)[aF](cfg:fE)(L:Nat)(fn:Func)(o:bh)(s:St):Option aP:=
 match o with
 | .normal=>Cj P cfg L fn none s
 | .ret=>Cj P cfg L fn none s
 | .aW v=>Cj P cfg L fn (some v) s
 | .exit _=>none
def Hj{ρ:Type}(P:Program)[aF](cfg:fE)(L:Nat)(fn:Func)(out:ρ→aP)(g:G P ρ)(o:bh)(s:St):Prop:=
 match g with
 | .done ts r=>jJ [] ts s fun s=>Ga P cfg L fn o s=some (out r)
 | .fail=>True
 |_=>TY P fn o s out
def S4{ρ:Type}(P:Program)[aF](cfg:fE)(L:Nat)(f:FuncId)(args:List AVal)(out:ρ→aP)(g:G P ρ):Prop:=
 match P.funcs[f]? with
 |some fn=>match fn.body with
  |some c=>jF P (M5 P cfg) [] c g ⟨l9 fn.ntmps args,[],[]⟩ fun g o s=>Hj P cfg L fn out g o s
  |none=>False
 |none=>False
def RH{ρ:Type}(out:ρ→aP)(r:ρ):Prop:=some (out r)=some (out r)
theorem Qx{n L:Nat}{ρ:Type}{fn:Func}{out:ρ→aP}{g:G P ρ}{o:bh}{s:St}{r:ρ}(h:Hj P cfg L fn out g o s)(hr:g.run n=some r):∃s',iF [] s s'∧Ga P cfg L fn o s'=some (out r):=by
 unfold Hj at h;split at h
 ·simp only[G.run,Option.ite_none_right_eq_some,Option.some.injEq]at hr;obtain⟨hok,rfl⟩:=hr;exact dA hok h
 ·simp[G.run]at hr
 ·exact nomatch h
theorem Gb{g g':Gh}{w w':World}{H1:List af}{r r':aP}{e:Ending}(hi:Inv g [] w)(hi':Inv g' H1 w')(hla:aQ g [] w g' H1 w')(hl:(∀v,r=.ret v→∃v',(snap jT v).run H1=some v'∧r'=.ret (jx v'))∧(∀v,r=.aW v→v.flat=true∧r'=.aW v))
 (he:Rz g' w' r e):ff g [] w r' [] e w':=by
 refine⟨iL g' H1,hi'.iL,⟨⟨fun b ak x hx=>?_,fun k o hk=>.inl (hla.ext.st k o hk),hla.ext.cell,hla.ext.shape⟩,hla.size,hla.keep,fun k _ ho=>absurd ho fF,Nat.le_refl _,hla.os,hla.tape,hla.output,fun k o hk hst=>?_,fun b hb=>by simp at hb,fun b ak k z h=>by cases h⟩,?_⟩
 ·rw[hi.fresh b ak (.inr (by simp))]at hx;cases hx
 ·rcases hst with hst |hst
  ·exact(hla.stk k o hk hst).imp_right fun h=>absurd h.1 fF
  ·exact absurd (hla.own k hk hst) fF
 ·cases r with
  |ret v=>
   obtain⟨v',hs,rfl⟩:=hl.1 v rfl;obtain⟨x,rfl,hr⟩:=he;exact⟨x,rfl,Ed _ _ (pO hi' _ _ _ _ hs hr).1⟩
  |aW v=>
   obtain⟨hf,rfl⟩:=hl.2 v rfl;obtain⟨x,rfl,hr⟩:=he;exact⟨x,rfl,kN _ _ hf hr⟩
theorem H9{L:Nat}{fn:Func}{m:Option AVal}{s:St}{r':aP}(h:Cj P cfg L fn m s=some r'):
 ∃m' H' r H1,leave P cfg wz L s.D m s.H=some (m',H')∧ending P fn s.A m' H'=some (r,H1)∧(∀v,r=.ret v→∃v',(snap jT v).run H1=some v'∧r'=.ret (jx v'))∧(∀v,r=.aW v→v.flat=true∧r'=.aW v):=by
 unfold Cj at h;split at h
 ·rename_i m' H' hl;split at h
  ·rename_i v H1 he;split at h
   ·rename_i v' hs;simp only[Option.some.injEq]at h;subst h;refine⟨m',H',_,H1,hl,he,?_,?_⟩
    ·intro u hu;cases hu;exact⟨v',hs,rfl⟩
    ·intro u hu;cases hu
   ·cases h
  ·rename_i v H1 he;split at h
   ·rename_i hf;simp only[Option.some.injEq]at h;subst h;refine⟨m',H',_,H1,hl,he,?_,?_⟩
    ·intro u hu;cases hu
    ·intro u hu;cases hu;exact⟨hf,rfl⟩
   ·cases h
  ·cases h
 ·cases h
theorem OP(hm : P.follows .mixedOrders = true)(hN : ∀ (f : FuncId) (fn : Func), P.funcs[f]? = some fn → fn.name ≠ "runtime.NumGoroutine"){L : Nat}{f : FuncId}{args : List AVal}{ρ : Type}{out : ρ → aP}{g : G P ρ}
 (h:S4 P cfg L f args out g) {n:Nat} {r:ρ} (hr:g.run n=some r):jV P f args (out r):=by
 unfold S4 at h;split at h
 ·rename_i fn hf;split at h
  ·rename_i c hb;refine⟨⟨fn,c,hf,hb,hN f fn hf⟩,fun gh w vs hi hl=>callsIn_wide.1 (callsIn_of_wp_marks (F:=Fr none) (n:=0) hf hb trivial ?_)⟩
   have hsim:eT gh ⟨l9 fn.ntmps args,[],[]⟩ {tmps:=vs++Array.replicate (fn.ntmps - vs.size) undef,defers:=[]} w:=⟨hi,wv hl _,rfl⟩;obtain⟨g',o,s1,h',hr',hd⟩:=y8 (X:=M5 P cfg) hm (Ci hm hN 9) c r g _ _ h hr;obtain⟨s',hwk,hlo⟩:=Qx h' hr';refine hd none gh w hi trivial _ gh _ w hsim (aQ.refl _ _ _) fun o1 s1 ⟨e1,e2⟩=>?_
   subst e1;subst e2;refine fq.weak hi hwk ?_;have key:∀(m:Option AVal) (u:FrameMode),Cj P cfg L fn m s'=some (out r)→∀g' a' w',eT g' s' a' w'→aQ gh [] w g' s'.H w'→nH g' w' m u→
    LeavesInM (Fr none) 0 P fn a'.tmps (ff gh [] w (out r) []) a'.defers u w':=by
    intro m u hla g' a' w' hs' hlat hmo;obtain⟨m',H',rr,H1,h1,h2,h3⟩:=H9 hla;refine kQ ?_ (kZ hm hN sK s'.D a'.defers m u s'.H g' w' m' H' hs'.defs hs'.inv hs'.tmps hmo h1 h2 hlat);rintro e w2 ⟨g2,hi2,hla2,he2⟩;exact Gb hi hi2 hla2 h3 he2
   cases o1 with
   |normal=>exact fun g' a' w' hs' hlat=>key none .returning hlo g' a' w' hs' hlat rfl
   |ret=>exact fun g' a' w' hs' hlat=>key none .returning hlo g' a' w' hs' hlat rfl
   |exit id=>simp[Ga]at hlo
   |aW v=>exact fun g' a' w' x hv hs' hlat hrx=>key (some v) (.panicking [{v:=x,recovered:=false}]) hlo g' a' w' hs' hlat ⟨hv,x,rfl,hrx⟩
  ·exact h.elim
 ·exact h.elim
inductive S5 (P:Program) [aF] {ρ:Type} (fn:Func) (o:bh) (s:St) (H0:List af) (out:ρ→aP×List af):Prop
def M8(n:Nat):Option (aP×List af)→Option (aP×List af)
 |some (a,H)=>some (a,H.take n)
 |none=>none
def M9{ρ:Type}(P:Program)[aF](cfg:fE)(L:Nat)(fn:Func)(H0:List af)(out:ρ→aP×List af)(g:G P ρ)(o:bh)(s:St):Prop:=
 match g with
 | .done ts r=>jJ H0 ts s fun s=>M8 H0.length (rB P cfg L fn o s)=some (out r)
 | .fail=>True
 |_=>S5 P fn o s H0 out
def Na{ρ:Type}(P:Program)[aF](cfg:fE)(L:Nat)(f:FuncId)(args:List AVal)(H0:List af)(out:ρ→aP×List af)(g:G P ρ):Prop:=
 match P.funcs[f]? with
 |some fn=>match fn.body with
  |some c=>jF P (M5 P cfg) H0 c g ⟨l9 fn.ntmps args,H0,[]⟩ fun g o s=>M9 P cfg L fn H0 out g o s
  |none=>False
 |none=>False
def Jg{ρ:Type}(out:ρ→aP×List af)(r:ρ):Prop:=some (out r)=some (out r)
theorem OQ{n L:Nat}{ρ:Type}{fn:Func}{H0:List af}{out:ρ→aP×List af}{g:G P ρ}{o:bh}{s:St}{r:ρ}(h:M9 P cfg L fn H0 out g o s)(hr:g.run n=some r):∃s',iF H0 s s'∧M8 H0.length (rB P cfg L fn o s')=some (out r):=by
 unfold M9 at h;split at h
 ·simp only[G.run,Option.ite_none_right_eq_some,Option.some.injEq]at hr;obtain⟨hok,rfl⟩:=hr;exact dA hok h
 ·simp[G.run]at hr
 ·exact nomatch h
theorem Gc(hm : P.follows .mixedOrders = true)(hN : ∀ (f : FuncId) (fn : Func), P.funcs[f]? = some fn → fn.name ≠ "runtime.NumGoroutine"){L : Nat}{f : FuncId}{args : List AVal}{H0 : List af}{ρ : Type}{out : ρ → aP × List af}{g : G P ρ}
 (h:Na P cfg L f args H0 out g) {n:Nat} {r:ρ} (hr:g.run n=some r) (h0:0<H0.length) (ha:(out r).1.CO=true) (hrow:∀x∈(out r).2,x.lX=true∨x=.dead):bO P f args H0 (out r).1 (out r).2:=by
 unfold Na at h;split at h
 ·rename_i fn hf;split at h
  ·rename_i c hb;obtain⟨g',o,s1,h',hr',hd⟩:=y8 (X:=M5 P cfg) hm (Ci hm hN 9) c r g _ _ h hr;obtain⟨s',hwk,hlo⟩:=OQ h' hr';cases hl:rB P cfg L fn o s' with
   |none=>rw[hl]at hlo;cases hlo
   |some p=>
    obtain⟨a,H1⟩:=p;rw[hl]at hlo;simp only[M8,Option.some.injEq]at hlo;have:=bO.of hm hN hf hb (fun g0 w0 hi=>hd none g0 w0 hi trivial) hwk hl
    rw[← hlo]at ha hrow ⊢;exact bO.take this h0 ha hrow
  ·exact h.elim
 ·exact h.elim
class Plain (P:Program):Prop where
 mixed:P.follows .mixedOrders=true
 names : ∀ (f : FuncId) (fn : Func), P.funcs[f]? = some fn → fn.name ≠ "runtime.NumGoroutine"
def aD.of[hp:Plain P](cfg:fE)(L:Nat)(f:FuncId)(X:Type)(args:X→List AVal)(sh:Sh)(out:sh.El→aP)(g:X→G P sh.El)(h:∀x,S4 P cfg L f (args x) out (g x)=(g x).fI (RH out)):aD P where
 f:=f
 X:=X
 args:=args
 sh:=sh
 out:=out
 S:=fun n x=>(g x).run n
 ok:=fun _ x _ hr=>OP hp.mixed hp.names (by rw[h x];exact G.bS (fun _=>rfl) (g x)) hr
def dF.ofVar[hp:Plain P](cfg:fE)(L:Nat)(f:FuncId)(X:Type)(args:X→List AVal)(τ:Type)(sz:Nat)(enc:τ→List AVal)(b:X→τ)(sh:Sh)(out:sh.El→aP)(bo:sh.El→τ)(g:X→G P sh.El)
 (he:∀a,AVal.aS (enc a)=true) (ha:∀x,AVal.mU (args x)=true) (hr:sh.all fun r=>(out r).CO=true)
 (h:∀x,Na P cfg L f (args x) [.row 0 sz [enc (b x)]] (fun r=>(out r,[.row 0 sz [enc (bo r)]])) (g x)=(g x).fI (Jg fun r=>(out r,[.row 0 sz [enc (bo r)]]))):dF P where
 f:=f
 X:=X
 args:=args
 blk:=fun x=>.row 0 sz [enc (b x)]
 sh:=sh
 out:=out
 qN:=fun _ r=>.row 0 sz [enc (bo r)]
 S:=fun n x=>(g x).run n
 a0:=ha
 b0:=fun x=>by simp[af.lX,he]
 b1:=fun _ r=>.inl (by simp[af.lX,he])
 r0:=fun r=>(sh.bX _).1 hr r
 ok:=fun _ x r hr'=>Gc hp.mixed hp.names (out:=fun r=>(out r,[.row 0 sz [enc (bo r)]])) (by rw[h x];exact G.bS (fun _=>rfl) (g x)) hr' (Nat.zero_lt_succ _) ((sh.bX _).1 hr r) fun y hy=>by
  simp only[List.mem_singleton]at hy;subst hy;exact .inl (by simp[af.lX,he])
def dF.tP[hp:Plain P](cfg:fE)(L:Nat)(f:FuncId)(X:Type)(args:X→List AVal)(τ:Type)(sz:Nat)(enc:τ→List AVal)(b:X→List τ)(sh:Sh)(out:sh.El→aP)(bo:sh.El→List τ)(g:X→G P sh.El)
 (he:∀a,AVal.aS (enc a)=true) (ha:∀x,AVal.mU (args x)=true) (hr:sh.all fun r=>(out r).CO=true)
 (h:∀x,Na P cfg L f (args x) [.row 0 sz ((b x).map enc)] (fun r=>(out r,[.row 0 sz ((bo r).map enc)])) (g x)=(g x).fI (Jg fun r=>(out r,[.row 0 sz ((bo r).map enc)]))):dF P where
 f:=f
 X:=X
 args:=args
 blk:=fun x=>.row 0 sz ((b x).map enc)
 sh:=sh
 out:=out
 qN:=fun _ r=>.row 0 sz ((bo r).map enc)
 S:=fun n x=>(g x).run n
 a0:=ha
 b0:=fun x=>by simp[af.lX,he]
 b1:=fun _ r=>.inl (by simp[af.lX,he])
 r0:=fun r=>(sh.bX _).1 hr r
 ok:=fun _ x r hr'=>Gc hp.mixed hp.names (out:=fun r=>(out r,[.row 0 sz ((bo r).map enc)])) (by rw[h x];exact G.bS (fun _=>rfl) (g x)) hr' (Nat.zero_lt_succ _) ((sh.bX _).1 hr r) fun y hy=>by
  simp only[List.mem_singleton]at hy;subst hy;exact .inl (by simp[af.lX,he])
end
end Go.AM
end
section
namespace Go.AM
def nL(P:Program)(T:TypeId):Option Nat:=match P.underlying T with
 |some (.slice e)=>dz P e
 |_=>none
def intOf:AVal→Option Int
 | .sc (.int _ n)=>some n
 |_=>none
theorem ji{v:AVal}{n:Int}(h:intOf v=some n):∃k,v=.sc (.int k n):=by
 unfold intOf at h;grind
def gv{X:Type}(l:List X)(i:Int):Option X:=if 0≤i then l[i.toNat]? else none
theorem iE{P:Program}{T:TypeId}{n:Nat}(h:nL P T=some n):∃e,P.underlying T=some (.slice e)∧dz P e=some n:=by
 grind [nL]
section
def bu{X:Type}(l:List X)(enc:X→List AVal)(n:Nat)(i:Int):mO X where
 run:=gv l i
 bk x:={val:=.bU (enc x) 0}
 ids:=[]
 nK gl P cfg nid op ai H:=match op with
  | .indexAddr T a b=>ai a=.aB (l.map enc)∧intOf (ai b)=some i∧nL P T=some n∧∀x,(enc x).length=n
  |_=>False
 gX:=AVal.aB (l.map enc)=AVal.aB (l.map enc)∧some i=some i∧some n=some n∧∀_:X,n=n
 holds:=⟨rfl,rfl,rfl,fun _=>rfl⟩
 sound gl P cfg nid op ai H h x hx:=by
  cases op<;>try exact h.elim
  rename_i T a b;obtain⟨h1,h2,h3,h4⟩:=h;obtain⟨k,h2⟩:=ji h2;obtain⟨e,e1,e2⟩:=iE h3;unfold gv at hx;split at hx
  ·rename_i h0;simp[bD,cN,cA,h2,h1,pI,e1,e2,h0,hx,h4,yields,Rd.bind,Rd.run,Rd.reads]
  ·cases hx
def bE{X:Type}(l:List X)(enc:X→List AVal):mO Unit where
 run:=some ()
 bk _:={val:=.sc (.int .i64 l.length)}
 ids:=[]
 nK gl P cfg nid op ai H:=match op with
  | .call {callee:=.builtin .len,args,argTypes}=>match argTypes[0]?,args[0]? with
   |some T,some x=> @Eq Bool (nL P T).isSome true∧ai x=.aB (l.map enc)
   |_,_=>False
  |_=>False
 gX:=(@Eq Bool true true)∧AVal.aB (l.map enc)=AVal.aB (l.map enc)
 holds:=⟨by rfl,by rfl⟩
 sound gl P cfg nid op ai H h x hx:=by
  split at h
  ·split at h
   ·rename_i args argTypes _ _ T x hT ha;obtain⟨h1,h2⟩:=h;obtain⟨n,hn⟩:=Option.isSome_iff_exists.1 h1;obtain⟨e,e1,e2⟩:=iE hn;grind [bD,cN,cA,qX,Rd.bind,Rd.run,Rd.reads]
   ·exact h.elim
  ·exact h.elim
def OR(P:Program)(T:TypeId):Option (Nat×Nat×Bool):=match P.info? T with
 |some i=>some (i.size,i.bytes,kO i)
 |none=>none
def rC(P:Program)(T:TypeId):Option (Nat×Nat×Bool):=match P.underlying T with
 |some (.slice e)=>OR P e
 |_=>none
theorem nB{P:Program}{T:TypeId}{n by_:Nat}{z:Bool}(h:rC P T=some (n,by_,z)):∃e i,P.underlying T=some (.slice e)∧P.info? e=some i∧i.size=n∧i.bytes=by_∧kO i=z:=by
 grind [rC,OR]
theorem run_bind'{α β:Type}{H:List af}{m:Rd α}{f:α→Rd β}{x:α}(h:m.run H=some x):(m.bind f).run H=(f x).run H:=by
 induction m with
 |fail=>simp[Rd.run]at h
 |done a=>simp[Rd.run]at h;subst h;rfl
 |get b k ih=>
  grind [Rd.run,Rd.bind]
def wE{X:Type}(len:Nat)(l m:List X)(enc:X→List AVal)(n by_ b ak nid0:Nat)(eids:List Nat):mO Unit where
 run:=if len=l.length∧roomy (l.length+m.length) by_=true then some ()else none
 bk _:={val:=.sl b (ak+1) n 0 (l++m).length,dV:=[(b,.row (ak+1) n ((l++m).map enc))]}
 ids:=nid0::(eids++[b])
 nK gl P cfg nid op ai H:=match op with
  | .call {callee:=.builtin .append,args,argTypes}=>match argTypes[0]?,argTypes[1]?,args[0]?,args[1]? with
   |some ST,some XT,some s,some x=>nid=nid0∧H[nid]? =some .aV∧decide (args.size=2)=true∧rC P ST=some (n,by_,true)∧(nL P XT).isSome=true∧decide (0<n)=true∧ai s=.sl b ak n 0 len∧H[b]? =some (.row ak n (l.map enc))∧
    (elems (ai x)).run H=some (m.map enc)∧(elems (ai x)).reads H=eids∧∀x,(enc x).length=n
   |_,_,_,_=>False
  |_=>False
 gX:=nid0=nid0∧some af.aV=some af.aV∧ @Eq Bool true true∧some (n,by_,true)=some (n,by_,true)∧ @Eq Bool true true∧ @Eq Bool true true∧AVal.sl b ak n 0 len=AVal.sl b ak n 0 len∧some (af.row ak n (l.map enc))=some (af.row ak n (l.map enc))∧
  some (m.map enc)=some (m.map enc)∧eids=eids∧∀_:X,n=n
 holds:=by simp
 sound gl P cfg nid op ai H h x hx:=by
  split at h
  ·split at h
   ·rename_i args argTypes _ _ _ _ ST XT sx x hT hX hs hxx;obtain⟨rfl,hunb,h0,h1,h2,h3,h4,h5,h6,h6',h7⟩:=h;obtain⟨e,i,e1,e2,e3,e4,e5⟩:=nB h1;obtain⟨n2,hn2⟩:=Option.isSome_iff_exists.1 h2;obtain⟨e',e6,_⟩:=iE hn2;simp only[decide_eq_true_eq]at h0 h3;split at hx
    ·rename_i hroom;obtain⟨rfl,hroom⟩:=hroom;have hz:i.size≠0:=by omega
     have hall:(m.map enc).all (fun r=>r.length==i.size)=true:=by
      simp only[List.all_map,List.all_eq_true];intro y _;simp[h7,e3]
     have hop:bD P cfg nid ai (.call {callee:=.builtin .append,args:=args,argTypes:=argTypes})=.get nid fun
      | .aV=>(kP P nid ST XT (ai sx) (ai x)).bind fun e=>.done (.bk e)
      |_=>.fail:=by
      simp only[bD,cN,if_true,cA,hT,hX,hs,hxx,h0];congr 1
     have hap:kP P nid ST XT (ai sx) (ai x)=(elems (ai x)).bind fun new=>.get b fun
      | .row v sz rows=>if v=ak then(if 0=0∧l.length≤rows.length∧sz=i.size∧roomy (l.length+new.length) i.bytes=true∧new.all (fun r=>r.length==i.size)=true∧kO i=true then
       .done {val:=.sl b (ak+1) sz 0 (l.length+new.length),dV:=[(b,.row (ak+1) sz (Fa l.length rows++new))]}else .fail)else .fail
      |_=>.fail:=by
      rw[h4];unfold kP;rw[e1,e6];simp only[e2,hz,if_false];congr 1
      funext new
      simp only[Rd.bind,rowOf];congr 1
      funext y
      cases y with
      |row v sz rows=>grind [Rd.bind]
      |_=>rfl
     rw[hop,hap];simp only[Rd.run,Rd.reads,hunb];have hb:∀{β:Type} (f:di→Rd β) (g:List (List AVal)→Rd di),(((elems (ai x)).bind g).bind f)=(elems (ai x)).bind fun n=>(g n).bind f:=by
      intro β f g;generalize elems (ai x)=q;induction q with
      |fail=>rfl
      |done a=>rfl
      |get b k ih=>simp only[Rd.bind,ih]
     grind [run_bind',sD,Rd.bind,Rd.run,Rd.reads,Bn]
    ·cases hx
   ·exact h.elim
  ·exact h.elim
def Qy{X:Type}(len:Nat)(l m:List X)(enc:X→List AVal)(n by_ b ak nid0:Nat)(eids:List Nat):mO Unit where
 run:=if len≤l.length∧roomy (len+m.length) by_=true then some ()else none
 bk _:={val:=.sl b (ak+1) n 0 (l.take len++m).length,dV:=[(b,.row (ak+1) n ((l.take len++m).map enc))]}
 ids:=nid0::(eids++[b])
 nK gl P cfg nid op ai H:=match op with
  | .call {callee:=.builtin .append,args,argTypes}=>match argTypes[0]?,argTypes[1]?,args[0]?,args[1]? with
   |some ST,some XT,some s,some x=>nid=nid0∧H[nid]? =some .aV∧decide (args.size=2)=true∧rC P ST=some (n,by_,true)∧(nL P XT).isSome=true∧decide (0<n)=true∧ai s=.sl b ak n 0 len∧H[b]? =some (.row ak n (l.map enc))∧
    (elems (ai x)).run H=some (m.map enc)∧(elems (ai x)).reads H=eids∧∀x,(enc x).length=n
   |_,_,_,_=>False
  |_=>False
 gX:=nid0=nid0∧some af.aV=some af.aV∧ @Eq Bool true true∧some (n,by_,true)=some (n,by_,true)∧ @Eq Bool true true∧ @Eq Bool true true∧AVal.sl b ak n 0 len=AVal.sl b ak n 0 len∧some (af.row ak n (l.map enc))=some (af.row ak n (l.map enc))∧
  some (m.map enc)=some (m.map enc)∧eids=eids∧∀_:X,n=n
 holds:=by simp
 sound gl P cfg nid op ai H h x hx:=by
  split at h
  ·split at h
   ·rename_i args argTypes _ _ _ _ ST XT sx x hT hX hs hxx;obtain⟨rfl,hunb,h0,h1,h2,h3,h4,h5,h6,h6',h7⟩:=h;obtain⟨e,i,e1,e2,e3,e4,e5⟩:=nB h1;obtain⟨n2,hn2⟩:=Option.isSome_iff_exists.1 h2;obtain⟨e',e6,_⟩:=iE hn2;simp only[decide_eq_true_eq]at h0 h3;split at hx
    ·rename_i hroom;obtain⟨hlen,hroom⟩:=hroom;have hz:i.size≠0:=by omega
     have hall:(m.map enc).all (fun r=>r.length==i.size)=true:=by
      simp only[List.all_map,List.all_eq_true];intro y _;simp[h7,e3]
     have hop:bD P cfg nid ai (.call {callee:=.builtin .append,args:=args,argTypes:=argTypes})=.get nid fun
      | .aV=>(kP P nid ST XT (ai sx) (ai x)).bind fun e=>.done (.bk e)
      |_=>.fail:=by
      simp only[bD,cN,if_true,cA,hT,hX,hs,hxx,h0];congr 1
     have hap:kP P nid ST XT (ai sx) (ai x)=(elems (ai x)).bind fun new=>.get b fun
      | .row v sz rows=>if v=ak then(if 0=0∧len≤rows.length∧sz=i.size∧roomy (len+new.length) i.bytes=true∧new.all (fun r=>r.length==i.size)=true∧kO i=true then
       .done {val:=.sl b (ak+1) sz 0 (len+new.length),dV:=[(b,.row (ak+1) sz (Fa len rows++new))]}else .fail)else .fail
      |_=>.fail:=by
      rw[h4];unfold kP;rw[e1,e6];simp only[e2,hz,if_false];congr 1
      funext new
      simp only[Rd.bind,rowOf];congr 1
      funext y
      cases y with
      |row v sz rows=>grind [Rd.bind]
      |_=>rfl
     rw[hop,hap];simp only[Rd.run,Rd.reads,hunb];have hb:∀{β:Type} (f:di→Rd β) (g:List (List AVal)→Rd di),(((elems (ai x)).bind g).bind f)=(elems (ai x)).bind fun n=>(g n).bind f:=by
      intro β f g;generalize elems (ai x)=q;induction q with
      |fail=>rfl
      |done a=>rfl
      |get b k ih=>simp only[Rd.bind,ih]
     rw[hb,run_bind' h6,sD h6,h6'];simp only[Rd.bind,Rd.run,Rd.reads,h5,if_true];rw[if_pos ⟨trivial,by simpa using hlen,e3.symm,by simpa[e4]using hroom,hall,e5⟩]
     rw[Bn _ _ (by simpa using hlen)]
     simp[Rd.bind,Rd.run,Rd.reads,List.map_take,Nat.min_eq_left hlen]
    ·cases hx
   ·exact h.elim
  ·exact h.elim
theorem Gd{X:Type}(l:List X)(enc:X→List AVal){x:AVal}{H:List af}{b ak sz o n:Nat}(hx:x=.sl b ak sz o n)(hH:H[b]? =some (.row ak sz (l.map enc)))(hle:o+n≤l.length):
 (elems x).run H=some (((l.drop o).take n).map enc)∧(elems x).reads H=[b]:=by
 subst hx;simp[elems,rowOf,Rd.bind,Rd.run,Rd.reads,hH,hle,List.map_drop,List.map_take]
def J1{X:Type}(len:Nat)(l l2:List X)(b2 ver2 o2 n2:Nat)(enc:X→List AVal)(n by_ b ak nid0:Nat):mO Unit where
 run:=if(len=l.length∧o2+n2≤l2.length)∧roomy (l.length+n2) by_=true then some ()else none
 bk _:={val:=.sl b (ak+1) n 0 (l++(l2.drop o2).take n2).length,dV:=[(b,.row (ak+1) n ((l++(l2.drop o2).take n2).map enc))]}
 ids:=nid0::([b2]++[b])
 nK gl P cfg nid op ai H:=match op with
  | .call {callee:=.builtin .append,args,argTypes}=>match argTypes[0]?,argTypes[1]?,args[0]?,args[1]? with
   |some ST,some XT,some s,some x=>nid=nid0∧H[nid]? =some .aV∧decide (args.size=2)=true∧rC P ST=some (n,by_,true)∧(nL P XT).isSome=true∧decide (0<n)=true∧ai s=.sl b ak n 0 len∧H[b]? =some (.row ak n (l.map enc))∧
    ai x=.sl b2 ver2 n o2 n2∧H[b2]? =some (.row ver2 n (l2.map enc))∧∀x,(enc x).length=n
   |_,_,_,_=>False
  |_=>False
 gX:=nid0=nid0∧some af.aV=some af.aV∧ @Eq Bool true true∧some (n,by_,true)=some (n,by_,true)∧ @Eq Bool true true∧ @Eq Bool true true∧AVal.sl b ak n 0 len=AVal.sl b ak n 0 len∧some (af.row ak n (l.map enc))=some (af.row ak n (l.map enc))∧
  AVal.sl b2 ver2 n o2 n2=AVal.sl b2 ver2 n o2 n2∧some (af.row ver2 n (l2.map enc))=some (af.row ver2 n (l2.map enc))∧∀_:X,n=n
 holds:=by simp
 sound gl P cfg nid op ai H h x hx:=by
  split at h
  ·split at h
   ·rename_i args argTypes _ _ _ _ ST XT sx x hT hX hs hxx;obtain⟨rfl,hunb,h0,h1,h2,h3,h4,h5,h6,h6',h7⟩:=h;obtain⟨e,i,e1,e2,e3,e4,e5⟩:=nB h1;obtain⟨n9,hn2⟩:=Option.isSome_iff_exists.1 h2;obtain⟨e',e6,_⟩:=iE hn2;simp only[decide_eq_true_eq]at h0 h3;split at hx
    ·rename_i hroom;obtain⟨⟨rfl,hle2⟩,hroom⟩:=hroom;obtain⟨h6,h6'⟩:=Gd l2 enc h6 h6' hle2;obtain⟨m,hm⟩:∃m,m=(l2.drop o2).take n2:=⟨_,rfl⟩;have hml:m.length=n2:=by rw[hm,List.length_take,List.length_drop];omega
     rw[← hm]at h6 ⊢;rw[← hml]at hroom;have hz:i.size≠0:=by omega
     have hall:(m.map enc).all (fun r=>r.length==i.size)=true:=by
      simp only[List.all_map,List.all_eq_true];intro y _;simp[h7,e3]
     have hop:bD P cfg nid ai (.call {callee:=.builtin .append,args:=args,argTypes:=argTypes})=.get nid fun
      | .aV=>(kP P nid ST XT (ai sx) (ai x)).bind fun e=>.done (.bk e)
      |_=>.fail:=by
      simp only[bD,cN,if_true,cA,hT,hX,hs,hxx,h0];congr 1
     have hap:kP P nid ST XT (ai sx) (ai x)=(elems (ai x)).bind fun new=>.get b fun
      | .row v sz rows=>if v=ak then(if 0=0∧l.length≤rows.length∧sz=i.size∧roomy (l.length+new.length) i.bytes=true∧new.all (fun r=>r.length==i.size)=true∧kO i=true then
       .done {val:=.sl b (ak+1) sz 0 (l.length+new.length),dV:=[(b,.row (ak+1) sz (Fa l.length rows++new))]}else .fail)else .fail
      |_=>.fail:=by
      rw[h4];unfold kP;rw[e1,e6];simp only[e2,hz,if_false];congr 1
      funext new
      simp only[Rd.bind,rowOf];congr 1
      funext y
      cases y with
      |row v sz rows=>grind [Rd.bind]
      |_=>rfl
     rw[hop,hap];simp only[Rd.run,Rd.reads,hunb];have hb:∀{β:Type} (f:di→Rd β) (g:List (List AVal)→Rd di),(((elems (ai x)).bind g).bind f)=(elems (ai x)).bind fun n=>(g n).bind f:=by
      intro β f g;generalize elems (ai x)=q;induction q with
      |fail=>rfl
      |done a=>rfl
      |get b k ih=>simp only[Rd.bind,ih]
     grind [run_bind',sD,Rd.bind,Rd.run,Rd.reads,Bn]
    ·cases hx
   ·exact h.elim
  ·exact h.elim
def J2{X:Type}(len:Nat)(l l2:List X)(b2 ver2 o2 n2:Nat)(enc:X→List AVal)(n by_ b ak nid0:Nat):mO Unit where
 run:=if(len≤l.length∧o2+n2≤l2.length)∧roomy (len+n2) by_=true then some ()else none
 bk _:={val:=.sl b (ak+1) n 0 (l.take len++(l2.drop o2).take n2).length,dV:=[(b,.row (ak+1) n ((l.take len++(l2.drop o2).take n2).map enc))]}
 ids:=nid0::([b2]++[b])
 nK gl P cfg nid op ai H:=match op with
  | .call {callee:=.builtin .append,args,argTypes}=>match argTypes[0]?,argTypes[1]?,args[0]?,args[1]? with
   |some ST,some XT,some s,some x=>nid=nid0∧H[nid]? =some .aV∧decide (args.size=2)=true∧rC P ST=some (n,by_,true)∧(nL P XT).isSome=true∧decide (0<n)=true∧ai s=.sl b ak n 0 len∧H[b]? =some (.row ak n (l.map enc))∧
    ai x=.sl b2 ver2 n o2 n2∧H[b2]? =some (.row ver2 n (l2.map enc))∧∀x,(enc x).length=n
   |_,_,_,_=>False
  |_=>False
 gX:=nid0=nid0∧some af.aV=some af.aV∧ @Eq Bool true true∧some (n,by_,true)=some (n,by_,true)∧ @Eq Bool true true∧ @Eq Bool true true∧AVal.sl b ak n 0 len=AVal.sl b ak n 0 len∧some (af.row ak n (l.map enc))=some (af.row ak n (l.map enc))∧
  AVal.sl b2 ver2 n o2 n2=AVal.sl b2 ver2 n o2 n2∧some (af.row ver2 n (l2.map enc))=some (af.row ver2 n (l2.map enc))∧∀_:X,n=n
 holds:=by simp
 sound gl P cfg nid op ai H h x hx:=by
  split at h
  ·split at h
   ·rename_i args argTypes _ _ _ _ ST XT sx x hT hX hs hxx;obtain⟨rfl,hunb,h0,h1,h2,h3,h4,h5,h6,h6',h7⟩:=h;obtain⟨e,i,e1,e2,e3,e4,e5⟩:=nB h1;obtain⟨n9,hn2⟩:=Option.isSome_iff_exists.1 h2;obtain⟨e',e6,_⟩:=iE hn2;simp only[decide_eq_true_eq]at h0 h3;split at hx
    ·rename_i hroom;obtain⟨⟨hlen,hle2⟩,hroom⟩:=hroom;obtain⟨h6,h6'⟩:=Gd l2 enc h6 h6' hle2;obtain⟨m,hm⟩:∃m,m=(l2.drop o2).take n2:=⟨_,rfl⟩;have hml:m.length=n2:=by rw[hm,List.length_take,List.length_drop];omega
     rw[← hm]at h6 ⊢;rw[← hml]at hroom;have hz:i.size≠0:=by omega
     have hall:(m.map enc).all (fun r=>r.length==i.size)=true:=by
      simp only[List.all_map,List.all_eq_true];intro y _;simp[h7,e3]
     have hop:bD P cfg nid ai (.call {callee:=.builtin .append,args:=args,argTypes:=argTypes})=.get nid fun
      | .aV=>(kP P nid ST XT (ai sx) (ai x)).bind fun e=>.done (.bk e)
      |_=>.fail:=by
      simp only[bD,cN,if_true,cA,hT,hX,hs,hxx,h0];congr 1
     have hap:kP P nid ST XT (ai sx) (ai x)=(elems (ai x)).bind fun new=>.get b fun
      | .row v sz rows=>if v=ak then(if 0=0∧len≤rows.length∧sz=i.size∧roomy (len+new.length) i.bytes=true∧new.all (fun r=>r.length==i.size)=true∧kO i=true then
       .done {val:=.sl b (ak+1) sz 0 (len+new.length),dV:=[(b,.row (ak+1) sz (Fa len rows++new))]}else .fail)else .fail
      |_=>.fail:=by
      rw[h4];unfold kP;rw[e1,e6];simp only[e2,hz,if_false];congr 1
      funext new
      simp only[Rd.bind,rowOf];congr 1
      funext y
      cases y with
      |row v sz rows=>grind [Rd.bind]
      |_=>rfl
     rw[hop,hap];simp only[Rd.run,Rd.reads,hunb];have hb:∀{β:Type} (f:di→Rd β) (g:List (List AVal)→Rd di),(((elems (ai x)).bind g).bind f)=(elems (ai x)).bind fun n=>(g n).bind f:=by
      intro β f g;generalize elems (ai x)=q;induction q with
      |fail=>rfl
      |done a=>rfl
      |get b k ih=>simp only[Rd.bind,ih]
     rw[hb,run_bind' h6,sD h6,h6'];simp only[Rd.bind,Rd.run,Rd.reads,h5,if_true];rw[if_pos ⟨trivial,by simpa using hlen,e3.symm,by simpa[e4]using hroom,hall,e5⟩]
     rw[Bn _ _ (by simpa using hlen)]
     simp[Rd.bind,Rd.run,Rd.reads,List.map_take,Nat.min_eq_left hlen]
    ·cases hx
   ·exact h.elim
  ·exact h.elim
def bare:AVal→Bool
 | .sc (.slice none 0 0)=>true
 | .emp=>true
 |_=>false
def oV(m n b ak:Nat)(i:Int):mO Unit where
 run:=if 0≤i∧i<m then some ()else none
 bk _:={val:=.ptr b ak i.toNat 0}
 ids:=[]
 nK gl P cfg nid op ai H:=match op with
  | .indexAddr T a c=>ai a=.sl b ak n 0 m∧intOf (ai c)=some i∧nL P T=some n
  |_=>False
 gX:=AVal.sl b ak n 0 m=AVal.sl b ak n 0 m∧some i=some i∧some n=some n
 holds:=⟨rfl,rfl,rfl⟩
 sound gl P cfg nid op ai H h x hx:=by
  cases op<;>try exact h.elim
  rename_i T a c;obtain⟨h1,h2,h3⟩:=h;obtain⟨k,h2⟩:=ji h2;obtain⟨e,e1,e2⟩:=iE h3;split at hx
  ·rename_i h0;simp[bD,cN,cA,h2,h1,pI,e1,e2,h0.1,h0.2,yields,Rd.bind,Rd.run,Rd.reads]
  ·cases hx
def zu{X:Type}(l:List X)(enc:X→List AVal)(n b ak i o:Nat)(val:X→AVal):mO X where
 run:=l[i]?
 bk x:={val:=val x}
 ids:=[b]
 nK gl P cfg nid op ai H:=match op with
  | .load T a=>ai a=.ptr b ak i o∧H[b]? =some (.row ak n (l.map enc))∧∀x,nC P T (enc x) o=some (val x)
  |_=>False
 gX:=AVal.ptr b ak i o=AVal.ptr b ak i o∧some (af.row ak n (l.map enc))=some (af.row ak n (l.map enc))∧∀x,some (val x)=some (val x)
 holds:=⟨rfl,rfl,fun _=>rfl⟩
 sound gl P cfg nid op ai H h x hx:=by
  cases op<;>try exact h.elim
  rename_i T a;obtain⟨h1,h2,h3⟩:=h;simp[bD,cN,cA,h1,BW,rowOf,h2,hx,h3,yields,Rd.bind,Rd.run,Rd.reads]
def OS{X:Type}(l:List X)(enc:X→List AVal)(n b ak i o:Nat)(y:X→X):mO X where
 run:=l[i]?
 bk x:={val:=nothing,dV:=[(b,.row ak n ((l.set i (y x)).map enc))]}
 ids:=[b]
 nK gl P cfg nid op ai H:=match op with
  | .store T a v=>ai a=.ptr b ak i o∧H[b]? =some (.row ak n (l.map enc))∧∀x,(v8 P T (ai v)).bind (D3 (enc x) o)=some (enc (y x))
  |_=>False
 gX:=AVal.ptr b ak i o=AVal.ptr b ak i o∧some (af.row ak n (l.map enc))=some (af.row ak n (l.map enc))∧∀x,some (enc (y x))=some (enc (y x))
 holds:=⟨rfl,rfl,fun _=>rfl⟩
 sound gl P cfg nid op ai H h x hx:=by
  cases op<;>try exact h.elim
  rename_i T a v;obtain⟨h1,h2,h3⟩:=h;obtain⟨vs,h4,h5⟩:=Option.bind_eq_some_iff.1 (h3 x);simp[bD,cN,cA,h1,C1,rowOf,h2,hx,h4,h5,Rd.bind,Rd.run,Rd.reads,List.map_set]
def Qz{X:Type}(d:X)(enc:X→List AVal)(n by_ nid0:Nat)(k:Int):mO Unit where
 run:=if 0≤k∧roomy k.toNat by_=true then some ()else none
 bk _:={val:=.sl nid0 0 n 0 (List.replicate k.toNat d).length,dV:=[(nid0,.row 0 n ((List.replicate k.toNat d).map enc))]}
 ids:=[nid0]
 nK gl P cfg nid op ai H:=match op with
  | .makeSlice T a c=>nid=nid0∧H[nid]? =some .aV∧intOf (ai a)=some k∧intOf (ai c)=some k∧rC P T=some (n,by_,true)∧(match P.underlying T with |some (.slice e)=>jP P e |_=>none)=some (enc d)∧(enc d).length=n∧decide (0<n)=true
  |_=>False
 gX:=nid0=nid0∧some af.aV=some af.aV∧some k=some k∧some k=some k∧some (n,by_,true)=some (n,by_,true)∧some (enc d)=some (enc d)∧n=n∧ @Eq Bool true true
 holds:=by simp
 sound gl P cfg nid op ai H h x hx:=by
  cases op<;>try exact h.elim
  rename_i T a c;obtain⟨rfl,hunb,h1,h2,h3,h4,h5,h6⟩:=h;obtain⟨k1,h1⟩:=ji h1;obtain⟨k2,h2⟩:=ji h2;obtain⟨e,i,e1,e2,e3,e4,e5⟩:=nB h3;rw[e1]at h4;simp only at h4;simp only[decide_eq_true_eq]at h6;split at hx
  ·rename_i h0;have hop:pJ P nid T (ai a) (ai c)=some {val:=.sl nid 0 i.size 0 k.toNat,dV:=[(nid,.row 0 i.size (List.replicate k.toNat (enc d)))]}:=by
    rw[h1,h2];simp only[pJ,e1,e2,h4];rw[if_pos ⟨h0.1,Int.le_refl _,by rw[e4];exact h0.2,by rw[h5,e3],by omega⟩]
   simp[bD,cN,cA,hop,uZ,Rd.bind,Rd.run,Rd.reads,hunb,e3]
  ·cases hx
def Dt(d m:Nat):Option Int→Option Nat
 |none=>some d
 |some i=>if 0≤i∧i≤m then some i.toNat else none
def QA{X:Type}(l:List X)(enc:X→List AVal)(n:Nat)(lo hi:Option Int):mO (Nat×Nat) where
 run:=(Dt l.length l.length hi).bind fun h=>(Dt 0 h lo).map fun k=>(k,h)
 bk x:={val:=.aB (((l.take x.2).drop x.1).map enc)}
 ids:=[]
 nK gl P cfg nid op ai H:=match op with
  | .slice T a lo' hi' none=>ai a=.aB (l.map enc)∧(lo'.map fun x=>intOf (ai x))=lo.map some∧(hi'.map fun x=>intOf (ai x))=hi.map some∧nL P T=some n∧∀x,(enc x).length=n
  |_=>False
 gX:=AVal.aB (l.map enc)=AVal.aB (l.map enc)∧lo.map some=lo.map some∧hi.map some=hi.map some∧some n=some n∧∀_:X,n=n
 holds:=⟨rfl,rfl,rfl,rfl,fun _=>rfl⟩
 sound gl P cfg nid op ai H h x hx:=by
  cases op<;>try exact h.elim
  rename_i T a lo' hi' mx;cases mx with
  |some _=>exact h.elim
  |none=>
   obtain⟨h1,h2,h3,h4,h5⟩:=h;obtain⟨e,e1,e2⟩:=iE h4;have hb:∀(d m:Nat) (x':Option Operand) (x:Option Int),(x'.map fun x=>intOf (ai x))=x.map some→jQ d m (x'.map ai)=Dt d m x:=by
    intro d m x' x hx;cases x'<;>cases x<;>simp at hx
    ·rfl
    ·grind [ji,jQ,Dt]
   obtain⟨hh,q1,q2⟩:=Option.bind_eq_some_iff.1 hx;obtain⟨k,q3,rfl⟩:=Option.map_eq_some_iff.1 q2;have hall:(l.map enc).all (fun r=>dz P e==some r.length)=true:=by
    simp only[List.all_map,List.all_eq_true];intro y _;simp[h5,e2]
   have hop:oK P T (ai a) (lo'.map ai) (hi'.map ai)=some (.aB (((l.map enc).take hh).drop k)):=by
    unfold oK;rw[h1];simp only[e1,qX];rw[hb _ _ _ _ h3,List.length_map,q1];simp only[Option.bind_some];rw[hb _ _ _ _ h2,q3];rw[Option.bind_some,if_pos (by rw[hall,e2];rfl)]
   simp[bD,cN,cA,hop,yields,Rd.bind,Rd.run,Rd.reads,List.map_take,List.map_drop]
def QB(m n b ak o:Nat)(hi:Int):mO Nat where
 run:=if 0≤hi∧hi≤m then some hi.toNat else none
 bk x:={val:=.sl b ak n o x}
 ids:=[]
 nK gl P cfg nid op ai H:=match op with
  | .slice T a none (some h) none=>ai a=.sl b ak n o m∧intOf (ai h)=some hi∧nL P T=some n
  |_=>False
 gX:=AVal.sl b ak n o m=AVal.sl b ak n o m∧some hi=some hi∧some n=some n
 holds:=⟨rfl,rfl,rfl⟩
 sound gl P cfg nid op ai H h x hx:=by
  split at h
  ·rename_i T a c;obtain⟨h1,h2,h3⟩:=h;obtain⟨k,h2⟩:=ji h2;obtain⟨e,e1,e2⟩:=iE h3;split at hx
   ·rename_i h0;simp only[Option.some.injEq]at hx;subst hx;have hop:oK P T (ai a) none (some (ai c))=some (.sl b ak n o hi.toNat):=by
     unfold oK;rw[h1,h2,e1];simp only[qX,jQ,h0,and_self,if_true,Option.bind_some,e2]
    simp[bD,cN,cA,hop,yields,Rd.bind,Rd.run,Rd.reads]
   ·cases hx
  ·exact h.elim
def QC(m n b ak o:Nat)(lo:Int):mO Nat where
 run:=if 0<lo∧lo<m then some lo.toNat else none
 bk x:={val:=.sl b ak n (o+x) (m - x)}
 ids:=[]
 nK gl P cfg nid op ai H:=match op with
  | .slice T a (some l) none none=>ai a=.sl b ak n o m∧intOf (ai l)=some lo∧nL P T=some n
  |_=>False
 gX:=AVal.sl b ak n o m=AVal.sl b ak n o m∧some lo=some lo∧some n=some n
 holds:=⟨rfl,rfl,rfl⟩
 sound gl P cfg nid op ai H h x hx:=by
  split at h
  ·rename_i T a c;obtain⟨h1,h2,h3⟩:=h;obtain⟨k,h2⟩:=ji h2;obtain⟨e,e1,e2⟩:=iE h3;split at hx
   ·rename_i h0;simp only[Option.some.injEq]at hx;subst hx;have hop:oK P T (ai a) (some (ai c)) none=some (.sl b ak n (o+lo.toNat) (m - lo.toNat)):=by
     unfold oK;rw[h1,h2,e1];have hb:0≤lo∧lo≤(m:Int):=⟨by omega,by omega⟩
     have hz:lo.toNat≠0:=by omega
     have hl:lo.toNat<m:=by omega
     simp only[qX,jQ,hb,and_self,if_true,Option.bind_some,e2,if_neg hz,if_pos hl]
    simp[bD,cN,cA,hop,yields,Rd.bind,Rd.run,Rd.reads]
   ·cases hx
  ·exact h.elim
def S6(i:Int):Bool:=decide (i=0)
def S7(i:Int)(m:Nat):Bool:=decide (i<m)
def QD(m n b ak o:Nat)(lo:Int):mO Unit where
 run:=if lo=0 then some ()else none
 bk _:={val:=.sl b ak n o m}
 ids:=[]
 nK gl P cfg nid op ai H:=match op with
  | .slice T a (some l) none none=>ai a=.sl b ak n o m∧intOf (ai l)=some lo∧nL P T=some n
  |_=>False
 gX:=AVal.sl b ak n o m=AVal.sl b ak n o m∧some lo=some lo∧some n=some n
 holds:=⟨rfl,rfl,rfl⟩
 sound gl P cfg nid op ai H h x hx:=by
  split at h
  ·rename_i T a c;obtain⟨h1,h2,h3⟩:=h;obtain⟨k,h2⟩:=ji h2;obtain⟨e,e1,e2⟩:=iE h3;split at hx
   ·rename_i h0;subst h0;have hop:oK P T (ai a) (some (ai c)) none=some (.sl b ak n o m):=by
     unfold oK;rw[h1,h2,e1];have hb:(0:Int)≤0∧(0:Int)≤(m:Int):=⟨by omega,by omega⟩
     simp only[qX,jQ,hb,and_self,if_true,Option.bind_some,e2,Int.toNat_zero]
    simp[bD,cN,cA,hop,yields,Rd.bind,Rd.run,Rd.reads]
   ·cases hx
  ·exact h.elim
def QE(m n b ak o:Nat)(lo:Int):mO Unit where
 run:=if lo=m∧0<m then some ()else none
 bk _:={val:=.aB []}
 ids:=[]
 nK gl P cfg nid op ai H:=match op with
  | .slice T a (some l) none none=>ai a=.sl b ak n o m∧intOf (ai l)=some lo∧nL P T=some n
  |_=>False
 gX:=AVal.sl b ak n o m=AVal.sl b ak n o m∧some lo=some lo∧some n=some n
 holds:=⟨rfl,rfl,rfl⟩
 sound gl P cfg nid op ai H h x hx:=by
  split at h
  ·rename_i T a c;obtain⟨h1,h2,h3⟩:=h;obtain⟨k,h2⟩:=ji h2;obtain⟨e,e1,e2⟩:=iE h3;split at hx
   ·rename_i h0;obtain⟨rfl,h0⟩:=h0;have hop:oK P T (ai a) (some (ai c)) none=some (.aB []):=by
     unfold oK;rw[h1,h2,e1];have hb:(0:Int)≤(m:Int)∧(m:Int)≤(m:Int):=⟨by omega,by omega⟩
     have hz:((m:Int)).toNat≠0:=by omega
     have hl:¬((m:Int)).toNat<m:=by omega
     simp only[qX,jQ,hb,and_self,if_true,Option.bind_some,e2,if_neg hz,if_neg hl]
    simp[bD,cN,cA,hop,yields,Rd.bind,Rd.run,Rd.reads]
   ·cases hx
  ·exact h.elim
def J3(op:BinOp)(k k':IntKind)(a b:Int)(ok:Bool)(v:AVal)(h:ok=true→∀(P:Program) (T:TypeId),E9 P op T (.sc (.int k a)) (.sc (.int k' b))=some v):mO Unit where
 run:=if ok then some ()else none
 bk _:={val:=v}
 ids:=[]
 nK gl P cfg nid o ai H:=match o with
  | .binOp op' T x y _=>op'=op∧ai x=.sc (.int k a)∧ai y=.sc (.int k' b)∧(match y with | .const (.int _ _)=>true | .tmp _=>true |_=>false)=true
  |_=>False
 gX:=op=op∧AVal.sc (.int k a)=AVal.sc (.int k a)∧AVal.sc (.int k' b)=AVal.sc (.int k' b)∧ @Eq Bool true true
 holds:=⟨rfl,rfl,rfl,rfl⟩
 sound gl P cfg nid o ai H h' x hx:=by
  cases o<;>try exact h'.elim
  rename_i op' T x y yT;obtain⟨rfl,h1,h2,h3⟩:=h';cases ok with
  |false=>cases hx
  |true=>
   have hb:=h rfl P T;rw[← h1,← h2]at hb;split at h3
   ·simp[bD,cN,cA,we,hb,yields,Rd.bind,Rd.run,Rd.reads]
   ·simp[bD,cN,cA,we,hb,yields,Rd.bind,Rd.run,Rd.reads]
   ·cases h3
def Hl(k:IntKind)(a b:Int):mO Unit:=J3 .rem k k a b (decide (b≠0)) (.sc (.int k (a.tmod b))) fun h P T=>by
 grind [E9,D4]
def Du(k k':IntKind)(a b:Int):mO Unit:=J3 .shl k k' a b (decide (0≤b)) (.sc (.int k (k.wrap (a*2 ^ (min b.toNat k.bits))))) fun h P T=>by
 grind [E9]
def Mg(P:Program)(T:TypeId):Option (Nat×Nat):=match P.underlying T with
 |some (.array n e)=>(dz P e).map fun s=>(n,s)
 |_=>none
def Nb(b ak j o n s:Nat)(i:Int):mO Unit where
 run:=if 0≤i∧i<n then some ()else none
 bk _:={val:=.ptr b ak j (o+i.toNat*s)}
 ids:=[]
 nK gl P cfg nid op ai H:=match op with
  | .indexAddr T a c=>ai a=.ptr b ak j o∧intOf (ai c)=some i∧Mg P T=some (n,s)
  |_=>False
 gX:=AVal.ptr b ak j o=AVal.ptr b ak j o∧some i=some i∧some (n,s)=some (n,s)
 holds:=⟨rfl,rfl,rfl⟩
 sound gl P cfg nid op ai H h x hx:=by
  cases op<;>try exact h.elim
  rename_i T a c;obtain⟨h1,h2,h3⟩:=h;obtain⟨k,h2⟩:=ji h2;unfold Mg at h3;split at h3
  ·rename_i n' e hu;obtain⟨s',hs,he⟩:=Option.map_eq_some_iff.1 h3;simp only[Prod.mk.injEq]at he;obtain⟨rfl,rfl⟩:=he;split at hx
   ·rename_i h0;have hop:pI P T (ai a) i=some (.ptr b ak j (o+i.toNat*s')):=by
     rw[h1];unfold pI;rw[hu];simp only[if_pos h0,hs,Option.bind_some,y4]
    simp[bD,cN,cA,h2,hop,yields,Rd.bind,Rd.run,Rd.reads]
   ·cases hx
  ·cases h3
def S8{X:Type}(l:List X)(c:X→AVal)(b ak sz o:Nat):mO X where
 run:=l[o]?
 bk x:={val:=c x}
 ids:=[b]
 nK gl P cfg nid op ai H:=match op with
  | .load T a=>ai a=.ptr b ak 0 o∧H[b]? =some (.row ak sz [l.map c])∧gD P T=false∧(P.underlying T).isSome=true
  |_=>False
 gX:=AVal.ptr b ak 0 o=AVal.ptr b ak 0 o∧some (af.row ak sz [l.map c])=some (af.row ak sz [l.map c])∧ @Eq Bool false false∧ @Eq Bool true true
 holds:=⟨rfl,rfl,rfl,rfl⟩
 sound gl P cfg nid op ai H h x hx:=by
  cases op<;>try exact h.elim
  rename_i T a;obtain⟨h1,h2,h3,h4⟩:=h;simp[bD,cN,cA,h1,BW,rowOf,h2,nC,h3,h4,hx,yields,Rd.bind,Rd.run,Rd.reads]
def Dv{X:Type}(l:List X)(c:X→AVal)(b ak sz o:Nat)(y:X):mO Unit where
 run:=if o<l.length then some ()else none
 bk _:={val:=nothing,dV:=[(b,.row ak sz [(l.set o y).map c])]}
 ids:=[b]
 nK gl P cfg nid op ai H:=match op with
  | .store T a v=>ai a=.ptr b ak 0 o∧H[b]? =some (.row ak sz [l.map c])∧v8 P T (ai v)=some [c y]
  |_=>False
 gX:=AVal.ptr b ak 0 o=AVal.ptr b ak 0 o∧some (af.row ak sz [l.map c])=some (af.row ak sz [l.map c])∧some [c y]=some [c y]
 holds:=⟨rfl,rfl,rfl⟩
 sound gl P cfg nid op ai H h x hx:=by
  cases op<;>try exact h.elim
  rename_i T a v;obtain⟨h1,h2,h3⟩:=h;split at hx
  ·rename_i h0;have hle:o+1≤l.length:=h0;simp[bD,cN,cA,h1,C1,rowOf,h2,h3,D3,hle,putAt,Rd.bind,Rd.run,Rd.reads,List.map_set]
  ·cases hx
section
variable {K V:Type}
def aH(ek:K→AVal)(ev:V→AVal):Nat→List (K×V)→List (AVal×AVal×Nat)
 |_,[]=>[]
 |n,p::ps=>(ek p.1,ev p.2,n)::aH ek ev (n+1) ps
def bt(eq:K→K→Bool)(k:K):List (K×V)→Nat→Option (Nat×V)
 | [],_=>none
 |p::ps,i=>if eq k p.1 then some (i,p.2)else bt eq k ps (i+1)
def cm(eq:K→K→Bool)(k:K)(v:V)(m:List (K×V)):List (K×V):=match bt eq k m 0 with
 |some (i,_)=>m.set i (k,v)
 |none=>m++[(k,v)]
theorem vq{ks:List Kd}{ag:Bool}{ek:K→AVal}{ev:V→AVal}{eq:K→K→Bool}(hag:∀k,nD (ek k)=ag)(heq:∀k k',dr ks (ek k).cells (ek k').cells=some (eq k k'))(k:K):
 ∀(m:List (K×V)) (n i:Nat),tY ks ag (ek k) (aH ek ev n m) i=some ((bt eq k m i).map fun p=>(p.1,ev p.2,n+(p.1 - i)))
 | [],n,i=>rfl
 |p::ps,n,i=>by
  simp only[aH,tY,hag,if_true,heq,bt];cases h:eq k p.1 with
  |true=>simp
  |false=>
   simp only[Bool.false_eq_true,if_false];rw[vq hag heq k ps (n+1) (i+1)];congr 1;have hge:∀(m:List (K×V)) (i:Nat) (q:Nat×V),bt eq k m i=some q→i≤q.1:=by
    intro m;induction m with
    |nil=>intro i q h;simp[bt]at h
    |cons p ps ih=>
     grind [bt]
   cases hf:bt eq k ps (i+1)with
   |none=>rfl
   |some q=>
    grind
theorem xo(ek:K→AVal)(ev:V→AVal):∀(m:List (K×V)) (n:Nat),(aH ek ev n m).length=m.length
 | [],_=>rfl
 |_::ps,n=>by simp[aH,xo ek ev ps]
theorem EU(ek:K→AVal)(ev:V→AVal):∀(m m':List (K×V)) (n:Nat),aH ek ev n (m++m')=aH ek ev n m++aH ek ev (n+m.length) m'
 | [],m',n=>by simp[aH]
 |p::ps,m',n=>by simp[aH,EU ek ev ps,Nat.add_assoc,Nat.add_comm 1]
theorem J4(ek:K→AVal)(ev:V→AVal):∀(m:List (K×V)) (n i:Nat) (p:K×V),aH ek ev n (m.set i p)=(aH ek ev n m).set i (ek p.1,ev p.2,n+i)
 | [],n,i,p=>rfl
 |q::ps,n,0,p=>by simp[aH]
 |q::ps,n,i+1,p=>by simp[aH,J4 ek ev ps,Nat.add_assoc,Nat.add_comm 1]
def AA(P:Program)(T:TypeId):Option (Option (List Kd)×Bool×Option AVal):=match P.underlying T with
 |some (.map K E)=>some (dW P 9 K,gD P K,BX P E)
 |_=>none
def ug(m:List (K×V))(k:K)(ek:K→AVal)(ev:V→AVal)(eq:K→K→Bool)(d:V)(ks:List Kd)(ag ok:Bool)(b:Nat):mO Unit where
 run:=some ()
 bk _:={val:=match ok with
  |true=>.ct [ev (((bt eq k m 0).map (·.2)).getD d),.sc (.bool (bt eq k m 0).isSome)]
  |false=>ev (((bt eq k m 0).map (·.2)).getD d)}
 ids:=[b]
 nK gl P cfg nid op ai H:=match op with
  | .lookup T x i ok'=>ok'=ok∧ai x=.mp b∧ai i=ek k∧H[b]? =some (.map m.length (aH ek ev 0 m))∧AA P T=some (some ks,ag,some (ev d))∧(∀k,nD (ek k)=ag)∧∀k k',dr ks (ek k).cells (ek k').cells=some (eq k k')
  |_=>False
 gX:=ok=ok∧AVal.mp b=AVal.mp b∧ek k=ek k∧some (af.map m.length (aH ek ev 0 m))=some (af.map m.length (aH ek ev 0 m))∧some (some ks,ag,some (ev d))=some (some ks,ag,some (ev d))∧(∀_:K,ag=ag)∧∀k k',some (eq k k')=some (eq k k')
 holds:=⟨rfl,rfl,rfl,rfl,rfl,fun _=>rfl,fun _ _=>rfl⟩
 sound gl P cfg nid op ai H h x hx:=by
  cases op<;>try exact h.elim
  rename_i T a i ok';obtain⟨rfl,h1,h2,h3,h4,h5,h6⟩:=h;unfold AA at h4;split at h4
  ·rename_i TK TE hu;simp only[Option.some.injEq,Prod.mk.injEq]at h4;obtain⟨t1,t2,t3⟩:=h4;have hk:lU P TK (ek k)=some ks:=by simp[lU,t1,h5,t2]
   have hf:=vq (ev:=ev) (eq:=eq) h5 h6 k m 0 0;simp only[bD,cN,cA,y6,hu,h2,hk,h1,mapOf,Rd.bind,Rd.run,Rd.reads,h3,h6,t2,hf,t3,if_false,Bool.false_eq_true];cases hfm:bt eq k m 0 with
   |none=>grind
   |some q=>grind
  ·cases h4
def sM(m:List (K×V))(k:K)(v:V)(ek:K→AVal)(ev:V→AVal)(eq:K→K→Bool)(ks:List Kd)(ag:Bool)(b:Nat):mO Unit where
 run:=some ()
 bk _:={val:=nothing,dV:=[(b,.map (cm eq k v m).length (aH ek ev 0 (cm eq k v m)))]}
 ids:=[b]
 nK gl P cfg nid op ai H:=match op with
  | .mapUpdate T x i y=>ai x=.mp b∧ai i=ek k∧ai y=ev v∧H[b]? =some (.map m.length (aH ek ev 0 m))∧(AA P T).map (fun t=>(t.1,t.2.1))=some (some ks,ag)∧(∀k,nD (ek k)=ag)∧∀k k',dr ks (ek k).cells (ek k').cells=some (eq k k')
  |_=>False
 gX:=AVal.mp b=AVal.mp b∧ek k=ek k∧ev v=ev v∧some (af.map m.length (aH ek ev 0 m))=some (af.map m.length (aH ek ev 0 m))∧some (some ks,ag)=some (some ks,ag)∧(∀_:K,ag=ag)∧∀k k',some (eq k k')=some (eq k k')
 holds:=⟨rfl,rfl,rfl,rfl,rfl,fun _=>rfl,fun _ _=>rfl⟩
 sound gl P cfg nid op ai H h x hx:=by
  cases op<;>try exact h.elim
  rename_i T a i y;obtain⟨h1,h2,hy,h3,h4,h5,h6⟩:=h;obtain⟨t,h4,ht⟩:=Option.map_eq_some_iff.1 h4;unfold AA at h4;split at h4
  ·rename_i TK TE hu;simp only[Option.some.injEq]at h4;subst h4;simp only[Prod.mk.injEq]at ht;obtain⟨t1,t2⟩:=ht;have hk:lU P TK (ek k)=some ks:=by simp[lU,t1,h5,t2]
   have hf:=vq (ev:=ev) (eq:=eq) h5 h6 k m 0 0;simp only[bD,cN,cA,uY,hu,h2,hk,h1,mapOf,Rd.bind,Rd.run,Rd.reads,h3,h6,t2,hf,hy,if_false,Bool.false_eq_true];cases hfm:bt eq k m 0 with
   |none=>simp[Rd.bind,Rd.run,Rd.reads,cm,hfm,EU,aH]
   |some q=>simp[Rd.bind,Rd.run,Rd.reads,cm,hfm,J4,xo]
  ·cases h4
end
end
def cI(k:IntKind)(n:Int):AVal:=.sc (.int k n)
def cL{α:Type}(enc:α→List AVal)(l:List α):AVal:=.aB (l.map enc)
def eI(k:IntKind)(n:Int):List AVal:=[.sc (.int k n)]
def eB(b:Bool):List AVal:=[.sc (.bool b)]
def eS(s:ByteArray):List AVal:=[.sc (.string s)]
def eL{α:Type}(enc:α→List AVal)(l:List α):List AVal:=[.aB (l.map enc)]
structure V2(α:Type) where
 (a0 a1:α)
def Ul{α:Type}(c:α→AVal)(x:V2 α):List AVal:=[c x.a0,c x.a1]
structure V8(α:Type) where
 (a0 a1 a2 a3 a4 a5 a6 a7:α)
def lD{α:Type}(c:α→AVal)(x:V8 α):List AVal:=[c x.a0,c x.a1,c x.a2,c x.a3,c x.a4,c x.a5,c x.a6,c x.a7]
structure cB(α:Type) where
 (a0 a1 a2 a3 a4 a5 a6 a7 a8 a9:α)
def A6{α:Type}(c:α→AVal)(x:cB α):List AVal:=[c x.a0,c x.a1,c x.a2,c x.a3,c x.a4,c x.a5,c x.a6,c x.a7,c x.a8,c x.a9]
theorem Ho{X:Type}(l:List X)(enc:X→List AVal)(h:∀x,AVal.aS (enc x)=true):(l.map enc).all AVal.aS=true:=by
 grind
def dR{X:Type}(b ak sz:Nat)(l:List X)(enc:X→List AVal)(h:∀x,AVal.aS (enc x)=true):PU:=⟨b,.row ak sz (l.map enc),Ho l enc h⟩
theorem Hp{K V:Type}(ek:K→AVal)(ev:V→AVal)(h:∀k,(ek k).pure=true)(h':∀v,(ev v).pure=true):∀(m:List (K×V)) (n:Nat),(aH ek ev n m).all (fun p=>p.1.pure&&p.2.1.pure)=true
 | [],_=>rfl
 |p::ps,n=>by simp[aH,h,h',Hp ek ev h h' ps (n+1)]
def nM{K V:Type}(b:Nat)(m:List (K×V))(ek:K→AVal)(ev:V→AVal)(h:∀k,(ek k).pure=true)(h':∀v,(ev v).pure=true):PU:=⟨b,.map m.length (aH ek ev 0 m),Hp ek ev h h' m 0⟩
def k6{X:Type}(p:Pl)(b ak sz n:Nat)(l:List X)(enc:X→List AVal)(h:∀x,AVal.aS (enc x)=true):FZ:=⟨p,b,ak,sz,n,l.map enc,Ho l enc h⟩
def yR{X:Type}(b ak sz:Nat)(l:List X)(c:X→AVal)(h:∀x,(c x).pure=true):PU:=⟨b,.row ak sz [l.map c],by
 have:∀l:List X,AVal.aS (l.map c)=true:=by
  intro l;induction l with
  |nil=>rfl
  |cons x xs ih=>grind [AVal.aS]
 simp[qE,this]⟩
def Ck{X:Type}(b ak sz:Nat)(l:List X)(enc:X→List AVal)(h:∀x,AVal.aS (enc x)=true):PR:=PR.ofRow b ak sz (l.map enc) (Ho l enc h)
def pT{K V:Type}(b:Nat)(m:List (K×V))(ek:K→AVal)(ev:V→AVal)(h:∀k,(ek k).pure=true)(h':∀v,(ev v).pure=true):PR:=⟨b,.map m.length (aH ek ev 0 m),Hp ek ev h h' m 0⟩
end Go.AM
end
