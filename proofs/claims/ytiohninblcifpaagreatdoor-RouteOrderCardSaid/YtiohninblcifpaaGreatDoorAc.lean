/- Put together out of parts: From the abstract machine to a statement. No program. No conditions. -/
import Derived.Test.YtiohninblcifpaaGreatDoorAb
import Derived.ProofKit
import Derived.OpenShut
import Derived.JoinedCond
import Derived.LaidLaws
set_option linter.unusedSectionVars false
set_option linter.unusedSimpArgs false
section
namespace Go.AM
open Go.ChangeShapes Go.WideShapes Go.ChangeAt Go.RowKit
def Gh.bare(w:World):Gh:={aj:=fun _ _=>none,st:=fun k _=>k<w.heap.size}
section
variable [aD]
theorem Gh.OS(w:World)(hg:pE (Gh.bare w) w):Inv (Gh.bare w) [] w:=
 ⟨fun b x h=>by simp at h,fun b b' x x' v v' k z z' h=>by simp at h,fun b ak _=>rfl,fun b x v ver' h=>by simp at h,fun b x v k z o h=>by simp at h,fun _ _ h=>h,hg⟩
theorem Kr{w w':World}{g':Gh}{H':List af}(h:aU (Gh.bare w) [] w g' H' w'):Below w.heap.size w w':=
 ⟨h.os,h.tape.1,h.output,h.size,fun k hk=>h.keep k hk fM⟩
end
section
variable {H:Type} {enc:TypeId×Value→H} {P:Program}
theorem H9{f:Func}{s:ChangeSpec}{apart fresh handsOn again:Bool}{W W':World}{args:Array Value}{v:Value}{ds gs:List (DataW H)}{before pa pv:List MemPlace}
 (hW:DataW.Whole enc P f.params.toList s.vars apart W args.toList ds gs before)
 (hres:∀(b:Nat) (sp:Nat→Bool) (hd:Bool),DataW.TrodAll enc P W' b sp hd f.resultTypes.toList (v.resultList f.resultTypes.size) (s.fn H (ds++gs)).results [])
 (hargs:∀sp:Nat→Bool,(∀p∈before,sp p.block=true)→DataW.TrodAll enc P W' 0 sp true f.params.toList args.toList (s.fn H (ds++gs)).args pa)
 (hvars:∀sp:Nat→Bool,(∀p∈before,sp p.block=true)→DataW.TrodVars enc P W' sp s.vars (s.fn H (ds++gs)).vars pv)
 (hps:before=pa++pv) (hb:Below W.heap.size W W')
 (hok:∀(j:Nat) (t:TypeId) (r:Value),f.resultTypes[j]? =some t→(v.resultList f.resultTypes.size)[j]? =some r→Value.okWide P W' .any 0 t r):
 s.post enc P f apart fresh handsOn again W args v W':=by
 have hold:∀p∈before,(fun b=>decide (b<W.heap.size)) p.block=true:=fun p hp=>by simpa using hW.lt p hp
 have hlt:=hW.lt;refine⟨ds,gs,before,[],pa,pv,hW,hres _ _ _,hargs _ hold,hvars _ hold,World.keptBut_mono (fun p hp=>⟨hp,?_⟩) (hb.frame (· ∈before)),fun _=>?_⟩
 ·rw[hps,List.mem_append]at hp;exact Or.inr hp
 ·obtain⟨_,_,_,_,_,hz,hn⟩:=hW;refine⟨hok,_,_,([]++pa)++pv,⟨[]++pa,pv,trodAll_append (hargs _ (fun _ _=>rfl)) (hres _ _ _),hvars _ (fun _ _=>rfl),rfl,?_,?_⟩,?_⟩
  ·intro b off hp;have hm:MemPlace.cell b off∈before:=by rw[hps];simpa using hp
   rw[hb.frozen (hlt _ hm)];exact hz b off hm
  ·intro ha;have:=hn ha;rw[hps]at this;simpa using this
  ·intro p hp _;rw[hps];simpa using hp
end
end Go.AM
end
section
namespace Go.AM
structure Entry where
 f:FuncId
 args:List AVal
 res:AVal
def AZ(f:FuncId)(args:List AVal):List Entry→Option AVal
 | []=>none
 |e::es=>if e.f==f&&vg e.args args then some e.res else AZ f args es
def wV[aD](P:Program)(cfg:eP)(tbl:List Entry)(loops:Nat):Nat→kq
 | 0=>⟨fun _ _ _=>none,fun _ _ _=>none⟩
 |n+1=>⟨fun f args H=>match(match H with | []=>AZ f args tbl |_=>none)with
  |some r=>some (.ret r,[])
  |none=>Fh P cfg (wV P cfg tbl loops n) loops f args H,roundOf P cfg (wV P cfg tbl loops n) loops⟩
section
variable [aD] {P:Program} {cfg:eP}
def GC(P:Program)(e:Entry):Prop:=
 (∃ fn c, P.funcs[e.f]? = some fn ∧ fn.body = some c ∧ fn.name ≠ "runtime.NumGoroutine") ∧
 ∀g w (vs:Array Value),Inv g [] w→RL g w e.args vs.toList→Calls P e.f vs w (fE g [] w (.ret e.res) [])
def BC(P:Program)(tbl:List Entry):Prop:=∀e∈tbl,GC P e
theorem BC.nil:BC P []:=fun _ h=>by cases h
theorem BC.cons{e:Entry}{tbl:List Entry}(h:GC P e)(h':BC P tbl):BC P (e::tbl):=fun x hx=>by
 rcases List.mem_cons.1 hx with rfl |hx
 ·exact h
 ·exact h' x hx
theorem CM{f:FuncId}{args:List AVal}{r:AVal}:∀{tbl:List Entry},AZ f args tbl=some r→∃e∈tbl,e.f=f∧e.args=args∧e.res=r
 | [],h=>by simp[AZ]at h
 |e::es,h=>by
  simp only[AZ]at h;split at h
  ·rename_i hc;simp only[Bool.and_eq_true,beq_iff_eq]at hc;simp only[Option.some.injEq]at h;exact⟨e,by simp,hc.1,rM _ _ hc.2,h⟩
  ·obtain⟨e',h1,h2⟩:=CM h;exact⟨e',List.mem_cons_of_mem _ h1,h2⟩
theorem Ap(hm : P.follows .mixedOrders = true)(hN : ∀ (f : FuncId) (fn : Func), P.funcs[f]? = some fn → fn.name ≠ "runtime.NumGoroutine"){tbl : List Entry}(ht : BC P tbl)(loops : Nat) : ∀ n, gN P (wV P cfg tbl loops n)
 | 0=>⟨fun _ _ _ _ _ h=>by simp[wV]at h,fun _ _ _ _ _ h=>by simp[wV]at h⟩
 |n+1=>by
  refine⟨fun f args H r H1 h=>?_,fun _ _ _ _ _ h=>H8 hm (Ap hm hN ht loops n) h⟩
  simp only[wV]at h;split at h
  ·rename_i v hv;simp only[Option.some.injEq,Prod.mk.injEq]at h;obtain⟨rfl,rfl⟩:=h;cases H with
   |nil=>
    obtain⟨e,he,rfl,rfl,rfl⟩:=CM hv;exact ht e he
   |cons x xs=>cases hv
  ·exact Jc hm hN (Ap hm hN ht loops n) h
def A0(orc:kq)(e:Entry):Bool:=match orc.fn e.f e.args []with
 |some (.ret v,H1)=>match(snap ko v).run H1 with
  |some v'=>same v' e.res
  |none=>false
 |_=>false
theorem OT{orc:kq}(ho:gN P orc){e:Entry}(h:A0 orc e=true):GC P e:=by
 unfold A0 at h;split at h
 ·rename_i v H1 hc;split at h
  ·rename_i v' hs;have:=vX _ _ h;subst this;obtain⟨h1,h2⟩:=ho.fn _ _ _ _ _ hc;refine⟨h1,fun g w vs hi hl=>(h2 g w vs hi hl).mono ?_⟩
   rintro en w' ⟨g',hi',hla,x,rfl,hr⟩;obtain⟨r1,r2⟩:=ql hi' _ _ _ _ hs hr;refine⟨gG g' H1,hi'.gG,⟨⟨fun b ak x hx=>?_,fun k o hk=>.inl (hla.ext.st k o hk),hla.ext.cell,hla.ext.shape⟩,hla.size,hla.keep,fun k _ ho=>absurd ho fM,Nat.le_refl _,hla.os,hla.tape,hla.output,fun k o hk hst=>?_,fun b hb=>by simp at hb,fun b ak k z h=>by cases h⟩,x,rfl,r1⟩
   ·rw[hi.fresh b ak (.inr (by simp))]at hx;cases hx
   ·rcases hst with hst |hst
    ·exact(hla.stk k o hk hst).imp_right fun h=>absurd h.1 fM
    ·exact absurd (hla.own k hk hst) fM
  ·cases h
 ·cases h
end
end Go.AM
end
section
namespace Go.AM
def litVal:Lit→Option Value
 | .bool b=>some (.bool b)
 | .int k n=>some (.int k n)
 | .string l=>some (.string ⟨l.toArray⟩)
 |_=>none
mutual
def wW{H:Type}:DataW H→Option (List Value)
 | .lit l=>(litVal l).map fun v=>[v]
 | .agg ds=>xC ds
 |_=>none
def xC{H:Type}:List (DataW H)→Option (List Value)
 | []=>some []
 |d::ds=>match wW d,xC ds with
  |some a,some b=>some (a++b)
  |_,_=>none
end
section
variable {H:Type} {enc:TypeId×Value→H} {P:Program} {w:World} {base:Nat} {sp:Nat→Bool} {held:Bool}
theorem vm{t n:Nat}(h:dF P t=some n):P.cellsOf t=n:=by
 unfold dF at h;simp[Program.cellsOf,h]
theorem Hi{s:Nat}{cs:List Value}{F:List Value→Option (DataW H×List MemPlace)}(hF:∀c x v,F c=some x→wW x.1=some v→c=v):∀(xs:List (DataW H×List MemPlace)) (off:Nat) (vs:List Value),
 (∀i,i<xs.length→F ((cs.drop (off+i*s)).take s)=xs[i]?)→xC (xs.map (·.1))=some vs→(cs.drop off).take (xs.length*s)=vs
 | [],off,vs,_,h=>by simp[xC]at h;simp[h]
 |x::xs,off,vs,hx,h=>by
  simp only[List.map_cons,xC]at h;split at h
  ·rename_i a b ha hb;simp only[Option.some.injEq]at h;subst h;have h0:=hx 0 (by simp)
   simp only[Nat.zero_mul,Nat.add_zero,List.getElem?_cons_zero]at h0;have e0:=hF _ _ _ h0 ha;have e1:=Hi hF xs (off+s) b (fun i hi=>by
    have:=hx (i+1) (by simpa using hi)
    rw[List.getElem?_cons_succ]at this;rw[← this,Nat.add_mul,Nat.one_mul];congr 3;omega) hb
   rw[List.length_cons,Nat.add_mul,Nat.one_mul,Nat.add_comm,List.take_add,e0,List.drop_drop,e1]
  ·cases h
theorem Ef{K:TypeId→Option (List Kd)}{cs:List Value}{F:TypeId→List Value→Option (DataW H×List MemPlace)}(hF:∀t ks c x v,K t=some ks→F t c=some x→wW x.1=some v→c=v):
 ∀(fl:List Field) (off:Nat) (ks:List Kd) (xs:List (DataW H×List MemPlace)) (vs:List Value),ej.kindsFields P K fl off=some ks→xs.length=fl.length→
  (∀(i:Nat) (f:Field),fl[i]? =some f→F f.type ((cs.drop f.offset).take (P.cellsOf f.type))=xs[i]?)→xC (xs.map (·.1))=some vs→(cs.drop off).take ks.length=vs
 | [],off,ks,xs,vs,hk,hl,_,h=>by
  grind [ej.kindsFields,xC]
 |f::fl,off,ks,[],vs,_,hl,_,_=>by simp at hl
 |f::fl,off,ks,x::xs,vs,hk,hl,hx,h=>by
  simp only[ej.kindsFields]at hk;split at hk
  ·rename_i hc;split at hk
   ·rename_i k1 hk1;split at hk
    ·rename_i hsz;obtain⟨k2,hk2,rfl⟩:=Option.map_eq_some_iff.1 hk;simp only[beq_iff_eq]at hsz;simp only[List.map_cons,xC]at h;split at h
     ·rename_i a b ha hb;simp only[Option.some.injEq]at h;subst h;have h0:=hx 0 f (by simp)
      simp only[List.getElem?_cons_zero]at h0;have e0:=hF _ _ _ _ _ hk1 h0 ha;rw[hc.2,vm hsz]at e0;have e1:=Ef hF fl (off+k1.length) k2 xs b hk2 (by simpa using hl) (fun i f' hf=>by
       have:=hx (i+1) f' (by simpa using hf)
       simpa using this) hb
      rw[List.length_append,List.take_add,e0,List.drop_drop,e1]
     ·cases h
    ·cases hk
   ·cases hk
  ·cases hk
theorem Hj:∀(d t:Nat) (ks:List Kd) (fuel:Nat) (cs:List Value) (x:DataW H×List MemPlace) (vs:List Value),ej P d t=some ks→DataW.trod enc P w base sp held fuel t cs=some x→wW x.1=some vs→cs=vs
 | 0,_,_,_,_,_,_,hk,_,_=>by simp[ej]at hk
 |d+1,t,ks,fuel,cs,x,vs,hk,h,hv=>by
  have ih:=Hj d;simp only[ej]at hk;split at hk
  ·rename_i hu;have:∃b,cs=[.bool b]∧x=(.lit (.bool b),[]):=by
    cases fuel with
    |zero=>simp[DataW.trod]at h
    |succ n=>
     unfold DataW.trod at h;grind
   grind [wW,litVal]
  ·rename_i k hu;obtain⟨n,rfl,rfl,_⟩:=DataW.trod_int hu h;simpa[wW,litVal]using hv
  ·rename_i hu;obtain⟨s,rfl,rfl,_⟩:=DataW.trod_string hu h;simpa[wW,litVal]using hv
  ·rename_i fs hu;split at hk
   ·cases hk
   ·split at hk
    ·rename_i ks' hks;split at hk
     ·rename_i hsz;simp only[Option.some.injEq]at hk;subst hk;simp only[beq_iff_eq]at hsz;obtain⟨xs,n,rfl,rfl,hl,hxl,hget⟩:=DataW.trod_struct hu h;simp only[wW]at hv;have:=Ef (P:=P) (cs:=cs) (K:=ej P d) (F:=fun t c=>DataW.trod enc P w base sp held n t c) (fun t ks c x v hk hf hv=>ih t ks n c x v hk hf hv) fs.toList 0 ks' xs vs hks (by simpa using hxl) (fun i f hf=>hget i f (by simpa using hf)) hv
      grind [vm]
     ·cases hk
    ·cases hk
  ·rename_i n e hu;split at hk
   ·rename_i ks' hks;split at hk
    ·rename_i hsz;simp only[Bool.and_eq_true,beq_iff_eq]at hsz;obtain⟨xs,m,rfl,rfl,hl,hxl,hget⟩:=DataW.trod_array hu h;simp only[wW]at hv;rw[vm hsz.1]at hget;have:=Hi (s:=ks'.length) (cs:=cs) (F:=fun c=>DataW.trod enc P w base sp held m e c) (fun c x v hf hv=>ih e ks' m c x v hks hf hv) xs 0 vs (fun i hi=>by
      grind) hv
     grind [vm]
    ·cases hk
   ·cases hk
  ·cases hk
theorem LY{name:String}{d:DataW Unit}{rest:List (String×DataW Unit)}{g t:Nat}{ks:List Kd}{vs:List Value}(hg:P.globalNamed name=some g)(hty:(P.globals[g]?).map (·.type)=some t)(hk:ej P 9 t=some ks)(hv:wW d=some vs)
 (h:laidMet P ((name,d)::rest) w):w.var? P name=some vs.toArray:=by
 obtain⟨ps,⟨g',t',cs,fuel,p,q,hg',ht',hvar,hd,_,_⟩,_⟩:=h;obtain rfl:=Option.some.inj (hg.symm.trans hg');obtain rfl:=Option.some.inj (hty.symm.trans ht');have:=Hj _ _ _ _ _ _ _ hk hd hv;rw[hvar,← this]
theorem Nr[gl:aD]{name:String}{g:Nat}{vs:List Value}(hg:P.globalNamed name=some g)(hvar:w.var? P name=some vs.toArray)(h1:vs.all (·.oneCell')=true)(hgl:∀i cs,gl.default.cells i=some cs→i=g∧cs=vs.map .sc):pE (Gh.bare w) w:=by
 intro i cs hi;obtain⟨rfl,rfl⟩:=hgl i cs hi;refine⟨?_,yo fun j x hx=>?_⟩
 ·exact rK.2 fun x hx=>by
   obtain⟨v,_,rfl⟩:=List.mem_map.1 hx;rfl
 ·rw[List.getElem?_map]at hx;obtain⟨v,hv,rfl⟩:=Option.map_eq_some_iff.1 hx;have hc:=World.var?_cell hg hvar j;rw[List.getElem?_toArray,hv]at hc;have hlt:i<w.heap.size:=by
   apply Decidable.byContradiction;intro hn;simp[World.cell?,Array.getElem?_eq_none (Nat.le_of_not_lt hn)]at hc
  rw[Nat.zero_add];exact⟨hlt,v,hc,List.all_eq_true.1 h1 v (List.mem_of_getElem? hv),by simp[R]⟩
end
end Go.AM
end
section
namespace Go.AM
abbrev Ren:=Nat→Nat→Option (Nat×Nat)
namespace AVal
mutual
def jR(f:Ren):AVal→AVal
 | .sc v=>.sc v
 | .agg cs=>.agg (oP f cs)
 | .cQ cs=>.cQ (oP f cs)
 | .ptr b ak i o=>match f b ak with
  |some (b',ver')=>.ptr b' ver' i o
  |none=>.aq
 | .cm cs o=>.cm cs o
 | .sl b ak sz o n=>match f b ak with
  |some (b',ver')=>.sl b' ver' sz o n
  |none=>.aq
 | .av rows=>.av rows
 | .fn g a b=>.fn g (oP f a) (oP f b)
 | .gd t v=>.gd t (jR f v)
 | .mp b=>match f b 0 with
  |some (b',0)=>.mp b'
  |_=>.aq
 | .jJ b=>match f b 0 with
  |some (b',0)=>.jJ b'
  |_=>.aq
 | .sa b ak i o s n=>match f b ak with
  |some (b',ver')=>.sa b' ver' i o s n
  |none=>.aq
 | .gT i o=>.gT i o
 | .emp=>.emp
 | .nz b=>.nz b
 | .aq=>.aq
def oP(f:Ren):List AVal→List AVal
 | []=>[]
 |a::as=>jR f a::oP f as
end
theorem Eg(f:Ren):∀(l:List AVal),(oP f l).length=l.length
 | []=>rfl
 |_::as=>by simp[oP,Eg f as]
end AVal
section
variable [aD] {g g':Gh} {w:World} {f:Ren}
mutual
theorem Fu(hst:∀k o,g.st k o→g'.st k o)(hf:∀b v b' v' x,f b v=some (b',v')→g.aj b v=some x→g'.aj b' v'=some x):∀(v:AVal) (x:Value),R g w v x→R g' w (v.jR f) x
 | .sc _,x,hr=>by simpa[R,AVal.jR]using hr
 | .agg cs,x,hr=>by
  simp only[R,AVal.jR]at hr ⊢;obtain⟨vs,e,h1,hl⟩:=hr;exact⟨vs,e,h1,tT hst hf cs vs hl⟩
 | .cQ cs,x,hr=>by
  simp only[R,AVal.jR]at hr ⊢;obtain⟨vs,e,hl⟩:=hr;exact⟨vs,e,tT hst hf cs vs hl⟩
 | .ptr b ak i o,x,hr=>by
  grind [R,AVal.jR]
 | .cm cs o,x,hr=>by
  grind [R,AVal.jR,kH]
 | .sl b ak sz o n,x,hr=>by
  grind [R,AVal.jR]
 | .av rows,x,hr=>by
  simp only[R,AVal.jR]at hr ⊢;obtain⟨a,cap,e,hle,hr⟩:=hr;refine⟨a,cap,e,hle,?_⟩;rcases hr with h0 |⟨k,off,sz,ha,hc⟩
  ·exact .inl h0
  ·exact .inr ⟨k,off,sz,ha,DB hst rows k off sz hc⟩
 | .fn _ a b,x,hr=>by
  simp only[R,AVal.jR]at hr ⊢;obtain⟨va,vb,e,h1,h2⟩:=hr;exact⟨va,vb,e,tT hst hf a va h1,tT hst hf b vb h2⟩
 | .gd t v,x,hr=>by
  simp only[R,AVal.jR]at hr ⊢;obtain⟨y,e,h1⟩:=hr;exact⟨y,e,Fu hst hf v y h1⟩
 | .mp b,x,hr=>by
  grind [R,AVal.jR]
 | .jJ b,x,hr=>by
  grind [R,AVal.jR]
 | .sa b ak i o s n,x,hr=>by
  grind [R,AVal.jR]
 | .gT i o,x,hr=>by simpa[R,AVal.jR]using hr
 | .emp,x,hr=>by simpa[R,AVal.jR]using hr
 | .nz _,x,hr=>by simpa[R,AVal.jR]using hr
 | .aq,x,_=>by simp[R,AVal.jR]
theorem tT(hst:∀k o,g.st k o→g'.st k o)(hf:∀b v b' v' x,f b v=some (b',v')→g.aj b v=some x→g'.aj b' v'=some x):∀(v:List AVal) (x:List Value),RL g w v x→RL g' w (AVal.oP f v) x
 | [],x,hr=>by simpa[RL,AVal.oP]using hr
 |a::as,x,hr=>by
  simp only[RL,AVal.oP]at hr ⊢;obtain⟨y,ys,e,h1,h2⟩:=hr;exact⟨y,ys,e,Fu hst hf a y h1,tT hst hf as ys h2⟩
end
def Jd(f:Ren):af→af→Prop
 | .row _ sz rows,.row _ sz' rows'=>sz'=sz∧((rows'=rows∧rows.all AVal.aX=true)∨rows'=rows.map (AVal.oP f))
 | .map c es,.map c' es'=>c'=c∧((es'=es∧es.all (fun p=>p.1.pure&&p.2.1.pure)=true)∨es'=es.map fun p=>(p.1.jR f,p.2.1.jR f,p.2.2))
 | .loop st pend fid A ps as bd,.loop st' pend' fid' A' ps' as' bd'=>st'=st∧pend'=pend∧fid'=fid∧ps'=ps∧as'=as∧bd'=bd∧A'=AVal.oP f A
 | .defs,.defs=>True
 | .iter m since seen stepped,.iter m' since' seen' stepped'=>since'=since∧seen'=seen∧stepped'=stepped∧m'=m.jR f
 |_,_=>False
structure LZ(g g':Gh)(H H':List af)(f:Ren):Prop where
 st:g'.st=g.st
 aj:∀b v b' v' x,f b v=some (b',v')→g.aj b v=some x→g'.aj b' v'=some x
 blk:∀(b':Nat) (x':af),H'[b']? =some x'→x'.live=none∨∃b x v v',H[b]? =some x∧x.live=some v∧x'.live=some v'∧f b v=some (b',v')∧g'.aj b' v'=g.aj b v∧Jd f x x'
 fresh:∀b' v,(H'[b']? =some .bA∨H'.length≤b')→g'.aj b' v=none
 next:∀(b':Nat) (x':af) v v',H'[b']? =some x'→x'.live=some v→v<v'→g'.aj b' v'=none
theorem OU{H H':List af}(h:LZ g g' H H' f){b b' v v':Nat}{x x':af}(hg:Good g w b x)(hv:x.live=some v)(hv':x'.live=some v')(hr:g'.aj b' v'=g.aj b v)(hb:Jd f x x'):Good g' w b' x':=by
 have hst:∀k o,g.st k o→g'.st k o:=fun k o h'=>by rw[h.st];exact h'
 cases x<;>cases x'<;>simp only[Jd]at hb<;>try exact hb.elim
 case row.row ak sz rows ver' sz' rows'=>
  simp only[af.live,Option.some.injEq]at hv hv';subst hv;subst hv';obtain⟨rfl,hb⟩:=hb;rcases hg with⟨k,c,e,h1,h2,h3,h4,h5⟩ |⟨rfl,h2,h3⟩
  ·rcases hb with⟨rfl,hp⟩ |rfl
   ·refine .inl ⟨k,c,e,hr.trans h1,h2,jb _ _ fun j r hj=>?_,h4,h5⟩
    obtain⟨r1,r2⟩:=cR _ _ _ _ h3 hj;obtain⟨vs,v1,v2,v3,v4⟩:=fL r2;exact⟨r1,eA (od hst _ _ (List.all_eq_true.1 hp r (List.mem_of_getElem? hj)) v3) v2 v4⟩
   ·refine .inl ⟨k,c,e,hr.trans h1,h2,jb _ _ fun j r hj=>?_,by simpa using h4,h5⟩
    rw[List.getElem?_map]at hj;obtain⟨r0,hj0,rfl⟩:=Option.map_eq_some_iff.1 hj;obtain⟨r1,r2⟩:=cR _ _ _ _ h3 hj0;obtain⟨vs,v1,v2,v3,v4⟩:=fL r2;exact⟨by rw[AVal.Eg,r1],eA (tT hst h.aj _ _ v3) v2 v4⟩
  ·rcases hb with⟨rfl,_⟩ |rfl
   ·exact .inr ⟨rfl,hr.trans h2,h3⟩
   ·exact .inr ⟨rfl,hr.trans h2,h3⟩
 case map.map c es c' es'=>
  simp only[af.live,Option.some.injEq]at hv hv';subst hv;subst hv';obtain⟨rfl,hb⟩:=hb;obtain⟨k,ents,h1,h2,h3⟩:=hg;refine⟨k,ents,hr.trans h1,h2,?_⟩;grind [oh,xx,kZ,Fu,h.aj]
 case loop.loop=>
  simp only[af.live,Option.some.injEq]at hv hv';subst hv;subst hv';obtain⟨rfl,rfl,rfl,rfl,rfl,rfl,rfl⟩:=hb;obtain⟨k,tmps,dk,fn,h1,h2,h3⟩:=hg;exact⟨k,tmps,dk,fn,hr.trans h1,h2,tT hst h.aj _ _ h3⟩
 case iter.iter=>
  simp only[af.live,Option.some.injEq]at hv hv';subst hv;subst hv';obtain⟨rfl,rfl,rfl,rfl⟩:=hb;obtain⟨k,mo,h1,h2,h3⟩:=hg;exact⟨k,mo,hr.trans h1,h2,Fu hst h.aj _ _ h3⟩
 case defs.defs=>
  simp only[af.live,Option.some.injEq]at hv hv';subst hv;subst hv';obtain⟨k,h1,h2⟩:=hg;exact⟨k,hr.trans h1,h2⟩
theorem Inv.jR{H H':List af}(hi:Inv g H w)(h:LZ g g' H H' f):Inv g' H' w:=by
 have hst:∀k o,g.st k o→g'.st k o:=fun k o h'=>by rw[h.st];exact h'
 refine⟨?_,?_,h.fresh,h.next,?_,?_,hi.di.st hst⟩
 ·intro b' x' hb';rcases h.blk b' x' hb' with hl |⟨b,x,v,v',h1,h2,h3,h4,h5,h6⟩
  ·cases x'<;>simp[af.live]at hl<;>trivial
  ·exact OU h (hi.good b x h1) h2 h3 h5 h6
 ·intro b1 b2 x1 x2 v1 v2 k z1 z2 hb1 hb2 l1 l2 k1 k2;rcases h.blk b1 x1 hb1 with hl |⟨c1,y1,u1,u1',p1,p2,p3,p4,p5,p6⟩
  ·rw[l1]at hl;cases hl
  ·rcases h.blk b2 x2 hb2 with hl |⟨c2,y2,u2,u2',q1,q2,q3,q4,q5,q6⟩
   ·rw[l2]at hl;cases hl
   ·rw[l1]at p3;cases p3;rw[l2]at q3;cases q3;rw[p5]at k1;rw[q5]at k2;have:=hi.inj c1 c2 y1 y2 u1 u2 k z1 z2 p1 q1 p2 q2 k1 k2;grind
 ·intro b' x' v k z o hb' hl hk hs;rcases h.blk b' x' hb' with hl' |⟨b,x,u,u',p1,p2,p3,p4,p5,p6⟩
  ·rw[hl]at hl';cases hl'
  ·rw[hl]at p3;cases p3;rw[p5]at hk;rw[h.st]at hs;exact hi.free b x u k z o p1 p2 hk hs
 ·intro k o hs;rw[h.st]at hs;exact hi.fh k o hs
end
def iG[aD](H0:List af)(s s':St):Prop:=
 ∀(g0:Gh) (w0:World) (g:Gh) (a:Act) (w:World),Inv g0 H0 w0→aU g0 H0 w0 g s.H w→ff g s a w→∃g',ff g' s' a w∧aU g0 H0 w0 g' s'.H w
theorem iG.refl[aD](H0:List af)(s:St):iG H0 s s:=fun _ _ g _ _ _ hl hs=>⟨g,hs,hl⟩
theorem iG.trans[aD]{H0:List af}{s s1 s2:St}(h:iG H0 s s1)(h':iG H0 s1 s2):iG H0 s s2:=fun g0 w0 g a w hi hl hs=>
 let⟨g1,hs1,hl1⟩:=h g0 w0 g a w hi hl hs
 h' g0 w0 g1 a w hi hl1 hs1
def af.tU:af→Option Nat
 | .row v _ _=>some v
 |_=>none
def qX:af→Bool
 | .row _ _ rows=>rows.all AVal.aX
 | .map _ es=>es.all fun p=>p.1.pure&&p.2.1.pure
 |_=>true
def CN(pu:List Nat)(H:List af):Prop:=∀b∈pu,∀x,H[b]? =some x→qX x=true
def pe(b:Nat):List Nat→Nat→Option Nat
 | [],_=>none
 |c::cs,j=>match c==b with
  |true=>some j
  |false=>pe b cs (j+1)
def yV:List Nat→Bool
 | []=>true
 |c::cs=> !cs.contains c&&yV cs
def ou(bump:List Nat)(H0 H:List af)(b:Nat):Option (Nat×Nat):=
 match bump.contains b with
 |true=>match(H0[b]?).bind af.tU,(H[b]?).bind af.tU with
  |some v0,some v1=>some (v0,v1)
  |_,_=>none
 |false=>none
def tA(H0:List af)(b:Nat):Bool:=match H0[b]? with
 |some .bA=>false
 |some _=>true
 |none=>false
theorem K8{H0:List af}{b:Nat}(h:tA H0 b=true):b<H0.length:=by
 grind [tA]
theorem Fv{H0:List af}{b:Nat}(h:tA H0 b=false):H0[b]? =some .bA∨H0.length≤b:=by
 grind [tA]
def rq(bl bump:List Nat)(H0 H:List af):Ren:=fun b v=>
 match tA H0 b with
 |true=>match ou bump H0 H b with
  |some (v0,v1)=>if v=v1 then some (b,v0+1)else none
  |none=>some (b,v)
 |false=>match pe b bl 0 with
  |some j=>if(H[b]?).bind af.live=some v then some (H0.length+j,0)else none
  |none=>none
def jq(f:Ren)(p:Bool)(v':Option Nat):af→af
 | .row v sz rows=>.row (v'.getD v) sz (match p with |true=>rows |false=>rows.map (AVal.oP f))
 | .map c es=>.map c (match p with |true=>es |false=>es.map fun p=>(p.1.jR f,p.2.1.jR f,p.2.2))
 | .loop st pend fid A ps as bd=>.loop st pend fid (AVal.oP f A) ps as bd
 | .iter m since seen stepped=>.iter (m.jR f) since seen stepped
 |x=>x
def pM(f:Ren)(pu bump:List Nat)(H0 H:List af):Nat→List af→List af
 |_,[]=>[]
 |b,x::xs=>(match tA H0 b with |true=>jq f (pu.contains b) ((ou bump H0 H b).map (·.1+1)) x |false=>.bA)::pM f pu bump H0 H (b+1) xs
def EN(f:Ren):List tv→Option (List tv)
 | []=>some []
 | .call h args::ds=>(EN f ds).map (.call h (AVal.oP f args):: ·)
 | .mark b::ds=>if f b 0=some (b,0)then(EN f ds).map (.mark b:: ·)else none
def OV(bl bump pu:List Nat)(H0:List af)(s:St):Option St:=
 match yV bl&&bl.all (fun b=> !tA H0 b&&decide (b<s.H.length))with
 |true=>match EN (rq bl bump H0 s.H) s.D with
  |some D=>some ⟨AVal.oP (rq bl bump H0 s.H) s.A,pM (rq bl bump H0 s.H) pu bump H0 s.H 0 (s.H.take H0.length)++bl.map (fun b=>jq (rq bl bump H0 s.H) (pu.contains b) (some 0) (s.H.getD b .dead)),D⟩
  |none=>none
 |false=>none
theorem uO:∀{bl:List Nat} {b i j:Nat},pe b bl i=some j→i≤j∧bl[j - i]? =some b
 | [],b,i,j,h=>by simp[pe]at h
 |c::cs,b,i,j,h=>by
  simp only[pe]at h;split at h
  ·grind
  ·obtain⟨h1,h2⟩:=uO h;grind
theorem Aq:∀{bl:List Nat} {b j:Nat} (i:Nat),yV bl=true→bl[j]? =some b→pe b bl i=some (i+j)
 | [],b,j,i,_,h=>by simp at h
 |c::cs,b,0,i,_,h=>by simp at h;subst h;simp[pe]
 |c::cs,b,j+1,i,hn,h=>by
  simp only[yV,Bool.and_eq_true,Bool.not_eq_true']at hn;simp only[List.getElem?_cons_succ]at h;have hne:(c==b)=false:=by
   apply beq_false_of_ne;rintro rfl;have:=List.mem_of_getElem? h;simp[this]at hn
  simp only[pe,hne];rw[Aq (i+1) hn.2 h,show i+1+j=i+(j+1)by omega]
theorem Ar(f:Ren)(pu bump:List Nat)(H0 H:List af):∀(l:List af) (b j:Nat),(pM f pu bump H0 H b l)[j]? =(l[j]?).map fun x=>match tA H0 (b+j)with |true=>jq f (pu.contains (b+j)) ((ou bump H0 H (b+j)).map (·.1+1)) x |false=>.bA
 | [],b,j=>by simp[pM]
 |x::xs,b,0=>by simp[pM]
 |x::xs,b,j+1=>by
  simp only[pM,List.getElem?_cons_succ];rw[Ar f pu bump H0 H xs (b+1) j,show b+1+j=b+(j+1)by omega]
theorem qY(f:Ren)(p:Bool)(v':Option Nat)(x:af):(jq f p v' x).live=match x with | .row v _ _=>some (v'.getD v) |x=>x.live:=by cases x<;>rfl
theorem yq(f:Ren)(p:Bool)(v':Option Nat){x:af}(hp:p=true→qX x=true)(hl:x.live≠none):Jd f x (jq f p v' x):=by
 cases x with
 |row v sz rows=>
  refine⟨rfl,?_⟩;cases p with
  |true=>exact .inl ⟨rfl,hp rfl⟩
  |false=>exact .inr rfl
 |map c es=>
  refine⟨rfl,?_⟩;cases p with
  |true=>exact .inl ⟨rfl,hp rfl⟩
  |false=>exact .inr rfl
 |loop=>exact⟨rfl,rfl,rfl,rfl,rfl,rfl,rfl⟩
 |defs=>trivial
 |iter=>exact⟨rfl,rfl,rfl,rfl⟩
 |bA=>exact absurd rfl hl
 |dead=>exact absurd rfl hl
def oQ(bl bump:List Nat)(H0 H:List af)(g:Gh):Gh:=
 {aj:=fun b v=>match decide (b<H0.length)with
  |true=>match tA H0 b with
   |true=>match ou bump H0 H b with
    |some (v0,v1)=>if v≤v0 then g.aj b v else if v=v0+1 then g.aj b v1 else none
    |none=>g.aj b v
   |false=>none
  |false=>match bl[b - H0.length]? with
   |some c=>if v=0 then(match(H[c]?).bind af.live with |some u=>g.aj c u |none=>none)else none
   |none=>none
  st:=g.st}
theorem Eh{x:af}{v:Nat}(h:x.tU=some v):x.live=some v:=by cases x<;>simp[af.tU]at h<;>simp[af.live,h]
theorem tV{bump:List Nat}{H0 H:List af}{b v0 v1:Nat}(h:ou bump H0 H b=some (v0,v1)):(∃x0,H0[b]? =some x0∧x0.tU=some v0)∧∃x1,H[b]? =some x1∧x1.tU=some v1:=by
 grind [ou]
theorem OW[aD]{bl bump pu:List Nat}{H0:List af}{s s':St}(A2:CN pu s.H)(h:OV bl bump pu H0 s=some s'):iG H0 s s':=by
 intro g0 w0 g a w hi0 hl hs;unfold OV at h;split at h
 ·rename_i hc;simp only[Bool.and_eq_true,List.all_eq_true,decide_eq_true_eq,Bool.not_eq_true']at hc;obtain⟨hnd,hbl⟩:=hc;split at h
  ·rename_i D hD;simp only[Option.some.injEq]at h;subst h;have hlen:H0.length≤s.H.length:=hl.len;have htl:(s.H.take H0.length).length=H0.length:=by simp;omega
   have hrl:(pM (rq bl bump H0 s.H) pu bump H0 s.H 0 (s.H.take H0.length)).length=H0.length:=by
    have:∀(l:List af) (b:Nat),(pM (rq bl bump H0 s.H) pu bump H0 s.H b l).length=l.length:=by
     intro l;induction l with
     |nil=>intro b;rfl
     |cons x xs ih=>intro b;simp[pM,ih]
    rw[this,htl]
   have side:∀(b':Nat) (x':af),(pM (rq bl bump H0 s.H) pu bump H0 s.H 0 (s.H.take H0.length)++bl.map (fun b=>jq (rq bl bump H0 s.H) (pu.contains b) (some 0) (s.H.getD b .dead)))[b']? =some x'→
    (b'<H0.length∧tA H0 b'=true∧∃x,s.H[b']? =some x∧x'=jq (rq bl bump H0 s.H) (pu.contains b') ((ou bump H0 s.H b').map (·.1+1)) x)∨
    (b'<H0.length∧tA H0 b'=false∧x'=.bA)∨
    (H0.length≤b'∧∃b x,bl[b' - H0.length]? =some b∧s.H[b]? =some x∧x'=jq (rq bl bump H0 s.H) (pu.contains b) (some 0) x):=by
    intro b' x' hx;by_cases hb:b'<H0.length
    ·grind [Ar,tA]
    ·grind
   have hpure:∀b x,s.H[b]? =some x→pu.contains b=true→qX x=true:=fun b x hx hc=>A2 b (by simpa using hc) x hx
   have ok:LZ g (oQ bl bump H0 s.H g) s.H (pM (rq bl bump H0 s.H) pu bump H0 s.H 0 (s.H.take H0.length)++bl.map (fun b=>jq (rq bl bump H0 s.H) (pu.contains b) (some 0) (s.H.getD b .dead))) (rq bl bump H0 s.H):=by
    refine⟨rfl,?_,?_,?_,?_⟩
    ·intro b v b' v' x hf hr;unfold rq at hf;split at hf
     ·grind [K8,oQ]
     ·rename_i hlt;split at hf
      ·rename_i j hj;split at hf
       ·rename_i hv;simp only[Option.some.injEq,Prod.mk.injEq]at hf;obtain⟨rfl,rfl⟩:=hf;obtain⟨_,hj⟩:=uO hj;have h1:decide (H0.length+j<H0.length)=false:=by simp
        simp only[oQ,h1,Nat.add_sub_cancel_left];grind
       ·cases hf
      ·cases hf
    ·intro b' x' hx;rcases side b' x' hx with⟨hlt,hold,x,h1,rfl⟩ |⟨_,_,rfl⟩ |⟨hge,b,x,h1,h2,rfl⟩
     ·by_cases hlv:x.live=none
      ·grind [qY,af.live]
      ·right;obtain⟨v,hv⟩:=Option.ne_none_iff_exists'.1 hlv;have hlt':decide (b'<H0.length)=true:=by simpa using hlt
       cases hbu:ou bump H0 s.H b' with
       |none=>
        refine⟨b',x,v,v,h1,hv,?_,by simp only[rq,hold,hbu],by simp only[oQ,hlt',hold,hbu],yq _ _ _ (hpure _ _ h1) hlv⟩
        grind [qY,af.live]
       |some p=>
        obtain⟨v0,v1⟩:=p;obtain⟨_,x1,q1,q2⟩:=tV hbu;rw[h1]at q1;cases q1;have:v=v1:=by rw[Eh q2]at hv;cases hv;rfl
        subst this;refine⟨b',x,v,v0+1,h1,hv,?_,by simp only[rq,hold,hbu,if_true],?_,yq _ _ _ (hpure _ _ h1) hlv⟩
        ·grind [qY,af.tU]
        grind [oQ]
     ·exact .inl rfl
     ·by_cases hlv:x.live=none
      ·grind [qY,af.live]
      ·right;obtain⟨v,hv⟩:=Option.ne_none_iff_exists'.1 hlv;have hbge:=(hbl b (List.mem_of_getElem? h1)).1;have hlt2:decide (b'<H0.length)=false:=by simp;omega
       refine⟨b,x,v,0,h2,hv,?_,?_,?_,yq _ _ _ (hpure _ _ h2) hlv⟩
       ·rw[qY];cases x<;>simp[af.live]at hv ⊢
       ·simp only[rq,hbge,Aq 0 hnd h1,Nat.zero_add];grind
       grind [oQ]
    ·intro b' v hb;rcases hb with hb |hb
     ·rcases side b' _ hb with⟨hlt,hold,x,h1,hx⟩ |⟨hlt,hold,_⟩ |⟨hge,b,x,h1,h2,hx⟩
      ·have hx':x=.bA:=by cases x<;>simp[jq]at hx;rfl
       subst hx';have hlt':decide (b'<H0.length)=true:=by simpa using hlt
       have hbu:ou bump H0 s.H b'=none:=by
        cases hbu:ou bump H0 s.H b' with
        |none=>rfl
        |some p=>
         grind [tV,af.tU]
       simp only[oQ,hlt',hold,hbu];exact hs.inv.fresh b' v (.inl h1)
      ·grind [oQ]
      ·have hx':x=.bA:=by cases x<;>simp[jq]at hx;rfl
       grind [oQ,af.live]
     grind [oQ]
    ·intro b' x' v v' hx hv hlt;rcases side b' x' hx with⟨hlb,hold,x,h1,rfl⟩ |⟨_,_,rfl⟩ |⟨hge,b,x,h1,h2,rfl⟩
     ·have hlt':decide (b'<H0.length)=true:=by simpa using hlb
      rw[qY]at hv;cases hbu:ou bump H0 s.H b' with
      |none=>
       simp only[oQ,hlt',hold,hbu];rw[hbu]at hv;refine hs.inv.next b' x v v' h1 ?_ hlt;grind [af.live]
      |some p=>
       grind [tV,oQ,af.tU]
     ·cases hv
     grind [oQ]
   refine⟨oQ bl bump H0 s.H g,⟨hs.inv.jR ok,tT (g:=g) (g':=oQ bl bump H0 s.H g) (fun _ _ h=>h) ok.aj _ _ hs.tmps,?_⟩,?_⟩
   ·have key:∀(l l':List tv) (ds:List Deferred),EN (rq bl bump H0 s.H) l=some l'→RD g w l ds→RD (oQ bl bump H0 s.H g) w l' ds:=by
     intro l;induction l with
     |nil=>intro l' ds h hd;simp[EN]at h;subst h;exact hd
     |cons d l ih=>
      intro l' ds h hd;obtain⟨d',ds',rfl,h1,h2⟩:=hd;cases d with
      |call f args=>
       simp only[EN,Option.map_eq_some_iff]at h;obtain⟨l2,h,rfl⟩:=h;obtain⟨cap,t1,t2⟩:=h1;exact⟨d',ds',rfl,⟨cap,t1,tT (g:=g) (g':=oQ bl bump H0 s.H g) (fun _ _ h=>h) ok.aj _ _ t2⟩,ih _ _ h h2⟩
      |mark b=>
       simp only[EN]at h;split at h
       ·rename_i hb;obtain⟨l2,h0,rfl⟩:=Option.map_eq_some_iff.1 h;obtain⟨k,sz,t1,t2⟩:=h1;exact⟨d',ds',rfl,⟨k,sz,ok.aj _ _ _ _ _ hb t1,t2⟩,ih _ _ h0 h2⟩
       ·cases h
    exact key _ _ _ hD hs.defs
   ·refine⟨⟨?_,hl.ext.st,hl.ext.cell,hl.ext.shape⟩,hl.size,hl.keep,?_,by simp[hrl],hl.os,hl.tape,hl.output,fun k o hk hs=>?_,?_,?_⟩
    ·intro b v x hx;have hold:tA H0 b=true:=by
      cases ho:tA H0 b with
      |true=>rfl
      |false=>rw[hi0.fresh b v (Fv ho)]at hx;cases hx
     have hlt':decide (b<H0.length)=true:=by simpa using K8 hold
     cases hbu:ou bump H0 s.H b with
     |none=>simp only[oQ,hlt',hold,hbu];exact hl.ext.aj b v x hx
     |some p=>
      obtain⟨v0,v1⟩:=p;obtain⟨⟨x0,q1,q2⟩,_⟩:=tV hbu;simp only[oQ,hlt',hold,hbu];have:v≤v0:=by
       apply Decidable.byContradiction;intro hn;rw[hi0.next b x0 v0 v q1 (Eh q2) (by omega)]at hx;cases hx
      rw[if_pos this];exact hl.ext.aj b v x hx
    ·rintro k hk ⟨b',x',v',z,h1,h2,h3⟩;rcases ok.blk b' x' h1 with hn |⟨b,x,v,v2,p1,p2,p3,p4,p5,p6⟩
     ·rw[h2]at hn;cases hn
     ·rw[h2]at p3;cases p3;rw[p5]at h3;exact hl.own k hk ⟨b,x,v,z,p1,p2,h3⟩
    ·rcases hl.stk k o hk hs with h1 |⟨h1,h2⟩
     ·exact .inl h1
     ·refine .inr ⟨h1,?_⟩;rintro⟨b',x',v',z,q1,q2,q3⟩;rcases ok.blk b' x' q1 with hn |⟨b,x,v,v2,p1,p2,p3,p4,p5,p6⟩
      ·rw[q2]at hn;cases hn
      ·rw[q2]at p3;cases p3;rw[p5]at q3;exact h2 ⟨b,x,v,z,p1,p2,q3⟩
    ·intro b hb;have hlt:b<H0.length:=(List.getElem?_eq_some_iff.1 hb).1;have hlt':decide (b<H0.length)=true:=by simpa using hlt
     obtain⟨d1,d2⟩:=hl.ug b hb;have hbu:ou bump H0 s.H b=none:=by
      cases hbu:ou bump H0 s.H b with
      |none=>rfl
      |some p=>
       grind [tV,af.tU]
     have hold:tA H0 b=true:=by simp[tA,hb]
     refine⟨?_,fun ak=>by grind [oQ]⟩
     rw[List.getElem?_append_left (by omega),Ar,Nat.zero_add,List.getElem?_take,if_pos hlt,d1]
     simp only[Option.map_some,hold];rfl
    ·intro b' v' k z hr;simp only[oQ]at hr;split at hr
     ·split at hr
      ·split at hr
       ·split at hr
        ·exact hl.tu b' _ k z hr
        ·split at hr
         ·exact hl.tu b' _ k z hr
         ·cases hr
       ·exact hl.tu b' _ k z hr
      ·cases hr
     ·split at hr
      ·rename_i c hcb;split at hr
       ·split at hr
        ·rcases hl.tu c _ k z hr with⟨u,z',hu⟩ |hn
         ·have:=(hbl c (List.mem_of_getElem? hcb)).1;rw[hi0.fresh c u (Fv this)]at hu;cases hu
         ·exact .inr hn
        ·cases hr
       ·cases hr
      ·cases hr
  ·cases h
 ·cases h
def Ns:AVal→AVal
 | .sc (.slice none 0 0)=>.av []
 | .emp=>.av []
 | .nz _=>.av []
 |v=>v
mutual
def jK:AVal→AVal
 | .sc v=>Ns (.sc v)
 | .emp=>.av []
 | .nz _=>.av []
 | .agg cs=>.agg (ov cs)
 | .cQ cs=>.cQ (ov cs)
 | .fn f a b=>.fn f (ov a) (ov b)
 | .gd t v=>.gd t v
 | .cm cs o=>.cm (ov cs) o
 |v=>v
def ov:List AVal→List AVal
 | []=>[]
 |a::as=>jK a::ov as
end
section
variable [aD] {g:Gh} {w:World}
theorem It{v:AVal}{x:Value}(h:R g w v x):R g w (Ns v) x:=by
 unfold Ns;grind [gA,R]
mutual
theorem OX:∀(v:AVal),v.pure=true→(jK v).pure=true
 | .sc v,h=>by
  simp only[jK,Ns];split<;>simp_all [AVal.pure]
 | .emp,_=>by simp[jK,AVal.pure]
 | .nz _,_=>by simp[jK,AVal.pure]
 | .agg cs,h=>by simp only[AVal.pure]at h;simp only[jK,AVal.pure,uy cs h]
 | .cQ cs,h=>by simp only[AVal.pure]at h;simp only[jK,AVal.pure,uy cs h]
 | .fn f a b,h=>by simp only[AVal.pure,Bool.and_eq_true]at h;simp only[jK,AVal.pure,uy a h.1,uy b h.2,Bool.and_self]
 | .gd t v,h=>by simpa only[jK]using h
 | .cm cs o,_=>by simp[jK,AVal.pure]
 | .ptr ..,h=>by simpa only[jK]using h
 | .sl ..,h=>by simpa only[jK]using h
 | .av _,h=>by simpa only[jK]using h
 | .mp _,h=>by simpa only[jK]using h
 | .jJ _,h=>by simpa only[jK]using h
 | .sa ..,h=>by simpa only[jK]using h
 | .gT ..,h=>by simpa only[jK]using h
 | .aq,h=>by simpa only[jK]using h
theorem uy:∀(l:List AVal),AVal.aX l=true→AVal.aX (ov l)=true
 | [],_=>rfl
 |a::as,h=>by simp only[AVal.aX,Bool.and_eq_true]at h;simp only[ov,AVal.aX,OX a h.1,uy as h.2,Bool.and_self]
end
mutual
theorem DD:∀(v:AVal) (x:Value),R g w v x→R g w (jK v) x
 | .sc v,x,h=>by simp only[jK];exact It h
 | .emp,x,h=>by simp only[jK];exact It (v:=.emp) h
 | .nz b,x,h=>by simp only[jK];exact It (v:=.nz b) h
 | .agg cs,x,h=>by
  simp only[jK,R]at h ⊢;obtain⟨vs,e,h1,hl⟩:=h;exact⟨vs,e,h1,xD cs vs hl⟩
 | .cQ cs,x,h=>by
  simp only[jK,R]at h ⊢;obtain⟨vs,e,hl⟩:=h;exact⟨vs,e,xD cs vs hl⟩
 | .fn f a b,x,h=>by
  simp only[jK,R]at h ⊢;obtain⟨va,vb,e,h1,h2⟩:=h;exact⟨va,vb,e,xD a va h1,xD b vb h2⟩
 | .gd t v,x,h=>by simpa only[jK]using h
 | .cm cs o,x,h=>by
  simp only[jK,R]at h ⊢;obtain⟨k,off,e,hp,hc⟩:=h;exact⟨k,off,e,uy cs hp,Je cs k off hc⟩
 | .ptr ..,x,h=>by simpa only[jK]using h
 | .sl ..,x,h=>by simpa only[jK]using h
 | .av _,x,h=>by simpa only[jK]using h
 | .mp _,x,h=>by simpa only[jK]using h
 | .jJ _,x,h=>by simpa only[jK]using h
 | .sa ..,x,h=>by simpa only[jK]using h
 | .gT ..,x,h=>by simpa only[jK]using h
 | .aq,x,h=>by simpa only[jK]using h
theorem xD:∀(l:List AVal) (vs:List Value),RL g w l vs→RL g w (ov l) vs
 | [],vs,h=>by simpa only[ov]using h
 |a::as,vs,h=>by
  simp only[ov,RL]at h ⊢;obtain⟨y,ys,e,h1,h2⟩:=h;exact⟨y,ys,e,DD a y h1,xD as ys h2⟩
theorem Je:∀(l:List AVal) (k o:Nat),RC g w l k o→RC g w (ov l) k o
 | [],k,o,h=>by simpa only[ov]using h
 |a::as,k,o,h=>by
  simp only[ov,RC]at h ⊢;obtain⟨⟨hs,y,hy,ho,hr⟩,h2⟩:=h;exact⟨⟨hs,y,hy,ho,DD a y hr⟩,Je as k (o+1) h2⟩
end
theorem K9{A:List AVal}{vs:List Value}{d:Nat}{v v':AVal}(h:RL g w A vs)(hd:A[d]? =some v)(hv:∀x,R g w v x→R g w v' x):RL g w (A.set d v') vs:=by
 grind [dN,u0]
theorem Inv.Nt{H:List af}(hi:Inv g H w){b ak sz i j:Nat}{rows:List (List AVal)}{cs:List AVal}{v v':AVal}(hb:H[b]? =some (.row ak sz rows))(hcs:rows[i]? =some cs)(hj:cs[j]? =some v)(hv:∀x,R g w v x→R g w v' x):
 Inv g (H.set b (.row ak sz (rows.set i (cs.set j v')))) w∧aU g H w g (H.set b (.row ak sz (rows.set i (cs.set j v')))) w:=by
 have hlt:b<H.length:=(List.getElem?_eq_some_iff.1 hb).1;have f:∀(b':Nat) (x':af) (v1:Nat),(H.set b (.row ak sz (rows.set i (cs.set j v'))))[b']? =some x'→x'.live=some v1→∃x1,H[b']? =some x1∧x1.live=some v1:=by
  intro b' x' v1 h hl;rcases bT h with⟨rfl,he,_⟩ |⟨_,h⟩
  ·subst he;exact⟨_,hb,hl⟩
  ·exact⟨x',h,hl⟩
 refine⟨⟨?_,?_,?_,?_,?_,hi.fh,hi.di⟩,⟨Ext.refl g w,Nat.le_refl _,fun _ _ _=>rfl,?_,by simp,rfl,⟨rfl,Nat.le_refl _⟩,rfl,fun _ _ _ h=>.inl h,?_,fun _ ak _ z h=>.inl ⟨ak,z,h⟩⟩⟩
 ·intro b' x h;rcases bT h with⟨rfl,he,_⟩ |⟨hne,h⟩
  ·subst he;rcases hi.good _ _ hb with⟨k,c,e,h1,h2,h3,h4,h5⟩ |⟨h1,_⟩
   ·refine .inl ⟨k,c,e,h1,h2,jb _ _ fun i' r hi'=>?_,by simpa using h4,h5⟩
    by_cases hii:i=i'
    ·subst hii;have hil:i<rows.length:=(List.getElem?_eq_some_iff.1 hcs).1;rw[List.getElem?_set_self hil]at hi';cases hi';obtain⟨r1,r2⟩:=cR _ _ _ _ h3 hcs;obtain⟨vs,v1,v2,v3,v4⟩:=fL r2;exact⟨by simpa using r1,eA (K9 v3 hj hv) v2 v4⟩
    ·rw[List.getElem?_set_ne hii]at hi';exact cR _ _ _ _ h3 hi'
   ·subst h1;simp at hcs
  ·exact hi.good b' x h
 ·intro b1 b2 x1 x2 v1 v2 k z1 z2 h1 h2 l1 l2 k1 k2;obtain⟨y1,p1,p2⟩:=f _ _ _ h1 l1;obtain⟨y2,q1,q2⟩:=f _ _ _ h2 l2;exact hi.inj b1 b2 y1 y2 v1 v2 k z1 z2 p1 q1 p2 q2 k1 k2
 ·intro b' v h;rcases h with h |h
  ·rcases bT h with⟨rfl,he,_⟩ |⟨_,h⟩
   ·cases he
   ·exact hi.fresh b' v (.inl h)
  ·exact hi.fresh b' v (.inr (by simpa using h))
 ·intro b' x v v' h hl hv;obtain⟨y1,p1,p2⟩:=f _ _ _ h hl;exact hi.next b' y1 v v' p1 p2 hv
 ·intro b' x v k z o h hl hk;obtain⟨y1,p1,p2⟩:=f _ _ _ h hl;exact hi.free b' y1 v k z o p1 p2 hk
 ·rintro k _ ⟨b',x,v,z,h,hl,hz⟩;obtain⟨y1,p1,p2⟩:=f _ _ _ h hl;exact⟨b',y1,v,z,p1,p2,hz⟩
 grind
end
inductive Pl where
 |s (d:Nat)
 |c (d j:Nat)
 |b (b j:Nat)
def uz(s:St):Pl→Option AVal
 | .s d=>s.A[d]?
 | .c d j=>match s.A[d]? with
  |some (.ptr b ak i o)=>match s.H[b]? with
   |some (.row v _ rows)=>match decide (v=ak)with
    |true=>(rows[i]?).bind fun cs=>cs[o+j]?
    |false=>none
   |_=>none
  |_=>none
 | .b b j=>match s.H[b]? with
  |some (.row _ _ rows)=>(rows[0]?).bind fun cs=>cs[j]?
  |_=>none
def BE(s:St)(v':AVal):Pl→St
 | .s d=>{s with A:=s.A.set d v'}
 | .c d j=>match s.A[d]? with
  |some (.ptr b _ i o)=>match s.H[b]? with
   |some (.row v sz rows)=>{s with H:=s.H.set b (.row v sz (rows.set i ((rows.getD i []).set (o+j) v')))}
   |_=>s
  |_=>s
 | .b b j=>match s.H[b]? with
  |some (.row v sz rows)=>{s with H:=s.H.set b (.row v sz (rows.set 0 ((rows.getD 0 []).set j v')))}
  |_=>s
theorem yt[aD]{s:St}{p:Pl}{v v':AVal}(hp:uz s p=some v){g:Gh}{a:Act}{w:World}(hs:ff g s a w)(hv:∀x,R g w v x→R g w v' x):ff g (BE s v' p) a w∧aU g s.H w g (BE s v' p).H w:=by
 cases p with
 |s d=>exact⟨⟨hs.inv,K9 hs.tmps hp hv,hs.defs⟩,aU.refl _ _ _⟩
 |c d j=>
  simp only[uz]at hp;split at hp
  ·rename_i b ak i o hd;split at hp
   ·rename_i v0 sz rows hb;split at hp
    ·obtain⟨cs,h1,h2⟩:=Option.bind_eq_some_iff.1 hp;obtain⟨i1,i2⟩:=hs.inv.Nt hb h1 h2 hv;have hgd:rows.getD i []=cs:=by rw[List.getD_eq_getElem?_getD,h1];rfl
     simp only[BE,hd,hb,hgd];exact⟨⟨i1,bN i2.ext _ _ hs.tmps,eC i2.ext _ _ hs.defs⟩,i2⟩
    ·cases hp
   ·cases hp
  ·cases hp
 |b b j=>
  simp only[uz]at hp;split at hp
  ·rename_i v0 sz rows hb;obtain⟨cs,h1,h2⟩:=Option.bind_eq_some_iff.1 hp;obtain⟨i1,i2⟩:=hs.inv.Nt hb h1 h2 hv;have hgd:rows.getD 0 []=cs:=by rw[List.getD_eq_getElem?_getD,h1];rfl
   simp only[BE,hb,hgd];exact⟨⟨i1,bN i2.ext _ _ hs.tmps,eC i2.ext _ _ hs.defs⟩,i2⟩
  ·cases hp
def Rn(s:St)(p:Pl):Option St:=match uz s p with
 |some v=>some (BE s (Ns v) p)
 |none=>none
theorem OY[aD]{H0:List af}{s s':St}{p:Pl}(h:Rn s p=some s'):iG H0 s s':=by
 unfold Rn at h;split at h
 ·rename_i v hv;simp only[Option.some.injEq]at h;subst h;intro g0 w0 g a w _ hl hs;obtain⟨h1,h2⟩:=yt hv hs fun _=>It
  exact⟨g,h1,hl.trans h2⟩
 ·cases h
def OZ(s:St)(p:Pl)(sz:Nat):Option St:=match uz s p,decide (0<sz)with
 |some (.sc (.slice none 0 0)),true=>some (BE {s with H:=s.H++[.row 0 sz []]} (.sl s.H.length 0 sz 0 0) p)
 |some _,_=>some s
 |none,_=>none
theorem Nu[aD]{H0:List af}{s s':St}{p:Pl}{sz:Nat}(h:OZ s p sz=some s'):iG H0 s s':=by
 unfold OZ at h;split at h
 ·rename_i hv hz;simp only[Option.some.injEq]at h;subst h;intro g0 w0 g a w _ hl hs;obtain⟨i1,i2⟩:=hs.inv.SQ (sz:=sz) (by simpa using hz)
  have hs1:ff g {s with H:=s.H++[.row 0 sz []]} a w:=⟨i1,bN i2.ext _ _ hs.tmps,eC i2.ext _ _ hs.defs⟩;have hv1:uz {s with H:=s.H++[.row 0 sz []]} p=some (.sc (.slice none 0 0)):=by
   cases p with
   |s d=>exact hv
   |c d j=>
    grind [uz]
   |b b j=>
    grind [uz]
  obtain⟨h1,h2⟩:=yt hv1 hs1 (v':=.sl s.H.length 0 sz 0 0) fun x hx=>by
   have:=gA hx;subst this;simp[R]
  exact⟨g,h1,(hl.trans i2).trans h2⟩
 ·grind [iG.refl]
 ·cases h
set_option linter.unusedVariables false in
theorem O0[aD]{g:Gh}{H:List af}{w:World}{g0:Gh}{H0:List af}{w0:World}(hi0:Inv g0 H0 w0)(hi:Inv g H w)(hl:aU g0 H0 w0 g H w){b ak sz:Nat}{rows:List (List AVal)}(hb:H[b]? =some (.row ak sz rows)):
 Inv {aj:=g.aj,st:=fun k o=>g.st k o∨∃z,g.aj b ak=some (k,z)} (H.set b .dead) w∧aU g0 H0 w0 {aj:=g.aj,st:=fun k o=>g.st k o∨∃z,g.aj b ak=some (k,z)} (H.set b .dead) w∧
 Ext g w {aj:=g.aj,st:=fun k o=>g.st k o∨∃z,g.aj b ak=some (k,z)} w:=by
 have hext:Ext g w {aj:=g.aj,st:=fun k o=>g.st k o∨∃z,g.aj b ak=some (k,z)} w:=⟨fun _ _ _ h=>h,fun _ _ h=>.inl h,fun _ _ _=>rfl,fun _ _ h=>h⟩
 have f:∀(b':Nat) (x':af),(H.set b af.dead)[b']? =some x'→x'=.dead∨(b'≠b∧H[b']? =some x'):=by
  intro b' x' h;rcases bT h with⟨rfl,he,_⟩ |⟨h1,h⟩
  ·exact .inl he
  ·exact .inr ⟨h1,h⟩
 refine⟨⟨?_,?_,?_,?_,?_,?_,hi.di.mono hext⟩,⟨⟨hl.ext.aj,fun k o h=>.inl (hl.ext.st k o h),hl.ext.cell,hl.ext.shape⟩,hl.size,hl.keep,?_,by simpa using hl.len,hl.os,hl.tape,hl.output,?_,?_,hl.tu⟩,hext⟩
 ·intro b' x' h;rcases f _ _ h with rfl |⟨hne,h⟩
  ·trivial
  ·exact kL hext (hi.good b' x' h) (fun _ _ _ _ _=>rfl) fun _ _ h=>h
 ·intro b1 b2 x1 x2 v1 v2 k z1 z2 h1 h2 l1 l2;rcases f _ _ h1 with rfl |⟨_,h1⟩
  ·cases l1
  ·rcases f _ _ h2 with rfl |⟨_,h2⟩
   ·cases l2
   ·exact hi.inj b1 b2 x1 x2 v1 v2 k z1 z2 h1 h2 l1 l2
 ·grind [hi.fresh]
 ·intro b' x' v v' h hlv;rcases f _ _ h with rfl |⟨_,h⟩
  ·cases hlv
  ·exact hi.next b' x' v v' h hlv
 ·intro b' x' v k z o h hlv hk hs;rcases f _ _ h with rfl |⟨hne,h⟩
  ·cases hlv
  ·rcases hs with hs |⟨z',hz⟩
   ·exact hi.free b' x' v k z o h hlv hk hs
   ·exact hne (hi.inj b' b x' _ v ak k z z' h hb hlv rfl hk hz)
 ·intro k o hs;rcases hs with hs |⟨z,hz⟩
  ·exact hi.fh k o hs
  ·exact hi.rI hb rfl hz
 ·rintro k hk ⟨b',x',v,z,h,hlv,hz⟩;rcases f _ _ h with rfl |⟨_,h⟩
  ·cases hlv
  ·exact hl.own k hk ⟨b',x',v,z,h,hlv,hz⟩
 ·rintro k o hk (hs |⟨z,hz⟩)
  ·rcases hl.stk k o hk hs with h1 |⟨h1,h2⟩
   ·exact .inl h1
   ·refine .inr ⟨h1,?_⟩;rintro⟨b',x',v,z,h,hlv,hz⟩;rcases f _ _ h with rfl |⟨_,h⟩
    ·cases hlv
    ·exact h2 ⟨b',x',v,z,h,hlv,hz⟩
  ·refine .inr ⟨hl.own k hk ⟨b,_,ak,z,hb,rfl,hz⟩,?_⟩;rintro⟨b',x',v,z',h,hlv,hz'⟩;rcases f _ _ h with rfl |⟨hne,h⟩
   ·cases hlv
   ·exact hne (hi.inj b' b x' _ v ak k z' z h hb hlv rfl hz' hz)
 ·intro b1 hb1;obtain⟨d1,d2⟩:=hl.ug b1 hb1;grind
def O3(_H0:List af)(s:St)(p:Pl)(rows:List (List AVal)):Option St:=match uz s p with
 |some (.sl b ak sz 0 _)=>match s.H[b]? with
  |some (.row ver' sz' _)=>match decide (ver'=ak∧sz'=sz)with
   |true=>some (BE {s with H:=s.H.set b .dead} (.av rows) p)
   |false=>none
  |_=>none
 |_=>none
def Sj(s:St)(p:Pl)(rows:List (List AVal)):Prop:=∃b ak sz,uz s p=some (.sl b ak sz 0 rows.length)∧s.H[b]? =some (.row ak sz rows)∧rows.all AVal.aX=true
theorem Nv[aD]{H0:List af}{s s':St}{p:Pl}{rows:List (List AVal)}(hok:Sj s p rows)(h:O3 H0 s p rows=some s'):iG H0 s s':=by
 obtain⟨b,ak,sz,h1,h2,h3⟩:=hok;unfold O3 at h;rw[h1]at h;simp only at h;split at h
 ·rename_i ver' sz' rows' hb;rw[h2]at hb;simp only[Option.some.injEq,af.row.injEq]at hb;obtain⟨rfl,rfl,rfl⟩:=hb;split at h
  ·simp only[Option.some.injEq]at h;subst h;intro g0 w0 g a w hi0 hl hs;obtain⟨i1,i2,i3⟩:=O0 hi0 hs.inv hl h2;have hs1:ff {aj:=g.aj,st:=fun k o=>g.st k o∨∃z,g.aj b ak=some (k,z)} {s with H:=s.H.set b .dead} a w:=⟨i1,bN i3 _ _ hs.tmps,eC i3 _ _ hs.defs⟩
   have key0:∀(l:List AVal) (j:Nat) (y:AVal),AVal.aX l=true→l[j]? =some y→y.pure=true:=by
    intro l;induction l with
    |nil=>intro j y _ h;simp at h
    |cons c cs ih3=>
     grind [AVal.aX]
   have hgp:uz {s with H:=s.H.set b .dead} p=some (.sl b ak sz 0 rows.length):=by
    cases p with
    |s d=>exact h1
    |c d j=>
     simp only[uz]at h1 ⊢;split at h1
     ·grind [af.row.injEq,AVal.pure]
     ·cases h1
    |b b2 j=>
     grind [uz,af.row.injEq,AVal.pure]
   obtain⟨q1,q2⟩:=yt hgp hs1 (v':=.av rows) fun x hx=>by
    simp only[R]at hx ⊢;rcases hx with⟨hn,rfl⟩ |⟨k,cap,e',sz2,hk,rfl,hsh,hcs,hm,hmax⟩
    ·simp_all
    ·obtain⟨k',c,e,r1,r2,r3,r4,r5,r6⟩:=hs.inv.row b ak _ _ h2 hk;rw[hk]at r1;simp at r1;subst r1;refine⟨_,cap,rfl,by omega,.inr ⟨k,0*sz,sz,rfl,Bv fun i r hr=>?_⟩⟩
     obtain⟨t1,t2⟩:=cR _ _ _ _ r3 hr;grind [yo,lD,pz,iL]
   exact⟨_,q1,i2.trans q2⟩
  ·cases h
 ·cases h
end Go.AM
end
section
namespace Go.AM
def jl(n:Nat):List AVal:=List.replicate n .aq
def ap(a b:List AVal):List AVal:=a++b
section
variable [aD] {P:Program} {cfg:eP} {g:Gh} {H:List af} {w:World} {fro:Option Nat}
def fJ(P:Program)(fro:Option Nat)(g0:Gh)(H0:List af)(w0:World)[aD](c:Code)(s:St)(Φ:bz→St→Prop):Prop:=
 ∀(Q:Exit→Act→World→Prop) (g:Gh) (a:Act) (w:World),ff g s a w→aU g0 H0 w0 g s.H w→(∀o s',Φ o s'→fI Q g0 H0 w0 s' o)→c.wpIn (Fr fro) 0 P Q a w
variable {g0:Gh} {H0:List af} {w0:World}
theorem fJ.mono{c:Code}{s:St}{Φ Ψ:bz→St→Prop}(h:fJ P fro g0 H0 w0 c s Φ)(hp:∀o s',Φ o s'→Ψ o s'):fJ P fro g0 H0 w0 c s Ψ:=
 fun Q g a w hs hl hk=>h Q g a w hs hl fun o s' hf=>hk o s' (hp o s' hf)
theorem fJ.skip{s:St}{Φ:bz→St→Prop}(h:Φ .normal s):fJ P fro g0 H0 w0 .skip s Φ:=
 fun _ g a w hs hl hp=>wpIn_skip (hp _ _ h g a w hs hl)
theorem fJ.exit{s:St}{Φ:bz→St→Prop}{id:Nat}(h:Φ (.exit id) s):fJ P fro g0 H0 w0 (.exit id) s Φ:=
 fun _ g a w hs hl hp=>wpIn_exit (hp _ _ h g a w hs hl)
theorem fJ.ret{s:St}{Φ:bz→St→Prop}(h:Φ .ret s):fJ P fro g0 H0 w0 .ret s Φ:=
 fun _ g a w hs hl hp=>wpIn_ret (hp _ _ h g a w hs hl)
def DE:eX→bz×St
 | .ok s=>(.normal,s)
 | .bk v s=>(.bk v,s)
theorem fJ.region(hm:P.follows .mixedOrders=true){orcs:Nat→kq}(ho:∀k,gN P (orcs k)){id:Nat}{ops:Array Oper}{draw:Bool}{s:St}{r:eX}{Φ:bz→St→Prop}(hcalm:∀(k:Nat) (o:Oper),ops[k]? =some o→Calm fro o)
 (h:uN P cfg orcs ops draw s=some r) (hr:Φ (DE r).1 (DE r).2):fJ P fro g0 H0 w0 (.region id ops draw) s Φ:=by
 intro Q g a w hs hl hp;cases r with
 |ok s'=>exact vl hm ho hcalm h hs (qW.later (r:=.ok s') (hp _ _ hr) hl)
 |bk v s'=>exact vl hm ho hcalm h hs (qW.later (r:=.bk v s') (hp _ _ hr) hl)
theorem fJ.seq{a b:Code}{s:St}{Φ:bz→St→Prop}(h:fJ P fro g0 H0 w0 a s fun o s'=>match o with | .normal=>fJ P fro g0 H0 w0 b s' Φ |o=>Φ o s'):fJ P fro g0 H0 w0 (.seq a b) s Φ:=by
 intro Q g x w hs hl hp;refine wpIn_seq (h _ g x w hs hl fun o s' hf=>?_)
 cases o with
 |normal=>exact fun g' a' w' hs' hla=>hf Q g' a' w' hs' hla hp
 |exit id=>exact hp _ _ hf
 |ret=>exact hp _ _ hf
 |bk v=>exact hp _ _ hf
theorem fJ.cond{c:Operand}{a b:Code}{s:St}{Φ:bz→St→Prop}(z:Bool)(hc:cS s.A c=.sc (.bool z))(h:fJ P fro g0 H0 w0 (if z then a else b) s Φ):fJ P fro g0 H0 w0 (.cond c a b) s Φ:=by
 intro Q g x w hs hl hp;have hev:=hs.eval c;rw[hc]at hev;simp only[R]at hev;cases z with
 |true=>exact wpIn_cond_true hev (h Q g x w hs hl hp)
 |false=>exact wpIn_cond_false hev (h Q g x w hs hl hp)
def behind(id:Nat):bz→bz
 | .exit id'=>if id'=id then .normal else .exit id'
 |o=>o
theorem fJ.block{id:Nat}{b:Code}{s:St}{Φ:bz→St→Prop}(h:fJ P fro g0 H0 w0 b s fun o s'=>Φ (behind id o) s'):fJ P fro g0 H0 w0 (.block id b) s Φ:=by
 intro Q g x w hs hl hp;refine wpIn_block (h _ g x w hs hl fun o s' hf=>?_)
 cases o with
 |normal=>exact fun g' a' w' hs' hla=>hp _ _ hf g' a' w' hs' hla
 |exit id'=>
  intro g' a' w' hs' hla;by_cases he:id'=id
  ·simp only[behind,he,if_true]at hf;simp only[Exit.inBlock,he,if_true];exact hp _ _ hf g' a' w' hs' hla
  ·simp only[behind,he,if_false]at hf;simp only[Exit.inBlock,he,if_false];exact hp _ _ hf g' a' w' hs' hla
 |ret=>exact fun g' a' w' hs' hla=>hp _ _ hf g' a' w' hs' hla
 |bk v=>exact fun g' a' w' x hv hs' hla hr=>hp _ _ hf g' a' w' x hv hs' hla hr
theorem fI.weak{Q:Exit→Act→World→Prop}{g0:Gh}{H0:List af}{w0:World}(hi0:Inv g0 H0 w0){s' s'':St}{o:bz}(hw:iG H0 s' s'')(h:fI Q g0 H0 w0 s'' o):fI Q g0 H0 w0 s' o:=by
 cases o with
 |normal=>exact fun g' a' w' hs hl'=>let⟨g2,h1,h2⟩:=hw g0 w0 g' a' w' hi0 hl' hs;h g2 a' w' h1 h2
 |exit id=>exact fun g' a' w' hs hl'=>let⟨g2,h1,h2⟩:=hw g0 w0 g' a' w' hi0 hl' hs;h g2 a' w' h1 h2
 |ret=>exact fun g' a' w' hs hl'=>let⟨g2,h1,h2⟩:=hw g0 w0 g' a' w' hi0 hl' hs;h g2 a' w' h1 h2
 |bk v=>exact fun g' a' w' x hv hs hl' hr=>let⟨g2,h1,h2⟩:=hw g0 w0 g' a' w' hi0 hl' hs;h g2 a' w' x hv h1 h2 (k6 _ _ hv hr)
theorem fJ.weak(hi0:Inv g0 H0 w0){c:Code}{s s1:St}{Φ:bz→St→Prop}(hw:iG H0 s s1)(h:fJ P fro g0 H0 w0 c s1 Φ):fJ P fro g0 H0 w0 c s Φ:=by
 intro Q g a w hs hl hp;obtain⟨g2,h1,h2⟩:=hw g0 w0 g a w hi0 hl hs;exact h Q g2 a w h1 h2 hp
theorem fJ.loop(hi0:Inv g0 H0 w0){b:Code}{s s0:St}{n:Nat}{Φ:bz→St→Prop}(J:Nat→St→Prop)(h0:∀s,¬J 0 s)(hs0:iG H0 s s0)(hJ:J n s0)
 (hb:∀n s1,J (n+1) s1→fJ P fro g0 H0 w0 b s1 fun o s2=>∃s3,iG H0 s2 s3∧match o with | .normal=>J n s3 |o=>Φ o s3):fJ P fro g0 H0 w0 (.loop b) s Φ:=by
 intro Q gs a0 ws hs hl hp;have key:∀(n:Nat) (s1:St) (g:Gh) (a:Act) (w:World),J n s1→ff g s1 a w→aU g0 H0 w0 g s1.H w→
  ∀(fr:Frame) (k:List Item) (cs:List Frame),fr.roundOf=(Fr fro).round→∃e a' w',Q e a' w'∧ArrivesIn (Machine.fenced P (Fr fro)) P (lone (fr.atR a (.code b:: .inLoop b::k)) cs w) fr k cs e a' w':=by
  intro n;induction n with
  |zero=>grind
  |succ n ih=>
   intro s1 g a w hj hsim hla fr k cs hfr;have hstep:b.wpIn (Fr fro) 0 P (Exit.then (fun a' w'=>∀(fr:Frame) (k:List Item) (cs:List Frame),fr.roundOf=(Fr fro).round→∃e a2 w2,Q e a2 w2∧ArrivesIn (Machine.fenced P (Fr fro)) P (lone (fr.atR a' (.code b:: .inLoop b::k)) cs w') fr k cs e a2 w2) Q) a w:=by
    refine hb n s1 hj _ g a w hsim hla fun o s2 ⟨s3,hw,hf⟩=>?_
    cases o with
    |normal=>
     intro g' a' w' hs' hla';obtain⟨g2,h1,h2⟩:=hw g0 w0 g' a' w' hi0 hla' hs';exact ih s3 g2 a' w' hf h1 h2
    |exit id=>exact fI.weak hi0 (o:=.exit id) hw (hp _ _ hf)
    |ret=>exact fI.weak hi0 (o:=.ret) hw (hp _ _ hf)
    |bk v=>exact fI.weak hi0 (o:=.bk v) hw (hp _ _ hf)
   obtain⟨e,a₁,w₁,hq,harr⟩:=hstep fr (.inLoop b::k) cs hfr trivial (DC _ _);cases e with
   |normal=>
    obtain⟨e₂,a₂,w₂,hq₂,harr₂⟩:=hq fr k cs hfr;exact⟨e₂,a₂,w₂,hq₂,.of_steps (StepsIn.trans harr (.one (fenced_calm (n:=0) trivial (DC _ _) rfl) stepR_inLoop)) harr₂⟩
   |exit id=>exact⟨_,a₁,w₁,hq,.pass (x:=.inLoop b) rfl (fun _ _=>.inl (by simp)) harr⟩
   |goto l=>exact⟨_,a₁,w₁,hq,.pass (x:=.inLoop b) rfl (fun _ _=>.inl (by simp)) harr⟩
   |ret=>exact⟨_,a₁,w₁,hq,.pass (x:=.inLoop b) rfl (fun _ _=>.inl (by simp)) harr⟩
   |panic ch=>exact⟨_,a₁,w₁,hq,.pass (x:=.inLoop b) rfl (fun _ _=>.inl (by simp)) harr⟩
   |outgrown=>exact⟨_,a₁,w₁,hq,.pass (x:=.inLoop b) rfl (fun _ _=>.inl (by simp)) harr⟩
 obtain⟨g1,h1,h2⟩:=hs0 g0 w0 gs a0 ws hi0 hl hs;intro fr k cs hfr _ hroom;obtain⟨e,a',w',hq,harr⟩:=key n s0 g1 a0 ws hJ h1 h2 fr k cs hfr;exact⟨e,a',w',hq,.of_steps (.one (fenced_calm trivial hroom rfl) stepR_loop) harr⟩
end
inductive Sh:Type 1 where
 |one (τ:Type)
 |two (a b:Sh)
def Sh.El:Sh→Type
 | .one τ=>τ
 | .two a b=>a.El⊕b.El
def Sh.all:(s:Sh)→(s.El→Prop)→Prop
 | .one _,p=>∀x,p x
 | .two a b,p=>a.all (fun x=>p (.inl x))∧b.all (fun x=>p (.inr x))
theorem Sh.cC:∀(s:Sh) (p:s.El→Prop),s.all p↔∀x,p x
 | .one _,p=>Iff.rfl
 | .two a b,p=>by
  simp only[Sh.all,Sh.cC a,Sh.cC b];exact⟨fun h x=>match x with | .inl y=>h.1 y | .inr y=>h.2 y,fun h=>⟨fun y=>h (.inl y),fun y=>h (.inr y)⟩⟩
namespace AVal
mutual
def ye(b v:Nat):AVal→AVal
 | .sc x=>.sc x
 | .agg cs=>.agg (vn b v cs)
 | .cQ cs=>.cQ (vn b v cs)
 | .ptr _ _ i o=>.ptr b v i o
 | .cm cs o=>.cm cs o
 | .sl _ _ sz o n=>.sl b v sz o n
 | .av rows=>.av rows
 | .fn f c d=>.fn f (vn b v c) (vn b v d)
 | .gd t a=>.gd t (ye b v a)
 | .mp x=>.mp x
 | .jJ x=>.jJ x
 | .sa _ _ i o s n=>.sa b v i o s n
 | .gT i o=>.gT i o
 | .emp=>.emp
 | .nz x=>.nz x
 | .aq=>.aq
def vn(b v:Nat):List AVal→List AVal
 | []=>[]
 |a::as=>ye b v a::vn b v as
end
mutual
def um:AVal→Bool
 | .sc _=>true
 | .agg cs=>nH cs
 | .cQ cs=>nH cs
 | .ptr b v .. =>b==0&&v==0
 | .cm .. =>true
 | .sl b v .. =>b==0&&v==0
 | .av _=>true
 | .fn _ c d=>nH c&&nH d
 | .gd _ a=>um a
 | .mp _=>false
 | .jJ _=>false
 | .sa b v .. =>b==0&&v==0
 | .gT _ _=>true
 | .emp=>true
 | .nz _=>true
 | .aq=>true
def nH:List AVal→Bool
 | []=>true
 |a::as=>um a&&nH as
end
mutual
def but(b:Nat):AVal→AVal
 | .sc x=>.sc x
 | .agg cs=>.agg (yW b cs)
 | .cQ cs=>.cQ (yW b cs)
 | .ptr c v i o=>match Nat.beq c b with
  |true=>.ptr c v i o
  |false=>.aq
 | .cm cs o=>.cm cs o
 | .sl c v sz o n=>match Nat.beq c b with
  |true=>.sl c v sz o n
  |false=>.aq
 | .av rows=>.av rows
 | .fn f c d=>.fn f (yW b c) (yW b d)
 | .gd t a=>.gd t (but b a)
 | .mp _=>.aq
 | .jJ _=>.aq
 | .sa c v i o s n=>match Nat.beq c b with
  |true=>.sa c v i o s n
  |false=>.aq
 | .gT i o=>.gT i o
 | .emp=>.emp
 | .nz x=>.nz x
 | .aq=>.aq
def yW(b:Nat):List AVal→List AVal
 | []=>[]
 |a::as=>but b a::yW b as
end
end AVal
def af.mC:af→Bool
 | .row ak _ rows=>ak==0&&rows.all AVal.aX
 |_=>false
def af.mM(v:Nat):af→af
 | .row _ sz rows=>.row v sz rows
 |x=>x
def aQ.BF:aQ→Bool
 | .ret v=>v.pure
 | .bk v=>v.flat
def AVal.zV(b v:Nat):AVal→AVal
 | .sl _ _ sz o n=>.sl b v sz o n
 |u=>u
def aQ.zV(b v:Nat):aQ→aQ
 | .ret u=>.ret (u.zV b v)
 | .bk u=>.bk u
def aQ.Cj:aQ→Bool
 | .ret (.sl b v _ _ _)=>b==0&&v==0
 | .ret u=>u.pure
 | .bk u=>u.flat
theorem aQ.Nw{r:aQ}(h:r.BF=true):r.Cj=true:=by
 cases r with
 |ret u=>cases u<;>first |exact h |cases h
 |bk u=>exact h
def kr(P:Program)[aD](f:FuncId)(args:List AVal)(r:aQ):Prop:=
 (∃ fn c, P.funcs[f]? = some fn ∧ fn.body = some c ∧ fn.name ≠ "runtime.NumGoroutine") ∧
 ∀g w (vs:Array Value),Inv g [] w→RL g w args vs.toList→Calls P f vs w (fE g [] w r [])
def bI(P:Program)[aD](f:FuncId)(args:List AVal)(H:List af)(r:aQ)(H1:List af):Prop:=
 (∃ fn c, P.funcs[f]? = some fn ∧ fn.body = some c ∧ fn.name ≠ "runtime.NumGoroutine") ∧
 ∀g w (vs:Array Value),Inv g H w→RL g w args vs.toList→Calls P f vs w (fE g H w r H1)
structure tB(P:Program)[aD]:Type 1 where
 f:FuncId
 X:Type
 args:X→List AVal
 heap:X→List af
 sh:Sh
 out:sh.El→aQ
 iz:X→sh.El→List af
 S:Nat→X→Option sh.El
 ok:∀n x r,S n x=some r→bI P f (args x) (heap x) (out r) (iz x r)
structure aI(P:Program)[aD]:Type 1 where
 f:FuncId
 X:Type
 args:X→List AVal
 sh:Sh
 out:sh.El→aQ
 S:Nat→X→Option sh.El
 ok:∀n x r,S n x=some r→kr P f (args x) (out r)
structure dJ(P:Program)[aD]:Type 1 where
 f:FuncId
 X:Type
 args:X→List AVal
 blk:X→af
 sh:Sh
 out:sh.El→aQ
 ru:X→sh.El→af
 S:Nat→X→Option sh.El
 a0:∀x,AVal.nH (args x)=true
 b0:∀x,(blk x).mC=true
 b1:∀x r,(ru x r).mC=true∨ru x r=.dead
 r0:∀r,(out r).Cj=true
 ok:∀n x r,S n x=some r→bI P f (args x) [blk x] (out r) [ru x r]
structure qL(X:Type) where
 run:Option X
 bB:X→dL
 ids:List Nat
 tj:aD→Program→eP→Nat→Op→(Operand→AVal)→List af→Prop
 kQ:Prop
 holds:kQ
 sound:∀(gl:aD) (P:Program) (cfg:eP) (nid:Nat) (op:Op) (aj:Operand→AVal) (H:List af),tj gl P cfg nid op aj H→∀x,run=some x→
  (cq P cfg nid aj op).run H=some (.bB (bB x))∧(cq P cfg nid aj op).reads H=ids
structure PU where
 b:Nat
 blk:af
 pf:qX blk=true
def vo:af→Bool
 | .row _ _ rows=>rows.all AVal.aX
 | .map _ es=>es.all fun p=>p.1.pure&&p.2.1.pure
 |_=>false
theorem zW{x:af}(h:vo x=true):(∃v sz rows,x=.row v sz rows∧rows.all AVal.aX=true)∨∃c es,x=.map c es∧(es.all fun p=>p.1.pure&&p.2.1.pure)=true:=by
 unfold vo at h;grind
structure PR where
 b:Nat
 blk:af
 pf:vo blk=true
def PR.ofRow(b ak sz:Nat)(rows:List (List AVal))(pf:rows.all AVal.aX=true):PR:=⟨b,.row ak sz rows,pf⟩
structure FZ where
 p:Pl
 b:Nat
 ak:Nat
 sz:Nat
 n:Nat
 rows:List (List AVal)
 pf:rows.all AVal.aX=true
structure PK where
 b:Nat
 mb:Nat
 n:Nat
 es:List (AVal×AVal×Nat)
 pf:es.length=n∧∀(i:Nat) p,es[i]? =some p→p.2.2=i
structure GK where
 {X:Type}
 l:List X
 m:List X
 enc:X→List AVal
 n:Nat
 bytes:Nat
 b:Nat
 ak:Nat
 len:Nat
def GK.ok(z:GK):Bool:=decide (z.len=z.l.length)&&roomy (z.l.length+z.m.length) z.bytes
def Fw(P:Program)(ST XT:TypeId):Option (Nat×Nat):=
 match P.underlying ST,P.underlying XT with
 |some (.slice e),some (.slice _)=>match P.info? e with
  |some i=>if decide (0<i.size)&&oI i then some (i.size,i.bytes)else none
  |none=>none
 |_,_=>none
structure RW where
 p:Pl
 rows:List (List AVal)
 rows':List (List AVal)
 pf:rows.map ov=rows'
inductive TS where
 |keep (l:List Nat)
 |wk (p:Pl)
 |own (p:Pl) (sz:Nat)
 |gG (z:FZ)
 |Qe (z:RW)
 |cut (bl bump:List Nat) (pu:List PU)
inductive G (P:Program) [aD]:Type→Type 1 where
 |stop {ρ:Type}:G P ρ
 |done {ρ:Type} (ts:List TS) (r:ρ):G P ρ
 |fail {ρ:Type}:G P ρ
 |skip {ρ:Type} (n:Nat) (g:G P ρ):G P ρ
 |br {ρ:Type} (d:Tmp) (c:Bool) (t f:G P ρ):G P ρ
 |Ei {ρ:Type} (d:Tmp) (k:IntKind) (x c:Int) (t f:G P ρ):G P ρ
 |sp {ρ:Type} (c:Bool) (t f:G P ρ):G P ρ
 |op {ρ X:Type} (t:qL X) (k:X→G P ρ):G P ρ
 |call {ρ:Type} (c:aI P) (x:c.X) (k:c.sh.El→G P ρ):G P ρ
 |cM {ρ:Type} (c:tB P) (x:c.X) (k:c.sh.El→G P ρ):G P ρ
 |aC {ρ:Type} (c:dJ P) (b v:Nat) (ex:List PR) (x:c.X) (k:c.sh.El→G P ρ):G P ρ
 |tidy {ρ:Type} (l:List TS) (g:G P ρ):G P ρ
 |loop {ρ σ:Type} (sh:Sh) (hd:List TS) (E:σ→St) (X:sh.El→bz×St) (a0:σ) (body:σ→G P (σ⊕sh.El)) (k:sh.El→G P ρ):G P ρ
 |nV {ρ:Type} (hs sh:Sh) (hd:List TS) (E:hs.El→St) (X:sh.El→bz×St) (a0:hs.El) (body:hs.El→G P (hs.El⊕sh.El)) (k:sh.El→G P ρ):G P ρ
 |gH {ρ:Type} (n:Nat) (g:G P ρ):G P ρ
 |wX {ρ:Type} (Q:Prop) (h:Q) (g:G P ρ):G P ρ
 |join {ρ:Type} (sh:Sh) (Y:sh.El→bz×St) (g:G P sh.El) (k:sh.El→G P ρ):G P ρ
 |pick {ρ:Type} (z:PK) (seen:List Nat) (k:Option Nat→G P ρ):G P ρ
 |grow {ρ:Type} (z:GK) (k:Bool→G P ρ):G P ρ
 |inl {ρ:Type} (pr:List PR) (g:G P ρ):G P ρ
def aZ:List TS→Bool
 | []=>true
 | .gG z::ts=>decide (z.n=z.rows.length)&&aZ ts
 |_::ts=>aZ ts
def cG{σ τ:Type}(f:σ→Option (σ⊕τ)):Nat→σ→Option τ
 | 0,_=>none
 |n+1,a=>match f a with
  |some (.inl a')=>cG f n a'
  |some (.inr t)=>some t
  |none=>none
section
variable {P:Program} [aD]
def G.run(n:Nat):{ρ:Type}→G P ρ→Option ρ
 |_,.stop=>none
 |_,.done ts r=>if aZ ts then some r else none
 |_,.fail=>none
 |_,.skip _ g=>g.run n
 |_,.br _ c t f=>if c then t.run n else f.run n
 |_,.Ei _ _ x c t f=>if x=c then t.run n else f.run n
 |_,.sp c t f=>if c then t.run n else f.run n
 |_,.op t k=>t.run.bind fun x=>(k x).run n
 |_,.call c x k=>(c.S n x).bind fun r=>(k r).run n
 |_,.cM c x k=>(c.S n x).bind fun r=>(k r).run n
 |_,.aC c _ _ _ x k=>(c.S n x).bind fun r=>(k r).run n
 |_,.tidy l g=>if aZ l then g.run n else none
 |_,.loop _ hd _ _ a0 body k=>if aZ hd then(cG (fun a=>(body a).run n) n a0).bind fun t=>(k t).run n else none
 |_,.nV _ _ hd _ _ a0 body k=>if aZ hd then(cG (fun a=>(body a).run n) n a0).bind fun t=>(k t).run n else none
 |_,.gH _ g=>g.run n
 |_,.wX _ _ g=>g.run n
 |_,.join _ _ g k=>(g.run n).bind fun t=>(k t).run n
 |_,.pick _ _ _=>none
 |_,.grow _ _=>none
 |_,.inl _ g=>g.run n
def L0{σ:Type}{sh:Sh}(E:σ→St)(X:sh.El→bz×St):σ⊕sh.El→Prop
 | .inl a=>(bz.normal,E a)=(bz.normal,E a)
 | .inr t=>X t=X t
def Sk{sh:Sh}(Y:sh.El→bz×St)(t:sh.El):Prop:=Y t=Y t
def EO:List PU→Prop
 | []=>True
 |p::ps=>some p.blk=some p.blk∧EO ps
def BG:List PR→Prop
 | []=>True
 |p::ps=>some p.blk=some p.blk∧BG ps
def nI:List TS→Prop→Prop
 | [],q=>q
 | .keep _::ts,q=>nI ts q
 | .wk _::ts,q=>nI ts q
 | .own _ _::ts,q=>nI ts q
 | .gG z::ts,q=>some (AVal.sl z.b z.ak z.sz 0 z.n)=some (AVal.sl z.b z.ak z.sz 0 z.n)∧some (af.row z.ak z.sz z.rows)=some (af.row z.ak z.sz z.rows)∧nI ts q
 | .cut _ _ pu::ts,q=>EO pu∧nI ts q
 | .Qe z::ts,q=>some (AVal.av z.rows)=some (AVal.av z.rows)∧nI ts q
omit [aD] in
theorem Ck:∀(l:List PU),EO l
 | []=>trivial
 |_::ps=>⟨rfl,Ck ps⟩
omit [aD] in
theorem xQ:∀(l:List PR),BG l
 | []=>trivial
 |_::ps=>⟨rfl,xQ ps⟩
omit [aD] in
theorem iM{q:Prop}(h:q):∀(l:List TS),nI l q
 | []=>h
 | .keep _::ts=>iM h ts
 | .wk _::ts=>iM h ts
 | .own _ _::ts=>iM h ts
 | .gG _::ts=>⟨rfl,rfl,iM h ts⟩
 | .cut _ _ pu::ts=>⟨Ck pu,iM h ts⟩
 | .Qe _::ts=>⟨rfl,iM h ts⟩
def G.fF:{ρ:Type}→(ρ→Prop)→G P ρ→Prop
 |_,_,.stop=>True
 |_,leaf,.done ts r=>nI ts (leaf r)
 |_,_,.fail=>True
 |_,leaf,.skip _ g=>g.fF leaf
 |_,leaf,.br _ c t f=>some (AVal.sc (.bool c))=some (AVal.sc (.bool c))∧t.fF leaf∧f.fF leaf
 |_,leaf,.Ei _ k x _ t f=>some (AVal.sc (.int k x))=some (AVal.sc (.int k x))∧t.fF leaf∧f.fF leaf
 |_,leaf,.sp _ t f=>t.fF leaf∧f.fF leaf
 |_,leaf,.op t k=>some true=some true∧t.kQ∧∀x,(k x).fF leaf
 |_,leaf,.call c x k=>some true=some true∧some (c.f,c.args x)=some (c.f,c.args x)∧c.sh.all fun r=>(k r).fF leaf
 |_,leaf,.cM c x k=>some true=some true∧some (c.f,c.args x,c.heap x)=some (c.f,c.args x,c.heap x)∧c.sh.all fun r=>(k r).fF leaf
 |_,leaf,.aC c b v ex x k=>some true=some true∧BG ex∧some (c.f,AVal.vn b v (c.args x),some ((c.blk x).mM v))=some (c.f,AVal.vn b v (c.args x),some ((c.blk x).mM v))∧c.sh.all fun r=>(k r).fF leaf
 |_,leaf,.tidy l g=>nI l (g.fF leaf)
 |_,leaf,.loop sh hd E X a0 body k=>nI hd (E a0=E a0)∧(∀a,(body a).fF (L0 E X))∧sh.all fun t=>(k t).fF leaf
 |_,leaf,.nV hs sh hd E X a0 body k=>nI hd (E a0=E a0)∧(hs.all fun a=>(body a).fF (L0 E X))∧sh.all fun t=>(k t).fF leaf
 |_,leaf,.gH _ g=>g.fF leaf
 |_,_,.wX Q _ _=>Q
 |_,leaf,.join sh Y g k=>g.fF (Sk Y)∧sh.all fun t=>(k t).fF leaf
 |_,leaf,.pick z seen k=>some true=some true∧AVal.ptr z.b 0 0 0=AVal.ptr z.b 0 0 0∧some (af.iter (.mp z.mb) z.n seen z.n)=some (af.iter (.mp z.mb) z.n seen z.n)∧some (af.map z.n z.es)=some (af.map z.n z.es)∧(k none).fF leaf∧∀i,(k (some i)).fF leaf
 |_,leaf,.grow z k=>some true=some true∧some af.bA=some af.bA∧ @Eq Bool true true∧some (z.n,z.bytes)=some (z.n,z.bytes)∧AVal.sl z.b z.ak z.n 0 z.len=AVal.sl z.b z.ak z.n 0 z.len∧some (af.row z.ak z.n (z.l.map z.enc))=some (af.row z.ak z.n (z.l.map z.enc))∧some (z.m.map z.enc)=some (z.m.map z.enc)∧(∀_:z.X,z.n=z.n)∧ @Eq Bool false false∧(k true).fF leaf∧(k false).fF leaf
 |_,leaf,.inl pr g=>some true=some true∧BG pr∧g.fF leaf
omit [aD] in
theorem Ej{σ:Type}{sh:Sh}(E:σ→St)(X:sh.El→bz×St):∀r,L0 E X r
 | .inl _=>rfl
 | .inr _=>rfl
theorem G.bR:∀{ρ:Type} {leaf:ρ→Prop} (_:∀r,leaf r) (g:G P ρ),g.fF leaf
 |_,_,_,.stop=>trivial
 |_,_,h,.done ts r=>iM (h r) ts
 |_,_,_,.fail=>trivial
 |_,_,h,.skip _ g=>G.bR h g
 |_,_,h,.br _ _ t f=>⟨rfl,G.bR h t,G.bR h f⟩
 |_,_,h,.Ei _ _ _ _ t f=>⟨rfl,G.bR h t,G.bR h f⟩
 |_,_,h,.sp _ t f=>⟨G.bR h t,G.bR h f⟩
 |_,_,h,.op t k=>⟨rfl,t.holds,fun x=>G.bR h (k x)⟩
 |_,_,h,.call c _ k=>⟨rfl,rfl,(c.sh.cC _).2 fun r=>G.bR h (k r)⟩
 |_,_,h,.cM c _ k=>⟨rfl,rfl,(c.sh.cC _).2 fun r=>G.bR h (k r)⟩
 |_,_,h,.aC c _ _ ex _ k=>⟨rfl,xQ ex,rfl,(c.sh.cC _).2 fun r=>G.bR h (k r)⟩
 |_,_,h,.tidy l g=>iM (G.bR h g) l
 |_,_,h,.loop sh hd E X _ body k=>⟨iM rfl hd,fun a=>G.bR (Ej E X) (body a),(sh.cC _).2 fun t=>G.bR h (k t)⟩
 |_,_,h,.nV hs sh hd E X _ body k=>⟨iM rfl hd,(hs.cC _).2 fun a=>G.bR (Ej E X) (body a),(sh.cC _).2 fun t=>G.bR h (k t)⟩
 |_,_,h,.gH _ g=>G.bR h g
 |_,_,_,.wX _ q _=>q
 |_,_,h,.join sh _ g k=>⟨G.bR (fun _=>rfl) g,(sh.cC _).2 fun t=>G.bR h (k t)⟩
 |_,_,h,.pick _ _ k=>⟨rfl,rfl,rfl,rfl,G.bR h (k none),fun i=>G.bR h (k (some i))⟩
 |_,_,h,.grow _ k=>⟨rfl,rfl,rfl,rfl,rfl,rfl,rfl,fun _=>rfl,rfl,G.bR h (k true),G.bR h (k false)⟩
 |_,_,h,.inl pr g=>⟨rfl,xQ pr,G.bR h g⟩
def G.less{ρ:Type}:Nat→G P ρ→G P ρ
 | 0,g=>g
 |n+1,g=>.skip (n+1) g
theorem G.Jf{ρ:Type}(n m:Nat)(g:G P ρ):(G.less m g).run n=g.run n:=by cases m<;>simp[G.less,G.run]
end
structure As(P:Program)[aD] where
 fn:{ρ:Type}→FuncId→List AVal→List af→G P ρ→(G P ρ→aQ→List af→Prop)→Prop
 Ch:{ρ:Type}→Nat→List AVal→List af→G P ρ→(G P ρ→aQ→List af→Prop)→Prop
 lp:{σ:Type}→{sh:Sh}→Option Nat→List af→Code→G P (σ⊕sh.El)→(σ→St)→St→(sh.El→bz×St)→Prop
structure Env(P:Program)[aD] where
 cfg:eP
 ro:Option Nat
 N:As P
 nd:Bool
def Sl(P:Program)[aD]:As P:=⟨fun _ _ _ _ _=>False,fun _ _ _ _ _=>False,fun _ _ _ _ _ _ _=>False⟩
def L1(P:Program)[aD]{ρ:Type}(f:FuncId)(args:List AVal)(H:List af)(c:tB P)(x:c.X)(kk:c.sh.El→G P ρ)(k:G P ρ→aQ→List af→Prop):Prop:=
 some true=some true∧some (f,ov args,H)=some (c.f,c.args x,c.heap x)∧c.sh.all fun r=>k (kk r) (c.out r) (c.iz x r)
def uo(P:Program)[aD]:As P:=⟨fun f args H g k=>match g with
 | .cM c x kk=>L1 P f args H c x kk k
 |_=>False,fun _ _ _ _ _=>False,fun _ _ _ _ _ _ _=>False⟩
def Env.at{P:Program}[aD](X:Env P)(draw:Bool):Env P:=match draw&&X.nd with
 |true=>{X with N:=uo P}
 |false=>X
inductive SS (P:Program) [aD] {ρ:Type} (X:Env P) (ops:Array Oper) (n0:Nat) (o:Oper) (nid:Nat) (s:St) (k:G P ρ→eX→gM→Prop) (draw:Bool) (H0:List af):Prop
inductive Ro (P:Program) [aD] {ρ:Type} (X:Env P) (c:Operand) (a b:Code) (s:St) (k:G P ρ→bz→St→Prop) (H0:List af):Prop
inductive Rp (P:Program) [aD] {ρ:Type} (X:Env P) (b:Code) (s:St) (k:G P ρ→bz→St→Prop) (H0:List af):Prop
inductive QD (P:Program) [aD] {ρ:Type} (X:Env P) (f:Operand) (ps:Array Tmp) (assign body:Code) (s:St) (k:G P ρ→bz→St→Prop) (H0:List af):Prop
inductive Sm (P:Program) [aD] {ρ:Type} (fn:Func) (o:bz) (s:St) (out:ρ→aQ):Prop
inductive Rq (P:Program) [aD] {ρ:Type} (fn:Func) (o:bz) (s:St) (H0:List af) (k:G P ρ→List PR→bz→St→Prop):Prop
inductive Rr (P:Program) [aD] {ρ:Type} (b:Nat) (o:bz) (s:St) (H0:List af) (k:G P ρ→St→Prop):Prop
inductive Rs (P:Program) [aD] {sh:Sh} (H0:List af) (o:bz) (s:St) (Y:sh.El→bz×St):Prop
inductive QE (P:Program) [aD] {σ:Type} {sh:Sh} (H0:List af) (o:bz) (s:St) (E:σ→St) (X:sh.El→bz×St):Prop
inductive Fx (P:Program) [aD] {ρ:Type} (ops:Array Oper) (o:Oper) (s:St) (g:G P ρ):Prop
def wY(keep:List Nat):Nat→List AVal→List AVal
 |_,[]=>[]
 |i,a::as=>(match keep.contains i with |true=>a |false=>.aq)::wY keep (i+1) as
def La:List PU→List af→Prop
 | [],_=>True
 |p::ps,H=>H[p.b]? =some p.blk∧La ps H
def Lb:List PR→List af→Prop
 | [],_=>True
 |p::ps,H=>H[p.b]? =some p.blk∧Lb ps H
def jC(H0:List af):List TS→St→(St→Prop)→Prop
 | [],s,k=>k s
 | .keep l::ts,s,k=>iE (wY l 0 s.A) fun A=>jC H0 ts {s with A:=A} k
 | .wk p::ts,s,k=>match Rn s p with
  |some s=>jC H0 ts s k
  |none=>False
 | .own p sz::ts,s,k=>match OZ s p sz with
  |some s=>jC H0 ts s k
  |none=>False
 | .gG z::ts,s,k=>uz s z.p=some (.sl z.b z.ak z.sz 0 z.n)∧s.H[z.b]? =some (.row z.ak z.sz z.rows)∧match O3 H0 s z.p z.rows with
  |some s=>jC H0 ts s k
  |none=>False
 | .Qe z::ts,s,k=>uz s z.p=some (.av z.rows)∧jC H0 ts (BE s (.av z.rows') z.p) k
 | .cut bl bump pu::ts,s,k=>La pu s.H∧match OV bl bump (pu.map (·.b)) H0 s with
  |some ⟨A,H,D⟩=>iE A fun A=>iE H fun H=>jC H0 ts ⟨A,H,D⟩ k
  |none=>False
section
variable {P:Program} [aD]
def pg{ρ:Type}:G P ρ→St→(G P ρ→St→Prop)→Prop
 | .br d c t f,s,k=>s.A[d]? =some (.sc (.bool c))∧(Bs s.A d (.sc (.bool true)) fun A=>pg t {s with A:=A} k)∧(Bs s.A d (.sc (.bool false)) fun A=>pg f {s with A:=A} k)
 | .Ei d ik x c t f,s,k=>s.A[d]? =some (.sc (.int ik x))∧(Bs s.A d (.sc (.int ik c)) fun A=>pg t {s with A:=A} k)∧pg f s k
 | .sp _ t f,s,k=>pg t s k∧pg f s k
 | .fail,_,_=>True
 |g,s,k=>k g s
def wh:kq:=⟨fun _ _ _=>none,fun _ _ _=>none⟩
def L2(r:Option (aQ×List af)):kq:=⟨fun _ _ _=>r,fun _ _ _=>none⟩
def L3(H:List af):Option Pre→Option (FuncId×List AVal×List af)
 |some (.lG f args ids)=>some (f,ov args,mask ids H)
 |_=>none
def DF(ids:List Nat):List Nat→Bool
 | []=>true
 |c::cs=>ids.contains c&&DF ids cs
def zX:List Nat→List Nat→List Nat
 | [],seen=>seen
 |b::todo,seen=>match seen.contains b with
  |true=>zX todo seen
  |false=>zX todo (b::seen)
def wj:List Nat→List Nat→List Nat
 | [],_=>[]
 |b::todo,seen=>match seen.contains b with
  |true=>wj todo seen
  |false=>b::wj todo (b::seen)
def sU(P:Program)[aD](cfg:eP)(ids:List Nat)(aj:Operand→AVal):Op→Option (FuncId×List AVal×List Nat×List Nat)
 | .call {callee:=.value f,args:=args,.. }=>match aj f with
  | .fn (.func n) p q=>match P.funcs[n]? with
   |some fn=>match fn.body.isNone||cfg.val n||cfg.fz n with
    |false=>
     let l:=AVal.o9 (p++args.toList.map aj++q)
     match DF ids l&&Nat.ble l.length 900 with
     |true=>some (n,p++args.toList.map aj++q,zX l [],wj l [])
     |false=>none
    |true=>none
   |none=>none
  |_=>none
 |_=>none
def O4(H:List af)(b:Nat):Option (FuncId×List AVal×List Nat×List Nat)→Option (FuncId×List AVal×Option af)
 |some (f,args,ids,_)=>match ids.contains b with
  |true=>some (f,AVal.yW b (ov args),H[b]?)
  |false=>none
 |none=>none
def DG:Option (FuncId×List AVal×List Nat×List Nat)→List Nat×List Nat
 |some (_,_,ids,rs)=>(ids,rs)
 |none=>([],[])
def Jg:Option Pre→Option (FuncId×List AVal)
 |some (.Dz f args _)=>some (f,ov args)
 |_=>none
def sV(pr:List Nat)(H:List af):Nat→List Nat→List Nat→Option (List Nat×List Nat)
 |_,[],seen=>some (seen,[])
 | 0,_::_,_=>none
 |n+1,b::todo,seen=>match seen.contains b with
  |true=>sV pr H n todo seen
  |false=>match pr.contains b with
   |true=>(sV pr H n todo (b::seen)).map fun p=>(p.1,b::p.2)
   |false=>match H[b]? with
    |some (.row _ _ rows)=>(sV pr H n ((if rows.all AVal.aX then[]else AVal.o9 rows.flatten)++todo) (b::seen)).map fun p=>(p.1,b::p.2)
    |some (.loop _ _ _ A _ _ _)=>(sV pr H n (AVal.o9 A++todo) (b::seen)).map fun p=>(p.1,b::p.2)
    |some (.iter m _ _ _)=>(sV pr H n (AVal.refs m++todo) (b::seen)).map fun p=>(p.1,b::p.2)
    |some _=>(sV pr H n todo (b::seen)).map fun p=>(p.1,b::p.2)
    |none=>none
def EP(P:Program)[aD](cfg:eP)(pr:List Nat)(aj:Operand→AVal)(op:Op)(H:List af):Option ((FuncId⊕Nat)×List AVal×List Nat×List Nat):=
 match op with
 | .call {callee:=.value f,args:=args,.. }=>match aj f with
  | .fn (.func n) p q=>match P.funcs[n]? with
   |some fn=>match fn.body.isNone||cfg.val n||cfg.fz n with
    |false=>match sV pr H 1000 (AVal.o9 (p++args.toList.map aj++q)) []with
     |some (ids,rs)=>some (.inl n,p++args.toList.map aj++q,ids,rs)
     |none=>none
    |true=>none
   |none=>none
  | .jJ b=>match sV pr H 1000 (b::AVal.o9 (args.toList.map aj)) []with
   |some (ids,rs)=>some (.inr b,args.toList.map aj,ids,rs)
   |none=>none
  |_=>none
 |_=>none
def CO(ids:List Nat)(H:List af)(a:aQ)(H1:List af)(k:dL→List Nat→Bool→Prop)(kp:AVal→Prop):Prop:=
 match a with
 | .ret v=>match Nat.beq H1.length H.length with
  |true=>k {val:=v,eO:=ids.map fun i=>(i,H1.getD i .dead)} ids false
  |false=>match fQ H ids (some (.ret v,H1))with
   |some (.ok e)=>Gz e fun e=>k e (e.eO.map (·.1)) (!e.news.isEmpty)
   |_=>False
 | .bk v=>match v.flat with
  |true=>kp v
  |false=>False
def rQ{ρ:Type}(P:Program)[gl:aD](X:Env P)(draw:Bool)(H0:List af)(ops:Array Oper)(n0:Nat)(o:Oper)(nid:Nat)(g:G P ρ)(s:St)(k:G P ρ→eX→gM→Prop):Prop:=
 match g with
 | .skip (n+1) g'=>match fR P X.cfg wh ops n0 o nid s with
  |some (r,f)=>k (G.less n g') r f
  |none=>Fx P ops o s g'
 | .op t kk=>jm ops s.A o=some true∧t.tj gl P X.cfg nid o.op (cS s.A) s.H∧∀x,Gz (t.bB x) fun e=>tw s.A o.dst e.val fun A=>qJ e s.H fun H=>
  k (kk x) (.ok {s with A:=A,H:=H}) (iF n0 t.ids (.bB e) (e.eO.map (·.1)) (!e.news.isEmpty))
 | .call c x kk=>jm ops s.A o=some true∧Jg ((cq P X.cfg nid (cS s.A) o.op).run s.H)=some (c.f,c.args x)∧
  c.sh.all fun r=>match fR P X.cfg (L2 (some (c.out r,[]))) ops n0 o nid s with
   |some (r',f)=>k (kk r) r' f
   |none=>Fx P ops o s (kk r)
 | .cM c x kk=>jm ops s.A o=some true∧L3 s.H ((cq P X.cfg nid (cS s.A) o.op).run s.H)=some (c.f,c.args x,c.heap x)∧
  c.sh.all fun r=>match fR P X.cfg (L2 (some (c.out r,c.iz x r))) ops n0 o nid s with
   |some (r',f)=>k (kk r) r' f
   |none=>Fx P ops o s (kk r)
 | .aC c b v ex x kk=>jm ops s.A o=some true∧Lb ex s.H∧O4 s.H b (sU P X.cfg (b::ex.map (·.b)) (cS s.A) o.op)=some (c.f,AVal.vn b v (c.args x),some ((c.blk x).mM v))∧
  c.sh.all fun r=>match c.out r with
   | .ret u=>tw s.A o.dst (u.zV b v) fun A=>qJ {val:=u.zV b v,eO:=[(b,(c.ru x r).mM v)]} s.H fun H=>k (kk r) (.ok {s with A:=A,H:=H})
    (iF n0 (DG (sU P X.cfg (b::ex.map (·.b)) (cS s.A) o.op)).2 (.lG 0 [] []) (DG (sU P X.cfg (b::ex.map (·.b)) (cS s.A) o.op)).1 false)
   | .bk u=>k (kk r) (.bk u {s with H:=(DG (sU P X.cfg (b::ex.map (·.b)) (cS s.A) o.op)).1.foldl (fun H i=>H.set i .dead) s.H})
    (iF n0 (DG (sU P X.cfg (b::ex.map (·.b)) (cS s.A) o.op)).2 (.lG 0 [] []) (DG (sU P X.cfg (b::ex.map (·.b)) (cS s.A) o.op)).1 false)
 | .inl pr g'=>jm ops s.A o=some true∧Lb pr s.H∧match EP P X.cfg (pr.map (·.b)) (cS s.A) o.op s.H with
  |some (.inl f,args,ids,rs)=>vf (mask ids s.H) fun Hm=>X.N.fn f args Hm g' fun g2 a H1=>CO ids s.H a H1 (fun e ws nw=>tw s.A o.dst e.val fun A=>qJ e s.H fun H=>k g2 (.ok {s with A:=A,H:=H}) (iF n0 rs (.lG 0 [] []) ws nw))
   (fun v=>k g2 (.bk v {s with H:=ids.foldl (fun H i=>H.set i .dead) s.H}) (iF n0 rs (.lG 0 [] []) ids false))
  |some (.inr b,args,ids,rs)=>vf (mask ids s.H) fun Hm=>X.N.Ch b args Hm g' fun g2 a H1=>CO ids s.H a H1 (fun e ws nw=>tw s.A o.dst e.val fun A=>qJ e s.H fun H=>k g2 (.ok {s with A:=A,H:=H}) (iF n0 rs (.lG 0 [] []) ws nw))
   (fun v=>k g2 (.bk v {s with H:=ids.foldl (fun H i=>H.set i .dead) s.H}) (iF n0 rs (.lG 0 [] []) ids false))
  |none=>Fx P ops o s g'
 | .pick z seen kk=>match draw with
  |true=>False
  |false=>(match o.op with
   | .next it false=>jm ops s.A o=some true∧(cS s.A it=.ptr z.b 0 0 0∧s.H[z.b]? =some (.iter (.mp z.mb) z.n seen z.n)∧s.H[z.mb]? =some (.map z.n z.es)∧
    (tw s.A o.dst (.cQ [.sc (.bool false)]) fun A=>k (kk none) (.ok {s with A:=A}) ⟨[],[]⟩)∧
    ∀i,tw s.A o.dst (.cQ [.sc (.bool true),.aq,.aq]) fun A=>qJ {val:=nothing,eO:=[(z.b,.iter (.mp z.mb) z.n (seen++[i]) z.n)]} s.H fun H=>k (kk (some i)) (.ok {s with A:=A,H:=H}) ⟨[],[]⟩)
   |_=>False)
 | .grow z kk=>match draw with
  |true=>False
  |false=>(match o.op with
   | .call {callee:=.builtin .append,args:=args,argTypes:=ats}=>match ats[0]?,ats[1]?,args[0]?,args[1]? with
    |some ST,some XT,some sx,some x=>jm ops s.A o=some true∧s.H[nid]? =some .bA∧decide (args.size=2)=true∧Fw P ST XT=some (z.n,z.bytes)∧cS s.A sx=.sl z.b z.ak z.n 0 z.len∧s.H[z.b]? =some (.row z.ak z.n (z.l.map z.enc))∧
     (elems (cS s.A x)).run s.H=some (z.m.map z.enc)∧(∀x,(z.enc x).length=z.n)∧z.m.isEmpty=false∧
     (tw s.A o.dst (.sl z.b z.ak z.n 0 (z.l++z.m).length) fun A=>qJ {val:=nothing,eO:=[(z.b,.row z.ak z.n ((z.l++z.m).map z.enc))]} s.H fun H=>k (kk true) (.ok {s with A:=A,H:=H}) ⟨[],[]⟩)∧
     (tw s.A o.dst (.sl nid 0 z.n 0 (z.l++z.m).length) fun A=>qJ {val:=nothing,eO:=[(nid,.row 0 z.n ((z.l++z.m).map z.enc))]} s.H fun H=>k (kk false) (.ok {s with A:=A,H:=H}) ⟨[],[]⟩)
    |_,_,_,_=>False
   |_=>False)
 | .fail=>True
 | .stop=>SS P X ops n0 o nid s k draw H0
 |g=>Fx P ops o s g
def yu{ρ:Type}(P:Program)[gl:aD](X:Env P)(draw:Bool)(H0:List af)(ops:Array Oper)(n0:Nat)(o:Oper)(nid:Nat)(g:G P ρ)(s:St)(k:G P ρ→eX→gM→Prop):Prop:=
 match g with
 | .tidy l g'=>match draw with
  |true=>False
  |false=>jC H0 l s fun s'=>rQ P X draw H0 ops n0 o nid g' s' k
 |g=>rQ P X draw H0 ops n0 o nid g s k
def Au{ρ:Type}(P:Program)[aD](X:Env P)(draw:Bool)(H0:List af)(ops:Array Oper)(n0:Nat):List (Oper×Nat)→G P ρ→St→(G P ρ→eX→List gM→Prop)→Prop
 | [],g,s,k=>k g (.ok s) []
 | (o,nid)::rest,g,s,k=>pg g s fun g s=>yu P X draw H0 ops n0 o nid g s fun g r f=>match r with
  | .ok ⟨A,H,D⟩=>iE A fun A=>iE H fun H=>iE D fun D=>Au P X draw H0 ops n0 rest g ⟨A,H,D⟩ fun g r fs=>k g r (f::fs)
  | .bk v s'=>k g (.bk v s') [f]
def sW{ρ:Type}(P:Program)[aD](X:Env P)(H0:List af)(ops:Array Oper)(draw:Bool)(g:G P ρ)(s:St)(k:G P ρ→eX→Prop):Prop:=
 kj (nv ops.toList) fun c=>kj (if c=0 then 0 else qk s.H) fun t=>kj (c - t) fun m=>
 Ff s.H (List.replicate m .bA) fun H1=>
 kj H1.length fun n0=>Au P X draw H0 ops n0 (numbered (s.H.length - t) ops.toList) g {s with H:=H1} fun g r feet=>
  if !draw then k g r else
  if vZ ops&&feet.length==ops.size&&indep ops (CheckFast.beforeF ops) feet then
   match r with
   | .ok s'=>k g (.ok s')
   | .bk v s'=>if feet.all (fun f=>f.writes.isEmpty)then k g (.bk v {s' with A:=ops.toList.foldl (fun A o=>iy A o.dst .aq) s'.A})else False
  else False
def ER{ρ:Type}(H0:List af)(g:G P ρ)(s:St)(k:G P ρ→St→Prop):Prop:=match g with
 | .tidy l g'=>jC H0 l s fun s'=>k g' s'
 |g=>k g s
def DH{ρ:Type}(f:G P ρ→St→(G P ρ→bz→St→Prop)→Prop):Nat→G P ρ→St→(G P ρ→bz→St→Prop)→Prop
 | 0,_,_,_=>False
 |n+1,g,s,k=>f g s fun g o s'=>match o with
  | .normal=>DH f n g s' k
  |o=>k g o s'
def pN{σ:Type}{sh:Sh}(H0:List af)(E:σ→St)(X:sh.El→bz×St)(g:G P (σ⊕sh.El))(o:bz)(s:St):Prop:=
 match g with
 | .done ts (.inl a)=>jC H0 ts s fun s'=>(o,s')=(bz.normal,E a)
 | .done ts (.inr t)=>match o with
  | .normal=>False
  |o=>jC H0 ts s fun s'=>(o,s')=X t
 | .fail=>True
 |_=>QE P H0 o s E X
def DI{sh:Sh}(H0:List af)(Y:sh.El→bz×St)(g:G P sh.El)(o:bz)(s:St):Prop:=
 match g with
 | .done ts t=>jC H0 ts s fun s'=>(o,s')=Y t
 | .fail=>True
 |_=>Rs P H0 o s Y
def DJ{ρ:Type}(P:Program)[aD](X:Env P)(H0:List af)(c:Operand)(a b:Code)(wa wb:G P ρ→St→(G P ρ→bz→St→Prop)→Prop)(g:G P ρ)(s:St)(k:G P ρ→bz→St→Prop):Prop:=
 ER H0 g s fun g s=>pg g s fun g s=>match g with
  | .skip (n+1) g=>match cS s.A c with
   | .sc (.bool true)=>wa (G.less n g) s k
   | .sc (.bool false)=>wb (G.less n g) s k
   |_=>False
  | .fail=>True
  |_=>Ro P X c a b s k H0
def A3{ρ:Type}(id:Nat)(k:G P ρ→bz→St→Prop)(g:G P ρ)(o:bz)(s':St):Prop:=match o with
 | .exit id'=>if id'=id then k g .normal s' else k g (.exit id') s'
 |o=>k g o s'
def yw(P:Program)[aD](cfg:eP)(L:Nat)(fn:Func)(m:Option AVal)(s:St):Option (aQ×List af):=
 match leave P cfg wh L s.D m s.H with
 |some (m',H')=>match ending P fn s.A m' H' with
  |some (.ret v,H1)=>some (.ret (jK v),H1)
  |some (.bk v,H1)=>match v.flat with
   |true=>some (.bk v,H1)
   |false=>none
  |none=>none
 |none=>none
def pO(P:Program)[aD](cfg:eP)(L:Nat)(fn:Func)(o:bz)(s:St):Option (aQ×List af):=
 match o with
 | .normal=>yw P cfg L fn none s
 | .ret=>yw P cfg L fn none s
 | .bk v=>yw P cfg L fn (some v) s
 | .exit _=>none
def DK{σ:Type}{sh:Sh}(N:As P)(ro:Option Nat)(H0:List af)(b:Code)(E:σ→St)(s:St)(Y:sh.El→bz×St)(g:G P (σ⊕sh.El))(f:G P (σ⊕sh.El)→Prop):Prop:=
 match g with
 | .wX _ _ g=>N.lp ro H0 b g E s Y
 |g=>f g
def jL(P:Program)[aD](X:Env P)(H0:List af):Code→{ρ:Type}→G P ρ→St→(G P ρ→bz→St→Prop)→Prop
 | .skip,_,g,s,k=>k g .normal s
 | .region _ ops draw,_,g,s,k=>match X.ro.isSome&&ops.toList.any AW with
  |true=>False
  |false=>ER H0 g s fun g s=>sW P (X.at draw) H0 ops draw g s fun g r=>match r with
   | .ok s'=>k g .normal s'
   | .bk v s'=>k g (.bk v) s'
 | .seq a b,_,g,s,k=>jL P X H0 a g s fun g o s'=>match o with
  | .normal=>jL P X H0 b g s' k
  |o=>k g o s'
 | .cond c a b,_,g,s,k=>match g with
  | .join sh Y g1 kk=>DJ P X H0 c a b (fun g s k=>jL P X H0 a g s k) (fun g s k=>jL P X H0 b g s k) g1 s (DI H0 Y)∧sh.all fun t=>k (kk t) (Y t).1 (Y t).2
  |g=>DJ P X H0 c a b (fun g s k=>jL P X H0 a g s k) (fun g s k=>jL P X H0 b g s k) g s k
 | .block id b,_,g,s,k=>match g with
  | .join sh Y g1 kk=>jL P X H0 b g1 s (A3 id (DI H0 Y))∧sh.all fun t=>k (kk t) (Y t).1 (Y t).2
  |g=>jL P X H0 b g s (A3 id k)
 | .loop b,_,g,s,k=>match g with
  | .gH n g=>DH (fun g s k=>jL P X H0 b g s k) n g s k
  | .loop sh hd E Y a0 body kk=>(jC H0 hd s fun s'=>s'=E a0)∧(∀a,DK X.N X.ro H0 b E (E a) Y (body a) fun g=>jL P X H0 b g (E a) (pN H0 E Y))∧sh.all fun t=>k (kk t) (Y t).1 (Y t).2
  | .nV hs sh hd E Y a0 body kk=>(jC H0 hd s fun s'=>s'=E a0)∧(hs.all fun a=>DK X.N X.ro H0 b E (E a) Y (body a) fun g=>jL P X H0 b g (E a) (pN H0 E Y))∧sh.all fun t=>k (kk t) (Y t).1 (Y t).2
  | .fail=>True
  |_=>Rp P X b s k H0
 | .exit id,_,g,s,k=>k g (.exit id) s
 | .ret,_,g,s,k=>k g .ret s
 | .rangeFunc f ps assign body,_,g,s,k=>ER H0 g s fun g s=>match g with
  | .inl pr g=>(some true=some true)∧match cS s.A f with
   | .fn (.func n) p q=>match CF X.ro 0 ps assign body s with
    |some (l,H1,D1)=>iE H1 fun H1=>Lb pr H1∧match sV (pr.map (·.b)) H1 1000 (AVal.o9 (p++[.jJ l]++q)) []with
     |some (ids,_)=>vf (mask ids H1) fun Hm=>X.N.fn n (p++[.jJ l]++q) Hm g fun g2 a H2=>CO ids H1 a H2
      (fun e _ _=>qJ e H1 fun H3=>match I1 l D1 s H3 with
       |some (out,s')=>k g2 out s'
       |none=>False)
      (fun v=>k g2 (.bk v) {s with H:=ids.foldl (fun H i=>H.set i .dead) H1,D:=D1})
     |none=>False
    |none=>False
   |_=>False
  | .fail=>True
  |_=>QD P X f ps assign body s k H0
 |_,_,_,_,_=>False
def ES(pr:List Nat)(n:Nat):Nat→List af→Bool
 |_,[]=>true
 |i,x::xs=>(match pr.contains i with
  |true=>true
  |false=>wU n x)&&ES pr n (i+1) xs
def aQ.gJ(n:Nat):aQ→Bool
 | .ret v=>v.gJ n
 | .bk _=>true
def Qf(pr:List PR)(n:Nat)(a:aQ)(H1:List af)(k:aQ→List af→Prop):Prop:=
 Lb pr H1∧match a.gJ n&&ES (pr.map (·.b)) n 0 (H1.take n)with
  |true=>iE (H1.take n) fun H=>k a H
  |false=>k a H1
def O5{ρ:Type}(P:Program)[aD](cfg:eP)(fn:Func)(H0:List af)(g:G P ρ)(o:bz)(s:St)(k:G P ρ→aQ→List af→Prop):Prop:=
 match g with
 | .tidy ts (.inl pr g)=>jC H0 ts s fun s=>match pO P cfg 10 fn o s with
  |some (a,H1)=>(some true=some true)∧Qf pr H0.length a H1 (k g)
  |none=>False
 | .fail=>True
 |_=>Rq P fn o s H0 fun g pr o s=>match pO P cfg 10 fn o s with
  |some (a,H1)=>Qf pr H0.length a H1 (k g)
  |none=>False
def Qg(P:Program)[aD](cfg:eP)(nd:Bool)(N:As P){ρ:Type}(f:FuncId)(args:List AVal)(H:List af)(g:G P ρ)(k:G P ρ→aQ→List af→Prop):Prop:=
 match g with
 | .cM c x kk=>L1 P f args H c x kk k
 |g=>match P.funcs[f]? with
  |some fn=>match fn.body with
   |some c=>jL P ⟨cfg,none,N,nd⟩ H c g ⟨lQ fn.ntmps args,H,[]⟩ fun g o s=>O5 P cfg fn H g o s k
   |none=>False
  |none=>False
def O6{ρ:Type}(P:Program)[aD](b:Nat)(H0:List af)(g:G P ρ)(o:bz)(s:St)(k:G P ρ→aQ→List af→Prop):Prop:=
 match rN o with
 |some j=>match g with
  | .tidy ts g=>jC H0 ts s fun s=>match marked b (if j.isNone then .ready else .done) j s.H with
   |some H2=>k g (.ret (.sc (.bool j.isNone))) H2
   |none=>False
  | .fail=>True
  |_=>Rr P b o s H0 fun g s=>match marked b (if j.isNone then .ready else .done) j s.H with
   |some H2=>k g (.ret (.sc (.bool j.isNone))) H2
   |none=>False
 |none=>False
def O7(P:Program)[aD](cfg:eP)(nd:Bool)(N:As P){ρ:Type}(b:Nat)(args:List AVal)(H:List af)(g:G P ρ)(k:G P ρ→aQ→List af→Prop):Prop:=
 match H[b]? with
 |some (.loop _ _ _ A ps assign body)=>match Nat.beq ps.length args.length with
  |true=>jL P ⟨cfg,some b,N,nd⟩ H assign g ⟨tQ A ps args,H,[]⟩ fun g o s1=>match o with
   | .normal=>match s1.H[b]? with
    |some (.loop .ready pend1 fid1 A1 ps1 as1 bd1)=>iE (s1.H.set b (.loop .busy pend1 fid1 A1 ps1 as1 bd1)) fun H1=>
     jL P ⟨cfg,some b,N,nd⟩ H body g {s1 with H:=H1} fun g o s2=>O6 P b H g o s2 k
    |_=>False
   |_=>False
  |false=>False
 |_=>False
inductive Nx (P:Program) [aD] (cfg:eP) (nd:Bool) (N:As P) (ro:Option Nat) (H0:List af) (b:Code) {σ:Type} {sh:Sh} (g:G P (σ⊕sh.El)) (E:σ→St) (s:St) (Y:sh.El→bz×St):Prop
 |mk (h:jL P ⟨cfg,ro,N,nd⟩ H0 b g s (pN H0 E Y)):Nx P cfg nd N ro H0 b g E s Y
def kR(P:Program)[aD](cfg:eP)(nd:Bool):Nat→As P
 | 0=>Sl P
 |n+1=>⟨Qg P cfg nd (kR P cfg nd n),O7 P cfg nd (kR P cfg nd n),fun ro H0 b g E s Y=>Nx P cfg nd (kR P cfg nd n) ro H0 b g E s Y⟩
def GD(P:Program)[aD](cfg:eP):Env P:=⟨cfg,none,kR P cfg false 9,false⟩
def Rt(P:Program)[aD](cfg:eP):Env P:=⟨cfg,none,kR P cfg true 9,true⟩
end
end Go.AM
end
section
namespace Go.AM
section
variable [aD] {P:Program} {g g':Gh} {w:World}
theorem CP(hst:∀k o,g.st k o→g'.st k o){c:Array Value}:∀(l:List AVal) (o:Nat),AVal.aX l=true→dU g w c l o→dU g' w c l o
 | [],_,_,_=>trivial
 |a::as,o,hp,h=>by
  simp only[AVal.aX,Bool.and_eq_true]at hp;obtain⟨⟨y,h1,h2,h3⟩,h4⟩:=h;exact⟨⟨y,h1,h2,kZ hst a y hp.1 h3⟩,CP hst as (o+1) hp.2 h4⟩
theorem tW(hst:∀k o,g.st k o→g'.st k o){c:Array Value}{sz:Nat}:∀(l:List (List AVal)) (o:Nat),l.all AVal.aX=true→gy g w c sz l o→gy g' w c sz l o
 | [],_,_,_=>trivial
 |r::rs,o,hp,h=>by
  simp only[List.all_cons,Bool.and_eq_true]at hp;exact⟨⟨h.1.1,CP hst r o hp.1 h.1.2⟩,tW hst rs (o+sz) hp.2 h.2⟩
mutual
theorem Qh{b v:Nat}(hst:∀k o,g.st k o→g'.st k o)(hrho:∀x,g.aj b v=some x→g'.aj 0 0=some x):∀(a:AVal) (x:Value),a.um=true→R g w (a.ye b v) x→R g' w a x
 | .sc _,x,_,hr=>by simpa[R,AVal.ye]using hr
 | .agg cs,x,hp,hr=>by
  simp only[R,AVal.um,AVal.ye]at hr hp ⊢;obtain⟨vs,e,h1,hl⟩:=hr;exact⟨vs,e,h1,yX hst hrho cs vs hp hl⟩
 | .cQ cs,x,hp,hr=>by
  simp only[R,AVal.um,AVal.ye]at hr hp ⊢;obtain⟨vs,e,hl⟩:=hr;exact⟨vs,e,yX hst hrho cs vs hp hl⟩
 | .ptr b' v' i o,x,hp,hr=>by
  grind [R,AVal.um,AVal.ye]
 | .cm cs o,x,_,hr=>by
  grind [R,AVal.ye,kH]
 | .sl b' v' sz o n,x,hp,hr=>by
  grind [R,AVal.um,AVal.ye]
 | .av rows,x,_,hr=>kZ hst _ x rfl (by simpa only[AVal.ye]using hr)
 | .fn f c d,x,hp,hr=>by
  simp only[R,AVal.um,AVal.ye,Bool.and_eq_true]at hr hp ⊢;obtain⟨va,vb,e,h1,h2⟩:=hr;exact⟨va,vb,e,yX hst hrho c va hp.1 h1,yX hst hrho d vb hp.2 h2⟩
 | .gd t a,x,hp,hr=>by
  simp only[R,AVal.um,AVal.ye]at hr hp ⊢;obtain⟨y,e,h1⟩:=hr;exact⟨y,e,Qh hst hrho a y hp h1⟩
 | .mp _,_,hp,_=>by simp[AVal.um]at hp
 | .jJ _,_,hp,_=>by simp[AVal.um]at hp
 | .sa b' v' i o s n,x,hp,hr=>by
  grind [R,AVal.um,AVal.ye]
 | .gT i o,x,_,hr=>by simpa[R,AVal.ye]using hr
 | .emp,x,_,hr=>by simpa[R,AVal.ye]using hr
 | .nz _,x,_,hr=>by simpa[R,AVal.ye]using hr
 | .aq,x,_,_=>by simp[R]
theorem yX{b v:Nat}(hst:∀k o,g.st k o→g'.st k o)(hrho:∀x,g.aj b v=some x→g'.aj 0 0=some x):∀(a:List AVal) (x:List Value),AVal.nH a=true→RL g w (AVal.vn b v a) x→RL g' w a x
 | [],x,_,hr=>by simpa[RL,AVal.vn]using hr
 |a::as,x,hp,hr=>by
  simp only[RL,AVal.nH,AVal.vn,Bool.and_eq_true]at hr hp ⊢;obtain⟨y,ys,e,h1,h2⟩:=hr;exact⟨y,ys,e,Qh hst hrho a y hp.1 h1,yX hst hrho as ys hp.2 h2⟩
end
theorem yY{x:af}(h:x.mC=true):∃sz rows,x=.row 0 sz rows∧rows.all AVal.aX=true:=by
 unfold af.mC at h;grind
open Classical in
theorem bI.move{f:FuncId}{args:List AVal}{x x':af}{r:aQ}(h:bI P f args [x] r [x'])(ha:AVal.nH args=true)(hx:x.mC=true)(hx':x'.mC=true)(hr:r.Cj=true)
 (b v:Nat) (H:List af) (hb:H[b]? =some (x.mM v)) (hd:∀b',b'≠b→∀y,H[b']? =some y→y=.dead):bI P f (AVal.vn b v args) H (r.zV b v) (H.set b (x'.mM v)):=by
 obtain⟨sz,rows,rfl,hp⟩:=yY hx;obtain⟨sz',rows',rfl,hp'⟩:=yY hx';simp only[af.mM]at hb ⊢;have hblt:b<H.length:=(List.getElem?_eq_some_iff.1 hb).1;refine⟨h.1,fun g w vs hi hl=>?_⟩
 let g':Gh:=⟨fun b' v'=>if b'=0∧v'=0 then g.aj b v else none,g.st⟩
 have h00:g'.aj 0 0=g.aj b v:=by simp[g']
 have hno:∀b' v',¬(b'=0∧v'=0)→g'.aj b' v'=none:=fun b' v' hc=>by simp[g',hc]
 have hst:∀k o,g.st k o→g'.st k o:=fun _ _ h=>h
 have hi':Inv g' [.row 0 sz rows] w:=by
  refine⟨fun b' y hy=>?_,fun b1 b2 y1 y2 v1 v2 k z z' e1 e2 _ _ _ _=>?_,fun b' v' hc=>?_,fun b' y v1 v2 hy hv hlt=>?_,fun b' y v1 k z o hy hv hk=>?_,hi.fh,fun i cs hc=>⟨(hi.di i cs hc).1,kH hst _ _ _ (hi.di i cs hc).1 (hi.di i cs hc).2⟩⟩
  ·cases b' with
   |zero=>
    simp only[List.getElem?_cons_zero,Option.some.injEq]at hy;subst hy;rcases hi.good b _ hb with⟨k,c,e,h1,h2,h3,h4,h5⟩ |⟨h1,h2,h3⟩
    ·exact .inl ⟨k,c,e,by rw[h00];exact h1,h2,tW hst rows 0 hp h3,h4,h5⟩
    ·exact .inr ⟨h1,by rw[h00];exact h2,h3⟩
   |succ n=>simp at hy
  ·grind
  ·grind
  ·grind
  ·by_cases hc:b'=0∧v1=0
   ·obtain⟨rfl,rfl⟩:=hc;rw[h00]at hk;exact hi.free b _ v k z o hb rfl hk
   ·rw[hno _ _ hc]at hk;cases hk
 have hl':RL g' w args vs.toList:=yX hst (fun x hx=>by rw[h00];exact hx) _ _ ha hl
 refine(h.2 g' w vs hi' hl').mono fun e w' ⟨g1',hi1,hla,he⟩=>?_
 have hown:∀k,gC g' [.row 0 sz rows] k→gC g H k:=by
  rintro k ⟨b',y,v',z,hy,hv,hk⟩;by_cases hc:b'=0∧v'=0
  ·obtain⟨rfl,rfl⟩:=hc;rw[h00]at hk;exact⟨b,_,v,z,hb,rfl,hk⟩
  ·rw[hno _ _ hc]at hk;cases hk
 have hown':∀k,gC g H k→gC g' [.row 0 sz rows] k:=by
  rintro k ⟨b',y,v',z,hy,hv,hk⟩;by_cases hc:b'=b
  ·subst hc;rw[hb]at hy;cases hy;simp only[af.live,Option.some.injEq]at hv;subst hv;exact⟨0,_,0,z,rfl,rfl,by rw[h00];exact hk⟩
  ·rw[hd b' hc y hy]at hv;cases hv
 let g1:Gh:=⟨fun b' v'=>if b'=b∧v'=v then g1'.aj 0 0 else g.aj b' v',g1'.st⟩
 have e00:g1.aj b v=g1'.aj 0 0:=by simp[g1]
 have eno:∀b' v',¬(b'=b∧v'=v)→g1.aj b' v'=g.aj b' v':=fun b' v' hc=>by simp[g1,hc]
 have hst1:∀k o,g1'.st k o→g1.st k o:=fun _ _ h=>h
 have hget:∀b',b'≠b→(H.set b (.row v sz' rows'))[b']? =H[b']? :=fun b' hc=>List.getElem?_set_ne (Ne.symm hc)
 have hself:(H.set b (.row v sz' rows'))[b]? =some (.row v sz' rows'):=List.getElem?_set_self hblt;have hinv1:Inv g1 (H.set b (.row v sz' rows')) w':=by
  refine⟨fun b' y hy=>?_,fun b1 b2 y1 y2 v1 v2 k z z' e1 e2 l1 l2 _ _=>?_,fun b' v' hc=>?_,fun b' y v1 v2 hy hv hlt=>?_,fun b' y v1 k z o hy hv hk=>?_,hi1.fh,fun i cs hc=>⟨(hi1.di i cs hc).1,kH hst1 _ _ _ (hi1.di i cs hc).1 (hi1.di i cs hc).2⟩⟩
  ·by_cases hc:b'=b
   ·subst hc;rw[hself]at hy;cases hy;rcases hi1.good 0 _ rfl with⟨k,c,e,h1,h2,h3,h4,h5⟩ |⟨h1,h2,h3⟩
    ·exact .inl ⟨k,c,e,by rw[e00];exact h1,h2,tW hst1 rows' 0 hp' h3,h4,h5⟩
    ·exact .inr ⟨h1,by rw[e00];exact h2,h3⟩
   ·rw[hget b' hc]at hy;rw[hd b' hc y hy];trivial
  ·have key:∀(b':Nat) (y:af) (v':Nat),(H.set b (.row v sz' rows'))[b']? =some y→y.live=some v'→b'=b:=by
    intro b' y v' hy hv;by_cases hc:b'=b
    ·exact hc
    ·rw[hget b' hc]at hy;rw[hd b' hc y hy]at hv;cases hv
   grind
  ·have hne:b'≠b:=by
    rintro rfl;rcases hc with hc |hc
    ·rw[hself]at hc;cases hc
    ·rw[List.length_set]at hc;omega
   rw[eno _ _ (fun hh=>hne hh.1)]
   refine hi.fresh b' v' ?_;grind
  ·by_cases hc:b'=b
   ·subst hc;rw[hself]at hy;cases hy;simp only[af.live,Option.some.injEq]at hv;subst hv;rw[eno _ _ (by omega)]
    exact hi.next b' _ v v2 hb rfl hlt
   ·rw[hget b' hc]at hy;rw[hd b' hc y hy]at hv;cases hv
  ·by_cases hc:b'=b
   ·subst hc;rw[hself]at hy;cases hy;simp only[af.live,Option.some.injEq]at hv;subst hv;rw[e00]at hk;exact hi1.free 0 _ 0 k z o rfl rfl hk
   ·rw[hget b' hc]at hy;rw[hd b' hc y hy]at hv;cases hv
 have hback:∀k,gC g1 (H.set b (.row v sz' rows')) k→gC g1' [.row 0 sz' rows'] k:=by
  rintro k ⟨b',y,v',z,hy,hv,hkz⟩;by_cases hc:b'=b
  ·subst hc;rw[hself]at hy;cases hy;simp only[af.live,Option.some.injEq]at hv;subst hv;rw[e00]at hkz;exact⟨0,_,0,z,rfl,rfl,hkz⟩
  ·rw[hget b' hc]at hy;rw[hd b' hc y hy]at hv;cases hv
 refine⟨g1,hinv1,⟨⟨fun b' v' y hy=>?_,fun k o hk=>hla.ext.st k o hk,hla.ext.cell,hla.ext.shape⟩,hla.size,fun k hk ho=>hla.keep k hk fun hc=>ho (hown k hc),fun k hk ho=>?_,by grind,hla.os,hla.tape,hla.output,fun k o hk hs=>(hla.stk k o hk hs).imp_right fun h=>⟨hown k h.1,fun ho=>h.2 (hback k ho)⟩,fun b' hb'=>?_,fun b' v' k z hk=>?_⟩,?_⟩
 ·by_cases hc:b'=b∧v'=v
  ·obtain⟨rfl,rfl⟩:=hc;rw[e00];exact hla.ext.aj 0 0 y (by rw[h00];exact hy)
  ·rw[eno _ _ hc];exact hy
 ·refine hown k (hla.own k hk ?_);grind
 ·grind
 ·by_cases hc:b'=b∧v'=v
  ·obtain⟨rfl,rfl⟩:=hc;rw[e00]at hk;rcases hla.tu 0 0 k z hk with⟨v1,z1,h1⟩ |h1
   ·grind
   ·exact .inr h1
  grind
 ·cases r with
  |ret u=>
   obtain⟨y,rfl,hy⟩:=he;have hq:(∃sz o n,u=.sl 0 0 sz o n)∨(u.pure=true∧u.zV b v=u):=by
    cases u with
    |sl b1 v1 sz o n=>
     grind [aQ.Cj]
    |_=>exact .inr ⟨hr,rfl⟩
   rcases hq with⟨sz,o,n,rfl⟩ |⟨hp2,he2⟩
   ·refine⟨y,rfl,?_⟩;grind [AVal.zV,R]
   ·refine⟨y,rfl,?_⟩;grind [kZ]
  |bk u=>
   obtain⟨y,rfl,hy⟩:=he;exact⟨y,rfl,k6 _ _ hr hy⟩
open Classical in
theorem bI.Sn{f:FuncId}{args:List AVal}{x:af}{r:aQ}(h:bI P f args [x] r [.dead])(ha:AVal.nH args=true)(hx:x.mC=true)(hr:r.Cj=true)
 (b v:Nat) (H:List af) (hb:H[b]? =some (x.mM v)) (hd:∀b',b'≠b→∀y,H[b']? =some y→y=.dead):bI P f (AVal.vn b v args) H (r.zV b v) (H.set b .dead):=by
 obtain⟨sz,rows,rfl,hp⟩:=yY hx;simp only[af.mM]at hb ⊢;have hblt:b<H.length:=(List.getElem?_eq_some_iff.1 hb).1;refine⟨h.1,fun g w vs hi hl=>?_⟩
 let g':Gh:=⟨fun b' v'=>if b'=0∧v'=0 then g.aj b v else none,g.st⟩
 have h00:g'.aj 0 0=g.aj b v:=by simp[g']
 have hno:∀b' v',¬(b'=0∧v'=0)→g'.aj b' v'=none:=fun b' v' hc=>by simp[g',hc]
 have hst:∀k o,g.st k o→g'.st k o:=fun _ _ h=>h
 have hi':Inv g' [.row 0 sz rows] w:=by
  refine⟨fun b' y hy=>?_,fun b1 b2 y1 y2 v1 v2 k z z' e1 e2 _ _ _ _=>?_,fun b' v' hc=>?_,fun b' y v1 v2 hy hv hlt=>?_,fun b' y v1 k z o hy hv hk=>?_,hi.fh,fun i cs hc=>⟨(hi.di i cs hc).1,kH hst _ _ _ (hi.di i cs hc).1 (hi.di i cs hc).2⟩⟩
  ·cases b' with
   |zero=>
    simp only[List.getElem?_cons_zero,Option.some.injEq]at hy;subst hy;rcases hi.good b _ hb with⟨k,c,e,h1,h2,h3,h4,h5⟩ |⟨h1,h2,h3⟩
    ·exact .inl ⟨k,c,e,by rw[h00];exact h1,h2,tW hst rows 0 hp h3,h4,h5⟩
    ·exact .inr ⟨h1,by rw[h00];exact h2,h3⟩
   |succ n=>simp at hy
  ·grind
  ·grind
  ·grind
  ·by_cases hc:b'=0∧v1=0
   ·obtain⟨rfl,rfl⟩:=hc;rw[h00]at hk;exact hi.free b _ v k z o hb rfl hk
   ·rw[hno _ _ hc]at hk;cases hk
 have hl':RL g' w args vs.toList:=yX hst (fun x hx=>by rw[h00];exact hx) _ _ ha hl
 refine(h.2 g' w vs hi' hl').mono fun e w' ⟨g1',hi1,hla,he⟩=>?_
 have hown:∀k,gC g' [.row 0 sz rows] k→gC g H k:=by
  rintro k ⟨b',y,v',z,hy,hv,hk⟩;by_cases hc:b'=0∧v'=0
  ·obtain⟨rfl,rfl⟩:=hc;rw[h00]at hk;exact⟨b,_,v,z,hb,rfl,hk⟩
  ·rw[hno _ _ hc]at hk;cases hk
 have hown':∀k,gC g H k→gC g' [.row 0 sz rows] k:=by
  rintro k ⟨b',y,v',z,hy,hv,hk⟩;by_cases hc:b'=b
  ·subst hc;rw[hb]at hy;cases hy;simp only[af.live,Option.some.injEq]at hv;subst hv;exact⟨0,_,0,z,rfl,rfl,by rw[h00];exact hk⟩
  ·rw[hd b' hc y hy]at hv;cases hv
 let g1:Gh:=⟨fun b' v'=>if b'=b∧v'=v then g1'.aj 0 0 else g.aj b' v',g1'.st⟩
 have e00:g1.aj b v=g1'.aj 0 0:=by simp[g1]
 have eno:∀b' v',¬(b'=b∧v'=v)→g1.aj b' v'=g.aj b' v':=fun b' v' hc=>by simp[g1,hc]
 have hst1:∀k o,g1'.st k o→g1.st k o:=fun _ _ h=>h
 have hget:∀b',b'≠b→(H.set b .dead)[b']? =H[b']? :=fun b' hc=>List.getElem?_set_ne (Ne.symm hc)
 have hself:(H.set b .dead)[b]? =some .dead:=List.getElem?_set_self hblt;have hinv1:Inv g1 (H.set b .dead) w':=by
  refine⟨fun b' y hy=>?_,fun b1 b2 y1 y2 v1 v2 k z z' e1 e2 l1 l2 _ _=>?_,fun b' v' hc=>?_,fun b' y v1 v2 hy hv hlt=>?_,fun b' y v1 k z o hy hv hk=>?_,hi1.fh,fun i cs hc=>⟨(hi1.di i cs hc).1,kH hst1 _ _ _ (hi1.di i cs hc).1 (hi1.di i cs hc).2⟩⟩
  ·by_cases hc:b'=b
   ·subst hc;rw[hself]at hy;cases hy
    trivial
   ·rw[hget b' hc]at hy;rw[hd b' hc y hy];trivial
  ·have key:∀(b':Nat) (y:af) (v':Nat),(H.set b .dead)[b']? =some y→y.live=some v'→b'=b:=by
    intro b' y v' hy hv;by_cases hc:b'=b
    ·exact hc
    ·rw[hget b' hc]at hy;rw[hd b' hc y hy]at hv;cases hv
   grind
  ·have hne:b'≠b:=by
    rintro rfl;rcases hc with hc |hc
    ·rw[hself]at hc;cases hc
    ·rw[List.length_set]at hc;omega
   rw[eno _ _ (fun hh=>hne hh.1)]
   refine hi.fresh b' v' ?_;grind
  ·by_cases hc:b'=b
   ·subst hc;rw[hself]at hy;cases hy;cases hv
   ·rw[hget b' hc]at hy;rw[hd b' hc y hy]at hv;cases hv
  ·by_cases hc:b'=b
   ·subst hc;rw[hself]at hy;cases hy;cases hv
   ·rw[hget b' hc]at hy;rw[hd b' hc y hy]at hv;cases hv
 have hback:∀k,gC g1 (H.set b .dead) k→gC g1' [.dead] k:=by
  rintro k ⟨b',y,v',z,hy,hv,hkz⟩;by_cases hc:b'=b
  ·subst hc;rw[hself]at hy;cases hy;cases hv
  ·rw[hget b' hc]at hy;rw[hd b' hc y hy]at hv;cases hv
 refine⟨g1,hinv1,⟨⟨fun b' v' y hy=>?_,fun k o hk=>hla.ext.st k o hk,hla.ext.cell,hla.ext.shape⟩,hla.size,fun k hk ho=>hla.keep k hk fun hc=>ho (hown k hc),fun k hk ho=>?_,by grind,hla.os,hla.tape,hla.output,fun k o hk hs=>(hla.stk k o hk hs).imp_right fun h=>⟨hown k h.1,fun ho=>h.2 (hback k ho)⟩,fun b' hb'=>?_,fun b' v' k z hk=>?_⟩,?_⟩
 ·by_cases hc:b'=b∧v'=v
  ·obtain⟨rfl,rfl⟩:=hc;rw[e00];exact hla.ext.aj 0 0 y (by rw[h00];exact hy)
  ·rw[eno _ _ hc];exact hy
 ·refine hown k (hla.own k hk ?_);grind
 ·grind
 ·by_cases hc:b'=b∧v'=v
  ·obtain⟨rfl,rfl⟩:=hc;rw[e00]at hk;rcases hla.tu 0 0 k z hk with⟨v1,z1,h1⟩ |h1
   ·grind
   ·exact .inr h1
  grind
 ·cases r with
  |ret u=>
   obtain⟨y,rfl,hy⟩:=he;have hq:(∃sz o n,u=.sl 0 0 sz o n)∨(u.pure=true∧u.zV b v=u):=by
    cases u with
    |sl b1 v1 sz o n=>
     grind [aQ.Cj]
    |_=>exact .inr ⟨hr,rfl⟩
   rcases hq with⟨sz,o,n,rfl⟩ |⟨hp2,he2⟩
   ·refine⟨y,rfl,?_⟩;grind [AVal.zV,R]
   ·refine⟨y,rfl,?_⟩;grind [kZ]
  |bk u=>
   obtain⟨y,rfl,hy⟩:=he;exact⟨y,rfl,k6 _ _ hr hy⟩
theorem bI.Sq{f:FuncId}{args:List AVal}{x x':af}{r:aQ}(h:bI P f args [x] r [x'])(ha:AVal.nH args=true)(hx:x.mC=true)(hx':x'.mC=true∨x'=.dead)(hr:r.Cj=true)
 (b v:Nat) (H:List af) (hb:H[b]? =some (x.mM v)) (hd:∀b',b'≠b→∀y,H[b']? =some y→y=.dead):bI P f (AVal.vn b v args) H (r.zV b v) (H.set b (x'.mM v)):=by
 rcases hx' with hx' |rfl
 ·exact h.move ha hx hx' hr b v H hb hd
 ·exact h.Sn ha hx hr b v H hb hd
theorem bI.frame{f:FuncId}{args:List AVal}{H:List af}{r:aQ}{b:Nat}{y:af}(h:bI P f args (mask [b] H) r ((mask [b] H).set b y))(hb:b<H.length):bI P f args H r (H.set b y):=by
 refine⟨h.1,fun g w vs hi hl=>(h.2 g w vs (qm hi [b]) hl).mono fun e w' ⟨g1,hi1,hla,he⟩=>?_⟩
 have hlen:((mask [b] H).set b y).length=H.length:=by rw[List.length_set,qV]
 have:=Inv.merge hi hi1 hla (by omega)
 have e1:merged [b] H ((mask [b] H).set b y)=H.set b y:=by
  simp only[merged,List.foldl_cons,List.foldl_nil];rw[List.getD_eq_getElem?_getD,List.getElem?_set_self (by rw[qV];exact hb)];rfl
 have e2:((mask [b] H).set b y).drop H.length=[]:=List.drop_of_length_le (by omega)
 rw[e1,e2,List.append_nil]at this;exact⟨g1,this.1,this.2,he⟩
mutual
theorem wZ(n:Nat):∀(v:AVal),v.pure=true→v.gJ n=true
 | .sc _,_=>rfl
 | .agg cs,h=>by simp only[AVal.pure,AVal.gJ]at h ⊢;exact lR n cs h
 | .cQ cs,h=>by simp only[AVal.pure,AVal.gJ]at h ⊢;exact lR n cs h
 | .ptr ..,h=>by simp[AVal.pure]at h
 | .cm ..,_=>rfl
 | .sl ..,h=>by simp[AVal.pure]at h
 | .av _,_=>rfl
 | .fn f a b,h=>by
  simp only[AVal.pure,AVal.gJ,Bool.and_eq_true]at h ⊢;exact⟨lR n a h.1,lR n b h.2⟩
 | .gd t v,h=>by simp only[AVal.pure,AVal.gJ]at h ⊢;exact wZ n v h
 | .mp _,h=>by simp[AVal.pure]at h
 | .jJ _,h=>by simp[AVal.pure]at h
 | .sa ..,h=>by simp[AVal.pure]at h
 | .gT ..,_=>rfl
 | .emp,_=>rfl
 | .nz _,_=>rfl
 | .aq,_=>rfl
theorem lR(n:Nat):∀(l:List AVal),AVal.aX l=true→AVal.pq n l=true
 | [],_=>rfl
 |a::as,h=>by
  simp only[AVal.aX,AVal.pq,Bool.and_eq_true]at h ⊢;exact⟨wZ n a h.1,lR n as h.2⟩
end
theorem bI.take{f:FuncId}{args:List AVal}{H H1:List af}{a:aQ}(h:bI P f args H a H1)(h0:0<H.length)(ha:a.Cj=true)(hb:∀x∈H1.take H.length,x.mC=true∨x=.dead):bI P f args H a (H1.take H.length):=by
 refine⟨h.1,fun g w vs hi hl=>(h.2 g w vs hi hl).mono fun e w' ⟨g1,hi1,hla,he⟩=>?_⟩
 have hlen:(H1.take H.length).length=H.length:=by rw[List.length_take];have:=hla.len;omega
 have hK:H1.take H.length++H1.drop H.length=H1:=List.take_append_drop _ _;obtain⟨i1,i2⟩:=Inv.drop (n:=H.length) (K:=H1.take H.length) (L:=H1.drop H.length) hi (by rw[hK];exact hi1) (by rw[hK];exact hla) hlen rfl fun b x hx=>.inl (by
  rcases hb x (List.mem_of_getElem? hx)with hb |rfl
  ·grind [yY,wU,lR]
  ·rfl)
 refine⟨g1.upto H.length,i1,i2,?_⟩;cases a with
 |ret v=>
  obtain⟨x,rfl,hx⟩:=he;refine⟨x,rfl,?_⟩;by_cases hp:v.pure=true
  ·exact kZ (g:=g1) (g2:=g1.upto H.length) (fun _ _ h=>h) v x hp hx
  ·cases v<;>try exact absurd ha hp
   rename_i b ak sz o n;simp only[aQ.Cj,Bool.and_eq_true,beq_iff_eq]at ha;obtain⟨rfl,rfl⟩:=ha;simp only[R]at hx ⊢;rcases hx with hx |⟨k,cap,e,s,h1,h2⟩
   ·exact .inl hx
   ·exact .inr ⟨k,cap,e,s,by simpa[Gh.upto,h0]using h1,h2⟩
 |bk v=>
  obtain⟨x,rfl,hx⟩:=he;exact⟨x,rfl,k6 v x ha hx⟩
theorem ET{pr:List Nat}{n:Nat}:∀{L:List af} {i:Nat},ES pr n i L=true→∀(b:Nat) (x:af),L[b]? =some x→pr.contains (i+b)=true∨wU n x=true
 | [],_,_,b,x,h=>by simp at h
 |y::ys,i,hl,0,x,h=>by
  grind [ES]
 |y::ys,i,hl,b+1,x,h=>by
  simp only[ES,Bool.and_eq_true]at hl;have:=ET hl.2 b x (by simpa using h)
  grind
theorem bI.trim{f:FuncId}{args:List AVal}{H H1:List af}{a:aQ}{pr:List Nat}(h:bI P f args H a H1)(hpan:∀v,a=.bk v→v.flat=true)(ha:a.gJ H.length=true)(hl:ES pr H.length 0 (H1.take H.length)=true)
 (hp:∀i,pr.contains i=true→∃x,H1[i]? =some x∧vo x=true):bI P f args H a (H1.take H.length):=by
 refine⟨h.1,fun g w vs hi hl'=>(h.2 g w vs hi hl').mono fun e w' ⟨g1,hi1,hla,he⟩=>?_⟩
 have hlen:(H1.take H.length).length=H.length:=by rw[List.length_take];have:=hla.len;omega
 have hK:H1.take H.length++H1.drop H.length=H1:=List.take_append_drop _ _;obtain⟨i1,i2⟩:=Inv.drop (n:=H.length) (K:=H1.take H.length) (L:=H1.drop H.length) hi (by rw[hK];exact hi1) (by rw[hK];exact hla) hlen rfl fun b x hx=>.inl (by
  rcases ET hl b x hx with hc |hc
  ·grind [zW,wU,lR,wZ]
  ·exact hc)
 refine⟨g1.upto H.length,i1,i2,?_⟩;cases a with
 |ret v=>
  obtain⟨x,rfl,hx⟩:=he;exact⟨x,rfl,om (n:=H.length) (g:=g1) (g2:=g1.upto H.length) (fun _ _ h=>h) (fun b ak x hb he=>by grind [Gh.upto]) v x ha hx⟩
 |bk v=>
  obtain⟨x,rfl,hx⟩:=he;exact⟨x,rfl,k6 v x (hpan v rfl) hx⟩
mutual
theorem Qi{b:Nat}:∀(a:AVal) (x:Value),R g w a x→R g w (a.but b) x
 | .sc _,x,hr=>by simpa only[AVal.but]using hr
 | .agg cs,x,hr=>by
  simp only[R,AVal.but]at hr ⊢;obtain⟨vs,e,h1,hl⟩:=hr;exact⟨vs,e,h1,A4 cs vs hl⟩
 | .cQ cs,x,hr=>by
  simp only[R,AVal.but]at hr ⊢;obtain⟨vs,e,hl⟩:=hr;exact⟨vs,e,A4 cs vs hl⟩
 | .ptr ..,x,hr=>by
  grind [AVal.but,R]
 | .cm ..,x,hr=>by simpa only[AVal.but]using hr
 | .sl ..,x,hr=>by
  grind [AVal.but,R]
 | .av _,x,hr=>by simpa only[AVal.but]using hr
 | .fn f c d,x,hr=>by
  simp only[R,AVal.but]at hr ⊢;obtain⟨va,vb,e,h1,h2⟩:=hr;exact⟨va,vb,e,A4 c va h1,A4 d vb h2⟩
 | .gd t a,x,hr=>by
  simp only[R,AVal.but]at hr ⊢;obtain⟨y,e,h1⟩:=hr;exact⟨y,e,Qi a y h1⟩
 | .mp _,_,_=>by simp[AVal.but,R]
 | .jJ _,_,_=>by simp[AVal.but,R]
 | .sa ..,x,hr=>by
  grind [AVal.but,R]
 | .gT ..,x,hr=>by simpa only[AVal.but]using hr
 | .emp,x,hr=>by simpa only[AVal.but]using hr
 | .nz _,x,hr=>by simpa only[AVal.but]using hr
 | .aq,x,_=>by simp[AVal.but,R]
theorem A4{b:Nat}:∀(a:List AVal) (x:List Value),RL g w a x→RL g w (AVal.yW b a) x
 | [],x,hr=>by simpa[RL,AVal.yW]using hr
 |a::as,x,hr=>by
  simp only[RL,AVal.yW]at hr ⊢;obtain⟨y,ys,e,h1,h2⟩:=hr;exact⟨y,ys,e,Qi a y h1,A4 as ys h2⟩
end
theorem bI.but{b:Nat}{f:FuncId}{args:List AVal}{H H1:List af}{r:aQ}(h:bI P f (AVal.yW b args) H r H1):bI P f args H r H1:=
 ⟨h.1,fun g w vs hi hl=>h.2 g w vs hi (A4 _ _ hl)⟩
end
end Go.AM
end
section
namespace Go.AM
section
variable [aD] {P:Program} {cfg:eP} {X:Env P}
theorem sX:gN P wh:=⟨fun _ _ _ _ _ h=>by simp[wh]at h,fun _ _ _ _ _ h=>by simp[wh]at h⟩
open Classical in
noncomputable def qM(f:FuncId)(args:List AVal)(H:List af)(r:aQ)(H1:List af):kq:=
 ⟨fun f' args' H'=>if f'=f∧args'=args∧H'=H then some (r,H1)else none,fun _ _ _=>none⟩
theorem zY{f:FuncId}{args:List AVal}{H H1:List af}{r:aQ}(h:bI P f args H r H1):gN P (qM f args H r H1):=by
 refine⟨fun f' args' H' r' H1' hr=>?_,fun _ _ _ _ _ h=>by simp[qM]at h⟩
 simp only[qM]at hr;split at hr
 ·rename_i hc;obtain⟨rfl,rfl,rfl⟩:=hc;simp only[Option.some.injEq,Prod.mk.injEq]at hr;obtain⟨rfl,rfl⟩:=hr;exact h
 ·cases hr
open Classical in
noncomputable def A5(f:FuncId)(args:List AVal)(r:aQ):kq:=
 ⟨fun f' args' H=>if f'=f∧args'=args∧H=[]then some (r,[])else none,fun _ _ _=>none⟩
theorem L4{f:FuncId}{args:List AVal}{r:aQ}(h:kr P f args r):gN P (A5 f args r):=by
 refine⟨fun f' args' H r' H1 hr=>?_,fun _ _ _ _ _ h=>by simp[A5]at h⟩
 simp only[A5]at hr;split at hr
 ·rename_i hc;obtain⟨rfl,rfl,rfl⟩:=hc;simp only[Option.some.injEq,Prod.mk.injEq]at hr;obtain⟨rfl,rfl⟩:=hr;exact h
 ·cases hr
def Fy(P:Program)[aD](b:Nat)(args:List AVal)(H:List af)(r:aQ)(H1:List af):Prop:=
 ∀g w (vs:Array Value) k sz,Inv g H w→RL g w args vs.toList→g.aj b 0=some (k,sz)→
  ∃rec,w.heap[k]? =some (.loop rec)∧vs.size=rec.params.size∧RoundIn Fence.wide 0 P k rec.fn (ny rec vs) rec.assign rec.body w (fE g H w r H1)
open Classical in
noncomputable def CQ(b:Nat)(args:List AVal)(H:List af)(r:aQ)(H1:List af):kq:=
 ⟨fun _ _ _=>none,fun b' args' H'=>if b'=b∧args'=args∧H'=H then some (r,H1)else none⟩
theorem Ny{b:Nat}{args:List AVal}{H H1:List af}{r:aQ}(h:Fy P b args H r H1):gN P (CQ b args H r H1):=by
 refine⟨fun _ _ _ _ _ h=>by simp[CQ]at h,fun b' args' H' r' H1' hr=>?_⟩
 simp only[CQ]at hr;split at hr
 ·rename_i hc;obtain⟨rfl,rfl,rfl⟩:=hc;simp only[Option.some.injEq,Prod.mk.injEq]at hr;obtain⟨rfl,rfl⟩:=hr;exact h
 ·cases hr
theorem Fy.wk{b:Nat}{args:List AVal}{H H1:List af}{r:aQ}(h:Fy P b (ov args) H r H1):Fy P b args H r H1:=
 fun g w vs k sz hi hl hk=>h g w vs k sz hi (xD _ _ hl) hk
structure pP(P:Program)[aD](N:As P):Prop where
 fn:∀{ρ:Type} {n:Nat} {f:FuncId} {args:List AVal} {H:List af} {g:G P ρ} {k:G P ρ→aQ→List af→Prop} {r:ρ},N.fn f args H g k→g.run n=some r→
  ∃g' a H1,k g' a H1∧g'.run n=some r∧bI P f args H a H1
 Ch:∀{ρ:Type} {n:Nat} {b:Nat} {args:List AVal} {H:List af} {g:G P ρ} {k:G P ρ→aQ→List af→Prop} {r:ρ},N.Ch b args H g k→g.run n=some r→
  ∃g' a H1,k g' a H1∧g'.run n=some r∧Fy P b args H a H1
 lp:∀{σ:Type} {sh:Sh} {n:Nat} {ro:Option Nat} {H0:List af} {b:Code} {g:G P (σ⊕sh.El)} {E:σ→St} {s:St} {Y:sh.El→bz×St} {q:σ⊕sh.El},N.lp ro H0 b g E s Y→g.run n=some q→
  ∃(g':G P (σ⊕sh.El)) (o:bz) (s':St),pN H0 E Y g' o s'∧g'.run n=some q∧∀fro g0 w0,Inv g0 H0 w0→oO g0 ro fro→fJ P fro g0 H0 w0 b s fun o1 s1=>o1=o∧s1=s'
variable {ops:Array Oper} {n0 nid:Nat} {o:Oper} {s:St}
theorem CR{orc orc':kq}(h:jm ops s.A o=some true→∀pre,(cq P cfg nid (cS s.A) o.op).run s.H=some pre→finish orc s.H pre=finish orc' s.H pre):
 fR P cfg orc ops n0 o nid s=fR P cfg orc' ops n0 o nid s:=by
 grind [fR]
theorem mX{n:Nat}{ρ:Type}{r:ρ}:∀{g:G P ρ} {s:St} {k:G P ρ→St→Prop},pg g s k→g.run n=some r→∃g',k g' s∧g'.run n=some r
 | .br d c t f,s,k,h,hr=>by
  simp only[pg,pG]at h;obtain⟨hd,h1,h2⟩:=h;have hset:s.A.set d (.sc (.bool c))=s.A:=by
   apply List.ext_getElem?;intro j;by_cases hj:d=j
   ·grind
   ·rw[List.getElem?_set_ne hj]
  cases c with
  |true=>
   rw[hset]at h1;simp only[G.run,if_true]at hr;exact mX h1 hr
  |false=>
   rw[hset]at h2;simp only[G.run,Bool.false_eq_true,if_false]at hr;exact mX h2 hr
 | .Ei d ik x c t f,s,k,h,hr=>by
  simp only[pg,pG]at h;obtain⟨hd,h1,h2⟩:=h;by_cases hx:x=c
  ·subst hx;have hset:s.A.set d (.sc (.int ik x))=s.A:=by
    apply List.ext_getElem?;intro j;by_cases hj:d=j
    ·grind
    ·rw[List.getElem?_set_ne hj]
   rw[hset]at h1;simp only[G.run,if_true]at hr;exact mX h1 hr
  ·simp only[G.run,hx,if_false]at hr;exact mX h2 hr
 | .sp c t f,s,k,h,hr=>by
  simp only[pg]at h;cases c with
  |true=>
   simp only[G.run,if_true]at hr;exact mX h.1 hr
  |false=>
   simp only[G.run,Bool.false_eq_true,if_false]at hr;exact mX h.2 hr
 | .fail,s,k,h,hr=>by simp[G.run]at hr
 | .stop,s,k,h,hr=>by simp[G.run]at hr
 | .done ..,s,k,h,hr=>⟨_,h,hr⟩
 | .skip ..,s,k,h,hr=>⟨_,h,hr⟩
 | .op ..,s,k,h,hr=>⟨_,h,hr⟩
 | .call ..,s,k,h,hr=>⟨_,h,hr⟩
 | .cM ..,s,k,h,hr=>⟨_,h,hr⟩
 | .aC ..,s,k,h,hr=>⟨_,h,hr⟩
 | .tidy ..,s,k,h,hr=>⟨_,h,hr⟩
 | .loop ..,s,k,h,hr=>⟨_,h,hr⟩
 | .nV ..,s,k,h,hr=>⟨_,h,hr⟩
 | .gH ..,s,k,h,hr=>⟨_,h,hr⟩
 | .wX ..,s,k,h,hr=>⟨_,h,hr⟩
 | .join ..,s,k,h,hr=>⟨_,h,hr⟩
 | .inl ..,s,k,h,hr=>⟨_,h,hr⟩
theorem Ks{x:Option Pre}{f:FuncId}{args:List AVal}(h:Jg x=some (f,args)):∃args' own,x=some (.Dz f args' own)∧ov args'=args:=by
 unfold Jg at h;grind
theorem kr.wk{f:FuncId}{args:List AVal}{r:aQ}(h:kr P f (ov args) r):kr P f args r:=
 ⟨h.1,fun g w vs hi hl=>h.2 g w vs hi (xD _ _ hl)⟩
theorem L5{H:List af}{x:Option Pre}{f:FuncId}{args:List AVal}{H1:List af}(h:L3 H x=some (f,args,H1)):∃args' ids,x=some (.lG f args' ids)∧ov args'=args∧mask ids H=H1:=by
 unfold L3 at h;grind
theorem yZ{ids:List Nat}{H:List af}(hp:∀i,ids.contains i=true→∃x,H[i]? =some x∧vo x=true):
 ∀(n:Nat) (l seen:List Nat),DF ids l=true→l.length≤n→(closure n l seen).run H=some (zX l seen)∧(closure n l seen).reads H=wj l seen
 |_,[],_,_,_=>by simp[closure,Rd.run,Rd.reads,zX,wj]
 | 0,_::_,_,_,h=>by simp at h
 |n+1,c::cs,seen,h,hl=>by
  simp only[DF,Bool.and_eq_true]at h;simp only[List.length_cons]at hl;simp only[closure,zX,wj];cases hc:seen.contains c with
  |true=>
   simp only[if_true];exact yZ hp n cs seen h.2 (by omega)
  |false=>
   obtain⟨x,hb,hpb⟩:=hp c h.1;obtain⟨q1,q2⟩:=yZ hp n cs (c::seen) h.2 (by omega)
   grind [zW,Rd.run,Rd.reads]
theorem CS{ids:List Nat}:∀(l seen:List Nat),DF ids l=true→(∀i∈seen,ids.contains i=true)→∀i∈zX l seen,ids.contains i=true
 | [],_,_,hs,i,hi=>hs i hi
 |c::cs,seen,h,hs,i,hi=>by
  simp only[DF,Bool.and_eq_true]at h;simp only[zX]at hi;cases hc:seen.contains c with
  |true=>rw[hc]at hi;exact CS cs seen h.2 hs i hi
  |false=>
   rw[hc]at hi;refine CS cs (c::seen) h.2 (fun j hj=>?_) i hi
   grind
theorem mD{α β:Type}{H:List af}:∀{m:Rd α} {f:α→β} {x:α},m.run H=some x→(m.bind fun y=>.done (f y)).run H=some (f x)∧(m.bind fun y=>.done (f y)).reads H=m.reads H
 | .done a,f,x,h=>by grind [Rd.run,Rd.bind,Rd.reads]
 | .get b k,f,x,h=>by
  simp only[Rd.run]at h;split at h
  ·rename_i y hy;have:=mD (f:=f) h;simp[Rd.bind,Rd.run,Rd.reads,hy,this]
  ·cases h
theorem Jh{ids:List Nat}{aj:Operand→AVal}{op:Op}{nid:Nat}{H:List af}{f:FuncId}{args:List AVal}{js rs:List Nat}(h:sU P cfg ids aj op=some (f,args,js,rs))
 (hp:∀i,ids.contains i=true→∃x,H[i]? =some x∧vo x=true):
 (cq P cfg nid aj op).run H=some (.lG f args js)∧(cq P cfg nid aj op).reads H=rs∧∀i∈js,ids.contains i=true:=by
 unfold sU at h;split at h
 ·rename_i g _ _ _;split at h
  ·rename_i n p q hg;split at h
   ·rename_i fn hfn;split at h
    ·rename_i hc;simp only[Bool.or_eq_false_iff]at hc;dsimp only at h;split at h
     ·rename_i ho;simp only[Option.some.injEq,Prod.mk.injEq]at h;simp only[Bool.and_eq_true]at ho;have ho2:=Nat.le_of_ble_eq_true ho.2;obtain⟨rfl,rfl,rfl,rfl⟩:=h;obtain⟨q1,q2⟩:=yZ hp 1000 _ [] ho.1 (by omega)
      simp only[cq,hg,hfn,hc.1.1,Bool.false_eq_true,if_false,qU,hc.1.2,hc.2];exact⟨(mD q1).1,(mD q1).2.trans q2,CS _ [] ho.1 (by simp)⟩
     ·cases h
    ·cases h
   ·cases h
  ·cases h
 ·cases h
theorem Nz{H:List af}{b:Nat}{x:Option (FuncId×List AVal×List Nat×List Nat)}{f:FuncId}{args:List AVal}{y:Option af}(h:O4 H b x=some (f,args,y)):∃args' ids rs,x=some (f,args',ids,rs)∧AVal.yW b (ov args')=args∧H[b]? =y∧ids.contains b=true:=by
 unfold O4 at h;grind
theorem A6:∀{l:List PR} {H:List af},Lb l H→∀i,(l.map (·.b)).contains i=true→∃x,H[i]? =some x∧vo x=true
 | [],_,_,i,h=>by simp at h
 |p::ps,H,hc,i,h=>by
  simp only[List.map_cons,List.contains_cons,Bool.or_eq_true,beq_iff_eq]at h;rcases h with rfl |h
  ·exact⟨_,hc.1,p.pf⟩
  ·exact A6 hc.2 i h
theorem bI.wk{f:FuncId}{args:List AVal}{H H1:List af}{r:aQ}(h:bI P f (ov args) H r H1):bI P f args H r H1:=
 ⟨h.1,fun g w vs hi hl=>h.2 g w vs hi (xD _ _ hl)⟩
theorem qp{pr:List Nat}{H:List af}(hp:∀i,pr.contains i=true→∃x,H[i]? =some x∧vo x=true):
 ∀(n:Nat) (l seen ids rs:List Nat),sV pr H n l seen=some (ids,rs)→(closure n l seen).run H=some ids∧(closure n l seen).reads H=rs
 |_,[],seen,ids,rs,h=>by
  grind [sV,closure,Rd.run,Rd.reads]
 | 0,_::_,_,_,_,h=>by simp[sV]at h
 |n+1,b::todo,seen,ids,rs,h=>by
  simp only[sV]at h;simp only[closure];cases hc:seen.contains b with
  |true=>
   rw[hc]at h;simp only[if_true];exact qp hp n todo seen ids rs h
  |false=>
   rw[hc]at h;simp only[Bool.false_eq_true,if_false];cases hpr:pr.contains b with
   |true=>
    rw[hpr]at h;simp only[Option.map_eq_some_iff,Prod.exists,Prod.mk.injEq]at h;obtain⟨ids',rs',h,rfl,rfl⟩:=h;obtain⟨x,hb,hpb⟩:=hp b hpr;obtain⟨q1,q2⟩:=qp hp n todo (b::seen) _ _ h;grind [zW,Rd.run,Rd.reads]
   |false=>
    rw[hpr]at h;simp only at h;split at h
    ·rename_i v sz rows hb;simp only[Option.map_eq_some_iff,Prod.exists,Prod.mk.injEq]at h;obtain⟨ids',rs',h,rfl,rfl⟩:=h;obtain⟨q1,q2⟩:=qp hp n _ (b::seen) _ _ h;grind [Rd.run,Rd.reads]
    ·rename_i hb;simp only[Option.map_eq_some_iff,Prod.exists,Prod.mk.injEq]at h;obtain⟨ids',rs',h,rfl,rfl⟩:=h;obtain⟨q1,q2⟩:=qp hp n _ (b::seen) _ _ h;grind [Rd.run,Rd.reads]
    ·rename_i hb;simp only[Option.map_eq_some_iff,Prod.exists,Prod.mk.injEq]at h;obtain⟨ids',rs',h,rfl,rfl⟩:=h;obtain⟨q1,q2⟩:=qp hp n _ (b::seen) _ _ h;grind [Rd.run,Rd.reads]
    ·rename_i x hx hl hit hb;simp only[Option.map_eq_some_iff,Prod.exists,Prod.mk.injEq]at h;obtain⟨ids',rs',h,rfl,rfl⟩:=h;obtain⟨q1,q2⟩:=qp hp n _ (b::seen) _ _ h;grind [Rd.run,Rd.reads]
    ·cases h
def Ji:FuncId⊕Nat→List AVal→List Nat→Pre
 | .inl f,args,ids=>.lG f args ids
 | .inr b,args,ids=>.round b args ids
theorem Lc{cfg:eP}{pr:List Nat}{aj:Operand→AVal}{op:Op}{H:List af}{t:FuncId⊕Nat}{args:List AVal}{ids rs:List Nat}(hp:∀i,pr.contains i=true→∃x,H[i]? =some x∧vo x=true)
 (h:EP P cfg pr aj op H=some (t,args,ids,rs)):(cq P cfg nid aj op).run H=some (Ji t args ids)∧(cq P cfg nid aj op).reads H=rs:=by
 unfold EP at h;split at h
 ·rename_i g _ _ _;split at h
  ·rename_i n p q hg;split at h
   ·rename_i fn hfn;split at h
    ·rename_i hc;simp only[Bool.or_eq_false_iff]at hc;split at h
     ·rename_i ids' rs' hcl;simp only[Option.some.injEq,Prod.mk.injEq]at h;obtain⟨rfl,rfl,rfl,rfl⟩:=h;obtain⟨q1,q2⟩:=qp hp _ _ _ _ _ hcl;simp only[cq,hg,hfn,hc.1.1,Bool.false_eq_true,if_false,qU,hc.1.2,hc.2];exact⟨(mD q1).1,(mD q1).2.trans q2⟩
     ·cases h
    ·cases h
   ·cases h
  ·rename_i b hg;split at h
   ·rename_i ids' rs' hcl;simp only[Option.some.injEq,Prod.mk.injEq]at h;obtain⟨rfl,rfl,rfl,rfl⟩:=h;obtain⟨q1,q2⟩:=qp hp _ _ _ _ _ hcl;simp only[cq,hg];exact⟨(mD q1).1,(mD q1).2.trans q2⟩
   ·cases h
  ·cases h
 ·cases h
theorem wm{ids:List Nat}{H H1:List af}{a:aQ}{k:dL→List Nat→Bool→Prop}{kp:AVal→Prop}(h:CO ids H a H1 k kp):
 (∃e,fQ H ids (some (a,H1))=some (.ok e)∧k e (e.eO.map (·.1)) (!e.news.isEmpty))∨(∃v,fQ H ids (some (a,H1))=some (.bk v ids)∧kp v):=by
 unfold CO at h;split at h
 ·rename_i v;split at h
  ·rename_i hl;have hl:=Nat.eq_of_beq_eq_true hl;refine .inl ⟨{val:=v,eO:=ids.map fun i=>(i,H1.getD i .dead)},?_,?_⟩
   ·grind [fQ]
   ·simpa[List.map_map,Function.comp_def]using h
  grind [mg]
 grind [fQ]
theorem lS(hNe:pP P X.N){n:Nat}{ρ:Type}{r:ρ}{g:G P ρ}{draw:Bool}{H0:List af}{k:G P ρ→eX→gM→Prop}(h:rQ P X draw H0 ops n0 o nid g s k)(hr:g.run n=some r):
 ∃orc,gN P orc∧∃res f g',fR P X.cfg orc ops n0 o nid s=some (res,f)∧k g' res f∧g'.run n=some r:=by
 unfold rQ at h;split at h
 ·rename_i m g';split at h
  ·rename_i res f hs;exact⟨wh,sX,res,f,_,hs,h,by rw[G.Jf];simpa[G.run]using hr⟩
  ·exact nomatch h
 ·rename_i X t kk;obtain⟨hw,hc,hk⟩:=h;simp only[G.run]at hr;cases hx:t.run with
  |none=>rw[hx]at hr;cases hr
  |some x=>
   rw[hx]at hr;obtain⟨h1,h2⟩:=t.sound _ _ _ _ _ _ _ hc x hx;have hk:=hk x;simp only[mg,gY,fD]at hk;refine⟨wh,sX,_,_,kk x,?_,hk,by simpa using hr⟩
   grind [fR,finish,mg,gY,fD]
 ·rename_i c x kk;obtain⟨hw,hc,hk⟩:=h;simp only[G.run]at hr;cases hx:c.S n x with
  |none=>rw[hx]at hr;cases hr
  |some q=>
   rw[hx]at hr;have hk:=(c.sh.cC _).1 hk q;obtain⟨args',own,hp,he⟩:=Ks hc;split at hk
   ·rename_i res f hs;refine⟨A5 c.f args' (c.out q),L4 (kr.wk (by rw[he];exact c.ok n x q hx)),res,f,kk q,?_,hk,by simpa using hr⟩
    rw[← hs];refine CR fun _ pre hpre=>?_
    rw[hp]at hpre;simp only[Option.some.injEq]at hpre;subst hpre;simp[finish,gj,A5,L2]
   ·exact nomatch hk
 ·rename_i c x kk;obtain⟨hw,hc,hk⟩:=h;simp only[G.run]at hr;cases hx:c.S n x with
  |none=>rw[hx]at hr;cases hr
  |some q=>
   rw[hx]at hr;have hk:=(c.sh.cC _).1 hk q;obtain⟨args',ids,hp,he,hm⟩:=L5 hc;split at hk
   ·rename_i res f hs;refine⟨qM c.f args' (c.heap x) (c.out q) (c.iz x q),zY (bI.wk (by rw[he];exact c.ok n x q hx)),res,f,kk q,?_,hk,by simpa using hr⟩
    rw[← hs];refine CR fun _ pre hpre=>?_
    rw[hp]at hpre;simp only[Option.some.injEq]at hpre;subst hpre;simp[finish,gj,dw,qM,L2,hm]
   ·exact nomatch hk
 ·rename_i c b v ex x kk;obtain⟨hw,hex,hc,hk⟩:=h;simp only[G.run]at hr;cases hx:c.S n x with
  |none=>rw[hx]at hr;cases hr
  |some q=>
   rw[hx]at hr;have hk:=(c.sh.cC _).1 hk q;obtain⟨args',ids,rs,hp,he,hb,hbi⟩:=Nz hc;obtain⟨bsz,brows,hbx,hbp⟩:=yY (c.b0 x);have hpure:∀i,(b::ex.map (·.b)).contains i=true→∃x,s.H[i]? =some x∧vo x=true:=by
    intro i hi;simp only[List.contains_cons,Bool.or_eq_true,beq_iff_eq]at hi;rcases hi with rfl |hi
    ·exact⟨.row v bsz brows,by rw[hb,hbx];rfl,hbp⟩
    ·exact A6 hex i hi
   have hcall:=hp;obtain⟨hp,hrd,hsub⟩:=Jh (nid:=nid) (H:=s.H) hp hpure;have hlt:∀i∈ids,i<s.H.length:=fun i hi=>by
    grind
   have hblt:b<s.H.length:=(List.getElem?_eq_some_iff.1 hb).1
   let H':=mask ids s.H
   have hl':H'.length=s.H.length:=qV _ _;have hmb:(mask [b] H')[b]? =some ((c.blk x).mM v):=by rw[AY (by simp),AY hbi];exact hb
   have hmd:∀b',b'≠b→∀y,(mask [b] H')[b']? =some y→y=.dead:=by
    intro b' hne y hy;rcases rO hy with⟨h1,_⟩ |⟨_,h2,_⟩
    ·grind
    ·exact h2
   have href:=bI.frame (bI.Sq (c.ok n x q hx) (c.a0 x) (c.b0 x) (c.b1 x q) (c.r0 q) b v (mask [b] H') hmb hmd) (by omega)
   have horc:=zY (P:=P) (bI.wk (args:=args') (bI.but (b:=b) (by rw[he];exact href)))
   refine⟨_,horc,?_⟩;have hlen:(H'.set b ((c.ru x q).mM v)).length=s.H.length:=by rw[List.length_set,qV]
   have hdrop:(H'.set b ((c.ru x q).mM v)).drop s.H.length=[]:=List.drop_of_length_le (by rw[hlen];exact Nat.le_refl _)
   have hid:DG (sU P X.cfg (b::ex.map (·.b)) (cS s.A) o.op)=(ids,rs):=by rw[hcall];rfl
   cases ho:c.out q with
   |ret u=>
    rw[ho]at hk;simp only[gY,fD,hid]at hk;refine⟨_,_,kk q,?_,hk,by simpa using hr⟩
    have happ:∀val news,news=[]→dL.apply {val:=val,eO:=ids.map fun i=>(i,(H'.set b ((c.ru x q).mM v)).getD i .dead),news:=news} s.H=dL.apply {val:=u.zV b v,eO:=[(b,(c.ru x q).mM v)]} s.H:=by
     intro val news hn;subst hn;simp only[dL.apply,List.append_nil,List.foldl_cons,List.foldl_nil,List.foldl_map];apply List.ext_getElem?;intro j;rw[v8,List.getElem?_set];by_cases hj:b=j
     ·grind
     ·grind [AY]
    unfold fR;rw[hw];simp only[hp,hrd,finish,gj,dw,qM,and_self,if_true,aQ.zV,fQ,hlen,Nat.le_refl,hdrop,ite_self,mg,gY,fD,List.isEmpty_nil,Bool.not_true,H'];simp only[iF,xy];rw[happ _ _ rfl];simp_all
   |bk u=>
    rw[ho]at hk;have hfl:u.flat=true:=by have:=c.r0 q;rw[ho]at this;exact this
    simp only[hid]at hk;refine⟨_,_,kk q,?_,hk,by simpa using hr⟩
    unfold fR;rw[hw];simp only[hp,hrd,finish,gj,dw,qM,and_self,if_true,aQ.zV,fQ,hfl,H'];simp only[iF,xy]
 ·rename_i pr g';obtain⟨hw,hpr,hc⟩:=h;simp only[G.run]at hr;have hpure:=A6 hpr;split at hc
  ·rename_i f args ids rs hx;obtain⟨hp,hrd⟩:=Lc (nid:=nid) hpure hx;simp only[Ji]at hp;simp only[dw]at hc;obtain⟨g2,a,H1,hk,hr2,hfn⟩:=hNe.fn hc hr;refine⟨_,zY hfn,?_⟩;rcases wm hk with⟨e,hm,hk⟩ |⟨v,hm,hk⟩
   ·simp only[gY,fD]at hk;refine⟨_,_,g2,?_,hk,hr2⟩;unfold fR;rw[hw];simp only[hp,hrd,finish,gj,dw,qM,and_self,if_true,hm,mg,gY,fD];simp only[iF,xy]
   ·refine⟨_,_,g2,?_,hk,hr2⟩;unfold fR;rw[hw];simp only[hp,hrd,finish,gj,dw,qM,and_self,if_true,hm];simp only[iF,xy]
  ·rename_i b args ids rs hx;obtain⟨hp,hrd⟩:=Lc (nid:=nid) hpure hx;simp only[Ji]at hp;simp only[dw]at hc;obtain⟨g2,a,H1,hk,hr2,hfn⟩:=hNe.Ch hc hr;refine⟨_,Ny hfn,?_⟩;rcases wm hk with⟨e,hm,hk⟩ |⟨v,hm,hk⟩
   ·simp only[gY,fD]at hk;refine⟨_,_,g2,?_,hk,hr2⟩;unfold fR;rw[hw];simp only[hp,hrd,finish,gj,dw,CQ,and_self,if_true,hm,mg,gY,fD];simp only[iF,xy]
   ·refine⟨_,_,g2,?_,hk,hr2⟩;unfold fR;rw[hw];simp only[hp,hrd,finish,gj,dw,CQ,and_self,if_true,hm];simp only[iF,xy]
  ·exact nomatch hc
 ·simp[G.run]at hr
 ·simp[G.run]at hr
 ·simp[G.run]at hr
 ·exact nomatch h
 ·exact nomatch h
theorem y4{orc orc':Nat→kq}:∀(l:List (Oper×Nat)) (i:Nat) (s:St),(∀j,i≤j→orc j=orc' j)→lP P X.cfg orc ops n0 i l s=lP P X.cfg orc' ops n0 i l s
 | [],_,_,_=>rfl
 | (o,nid)::rest,i,s,h=>by
  simp only[lP,h i (Nat.le_refl _)];split
  ·rw[y4 rest (i+1) _ fun j hj=>h j (by omega)]
  ·rfl
  ·rfl
theorem Kt(hNe:pP P X.N){n:Nat}{ρ:Type}{r:ρ}{g:G P ρ}{H0:List af}{k:G P ρ→eX→gM→Prop}(h:yu P X true H0 ops n0 o nid g s k)(hr:g.run n=some r):
 ∃orc,gN P orc∧∃res f g',fR P X.cfg orc ops n0 o nid s=some (res,f)∧k g' res f∧g'.run n=some r:=by
 unfold yu at h;grind [lS]
theorem Fz(hNe:pP P X.N){n:Nat}{ρ:Type}{r:ρ}{H0:List af}:∀(l:List (Oper×Nat)) (i:Nat) (g:G P ρ) (s:St) (k:G P ρ→eX→List gM→Prop),Au P X true H0 ops n0 l g s k→g.run n=some r→
 ∃orcs:Nat→kq,(∀j,gN P (orcs j))∧∃res fs g',lP P X.cfg orcs ops n0 i l s=some (res,fs)∧k g' res fs∧g'.run n=some r
 | [],i,g,s,k,h,hr=>⟨fun _=>wh,fun _=>sX,.ok s,[],g,rfl,h,hr⟩
 | (o,nid)::rest,i,g,s,k,h,hr=>by
  simp only[Au]at h;obtain⟨g1,h,hr⟩:=mX h hr;obtain⟨orc,ho,res,f,g2,hs,h,hr⟩:=Kt hNe h hr;cases res with
  |ok s'=>
   obtain⟨A,H,D⟩:=s';simp only[dY]at h;obtain⟨orcs,hos,res,fs,g3,hrun,hk,hr⟩:=Fz hNe rest (i+1) g2 _ _ h hr;refine⟨fun j=>if j=i then orc else orcs j,fun j=>(by grind:gN P (if j=i then orc else orcs j)),res,f::fs,g3,?_,hk,hr⟩
   grind [lP,y4]
  |bk v s'=>
   exact⟨fun _=>orc,fun _=>ho,.bk v s',[f],g2,by simp only[lP,hs],h,hr⟩
theorem Ia(hNe:pP P X.N){n:Nat}{ρ:Type}{r:ρ}{H0:List af}{g:G P ρ}{s:St}{k:G P ρ→eX→Prop}(h:sW P X H0 ops true g s k)(hr:g.run n=some r):
 ∃orcs:Nat→kq,(∀j,gN P (orcs j))∧∃res g',uN P X.cfg orcs ops true s=some res∧k g' res∧g'.run n=some r:=by
 simp only[sW,gX,rL]at h;obtain⟨orcs,ho,res,fs,g',hrun,hk,hr⟩:=Fz hNe _ 0 _ _ _ h hr;refine⟨orcs,ho,?_⟩;simp only[uN,gX,rL,hrun];grind
theorem Hl(keep:List Nat):∀(A:List AVal) (i j:Nat),(wY keep i A)[j]? =(A[j]?).map fun a=>match keep.contains (i+j)with |true=>a |false=>.aq
 | [],_,_=>by simp[wY]
 |a::as,i,0=>rfl
 |a::as,i,j+1=>by
  simp only[wY,List.getElem?_cons_succ];rw[Hl keep as (i+1) j,show i+1+j=i+(j+1)by omega]
theorem QF{g:Gh}{w:World}{keep:List Nat}{A:List AVal}{vs:List Value}(h:RL g w A vs):RL g w (wY keep 0 A) vs:=by
 obtain⟨h1,h2⟩:=dN _ _ h;have hlen:(wY keep 0 A).length=A.length:=by
  have:∀(A:List AVal) (i:Nat),(wY keep i A).length=A.length:=by
   intro A;induction A with
   |nil=>intro i;rfl
   |cons a as ih=>intro i;simp[wY,ih]
  exact this A 0
 grind [u0,Hl,R]
theorem Jj:∀{l:List PU} {H:List af},La l H→CN (l.map (·.b)) H
 | [],_,_=>fun _ h=>by simp at h
 |p::ps,H,h=>by
  intro b hb x hx;simp only[List.map_cons,List.mem_cons]at hb;rcases hb with rfl |hb
  ·rw[h.1]at hx;cases hx;exact p.pf
  ·exact Jj h.2 b hb x hx
theorem Ld:∀(l:List AVal),(ov l).length=l.length
 | []=>rfl
 |_::l=>by simp[ov,Ld l]
theorem NA{g:Gh}{w:World}:∀(l:List (List AVal)) (k o sz:Nat),RR g w l k o sz→RR g w (l.map ov) k o sz
 | [],_,_,_,_=>by simp[RR]
 |r::rs,k,o,sz,h=>by
  simp only[RR,List.map_cons]at h ⊢;exact⟨⟨by rw[Ld];exact h.1.1,uy _ h.1.2.1,Je _ _ _ h.1.2.2⟩,NA rs k (o+sz) sz h.2⟩
theorem O8{g:Gh}{w:World}{rows:List (List AVal)}{x:Value}(h:R g w (.av rows) x):R g w (.av (rows.map ov)) x:=by
 simp only[R,List.length_map]at h ⊢;obtain⟨a,cap,e,h1,h2⟩:=h;refine⟨a,cap,e,h1,?_⟩;rcases h2 with h2 |⟨k,off,sz,ha,hr⟩
 ·exact .inl h2
 ·exact .inr ⟨k,off,sz,ha,NA _ _ _ _ hr⟩
theorem dx{H0:List af}:∀{ts:List TS} {s:St} {k:St→Prop},aZ ts=true→jC H0 ts s k→∃s',iG H0 s s'∧k s'
 | [],s,k,_,h=>⟨s,.refl _ _,h⟩
 | .keep l::ts,s,k,hok,h=>by
  simp only[jC,dY]at h;obtain⟨s',h1,h2⟩:=dx (by simpa only[aZ]using hok) h
  exact⟨s',iG.trans (s1:={s with A:=wY l 0 s.A}) (fun _ _ g a w _ hl hs=>⟨g,⟨hs.inv,QF hs.tmps,hs.defs⟩,hl⟩) h1,h2⟩
 | .wk p::ts,s,k,hok,h=>by
  simp only[jC]at h;split at h
  ·rename_i s1 hw;obtain⟨s',h1,h2⟩:=dx (by simpa only[aZ]using hok) h
   exact⟨s',(OY hw).trans h1,h2⟩
  ·exact h.elim
 | .own p sz::ts,s,k,hok,h=>by
  simp only[jC]at h;split at h
  ·rename_i s1 hw;obtain⟨s',h1,h2⟩:=dx (by simpa only[aZ]using hok) h
   exact⟨s',(Nu hw).trans h1,h2⟩
  ·exact h.elim
 | .gG z::ts,s,k,hok,h=>by
  simp only[jC]at h;simp only[aZ,Bool.and_eq_true,decide_eq_true_eq]at hok;obtain⟨q1,q2,h⟩:=h;split at h
  ·rename_i s1 hw;obtain⟨s',h1,h2⟩:=dx hok.2 h;exact⟨s',(Nv ⟨z.b,z.ak,z.sz,by rw[q1,hok.1],q2,z.pf⟩ hw).trans h1,h2⟩
  ·exact h.elim
 | .Qe z::ts,s,k,hok,h=>by
  simp only[jC]at h;obtain⟨q1,h⟩:=h;obtain⟨s',h1,h2⟩:=dx (by simpa only[aZ]using hok) h
  refine⟨s',iG.trans (s1:=BE s (.av z.rows') z.p) (fun _ _ g a w _ hl hs=>?_) h1,h2⟩
  obtain⟨p1,p2⟩:=yt q1 hs (v':=.av z.rows') fun x hx=>by rw[← z.pf];exact O8 hx
  exact⟨g,p1,hl.trans p2⟩
 | .cut bl bump pu::ts,s,k,hok,h=>by
  simp only[jC,dY]at h;obtain⟨q1,h⟩:=h;split at h
  ·rename_i A H D hw;obtain⟨s',h1,h2⟩:=dx (by simpa only[aZ]using hok) h
   exact⟨s',(OW (Jj q1) hw).trans h1,h2⟩
  ·exact h.elim
theorem Ku(hNe:pP P X.N){n:Nat}{ρ:Type}{r:ρ}{g:G P ρ}{H0:List af}{k:G P ρ→eX→gM→Prop}(h:yu P X false H0 ops n0 o nid g s k)(hr:g.run n=some r):
 ∃s2,iG H0 s s2∧∃orc,gN P orc∧∃res f g',fR P X.cfg orc ops n0 o nid s2=some (res,f)∧k g' res f∧g'.run n=some r:=by
 unfold yu at h;split at h
 ·grind [G.run,dx,lS]
 ·exact⟨s,.refl _ _,lS hNe h hr⟩
theorem FA(hNe:pP P X.N){n:Nat}{ρ:Type}{r:ρ}{H0:List af}:∀(l:List (Oper×Nat)) (i:Nat) (g:G P ρ) (s:St) (k:G P ρ→eX→List gM→Prop),Au P X false H0 ops n0 l g s k→g.run n=some r→
 (∀(j:Nat),(l[j]?).map (fun(p:Oper×Nat)=>p.1)=(ops.toList.drop i)[j]?)→∃g' res fs,k g' res fs∧g'.run n=some r∧
 ∀(fro:Option Nat),(∀(k:Nat) (o:Oper),ops[k]? =some o→Calm fro o)→∀(gg:Gh) (ww:World) (Q:Exit→Act→World→Prop),Inv gg H0 ww→∀(g1:Gh) (a:Act) (w:World),ff g1 s a w→aU gg H0 ww g1 s.H w→qW Q gg H0 ww res→wpOpsIn (Fr fro) 0 P ops Q (List.range' i l.length) a w
 | [],i,g,s,k,h,hr,_=>⟨g,.ok s,[],h,hr,fun _ _ _ _ _ _ g1 a w hs hl hp=>hp g1 a w hs hl⟩
 | (o,nid)::rest,i,g,s,k,h,hr,hj=>by
  have hi:ops[i]? =some o:=by
   have:=hj 0;simp at this;exact this.symm
  simp only[Au]at h;obtain⟨g',h,hr⟩:=mX h hr;obtain⟨s2,hw2,orc,ho,res,f,g3,hst,h,hr⟩:=Ku hNe h hr;cases res with
  |ok s'=>
   obtain⟨A,H,D⟩:=s';simp only[dY]at h;obtain⟨g4,res4,fs4,hk4,hr4,hwp⟩:=FA hNe rest (i+1) g3 ⟨A,H,D⟩ _ h hr (fun j=>by
    have:=hj (j+1);grind)
   refine⟨g4,res4,_,hk4,hr4,fun fro hcalm gg ww Q hi0 g1 a w hs hl hp=>?_⟩
   simp only[List.length_cons,List.range'_succ,wpOpsIn_cons];obtain⟨g2,hs2,hl2⟩:=hw2 gg ww g1 a w hi0 hl hs;exact qo ho hs2 hi (hcalm i o hi) hst fun g5 a' w' hs' hla=>hwp fro hcalm gg ww Q hi0 g5 a' w' hs' (hl2.trans hla) hp
  |bk v s'=>
   refine⟨g3,.bk v s',_,h,hr,fun fro hcalm gg ww Q hi0 g1 a w hs hl hp=>?_⟩
   simp only[List.length_cons,List.range'_succ,wpOpsIn_cons];obtain⟨g2,hs2,hl2⟩:=hw2 gg ww g1 a w hi0 hl hs;exact qo ho hs2 hi (hcalm i o hi) hst fun g' w' x hv hs' hla hx=>hp g' a w' x hv hs' (hl2.trans hla) hx
theorem Ib(hNe:pP P X.N){H0:List af}{n:Nat}{ρ:Type}{r:ρ}{id:Nat}{g:G P ρ}{s:St}{k:G P ρ→eX→Prop}(h:sW P X H0 ops false g s k)(hr:g.run n=some r):
 ∃g' res,k g' res∧g'.run n=some r∧∀(fro:Option Nat),(∀(k:Nat) (o:Oper),ops[k]? =some o→Calm fro o)→∀(gg:Gh) (ww:World),Inv gg H0 ww→fJ P fro gg H0 ww (.region id ops false) s fun o s'=>o=(DE res).1∧s'=(DE res).2:=by
 simp only[sW,gX,rL]at h;generalize (if nv ops.toList=0 then 0 else qk s.H)=t0 at h
 generalize nv ops.toList - t0=m0 at h;generalize s.H.length - t0=f0 at h;obtain⟨g',res,fs,hk,hr',hwp⟩:=FA hNe _ 0 _ _ _ h hr (fun j=>by rw[rP];simp)
 simp only[Bool.not_false,if_true]at hk;refine⟨g',res,hk,hr',fun fro hcalm gg ww hi0 Q g1 a w hs hl hp=>?_⟩
 obtain⟨i1,i2⟩:=hs.inv.reserve m0;have hs0:ff g1 {s with H:=s.H++List.replicate m0 .bA} a w:=⟨i1,hs.tmps,hs.defs⟩;refine wpIn_region ?_;rw[List.range_eq_range'];have:=hwp fro hcalm gg ww Q hi0 g1 a w hs0 (hl.trans i2) (by
  have:=hp _ _ ⟨rfl,rfl⟩;cases res with
  |ok s'=>exact this
  |bk v s'=>exact this)
 grind [vk]
theorem BH{H0:List af}{n:Nat}{ρ:Type}{r:ρ}{g:G P ρ}{s:St}{k:G P ρ→St→Prop}(h:ER H0 g s k)(hr:g.run n=some r):∃s' g',iG H0 s s'∧k g' s'∧g'.run n=some r:=by
 unfold ER at h;split at h
 ·grind [G.run,dx]
 ·exact⟨s,g,.refl _ _,h,hr⟩
theorem Ho{n:Nat}{σ:Type}{sh:Sh}{H0:List af}{E:σ→St}{X:sh.El→bz×St}{g:G P (σ⊕sh.El)}{o:bz}{s:St}{q:σ⊕sh.El}(h:pN H0 E X g o s)(hr:g.run n=some q):
 ∃s',iG H0 s s'∧match q with | .inl a=>o=.normal∧s'=E a | .inr t=>o≠ .normal∧(o,s')=X t:=by
 unfold pN at h;split at h
 ·grind [G.run,dx]
 ·grind [G.run,dx]
 ·simp[G.run]at hr
 ·exact nomatch h
def Jk(P:Program)[aD](H0:List af)(ro:Option Nat)(b:Code):Nat→St→bz→St→Prop
 | 0,_,_,_=>False
 |n+1,s,o,s'=>∃o1 s1,(∀fro g0 w0,Inv g0 H0 w0→oO g0 ro fro→fJ P fro g0 H0 w0 b s fun o2 s2=>o2=o1∧s2=s1)∧
  match o1 with
  | .normal=>Jk P H0 ro b n s1 o s'
  |o1=>o1=o∧s1=s'
theorem Hp{ro:Option Nat}{H0:List af}{b:Code}{n:Nat}{ρ:Type}{r:ρ}{k:G P ρ→bz→St→Prop}
 (ih:∀(g:G P ρ) (s:St) (k:G P ρ→bz→St→Prop),jL P X H0 b g s k→g.run n=some r→∃g' o s',k g' o s'∧g'.run n=some r∧∀fro g0 w0,Inv g0 H0 w0→oO g0 ro fro→fJ P fro g0 H0 w0 b s fun o1 s1=>o1=o∧s1=s'):
 ∀(m:Nat) (g:G P ρ) (s:St),DH (fun g s k=>jL P X H0 b g s k) m g s k→g.run n=some r→∃g' o s',k g' o s'∧g'.run n=some r∧o≠ .normal∧Jk P H0 ro b m s o s'
 | 0,_,_,h,_=>h.elim
 |m+1,g,s,h,hr=>by
  simp only[DH]at h;obtain⟨g1,o1,s1,hk,hr1,hd⟩:=ih g s _ h hr;cases o1 with
  |normal=>
   obtain⟨g',o,s',h1,h2,h3,h4⟩:=Hp ih m g1 s1 hk hr1;exact⟨g',o,s',h1,h2,h3,.normal,s1,hd,h4⟩
  |exit id=>exact⟨g1,_,s1,hk,hr1,(fun h=>(by cases h)),_,s1,hd,rfl,rfl⟩
  |ret=>exact⟨g1,_,s1,hk,hr1,(fun h=>(by cases h)),_,s1,hd,rfl,rfl⟩
  |bk v=>exact⟨g1,_,s1,hk,hr1,(fun h=>(by cases h)),_,s1,hd,rfl,rfl⟩
theorem wo{ro fro:Option Nat}{g0:Gh}{ops:Array Oper}(hro:oO g0 ro fro)(h:(ro.isSome&&ops.toList.any AW)=false):∀(k:Nat) (o:Oper),ops[k]? =some o→Calm fro o:=by
 intro k o hk;cases ro with
 |none=>
  cases fro with
  |none=>exact .inl rfl
  |some k=>exact hro.elim
 |some b=>
  right;grind
theorem fJ.post{fro:Option Nat}{g0:Gh}{H0:List af}{w0:World}(hi0:Inv g0 H0 w0){c:Code}{s s1 s2:St}{o:bz}(hw:iG H0 s1 s2)(h:fJ P fro g0 H0 w0 c s fun o1 s'=>o1=o∧s'=s1):
 fJ P fro g0 H0 w0 c s fun o1 s'=>o1=o∧s'=s2:=
 fun Q g a w hs hl hk=>h Q g a w hs hl fun o' s' ⟨e1,e2⟩=>by grind [fI.weak]
theorem Hq{H0:List af}{sh:Sh}{Y:sh.El→bz×St}{n:Nat}{g:G P sh.El}{o:bz}{s:St}{t:sh.El}(h:DI H0 Y g o s)(hr:g.run n=some t):∃s',iG H0 s s'∧(o,s')=Y t:=by
 unfold DI at h;split at h
 ·grind [G.run,dx]
 ·simp[G.run]at hr
 ·exact nomatch h
theorem Le{ρ:Type}{n:Nat}{f:FuncId}{args:List AVal}{H:List af}{c:tB P}{x:c.X}{kk:c.sh.El→G P ρ}{k:G P ρ→aQ→List af→Prop}{r:ρ}(h:L1 P f args H c x kk k)(hr:(G.cM c x kk).run n=some r):
 ∃g' a H1,k g' a H1∧g'.run n=some r∧bI P f args H a H1:=by
 obtain⟨_,he,h⟩:=h;simp only[Option.some.injEq,Prod.mk.injEq]at he;obtain⟨rfl,ha,rfl⟩:=he;obtain⟨q,hq,hr⟩:=Option.bind_eq_some_iff.1 (show(c.S n x).bind (fun q=>(kk q).run n)=some r from hr)
 refine⟨kk q,c.out q,c.iz x q,(c.sh.cC _).1 h q,hr,bI.wk ?_⟩;rw[ha];exact c.ok n x q hq
theorem wq:pP P (uo P):=by
 refine⟨fun h hr=>?_,fun h=>h.elim,fun h=>h.elim⟩
 simp only[uo]at h;split at h
 ·exact Le h hr
 ·exact h.elim
theorem Sr(hNe:pP P X.N)(draw:Bool):pP P (X.at draw).N:=by
 grind [Env.at,wq]
theorem Ru(draw:Bool):(X.at draw).cfg=X.cfg:=by unfold Env.at;split<;>rfl
theorem Hr(hNe:pP P X.N){H0:List af}{n:Nat}{σ:Type}{sh:Sh}{b:Code}{E:σ→St}{s:St}{Y:sh.El→bz×St}{q:σ⊕sh.El}{f:G P (σ⊕sh.El)→Prop}
 (ih:∀g,f g→g.run n=some q→∃(g':G P (σ⊕sh.El)) (o:bz) (s':St),pN H0 E Y g' o s'∧g'.run n=some q∧∀fro g0 w0,Inv g0 H0 w0→oO g0 X.ro fro→fJ P fro g0 H0 w0 b s fun o1 s1=>o1=o∧s1=s')
 {g:G P (σ⊕sh.El)} (h:DK X.N X.ro H0 b E s Y g f) (hr:g.run n=some q):
 ∃(g':G P (σ⊕sh.El)) (o:bz) (s':St),pN H0 E Y g' o s'∧g'.run n=some q∧∀fro g0 w0,Inv g0 H0 w0→oO g0 X.ro fro→fJ P fro g0 H0 w0 b s fun o1 s1=>o1=o∧s1=s':=by
 unfold DK at h;split at h
 ·exact hNe.lp h (by simpa[G.run]using hr)
 ·exact ih _ h hr
theorem wu(hm:P.follows .mixedOrders=true)(hNe:pP P X.N){H0:List af}{n:Nat}:∀(c:Code) {ρ:Type} (r:ρ) (g:G P ρ) (s:St) (k:G P ρ→bz→St→Prop),jL P X H0 c g s k→g.run n=some r→
 ∃g' o s',k g' o s'∧g'.run n=some r∧∀fro g0 w0,Inv g0 H0 w0→oO g0 X.ro fro→fJ P fro g0 H0 w0 c s fun o1 s1=>o1=o∧s1=s':=by
 intro c;induction c with
 |skip=>intro ρ r g s k h hr;exact⟨g,.normal,s,h,hr,fun _ _ _ _ _=>.skip ⟨rfl,rfl⟩⟩
 |region id ops draw=>
  intro ρ r g s k h hr;simp only[jL]at h;split at h
  ·exact h.elim
  rename_i hoff;obtain⟨s1,g1,hw,h,hr⟩:=BH h hr;cases draw with
  |false=>
   obtain⟨g',res,hk,hr',hd⟩:=Ib hNe (id:=id) h hr;cases res with
   |ok s'=>exact⟨g',.normal,s',hk,hr',fun fro g0 w0 hi hro=>.weak hi hw (hd fro (wo hro hoff) g0 w0 hi)⟩
   |bk v s'=>exact⟨g',.bk v,s',hk,hr',fun fro g0 w0 hi hro=>.weak hi hw (hd fro (wo hro hoff) g0 w0 hi)⟩
  |true=>
   obtain⟨orcs,ho,res,g',hreg,h,hr⟩:=Ia (Sr hNe true) h hr;rw[Ru]at hreg;cases res with
   |ok s'=>exact⟨g',.normal,s',h,hr,fun fro g0 w0 hi hro=>.weak hi hw (.region hm ho (wo hro hoff) hreg ⟨rfl,rfl⟩)⟩
   |bk v s'=>exact⟨g',.bk v,s',h,hr,fun fro g0 w0 hi hro=>.weak hi hw (.region hm ho (wo hro hoff) hreg ⟨rfl,rfl⟩)⟩
 |seq a b iha ihb=>
  intro ρ r g s k h hr;simp only[jL]at h;obtain⟨g1,o1,s1,h1,hr1,d1⟩:=iha r g s _ h hr;cases o1 with
  |normal=>
   obtain⟨g2,o2,s2,h2,hr2,d2⟩:=ihb r g1 s1 k h1 hr1;refine⟨g2,o2,s2,h2,hr2,fun fro g0 w0 hi hro=>.seq ((d1 fro g0 w0 hi hro).mono fun o s' ⟨e1,e2⟩=>?_)⟩
   grind
  |exit id=>exact⟨g1,_,s1,h1,hr1,fun fro g0 w0 hi hro=>.seq ((d1 fro g0 w0 hi hro).mono fun o s' ⟨e1,e2⟩=>by grind)⟩
  |ret=>exact⟨g1,_,s1,h1,hr1,fun fro g0 w0 hi hro=>.seq ((d1 fro g0 w0 hi hro).mono fun o s' ⟨e1,e2⟩=>by grind)⟩
  |bk v=>exact⟨g1,_,s1,h1,hr1,fun fro g0 w0 hi hro=>.seq ((d1 fro g0 w0 hi hro).mono fun o s' ⟨e1,e2⟩=>by grind)⟩
 |cond c a b iha ihb=>
  have main:∀{ρ:Type} (r:ρ) (g:G P ρ) (s:St) (k:G P ρ→bz→St→Prop),DJ P X H0 c a b (fun g s k=>jL P X H0 a g s k) (fun g s k=>jL P X H0 b g s k) g s k→g.run n=some r→
   ∃g' o s',k g' o s'∧g'.run n=some r∧∀fro g0 w0,Inv g0 H0 w0→oO g0 X.ro fro→fJ P fro g0 H0 w0 (.cond c a b) s fun o1 s1=>o1=o∧s1=s':=by
   intro ρ r g s k h hr;unfold DJ at h;obtain⟨s1,g1,hw,h,hr⟩:=BH h hr;obtain⟨g1,h,hr⟩:=mX h hr;split at h
   ·rename_i m g2;have hr2:(G.less m g2).run n=some r:=by rw[G.Jf];simpa[G.run]using hr
    split at h
    ·rename_i hc;obtain⟨g',o,s',h1,h2,d⟩:=iha r _ _ k h hr2;exact⟨g',o,s',h1,h2,fun fro g0 w0 hi hro=>.weak hi hw (.cond true hc (d fro g0 w0 hi hro))⟩
    ·rename_i hc;obtain⟨g',o,s',h1,h2,d⟩:=ihb r _ _ k h hr2;exact⟨g',o,s',h1,h2,fun fro g0 w0 hi hro=>.weak hi hw (.cond false hc (d fro g0 w0 hi hro))⟩
    ·exact h.elim
   ·simp[G.run]at hr
   ·exact nomatch h
  intro ρ r g s k h hr;simp only[jL]at h;split at h
  ·rename_i sh Y g1 kk;obtain⟨t,ht,hr⟩:=Option.bind_eq_some_iff.1 (show(g1.run n).bind (fun t=>(kk t).run n)=some r from hr)
   obtain⟨g',o,s',h1,h2,d⟩:=main t g1 s _ h.1 ht;obtain⟨s'',hw,e⟩:=Hq h1 h2;have e1:o=(Y t).1:=congrArg Prod.fst e;have e2:s''=(Y t).2:=congrArg Prod.snd e;refine⟨kk t,(Y t).1,(Y t).2,(sh.cC _).1 h.2 t,hr,fun fro g0 w0 hi hro=>?_⟩
   rw[← e1,← e2];exact(d fro g0 w0 hi hro).post hi hw
  ·exact main r g s k h hr
 |block id b ih=>
  have main:∀{ρ:Type} (r:ρ) (g:G P ρ) (s:St) (k:G P ρ→bz→St→Prop),jL P X H0 b g s (A3 id k)→g.run n=some r→
   ∃g' o s',k g' o s'∧g'.run n=some r∧∀fro g0 w0,Inv g0 H0 w0→oO g0 X.ro fro→fJ P fro g0 H0 w0 (.block id b) s fun o1 s1=>o1=o∧s1=s':=by
   intro ρ r g s k h hr;obtain⟨g1,o1,s1,h1,hr1,d1⟩:=ih r g s _ h hr;refine⟨g1,behind id o1,s1,?_,hr1,fun fro g0 w0 hi hro=>.block ((d1 fro g0 w0 hi hro).mono fun o s' ⟨e1,e2⟩=>by grind)⟩
   unfold A3 at h1;cases o1 with
   |exit id'=>
    grind [behind]
   |normal=>exact h1
   |ret=>exact h1
   |bk v=>exact h1
  intro ρ r g s k h hr;simp only[jL]at h;split at h
  ·rename_i sh Y g1 kk;obtain⟨t,ht,hr⟩:=Option.bind_eq_some_iff.1 (show(g1.run n).bind (fun t=>(kk t).run n)=some r from hr)
   obtain⟨g',o,s',h1,h2,d⟩:=main t g1 s _ h.1 ht;obtain⟨s'',hw,e⟩:=Hq h1 h2;have e1:o=(Y t).1:=congrArg Prod.fst e;have e2:s''=(Y t).2:=congrArg Prod.snd e;refine⟨kk t,(Y t).1,(Y t).2,(sh.cC _).1 h.2 t,hr,fun fro g0 w0 hi hro=>?_⟩
   rw[← e1,← e2];exact(d fro g0 w0 hi hro).post hi hw
  ·exact main r g s k h hr
 |loop b ih=>
  intro ρ r g s k h hr;simp only[jL]at h;split at h
  ·rename_i m g1;simp only[G.run]at hr;obtain⟨g',o,s',h1,h2,hne,hrd⟩:=Hp (ro:=X.ro) (fun g s k h hr=>ih r g s k h hr) m g1 s h hr
   refine⟨g',o,s',h1,h2,fun fro g0 w0 hi hro=>.loop hi (n:=m) (s0:=s) (fun m s=>Jk P H0 X.ro b m s o s') (fun s h=>h.elim) (.refl _ _) hrd ?_⟩
   rintro m s1 ⟨o1,s2,hd,hx⟩;refine(hd fro g0 w0 hi hro).mono fun o3 s3 ⟨e1,e2⟩=>?_
   subst e1;subst e2;refine⟨s3,.refl _ _,?_⟩;grind
  ·rename_i σ sh hd E Y a0 body kk;obtain⟨h0,hb,hx⟩:=h;simp only[G.run,Option.ite_none_right_eq_some]at hr;obtain⟨hok,hr⟩:=hr;cases ht:cG (fun a=>(body a).run n) n a0 with
   |none=>rw[ht]at hr;cases hr
   |some t=>
    rw[ht]at hr;have hx:=(sh.cC _).1 hx t;obtain⟨_,h0,rfl⟩:=dx hok h0;refine⟨kk t,(Y t).1,(Y t).2,hx,by simpa using hr,fun fro g0 w0 hi hro=>.loop hi (n:=n) (s0:=E a0) (fun m s1=>∃a,s1=E a∧cG (fun a=>(body a).run n) m a=some t) (fun s ⟨a,_,h⟩=>by simp[cG]at h) h0 ⟨a0,rfl,ht⟩ ?_⟩
    rintro m s1 ⟨a,rfl,hit⟩;simp only[cG]at hit;cases hq:(body a).run n with
    |none=>rw[hq]at hit;cases hit
    |some q=>
     rw[hq]at hit;obtain⟨g',o',s',h',hr',d'⟩:=Hr hNe (fun g h hr=>ih q g (E a) _ h hr) (hb a) hq
     refine(d' fro g0 w0 hi hro).mono fun o2 s2 ⟨e1,e2⟩=>?_
     grind [Ho]
  ·rename_i hsh sh hd E Y a0 body kk;obtain⟨h0,hb,hx⟩:=h;have hb:=(hsh.cC _).1 hb;simp only[G.run,Option.ite_none_right_eq_some]at hr;obtain⟨hok,hr⟩:=hr;cases ht:cG (fun a=>(body a).run n) n a0 with
   |none=>rw[ht]at hr;cases hr
   |some t=>
    rw[ht]at hr;have hx:=(sh.cC _).1 hx t;obtain⟨_,h0,rfl⟩:=dx hok h0;refine⟨kk t,(Y t).1,(Y t).2,hx,by simpa using hr,fun fro g0 w0 hi hro=>.loop hi (n:=n) (s0:=E a0) (fun m s1=>∃a,s1=E a∧cG (fun a=>(body a).run n) m a=some t) (fun s ⟨a,_,h⟩=>by simp[cG]at h) h0 ⟨a0,rfl,ht⟩ ?_⟩
    rintro m s1 ⟨a,rfl,hit⟩;simp only[cG]at hit;cases hq:(body a).run n with
    |none=>rw[hq]at hit;cases hit
    |some q=>
     rw[hq]at hit;obtain⟨g',o',s',h',hr',d'⟩:=Hr hNe (fun g h hr=>ih q g (E a) _ h hr) (hb a) hq
     refine(d' fro g0 w0 hi hro).mono fun o2 s2 ⟨e1,e2⟩=>?_
     grind [Ho]
  ·simp[G.run]at hr
  ·exact nomatch h
 |exit id=>intro ρ r g s k h hr;exact⟨g,_,s,h,hr,fun _ _ _ _ _=>.exit ⟨rfl,rfl⟩⟩
 |ret=>intro ρ r g s k h hr;exact⟨g,_,s,h,hr,fun _ _ _ _ _=>.ret ⟨rfl,rfl⟩⟩
 |rangeFunc x ps as bd=>
  intro ρ r g s k h hr;simp only[jL]at h;obtain⟨s1,g1,hw,h,hr⟩:=BH h hr;split at h
  ·rename_i pr g2;obtain⟨_,h⟩:=h;simp only[G.run]at hr;split at h
   ·rename_i f p q hf;split at h
    ·rename_i l H1 D1 hen;rw[dY]at h;obtain⟨hpr,h⟩:=h;split at h
     ·rename_i ids rs hcl;simp only[dw]at h;obtain⟨hq,_⟩:=qp (A6 hpr) _ _ _ _ _ hcl;obtain⟨g3,a,H2,hk,hr3,hfn⟩:=hNe.fn h hr;have ho:=zY hfn;have hran:∀out s',AV (qM f (p++[.jJ l]++q) (mask ids H1) a H2) X.ro 0 (cS s1.A x) ps as bd s1=some (out,s')→∀fro g0 w0,Inv g0 H0 w0→oO g0 X.ro fro→fJ P fro g0 H0 w0 (.rangeFunc x ps as bd) s fun o1 s1=>o1=out∧s1=s':=by
       intro out s' hra fro g0 w0 hi hro;refine .weak hi hw fun Q g a w hs hl hp=>?_
       exact Ed ho (hro.mono hl.ext) hra hs ((hp out s' ⟨rfl,rfl⟩).later hl)
      rcases wm hk with⟨e,hm,hk⟩ |⟨v,hm,hk⟩
      ·simp only[fD]at hk;split at hk
       ·rename_i out s' hend;refine⟨g3,out,s',hk,hr3,hran out s' ?_⟩;simp only[AV,hf,hen,dY,hq,finish,gj,dw,qM,and_self,if_true,hm,mg,fD,hend]
       ·exact hk.elim
      ·refine⟨g3,_,_,hk,hr3,hran _ _ ?_⟩;simp only[AV,hf,hen,dY,hq,finish,gj,dw,qM,and_self,if_true,hm]
     ·exact h.elim
    ·exact h.elim
   ·exact h.elim
  ·simp[G.run]at hr
  ·exact nomatch h
 |_=>intro ρ r g s k h hr;exact h.elim
theorem k7{F:Fence}{fn:Func}{tmps:Array Value}{R R':Ending→World→Prop}(hR:∀e w,R e w→R' e w):∀{ds:List Deferred} {m:Nat} {u:FrameMode} {w:World},LeavesInM F m P fn tmps R ds u w→LeavesInM F m P fn tmps R' ds u w
 | [],m,u,w,h=>by
  cases u with
  |run=>exact h
  |returning=>obtain⟨v,h1,h2⟩:=h;exact⟨v,h1,hR _ _ h2⟩
  |panicking chain=>exact hR _ _ h
 |d::ds,m,u,w,h=>by
  obtain⟨hrun,h⟩:=h;refine⟨hrun,?_⟩;rcases h with⟨r,w',htar,htake,hrest⟩ |⟨hn,fv,cap,f,args,htar,hinv,hlead,hcall⟩
  ·exact .inl ⟨r,w',htar,htake,k7 hR hrest⟩
  ·refine .inr ⟨hn,fv,cap,f,args,htar,hinv,hlead,hcall.mono fun e u' w' h=>?_⟩
   cases e with
   |returned v=>exact k7 hR h
   |panicked chain=>exact k7 hR h
   |outgrown=>exact hR _ _ h
theorem Hs{L:Nat}{fn:Func}{m:Option AVal}{s:St}{r':aQ}{H1:List af}(h:yw P cfg L fn m s=some (r',H1)):
 ∃m' H' r,leave P cfg wh L s.D m s.H=some (m',H')∧ending P fn s.A m' H'=some (r,H1)∧(∀v,r=.ret v→r'=.ret (jK v))∧(∀v,r=.bk v→r'=.bk v):=by
 grind [yw]
theorem bI.of(hm : P.follows .mixedOrders = true)(hN : ∀ (f : FuncId) (fn : Func), P.funcs[f]? = some fn → fn.name ≠ "runtime.NumGoroutine"){L : Nat}{f : FuncId}{fn : Func}{c : Code}{args : List AVal}{H0 H1 : List af}{a : aQ}{o : bz}{s s' : St}
 (hf:P.funcs[f]? =some fn) (hb:fn.body=some c) (hd:∀g0 w0,Inv g0 H0 w0→fJ P none g0 H0 w0 c ⟨lQ fn.ntmps args,H0,[]⟩ fun o1 s1=>o1=o∧s1=s) (hwk:iG H0 s s') (hlo:pO P cfg L fn o s'=some (a,H1)):bI P f args H0 a H1:=by
 refine⟨⟨fn,c,hf,hb,hN f fn hf⟩,fun gh w vs hi hl=>callsIn_wide.1 (callsIn_of_wp_marks (F:=Fr none) (n:=0) hf hb trivial ?_)⟩
 have hsim:ff gh ⟨lQ fn.ntmps args,H0,[]⟩ {tmps:=vs++Array.replicate (fn.ntmps - vs.size) undef,defers:=[]} w:=⟨hi,wg hl _,rfl⟩;refine hd gh w hi _ gh _ w hsim (aU.refl _ _ _) fun o1 s1 ⟨e1,e2⟩=>?_
 subst e1;subst e2;refine fI.weak hi hwk ?_;have key:∀(m:Option AVal) (u:FrameMode),yw P cfg L fn m s'=some (a,H1)→∀g' a' w',ff g' s' a' w'→aU gh H0 w g' s'.H w'→ot g' w' m u→
  LeavesInM (Fr none) 0 P fn a'.tmps (fE gh H0 w a H1) a'.defers u w':=by
  intro m u hla g' a' w' hs' hlat hmo;obtain⟨m',H',rr,h1,h2,h3,h4⟩:=Hs hla;refine k7 ?_ (lH hm hN sX s'.D a'.defers m u s'.H g' w' m' H' hs'.defs hs'.inv hs'.tmps hmo h1 h2 hlat);rintro e w2 ⟨g2,hi2,hla2,he2⟩;refine⟨g2,hi2,hla2,?_⟩;cases rr with
  |ret v=>rw[h3 v rfl];obtain⟨x,rfl,hx⟩:=he2;exact⟨x,rfl,DD _ _ hx⟩
  |bk v=>rw[h4 v rfl];exact he2
 cases o1 with
 |normal=>exact fun g' a' w' hs' hlat=>key none .returning hlo g' a' w' hs' hlat rfl
 |ret=>exact fun g' a' w' hs' hlat=>key none .returning hlo g' a' w' hs' hlat rfl
 |exit id=>simp[pO]at hlo
 |bk v=>exact fun g' a' w' x hv hs' hlat hrx=>key (some v) (.panicking [{v:=x,recovered:=false}]) hlo g' a' w' hs' hlat ⟨hv,x,rfl,hrx⟩
theorem BI{L:Nat}{fn:Func}{m:Option AVal}{s:St}{a:aQ}{H1:List af}(h:yw P cfg L fn m s=some (a,H1)):∀v,a=.bk v→v.flat=true:=by
 grind [yw]
theorem Ek{L:Nat}{fn:Func}{o:bz}{s:St}{a:aQ}{H1:List af}(h:pO P cfg L fn o s=some (a,H1)):∀v,a=.bk v→v.flat=true:=by
 cases o with
 |normal=>exact BI h
 |ret=>exact BI h
 |exit id=>simp[pO]at h
 |bk v=>exact BI h
theorem y6{nd : Bool}(hm : P.follows .mixedOrders = true)(hN : ∀ (f : FuncId) (fn : Func), P.funcs[f]? = some fn → fn.name ≠ "runtime.NumGoroutine") : ∀ d, pP P (kR P cfg nd d)
 | 0=>⟨fun h=>h.elim,fun h=>h.elim,fun h=>h.elim⟩
 |d+1=>by
  have ih:=y6 (nd:=nd) hm hN d;constructor
  ·intro ρ n f args H g k r h hr;simp only[kR,Qg]at h;split at h
   ·exact Le h hr
   split at h
   ·rename_i fn hf;split at h
    ·rename_i c hb;obtain⟨g1,o,s1,h,hr,hd⟩:=wu (X:=⟨cfg,none,kR P cfg nd d,nd⟩) hm ih c r g _ _ h hr;unfold O5 at h;split at h
     ·rename_i ts pr g2;simp only[G.run,Option.ite_none_right_eq_some]at hr;obtain⟨s',hw,h⟩:=dx hr.1 h;split at h
      ·rename_i a H1 hla;have hfn:=bI.of hm hN hf hb (fun g0 w0 hi=>hd none g0 w0 hi trivial) hw hla
       obtain⟨_,hpr,h⟩:=h;grind [dY,bI.trim,Ek,A6]
      ·exact h.elim
     ·simp[G.run]at hr
     ·exact nomatch h
    ·exact h.elim
   ·exact h.elim
  ·intro ρ n b args H g k r h hr;simp only[kR,O7]at h;split at h
   ·rename_i st pend fid A ps assign body hb;split at h
    ·rename_i hlen;have hlen:=Nat.eq_of_beq_eq_true hlen;obtain⟨g1,o1,s1,h,hr,hd1⟩:=wu (X:=⟨cfg,some b,kR P cfg nd d,nd⟩) hm ih assign r g _ _ h hr;split at h
     ·split at h
      ·rename_i pend1 fid1 A1 ps1 as1 bd1 hb1;rw[dY]at h;obtain⟨g2,o2,s2,h,hr,hd2⟩:=wu (X:=⟨cfg,some b,kR P cfg nd d,nd⟩) hm ih body r g1 _ _ h hr;unfold O6 at h;split at h
       ·rename_i j hj;split at h
        ·rename_i ts g3;simp only[G.run,Option.ite_none_right_eq_some]at hr;obtain⟨s3,hw,h⟩:=dx hr.1 h;split at h
         ·rename_i H2 hmk;refine⟨g3,_,H2,h,hr.2,fun gh w vs k sz hi hl hk=>?_⟩
          obtain⟨k0,tmps0,dk0,fn0,q1,q2,q3⟩:=hi.good b _ hb;rw[hk]at q1;simp only[Option.some.injEq,Prod.mk.injEq]at q1;obtain⟨rfl,rfl⟩:=q1;have hvs:=(dN _ _ hl).1;refine⟨_,q2,by grind,?_⟩
          rw[yS _ ps vs rfl];have hsim:ff gh ⟨tQ A ps args,H,[]⟩ {tmps:=(ps.zip vs.toList).foldl (fun(tmps:Array Value) (p:Tmp×Value)=>tmps.setIfInBounds p.1 p.2) tmps0,defers:=[]} w:=
           ⟨hi,zU ps args A _ tmps0 q3 hl,rfl⟩
          refine roundIn_of_wpIn trivial ?_;refine hd1 (some k) gh w hi ⟨0,hk⟩ _ gh _ w hsim (aU.refl _ _ _) fun oo ss ⟨e1,e2⟩=>?_
          subst e1;subst e2;intro gg1 a1 w1 hs1 hla1;have hk1:=hla1.ext.aj _ _ _ hk;obtain⟨k1,tmps1,dk1,fn1,u1,u2,u3⟩:=hs1.inv.good b _ hb1;rw[hk1]at u1;simp only[Option.some.injEq,Prod.mk.injEq]at u1;obtain⟨rfl,-⟩:=u1;refine⟨_,run_beginRound u2 rfl,?_⟩;obtain⟨i2,l2⟩:=hs1.inv.put (y:=.loop .busy pend1 fid1 A1 ps1 as1 bd1)
           (ob:=.loop {state:=.busy,pending:=pend1,fn:=fn1,tmps:=tmps1,params:=ps1.toArray,assign:=as1,body:=bd1,defers:=dk1}) hb1 rfl hk1 rfl (tS u2)
           fun hext=>⟨_,tmps1,dk1,fn1,hk1,World.putObj_heap_same (Array.getElem?_eq_some_iff.1 u2).1,bN hext _ _ u3⟩
          have hsim2:ff gg1 {ss with H:=ss.H.set b (.loop .busy pend1 fid1 A1 ps1 as1 bd1)} a1 (w1.putObj k (.loop {state:=.busy,pending:=pend1,fn:=fn1,tmps:=tmps1,params:=ps1.toArray,assign:=as1,body:=bd1,defers:=dk1})):=
           ⟨i2,bN l2.ext _ _ hs1.tmps,eC l2.ext _ _ hs1.defs⟩
          refine hd2 (some k) gh w hi ⟨0,hk⟩ _ gg1 a1 _ hsim2 (hla1.trans l2) fun oo2 ss2 ⟨e1,e2⟩=>?_
          subst e1;subst e2;refine fI.weak hi hw ?_;have hend:∀g' a' w',ff g' s3 a' w'→aU gh H w g' s3.H w'→
           ∃v w'',(Instr.endRound k j).run P w'=.ok v w''∧fE gh H w (.ret (.sc (.bool j.isNone))) H2 (.returned v) w'':=by
           intro g' a' w' hs' hla';obtain⟨rr,e1,e2,e3⟩:=yU hs'.inv (hla'.ext.aj _ _ _ hk) hmk;exact⟨_,_,run_endRound j e1,g',e2,hla'.trans e3,_,rfl,by simp[R]⟩
          cases oo2 with
          |normal=>
           simp only[rN,Option.some.injEq]at hj;subst hj;exact fun g' a' w' h1 h2=>hend g' a' w' h1 h2
          |ret=>
           simp only[rN,Option.some.injEq]at hj;subst hj;exact fun g' a' w' h1 h2=>hend g' a' w' h1 h2
          |exit id=>
           simp only[rN,Option.some.injEq]at hj;subst hj;exact fun g' a' w' h1 h2=>hend g' a' w' h1 h2
          |bk v=>cases hj
         ·exact h.elim
        ·simp[G.run]at hr
        ·exact nomatch h
       ·exact h.elim
      ·exact h.elim
     ·exact h.elim
    ·exact h.elim
   ·exact h.elim
  ·intro σ sh n ro H0 b g E s Y q h hr;obtain⟨h⟩:=h;exact wu (X:=⟨cfg,ro,kR P cfg nd d,nd⟩) hm ih b q g s _ h hr
end
end Go.AM
end
section
namespace Go.AM
section
variable [aD] {P:Program} {cfg:eP}
def BJ(P:Program)[aD](cfg:eP)(L:Nat)(fn:Func)(m:Option AVal)(s:St):Option aQ:=
 match leave P cfg wh L s.D m s.H with
 |some (m',H')=>match ending P fn s.A m' H' with
  |some (.ret v,H1)=>match(snap ko v).run H1 with
   |some v'=>some (.ret (jK v'))
   |none=>none
  |some (.bk v,_)=>match v.flat with
   |true=>some (.bk v)
   |false=>none
  |none=>none
 |none=>none
def FB(P:Program)[aD](cfg:eP)(L:Nat)(fn:Func)(o:bz)(s:St):Option aQ:=
 match o with
 | .normal=>BJ P cfg L fn none s
 | .ret=>BJ P cfg L fn none s
 | .bk v=>BJ P cfg L fn (some v) s
 | .exit _=>none
def GF{ρ:Type}(P:Program)[aD](cfg:eP)(L:Nat)(fn:Func)(out:ρ→aQ)(g:G P ρ)(o:bz)(s:St):Prop:=
 match g with
 | .done ts r=>jC [] ts s fun s=>FB P cfg L fn o s=some (out r)
 | .fail=>True
 |_=>Sm P fn o s out
def Rv{ρ:Type}(P:Program)[aD](cfg:eP)(L:Nat)(f:FuncId)(args:List AVal)(out:ρ→aQ)(g:G P ρ):Prop:=
 match P.funcs[f]? with
 |some fn=>match fn.body with
  |some c=>jL P (GD P cfg) [] c g ⟨lQ fn.ntmps args,[],[]⟩ fun g o s=>GF P cfg L fn out g o s
  |none=>False
 |none=>False
def Qj{ρ:Type}(out:ρ→aQ)(r:ρ):Prop:=some (out r)=some (out r)
theorem O9{n L:Nat}{ρ:Type}{fn:Func}{out:ρ→aQ}{g:G P ρ}{o:bz}{s:St}{r:ρ}(h:GF P cfg L fn out g o s)(hr:g.run n=some r):∃s',iG [] s s'∧FB P cfg L fn o s'=some (out r):=by
 unfold GF at h;split at h
 ·simp only[G.run,Option.ite_none_right_eq_some,Option.some.injEq]at hr;obtain⟨hok,rfl⟩:=hr;exact dx hok h
 ·simp[G.run]at hr
 ·exact nomatch h
theorem FC{g g':Gh}{w w':World}{H1:List af}{r r':aQ}{e:Ending}(hi:Inv g [] w)(hi':Inv g' H1 w')(hla:aU g [] w g' H1 w')(hl:(∀v,r=.ret v→∃v',(snap ko v).run H1=some v'∧r'=.ret (jK v'))∧(∀v,r=.bk v→v.flat=true∧r'=.bk v))
 (he:Qd g' w' r e):fE g [] w r' [] e w':=by
 refine⟨gG g' H1,hi'.gG,⟨⟨fun b ak x hx=>?_,fun k o hk=>.inl (hla.ext.st k o hk),hla.ext.cell,hla.ext.shape⟩,hla.size,hla.keep,fun k _ ho=>absurd ho fM,Nat.le_refl _,hla.os,hla.tape,hla.output,fun k o hk hst=>?_,fun b hb=>by simp at hb,fun b ak k z h=>by cases h⟩,?_⟩
 ·rw[hi.fresh b ak (.inr (by simp))]at hx;cases hx
 ·rcases hst with hst |hst
  ·exact(hla.stk k o hk hst).imp_right fun h=>absurd h.1 fM
  ·exact absurd (hla.own k hk hst) fM
 ·cases r with
  |ret v=>
   obtain⟨v',hs,rfl⟩:=hl.1 v rfl;obtain⟨x,rfl,hr⟩:=he;exact⟨x,rfl,DD _ _ (ql hi' _ _ _ _ hs hr).1⟩
  |bk v=>
   obtain⟨hf,rfl⟩:=hl.2 v rfl;obtain⟨x,rfl,hr⟩:=he;exact⟨x,rfl,k6 _ _ hf hr⟩
theorem Ht{L:Nat}{fn:Func}{m:Option AVal}{s:St}{r':aQ}(h:BJ P cfg L fn m s=some r'):
 ∃m' H' r H1,leave P cfg wh L s.D m s.H=some (m',H')∧ending P fn s.A m' H'=some (r,H1)∧(∀v,r=.ret v→∃v',(snap ko v).run H1=some v'∧r'=.ret (jK v'))∧(∀v,r=.bk v→v.flat=true∧r'=.bk v):=by
 unfold BJ at h;split at h
 ·rename_i m' H' hl;split at h
  ·rename_i v H1 he;split at h
   ·rename_i v' hs;simp only[Option.some.injEq]at h;subst h;refine⟨m',H',_,H1,hl,he,?_,?_⟩
    ·intro u hu;cases hu;exact⟨v',hs,rfl⟩
    ·intro u hu;cases hu
   ·cases h
  ·rename_i v H1 he;split at h
   ·rename_i hf;simp only[Option.some.injEq]at h;subst h;refine⟨m',H',_,H1,hl,he,?_,?_⟩
    ·intro u hu;cases hu
    ·intro u hu;cases hu;exact⟨hf,rfl⟩
   ·cases h
  ·cases h
 ·cases h
theorem NB(hm : P.follows .mixedOrders = true)(hN : ∀ (f : FuncId) (fn : Func), P.funcs[f]? = some fn → fn.name ≠ "runtime.NumGoroutine"){L : Nat}{f : FuncId}{args : List AVal}{ρ : Type}{out : ρ → aQ}{g : G P ρ}
 (h:Rv P cfg L f args out g) {n:Nat} {r:ρ} (hr:g.run n=some r):kr P f args (out r):=by
 unfold Rv at h;split at h
 ·rename_i fn hf;split at h
  ·rename_i c hb;refine⟨⟨fn,c,hf,hb,hN f fn hf⟩,fun gh w vs hi hl=>callsIn_wide.1 (callsIn_of_wp_marks (F:=Fr none) (n:=0) hf hb trivial ?_)⟩
   have hsim:ff gh ⟨lQ fn.ntmps args,[],[]⟩ {tmps:=vs++Array.replicate (fn.ntmps - vs.size) undef,defers:=[]} w:=⟨hi,wg hl _,rfl⟩;obtain⟨g',o,s1,h',hr',hd⟩:=wu (X:=GD P cfg) hm (y6 hm hN 9) c r g _ _ h hr;obtain⟨s',hwk,hlo⟩:=O9 h' hr';refine hd none gh w hi trivial _ gh _ w hsim (aU.refl _ _ _) fun o1 s1 ⟨e1,e2⟩=>?_
   subst e1;subst e2;refine fI.weak hi hwk ?_;have key:∀(m:Option AVal) (u:FrameMode),BJ P cfg L fn m s'=some (out r)→∀g' a' w',ff g' s' a' w'→aU gh [] w g' s'.H w'→ot g' w' m u→
    LeavesInM (Fr none) 0 P fn a'.tmps (fE gh [] w (out r) []) a'.defers u w':=by
    intro m u hla g' a' w' hs' hlat hmo;obtain⟨m',H',rr,H1,h1,h2,h3⟩:=Ht hla;refine k7 ?_ (lH hm hN sX s'.D a'.defers m u s'.H g' w' m' H' hs'.defs hs'.inv hs'.tmps hmo h1 h2 hlat);rintro e w2 ⟨g2,hi2,hla2,he2⟩;exact FC hi hi2 hla2 h3 he2
   cases o1 with
   |normal=>exact fun g' a' w' hs' hlat=>key none .returning hlo g' a' w' hs' hlat rfl
   |ret=>exact fun g' a' w' hs' hlat=>key none .returning hlo g' a' w' hs' hlat rfl
   |exit id=>simp[FB]at hlo
   |bk v=>exact fun g' a' w' x hv hs' hlat hrx=>key (some v) (.panicking [{v:=x,recovered:=false}]) hlo g' a' w' hs' hlat ⟨hv,x,rfl,hrx⟩
  ·exact h.elim
 ·exact h.elim
inductive NC (P:Program) [aD] {ρ:Type} (fn:Func) (o:bz) (s:St) (H0:List af) (out:ρ→aQ×List af):Prop
def L6(n:Nat):Option (aQ×List af)→Option (aQ×List af)
 |some (a,H)=>some (a,H.take n)
 |none=>none
def L7{ρ:Type}(P:Program)[aD](cfg:eP)(L:Nat)(fn:Func)(H0:List af)(out:ρ→aQ×List af)(g:G P ρ)(o:bz)(s:St):Prop:=
 match g with
 | .done ts r=>jC H0 ts s fun s=>L6 H0.length (pO P cfg L fn o s)=some (out r)
 | .fail=>True
 |_=>NC P fn o s H0 out
def L8{ρ:Type}(P:Program)[aD](cfg:eP)(L:Nat)(f:FuncId)(args:List AVal)(H0:List af)(out:ρ→aQ×List af)(g:G P ρ):Prop:=
 match P.funcs[f]? with
 |some fn=>match fn.body with
  |some c=>jL P (GD P cfg) H0 c g ⟨lQ fn.ntmps args,H0,[]⟩ fun g o s=>L7 P cfg L fn H0 out g o s
  |none=>False
 |none=>False
def FD{ρ:Type}(out:ρ→aQ×List af)(r:ρ):Prop:=some (out r)=some (out r)
theorem ND{n L:Nat}{ρ:Type}{fn:Func}{H0:List af}{out:ρ→aQ×List af}{g:G P ρ}{o:bz}{s:St}{r:ρ}(h:L7 P cfg L fn H0 out g o s)(hr:g.run n=some r):∃s',iG H0 s s'∧L6 H0.length (pO P cfg L fn o s')=some (out r):=by
 unfold L7 at h;split at h
 ·simp only[G.run,Option.ite_none_right_eq_some,Option.some.injEq]at hr;obtain⟨hok,rfl⟩:=hr;exact dx hok h
 ·simp[G.run]at hr
 ·exact nomatch h
theorem FE(hm : P.follows .mixedOrders = true)(hN : ∀ (f : FuncId) (fn : Func), P.funcs[f]? = some fn → fn.name ≠ "runtime.NumGoroutine"){L : Nat}{f : FuncId}{args : List AVal}{H0 : List af}{ρ : Type}{out : ρ → aQ × List af}{g : G P ρ}
 (h:L8 P cfg L f args H0 out g) {n:Nat} {r:ρ} (hr:g.run n=some r) (h0:0<H0.length) (ha:(out r).1.Cj=true) (hrow:∀x∈(out r).2,x.mC=true∨x=.dead):bI P f args H0 (out r).1 (out r).2:=by
 unfold L8 at h;split at h
 ·rename_i fn hf;split at h
  ·rename_i c hb;obtain⟨g',o,s1,h',hr',hd⟩:=wu (X:=GD P cfg) hm (y6 hm hN 9) c r g _ _ h hr;obtain⟨s',hwk,hlo⟩:=ND h' hr';cases hl:pO P cfg L fn o s' with
   |none=>rw[hl]at hlo;cases hlo
   |some p=>
    obtain⟨a,H1⟩:=p;rw[hl]at hlo;simp only[L6,Option.some.injEq]at hlo;have:=bI.of hm hN hf hb (fun g0 w0 hi=>hd none g0 w0 hi trivial) hwk hl
    rw[← hlo]at ha hrow ⊢;exact bI.take this h0 ha hrow
  ·exact h.elim
 ·exact h.elim
class Plain (P:Program):Prop where
 mixed:P.follows .mixedOrders=true
 names : ∀ (f : FuncId) (fn : Func), P.funcs[f]? = some fn → fn.name ≠ "runtime.NumGoroutine"
def aI.of[hp:Plain P](cfg:eP)(L:Nat)(f:FuncId)(X:Type)(args:X→List AVal)(sh:Sh)(out:sh.El→aQ)(g:X→G P sh.El)(h:∀x,Rv P cfg L f (args x) out (g x)=(g x).fF (Qj out)):aI P where
 f:=f
 X:=X
 args:=args
 sh:=sh
 out:=out
 S:=fun n x=>(g x).run n
 ok:=fun _ x _ hr=>NB hp.mixed hp.names (by rw[h x];exact G.bR (fun _=>rfl) (g x)) hr
def dJ.ofVar[hp:Plain P](cfg:eP)(L:Nat)(f:FuncId)(X:Type)(args:X→List AVal)(τ:Type)(sz:Nat)(enc:τ→List AVal)(b:X→τ)(sh:Sh)(out:sh.El→aQ)(bo:sh.El→τ)(g:X→G P sh.El)
 (he:∀a,AVal.aX (enc a)=true) (ha:∀x,AVal.nH (args x)=true) (hr:sh.all fun r=>(out r).Cj=true)
 (h:∀x,L8 P cfg L f (args x) [.row 0 sz [enc (b x)]] (fun r=>(out r,[.row 0 sz [enc (bo r)]])) (g x)=(g x).fF (FD fun r=>(out r,[.row 0 sz [enc (bo r)]]))):dJ P where
 f:=f
 X:=X
 args:=args
 blk:=fun x=>.row 0 sz [enc (b x)]
 sh:=sh
 out:=out
 ru:=fun _ r=>.row 0 sz [enc (bo r)]
 S:=fun n x=>(g x).run n
 a0:=ha
 b0:=fun x=>by simp[af.mC,he]
 b1:=fun _ r=>.inl (by simp[af.mC,he])
 r0:=fun r=>(sh.cC _).1 hr r
 ok:=fun _ x r hr'=>FE hp.mixed hp.names (out:=fun r=>(out r,[.row 0 sz [enc (bo r)]])) (by rw[h x];exact G.bR (fun _=>rfl) (g x)) hr' (Nat.zero_lt_succ _) ((sh.cC _).1 hr r) fun y hy=>by
  simp only[List.mem_singleton]at hy;subst hy;exact .inl (by simp[af.mC,he])
def dJ.tX[hp:Plain P](cfg:eP)(L:Nat)(f:FuncId)(X:Type)(args:X→List AVal)(τ:Type)(sz:Nat)(enc:τ→List AVal)(b:X→List τ)(sh:Sh)(out:sh.El→aQ)(bo:sh.El→List τ)(g:X→G P sh.El)
 (he:∀a,AVal.aX (enc a)=true) (ha:∀x,AVal.nH (args x)=true) (hr:sh.all fun r=>(out r).Cj=true)
 (h:∀x,L8 P cfg L f (args x) [.row 0 sz ((b x).map enc)] (fun r=>(out r,[.row 0 sz ((bo r).map enc)])) (g x)=(g x).fF (FD fun r=>(out r,[.row 0 sz ((bo r).map enc)]))):dJ P where
 f:=f
 X:=X
 args:=args
 blk:=fun x=>.row 0 sz ((b x).map enc)
 sh:=sh
 out:=out
 ru:=fun _ r=>.row 0 sz ((bo r).map enc)
 S:=fun n x=>(g x).run n
 a0:=ha
 b0:=fun x=>by simp[af.mC,he]
 b1:=fun _ r=>.inl (by simp[af.mC,he])
 r0:=fun r=>(sh.cC _).1 hr r
 ok:=fun _ x r hr'=>FE hp.mixed hp.names (out:=fun r=>(out r,[.row 0 sz ((bo r).map enc)])) (by rw[h x];exact G.bR (fun _=>rfl) (g x)) hr' (Nat.zero_lt_succ _) ((sh.cC _).1 hr r) fun y hy=>by
  simp only[List.mem_singleton]at hy;subst hy;exact .inl (by simp[af.mC,he])
end
end Go.AM
end
section
namespace Go.AM
def y7(P:Program)(T:TypeId):Option Nat:=match P.underlying T with
 |some (.slice e)=>dF P e
 |_=>none
def intOf:AVal→Option Int
 | .sc (.int _ n)=>some n
 |_=>none
theorem ow{v:AVal}{n:Int}(h:intOf v=some n):∃k,v=.sc (.int k n):=by
 unfold intOf at h;grind
def jd{X:Type}(l:List X)(i:Int):Option X:=if 0≤i then l[i.toNat]? else none
theorem tY{P:Program}{T:TypeId}{n:Nat}(h:y7 P T=some n):∃e,P.underlying T=some (.slice e)∧dF P e=some n:=by
 grind [y7]
section
def cB{X:Type}(l:List X)(enc:X→List AVal)(n:Nat)(i:Int):qL X where
 run:=jd l i
 bB x:={val:=.cm (enc x) 0}
 ids:=[]
 tj gl P cfg nid op aj H:=match op with
  | .indexAddr T a b=>aj a=.av (l.map enc)∧intOf (aj b)=some i∧y7 P T=some n∧∀x,(enc x).length=n
  |_=>False
 kQ:=AVal.av (l.map enc)=AVal.av (l.map enc)∧some i=some i∧some n=some n∧∀_:X,n=n
 holds:=⟨rfl,rfl,rfl,fun _=>rfl⟩
 sound gl P cfg nid op aj H h x hx:=by
  cases op<;>try exact h.elim
  rename_i T a b;obtain⟨h1,h2,h3,h4⟩:=h;obtain⟨k,h2⟩:=ow h2;obtain⟨e,e1,e2⟩:=tY h3;unfold jd at hx;split at hx
  ·rename_i h0;simp[cq,dZ,dh,h2,h1,qg,e1,e2,h0,hx,h4,yields,Rd.bind,Rd.run,Rd.reads]
  ·cases hx
def bG{X:Type}(l:List X)(enc:X→List AVal):qL Unit where
 run:=some ()
 bB _:={val:=.sc (.int .i64 l.length)}
 ids:=[]
 tj gl P cfg nid op aj H:=match op with
  | .call {callee:=.builtin .len,args,argTypes}=>match argTypes[0]?,args[0]? with
   |some T,some x=> @Eq Bool (y7 P T).isSome true∧aj x=.av (l.map enc)
   |_,_=>False
  |_=>False
 kQ:=(@Eq Bool true true)∧AVal.av (l.map enc)=AVal.av (l.map enc)
 holds:=⟨by rfl,by rfl⟩
 sound gl P cfg nid op aj H h x hx:=by
  split at h
  ·split at h
   ·rename_i args argTypes _ _ T x hT ha;obtain⟨h1,h2⟩:=h;obtain⟨n,hn⟩:=Option.isSome_iff_exists.1 h1;obtain⟨e,e1,e2⟩:=tY hn;grind [cq,dZ,dh,vU,Rd.bind,Rd.run,Rd.reads]
   ·exact h.elim
  ·exact h.elim
def NF(P:Program)(T:TypeId):Option (Nat×Nat×Bool):=match P.info? T with
 |some i=>some (i.size,i.bytes,oI i)
 |none=>none
def y8(P:Program)(T:TypeId):Option (Nat×Nat×Bool):=match P.underlying T with
 |some (.slice e)=>NF P e
 |_=>none
theorem xR{P:Program}{T:TypeId}{n by_:Nat}{z:Bool}(h:y8 P T=some (n,by_,z)):∃e i,P.underlying T=some (.slice e)∧P.info? e=some i∧i.size=n∧i.bytes=by_∧oI i=z:=by
 grind [y8,NF]
theorem run_bind'{α β:Type}{H:List af}{m:Rd α}{f:α→Rd β}{x:α}(h:m.run H=some x):(m.bind f).run H=(f x).run H:=by
 induction m with
 |fail=>simp[Rd.run]at h
 |done a=>simp[Rd.run]at h;subst h;rfl
 |get b k ih=>
  grind [Rd.run,Rd.bind]
def pQ{X:Type}(len:Nat)(l m:List X)(enc:X→List AVal)(n by_ b ak nid0:Nat)(eids:List Nat):qL Unit where
 run:=if len=l.length∧roomy (l.length+m.length) by_=true then some ()else none
 bB _:={val:=.sl b (ak+1) n 0 (l++m).length,eO:=[(b,.row (ak+1) n ((l++m).map enc))]}
 ids:=nid0::(eids++[b])
 tj gl P cfg nid op aj H:=match op with
  | .call {callee:=.builtin .append,args,argTypes}=>match argTypes[0]?,argTypes[1]?,args[0]?,args[1]? with
   |some ST,some XT,some s,some x=>nid=nid0∧H[nid]? =some .bA∧decide (args.size=2)=true∧y8 P ST=some (n,by_,true)∧(y7 P XT).isSome=true∧decide (0<n)=true∧aj s=.sl b ak n 0 len∧H[b]? =some (.row ak n (l.map enc))∧
    (elems (aj x)).run H=some (m.map enc)∧(elems (aj x)).reads H=eids∧∀x,(enc x).length=n
   |_,_,_,_=>False
  |_=>False
 kQ:=nid0=nid0∧some af.bA=some af.bA∧ @Eq Bool true true∧some (n,by_,true)=some (n,by_,true)∧ @Eq Bool true true∧ @Eq Bool true true∧AVal.sl b ak n 0 len=AVal.sl b ak n 0 len∧some (af.row ak n (l.map enc))=some (af.row ak n (l.map enc))∧
  some (m.map enc)=some (m.map enc)∧eids=eids∧∀_:X,n=n
 holds:=by simp
 sound gl P cfg nid op aj H h x hx:=by
  split at h
  ·split at h
   ·rename_i args argTypes _ _ _ _ ST XT sx x hT hX hs hxx;obtain⟨rfl,hunb,h0,h1,h2,h3,h4,h5,h6,h6',h7⟩:=h;obtain⟨e,i,e1,e2,e3,e4,e5⟩:=xR h1;obtain⟨n2,hn2⟩:=Option.isSome_iff_exists.1 h2;obtain⟨e',e6,_⟩:=tY hn2;simp only[decide_eq_true_eq]at h0 h3;split at hx
    ·rename_i hroom;obtain⟨rfl,hroom⟩:=hroom;have hz:i.size≠0:=by omega
     have hall:(m.map enc).all (fun r=>r.length==i.size)=true:=by
      simp only[List.all_map,List.all_eq_true];intro y _;simp[h7,e3]
     have hop:cq P cfg nid aj (.call {callee:=.builtin .append,args:=args,argTypes:=argTypes})=.get nid fun
      | .bA=>(yG P nid ST XT (aj sx) (aj x)).bind fun e=>.done (.bB e)
      |_=>.fail:=by
      simp only[cq,dZ,if_true,dh,hT,hX,hs,hxx,h0];congr 1
     have hap:yG P nid ST XT (aj sx) (aj x)=(elems (aj x)).bind fun new=>.get b fun
      | .row v sz rows=>if v=ak then(if 0=0∧l.length≤rows.length∧sz=i.size∧roomy (l.length+new.length) i.bytes=true∧new.all (fun r=>r.length==i.size)=true∧oI i=true then
       .done {val:=.sl b (ak+1) sz 0 (l.length+new.length),eO:=[(b,.row (ak+1) sz (Lz l.length rows++new))]}else .fail)else .fail
      |_=>.fail:=by
      rw[h4];unfold yG;rw[e1,e6];simp only[e2,hz,if_false];congr 1
      funext new
      simp only[Rd.bind,rowOf];congr 1
      funext y
      cases y with
      |row v sz rows=>grind [Rd.bind]
      |_=>rfl
     rw[hop,hap];simp only[Rd.run,Rd.reads,hunb];have hb:∀{β:Type} (f:dL→Rd β) (g:List (List AVal)→Rd dL),(((elems (aj x)).bind g).bind f)=(elems (aj x)).bind fun n=>(g n).bind f:=by
      intro β f g;generalize elems (aj x)=q;induction q with
      |fail=>rfl
      |done a=>rfl
      |get b k ih=>simp only[Rd.bind,ih]
     grind [run_bind',Bz,Rd.bind,Rd.run,Rd.reads,KX]
    ·cases hx
   ·exact h.elim
  ·exact h.elim
def bare:AVal→Bool
 | .sc (.slice none 0 0)=>true
 | .emp=>true
 |_=>false
def aM(m n b ak:Nat)(i:Int):qL Unit where
 run:=if 0≤i∧i<m then some ()else none
 bB _:={val:=.ptr b ak i.toNat 0}
 ids:=[]
 tj gl P cfg nid op aj H:=match op with
  | .indexAddr T a c=>aj a=.sl b ak n 0 m∧intOf (aj c)=some i∧y7 P T=some n
  |_=>False
 kQ:=AVal.sl b ak n 0 m=AVal.sl b ak n 0 m∧some i=some i∧some n=some n
 holds:=⟨rfl,rfl,rfl⟩
 sound gl P cfg nid op aj H h x hx:=by
  cases op<;>try exact h.elim
  rename_i T a c;obtain⟨h1,h2,h3⟩:=h;obtain⟨k,h2⟩:=ow h2;obtain⟨e,e1,e2⟩:=tY h3;split at hx
  ·rename_i h0;simp[cq,dZ,dh,h2,h1,qg,e1,e2,h0.1,h0.2,yields,Rd.bind,Rd.run,Rd.reads]
  ·cases hx
def cu{X:Type}(l:List X)(enc:X→List AVal)(n b ak i o:Nat)(val:X→AVal):qL X where
 run:=l[i]?
 bB x:={val:=val x}
 ids:=[b]
 tj gl P cfg nid op aj H:=match op with
  | .load T a=>aj a=.ptr b ak i o∧H[b]? =some (.row ak n (l.map enc))∧∀x,oe P T (enc x) o=some (val x)
  |_=>False
 kQ:=AVal.ptr b ak i o=AVal.ptr b ak i o∧some (af.row ak n (l.map enc))=some (af.row ak n (l.map enc))∧∀x,some (val x)=some (val x)
 holds:=⟨rfl,rfl,fun _=>rfl⟩
 sound gl P cfg nid op aj H h x hx:=by
  cases op<;>try exact h.elim
  rename_i T a;obtain⟨h1,h2,h3⟩:=h;simp[cq,dZ,dh,h1,Bo,rowOf,h2,hx,h3,yields,Rd.bind,Rd.run,Rd.reads]
def ig{X:Type}(l:List X)(enc:X→List AVal)(n b ak i o:Nat)(y:X→X):qL X where
 run:=l[i]?
 bB x:={val:=nothing,eO:=[(b,.row ak n ((l.set i (y x)).map enc))]}
 ids:=[b]
 tj gl P cfg nid op aj H:=match op with
  | .store T a v=>aj a=.ptr b ak i o∧H[b]? =some (.row ak n (l.map enc))∧∀x,(vT P T (aj v)).bind (Dt (enc x) o)=some (enc (y x))
  |_=>False
 kQ:=AVal.ptr b ak i o=AVal.ptr b ak i o∧some (af.row ak n (l.map enc))=some (af.row ak n (l.map enc))∧∀x,some (enc (y x))=some (enc (y x))
 holds:=⟨rfl,rfl,fun _=>rfl⟩
 sound gl P cfg nid op aj H h x hx:=by
  cases op<;>try exact h.elim
  rename_i T a v;obtain⟨h1,h2,h3⟩:=h;obtain⟨vs,h4,h5⟩:=Option.bind_eq_some_iff.1 (h3 x);simp[cq,dZ,dh,h1,Cr,rowOf,h2,hx,h4,h5,Rd.bind,Rd.run,Rd.reads,List.map_set]
def Av{X:Type}(d:X)(enc:X→List AVal)(n by_ nid0:Nat)(k:Int):qL Unit where
 run:=if 0≤k∧roomy k.toNat by_=true then some ()else none
 bB _:={val:=.sl nid0 0 n 0 (List.replicate k.toNat d).length,eO:=[(nid0,.row 0 n ((List.replicate k.toNat d).map enc))]}
 ids:=[nid0]
 tj gl P cfg nid op aj H:=match op with
  | .makeSlice T a c=>nid=nid0∧H[nid]? =some .bA∧intOf (aj a)=some k∧intOf (aj c)=some k∧y8 P T=some (n,by_,true)∧(match P.underlying T with |some (.slice e)=>kg P e |_=>none)=some (enc d)∧(enc d).length=n∧decide (0<n)=true
  |_=>False
 kQ:=nid0=nid0∧some af.bA=some af.bA∧some k=some k∧some k=some k∧some (n,by_,true)=some (n,by_,true)∧some (enc d)=some (enc d)∧n=n∧ @Eq Bool true true
 holds:=by simp
 sound gl P cfg nid op aj H h x hx:=by
  cases op<;>try exact h.elim
  rename_i T a c;obtain⟨rfl,hunb,h1,h2,h3,h4,h5,h6⟩:=h;obtain⟨k1,h1⟩:=ow h1;obtain⟨k2,h2⟩:=ow h2;obtain⟨e,i,e1,e2,e3,e4,e5⟩:=xR h3;rw[e1]at h4;simp only at h4;simp only[decide_eq_true_eq]at h6;split at hx
  ·rename_i h0;have hop:qh P nid T (aj a) (aj c)=some {val:=.sl nid 0 i.size 0 k.toNat,eO:=[(nid,.row 0 i.size (List.replicate k.toNat (enc d)))]}:=by
    rw[h1,h2];simp only[qh,e1,e2,h4];rw[if_pos ⟨h0.1,Int.le_refl _,by rw[e4];exact h0.2,by rw[h5,e3],by omega⟩]
   simp[cq,dZ,dh,hop,uY,Rd.bind,Rd.run,Rd.reads,hunb,e3]
  ·cases hx
def vp(d m:Nat):Option Int→Option Nat
 |none=>some d
 |some i=>if 0≤i∧i≤m then some i.toNat else none
def BK{X:Type}(l:List X)(enc:X→List AVal)(n:Nat)(lo hi:Option Int):qL (Nat×Nat) where
 run:=(vp l.length l.length hi).bind fun h=>(vp 0 h lo).map fun k=>(k,h)
 bB x:={val:=.av (((l.take x.2).drop x.1).map enc)}
 ids:=[]
 tj gl P cfg nid op aj H:=match op with
  | .slice T a lo' hi' none=>aj a=.av (l.map enc)∧(lo'.map fun x=>intOf (aj x))=lo.map some∧(hi'.map fun x=>intOf (aj x))=hi.map some∧y7 P T=some n∧∀x,(enc x).length=n
  |_=>False
 kQ:=AVal.av (l.map enc)=AVal.av (l.map enc)∧lo.map some=lo.map some∧hi.map some=hi.map some∧some n=some n∧∀_:X,n=n
 holds:=⟨rfl,rfl,rfl,rfl,fun _=>rfl⟩
 sound gl P cfg nid op aj H h x hx:=by
  cases op<;>try exact h.elim
  rename_i T a lo' hi' mx;cases mx with
  |some _=>exact h.elim
  |none=>
   obtain⟨h1,h2,h3,h4,h5⟩:=h;obtain⟨e,e1,e2⟩:=tY h4;have hb:∀(d m:Nat) (x':Option Operand) (x:Option Int),(x'.map fun x=>intOf (aj x))=x.map some→nF d m (x'.map aj)=vp d m x:=by
    intro d m x' x hx;cases x'<;>cases x<;>simp at hx
    ·rfl
    ·grind [ow,nF,vp]
   obtain⟨hh,q1,q2⟩:=Option.bind_eq_some_iff.1 hx;obtain⟨k,q3,rfl⟩:=Option.map_eq_some_iff.1 q2;have hall:(l.map enc).all (fun r=>dF P e==some r.length)=true:=by
    simp only[List.all_map,List.all_eq_true];intro y _;simp[h5,e2]
   have hop:Cs P T (aj a) (lo'.map aj) (hi'.map aj)=some (.av (((l.map enc).take hh).drop k)):=by
    unfold Cs;rw[h1];simp only[e1,vU];rw[hb _ _ _ _ h3,List.length_map,q1];simp only[Option.bind_some];rw[hb _ _ _ _ h2,q3];rw[Option.bind_some,if_pos (by rw[hall,e2];rfl)]
   simp[cq,dZ,dh,hop,yields,Rd.bind,Rd.run,Rd.reads,List.map_take,List.map_drop]
def GG(op:BinOp)(k k':IntKind)(a b:Int)(ok:Bool)(v:AVal)(h:ok=true→∀(P:Program) (T:TypeId),ED P op T (.sc (.int k a)) (.sc (.int k' b))=some v):qL Unit where
 run:=if ok then some ()else none
 bB _:={val:=v}
 ids:=[]
 tj gl P cfg nid o aj H:=match o with
  | .binOp op' T x y _=>op'=op∧aj x=.sc (.int k a)∧aj y=.sc (.int k' b)∧(match y with | .const (.int _ _)=>true | .tmp _=>true |_=>false)=true
  |_=>False
 kQ:=op=op∧AVal.sc (.int k a)=AVal.sc (.int k a)∧AVal.sc (.int k' b)=AVal.sc (.int k' b)∧ @Eq Bool true true
 holds:=⟨rfl,rfl,rfl,rfl⟩
 sound gl P cfg nid o aj H h' x hx:=by
  cases o<;>try exact h'.elim
  rename_i op' T x y yT;obtain⟨rfl,h1,h2,h3⟩:=h';cases ok with
  |false=>cases hx
  |true=>
   have hb:=h rfl P T;rw[← h1,← h2]at hb;split at h3
   ·simp[cq,dZ,dh,vV,hb,yields,Rd.bind,Rd.run,Rd.reads]
   ·simp[cq,dZ,dh,vV,hb,yields,Rd.bind,Rd.run,Rd.reads]
   ·cases h3
def BL(k:IntKind)(a b:Int):qL Unit:=GG .rem k k a b (decide (b≠0)) (.sc (.int k (a.tmod b))) fun h P T=>by
 grind [ED,Du]
def GH(k k':IntKind)(a b:Int):qL Unit:=GG .shl k k' a b (decide (0≤b)) (.sc (.int k (k.wrap (a*2 ^ (min b.toNat k.bits))))) fun h P T=>by
 grind [ED]
def Lf(P:Program)(T:TypeId):Option (Nat×Nat):=match P.underlying T with
 |some (.array n e)=>(dF P e).map fun s=>(n,s)
 |_=>none
def L9(b ak j o n s:Nat)(i:Int):qL Unit where
 run:=if 0≤i∧i<n then some ()else none
 bB _:={val:=.ptr b ak j (o+i.toNat*s)}
 ids:=[]
 tj gl P cfg nid op aj H:=match op with
  | .indexAddr T a c=>aj a=.ptr b ak j o∧intOf (aj c)=some i∧Lf P T=some (n,s)
  |_=>False
 kQ:=AVal.ptr b ak j o=AVal.ptr b ak j o∧some i=some i∧some (n,s)=some (n,s)
 holds:=⟨rfl,rfl,rfl⟩
 sound gl P cfg nid op aj H h x hx:=by
  cases op<;>try exact h.elim
  rename_i T a c;obtain⟨h1,h2,h3⟩:=h;obtain⟨k,h2⟩:=ow h2;unfold Lf at h3;split at h3
  ·rename_i n' e hu;obtain⟨s',hs,he⟩:=Option.map_eq_some_iff.1 h3;simp only[Prod.mk.injEq]at he;obtain⟨rfl,rfl⟩:=he;split at hx
   ·rename_i h0;have hop:qg P T (aj a) i=some (.ptr b ak j (o+i.toNat*s')):=by
     rw[h1];unfold qg;rw[hu];simp only[if_pos h0,hs,Option.bind_some,yF]
    simp[cq,dZ,dh,h2,hop,yields,Rd.bind,Rd.run,Rd.reads]
   ·cases hx
  ·cases h3
def Rw{X:Type}(l:List X)(c:X→AVal)(b ak sz o:Nat):qL X where
 run:=l[o]?
 bB x:={val:=c x}
 ids:=[b]
 tj gl P cfg nid op aj H:=match op with
  | .load T a=>aj a=.ptr b ak 0 o∧H[b]? =some (.row ak sz [l.map c])∧gF P T=false∧(P.underlying T).isSome=true
  |_=>False
 kQ:=AVal.ptr b ak 0 o=AVal.ptr b ak 0 o∧some (af.row ak sz [l.map c])=some (af.row ak sz [l.map c])∧ @Eq Bool false false∧ @Eq Bool true true
 holds:=⟨rfl,rfl,rfl,rfl⟩
 sound gl P cfg nid op aj H h x hx:=by
  cases op<;>try exact h.elim
  rename_i T a;obtain⟨h1,h2,h3,h4⟩:=h;simp[cq,dZ,dh,h1,Bo,rowOf,h2,oe,h3,h4,hx,yields,Rd.bind,Rd.run,Rd.reads]
def SL{X:Type}(l:List X)(c:X→AVal)(b ak sz o:Nat)(y:X):qL Unit where
 run:=if o<l.length then some ()else none
 bB _:={val:=nothing,eO:=[(b,.row ak sz [(l.set o y).map c])]}
 ids:=[b]
 tj gl P cfg nid op aj H:=match op with
  | .store T a v=>aj a=.ptr b ak 0 o∧H[b]? =some (.row ak sz [l.map c])∧vT P T (aj v)=some [c y]
  |_=>False
 kQ:=AVal.ptr b ak 0 o=AVal.ptr b ak 0 o∧some (af.row ak sz [l.map c])=some (af.row ak sz [l.map c])∧some [c y]=some [c y]
 holds:=⟨rfl,rfl,rfl⟩
 sound gl P cfg nid op aj H h x hx:=by
  cases op<;>try exact h.elim
  rename_i T a v;obtain⟨h1,h2,h3⟩:=h;split at hx
  ·rename_i h0;have hle:o+1≤l.length:=h0;simp[cq,dZ,dh,h1,Cr,rowOf,h2,h3,Dt,hle,putAt,Rd.bind,Rd.run,Rd.reads,List.map_set]
  ·cases hx
section
variable {K V:Type}
def aB(ek:K→AVal)(ev:V→AVal):Nat→List (K×V)→List (AVal×AVal×Nat)
 |_,[]=>[]
 |n,p::ps=>(ek p.1,ev p.2,n)::aB ek ev (n+1) ps
def bh(eq:K→K→Bool)(k:K):List (K×V)→Nat→Option (Nat×V)
 | [],_=>none
 |p::ps,i=>if eq k p.1 then some (i,p.2)else bh eq k ps (i+1)
def bL(eq:K→K→Bool)(k:K)(v:V)(m:List (K×V)):List (K×V):=match bh eq k m 0 with
 |some (i,_)=>m.set i (k,v)
 |none=>m++[(k,v)]
theorem vq{ks:List Kd}{ag:Bool}{ek:K→AVal}{ev:V→AVal}{eq:K→K→Bool}(hag:∀k,og (ek k)=ag)(heq:∀k k',dA ks (ek k).cells (ek k').cells=some (eq k k'))(k:K):
 ∀(m:List (K×V)) (n i:Nat),uf ks ag (ek k) (aB ek ev n m) i=some ((bh eq k m i).map fun p=>(p.1,ev p.2,n+(p.1 - i)))
 | [],n,i=>rfl
 |p::ps,n,i=>by
  simp only[aB,uf,hag,if_true,heq,bh];cases h:eq k p.1 with
  |true=>simp
  |false=>
   simp only[Bool.false_eq_true,if_false];rw[vq hag heq k ps (n+1) (i+1)];congr 1;have hge:∀(m:List (K×V)) (i:Nat) (q:Nat×V),bh eq k m i=some q→i≤q.1:=by
    intro m;induction m with
    |nil=>intro i q h;simp[bh]at h
    |cons p ps ih=>
     grind [bh]
   cases hf:bh eq k ps (i+1)with
   |none=>rfl
   |some q=>
    grind
theorem w9(ek:K→AVal)(ev:V→AVal):∀(m:List (K×V)) (n:Nat),(aB ek ev n m).length=m.length
 | [],_=>rfl
 |_::ps,n=>by simp[aB,w9 ek ev ps]
theorem Em(ek:K→AVal)(ev:V→AVal):∀(m m':List (K×V)) (n:Nat),aB ek ev n (m++m')=aB ek ev n m++aB ek ev (n+m.length) m'
 | [],m',n=>by simp[aB]
 |p::ps,m',n=>by simp[aB,Em ek ev ps,Nat.add_assoc,Nat.add_comm 1]
theorem Jl(ek:K→AVal)(ev:V→AVal):∀(m:List (K×V)) (n i:Nat) (p:K×V),aB ek ev n (m.set i p)=(aB ek ev n m).set i (ek p.1,ev p.2,n+i)
 | [],n,i,p=>rfl
 |q::ps,n,0,p=>by simp[aB]
 |q::ps,n,i+1,p=>by simp[aB,Jl ek ev ps,Nat.add_assoc,Nat.add_comm 1]
def zZ(P:Program)(T:TypeId):Option (Option (List Kd)×Bool×Option AVal):=match P.underlying T with
 |some (.map K E)=>some (ej P 9 K,gF P K,Bp P E)
 |_=>none
def mY(m:List (K×V))(k:K)(ek:K→AVal)(ev:V→AVal)(eq:K→K→Bool)(d:V)(ks:List Kd)(ag ok:Bool)(b:Nat):qL Unit where
 run:=some ()
 bB _:={val:=match ok with
  |true=>.cQ [ev (((bh eq k m 0).map (·.2)).getD d),.sc (.bool (bh eq k m 0).isSome)]
  |false=>ev (((bh eq k m 0).map (·.2)).getD d)}
 ids:=[b]
 tj gl P cfg nid op aj H:=match op with
  | .lookup T x i ok'=>ok'=ok∧aj x=.mp b∧aj i=ek k∧H[b]? =some (.map m.length (aB ek ev 0 m))∧zZ P T=some (some ks,ag,some (ev d))∧(∀k,og (ek k)=ag)∧∀k k',dA ks (ek k).cells (ek k').cells=some (eq k k')
  |_=>False
 kQ:=ok=ok∧AVal.mp b=AVal.mp b∧ek k=ek k∧some (af.map m.length (aB ek ev 0 m))=some (af.map m.length (aB ek ev 0 m))∧some (some ks,ag,some (ev d))=some (some ks,ag,some (ev d))∧(∀_:K,ag=ag)∧∀k k',some (eq k k')=some (eq k k')
 holds:=⟨rfl,rfl,rfl,rfl,rfl,fun _=>rfl,fun _ _=>rfl⟩
 sound gl P cfg nid op aj H h x hx:=by
  cases op<;>try exact h.elim
  rename_i T a i ok';obtain⟨rfl,h1,h2,h3,h4,h5,h6⟩:=h;unfold zZ at h4;split at h4
  ·rename_i TK TE hu;simp only[Option.some.injEq,Prod.mk.injEq]at h4;obtain⟨t1,t2,t3⟩:=h4;have hk:mz P TK (ek k)=some ks:=by simp[mz,t1,h5,t2]
   have hf:=vq (ev:=ev) (eq:=eq) h5 h6 k m 0 0;simp only[cq,dZ,dh,yH,hu,h2,hk,h1,mapOf,Rd.bind,Rd.run,Rd.reads,h3,h6,t2,hf,t3,if_false,Bool.false_eq_true];cases hfm:bh eq k m 0 with
   |none=>grind
   |some q=>grind
  ·cases h4
def mh(m:List (K×V))(k:K)(v:V)(ek:K→AVal)(ev:V→AVal)(eq:K→K→Bool)(ks:List Kd)(ag:Bool)(b:Nat):qL Unit where
 run:=some ()
 bB _:={val:=nothing,eO:=[(b,.map (bL eq k v m).length (aB ek ev 0 (bL eq k v m)))]}
 ids:=[b]
 tj gl P cfg nid op aj H:=match op with
  | .mapUpdate T x i y=>aj x=.mp b∧aj i=ek k∧aj y=ev v∧H[b]? =some (.map m.length (aB ek ev 0 m))∧(zZ P T).map (fun t=>(t.1,t.2.1))=some (some ks,ag)∧(∀k,og (ek k)=ag)∧∀k k',dA ks (ek k).cells (ek k').cells=some (eq k k')
  |_=>False
 kQ:=AVal.mp b=AVal.mp b∧ek k=ek k∧ev v=ev v∧some (af.map m.length (aB ek ev 0 m))=some (af.map m.length (aB ek ev 0 m))∧some (some ks,ag)=some (some ks,ag)∧(∀_:K,ag=ag)∧∀k k',some (eq k k')=some (eq k k')
 holds:=⟨rfl,rfl,rfl,rfl,rfl,fun _=>rfl,fun _ _=>rfl⟩
 sound gl P cfg nid op aj H h x hx:=by
  cases op<;>try exact h.elim
  rename_i T a i y;obtain⟨h1,h2,hy,h3,h4,h5,h6⟩:=h;obtain⟨t,h4,ht⟩:=Option.map_eq_some_iff.1 h4;unfold zZ at h4;split at h4
  ·rename_i TK TE hu;simp only[Option.some.injEq]at h4;subst h4;simp only[Prod.mk.injEq]at ht;obtain⟨t1,t2⟩:=ht;have hk:mz P TK (ek k)=some ks:=by simp[mz,t1,h5,t2]
   have hf:=vq (ev:=ev) (eq:=eq) h5 h6 k m 0 0;simp only[cq,dZ,dh,uX,hu,h2,hk,h1,mapOf,Rd.bind,Rd.run,Rd.reads,h3,h6,t2,hf,hy,if_false,Bool.false_eq_true];cases hfm:bh eq k m 0 with
   |none=>simp[Rd.bind,Rd.run,Rd.reads,bL,hfm,Em,aB]
   |some q=>simp[Rd.bind,Rd.run,Rd.reads,bL,hfm,Jl,w9]
  ·cases h4
end
end
def cI(k:IntKind)(n:Int):AVal:=.sc (.int k n)
def cL{α:Type}(enc:α→List AVal)(l:List α):AVal:=.av (l.map enc)
def eI(k:IntKind)(n:Int):List AVal:=[.sc (.int k n)]
def eB(b:Bool):List AVal:=[.sc (.bool b)]
def eS(s:ByteArray):List AVal:=[.sc (.string s)]
def eL{α:Type}(enc:α→List AVal)(l:List α):List AVal:=[.av (l.map enc)]
structure V2(α:Type) where
 (a0 a1:α)
def Jm{α:Type}(c:α→AVal)(x:V2 α):List AVal:=[c x.a0,c x.a1]
structure V8(α:Type) where
 (a0 a1 a2 a3 a4 a5 a6 a7:α)
def rC{α:Type}(c:α→AVal)(x:V8 α):List AVal:=[c x.a0,c x.a1,c x.a2,c x.a3,c x.a4,c x.a5,c x.a6,c x.a7]
structure cA(α:Type) where
 (a0 a1 a2 a3 a4 a5 a6 a7 a8 a9:α)
def xS{α:Type}(c:α→AVal)(x:cA α):List AVal:=[c x.a0,c x.a1,c x.a2,c x.a3,c x.a4,c x.a5,c x.a6,c x.a7,c x.a8,c x.a9]
theorem GI{X:Type}(l:List X)(enc:X→List AVal)(h:∀x,AVal.aX (enc x)=true):(l.map enc).all AVal.aX=true:=by
 grind
def bW{X:Type}(b ak sz:Nat)(l:List X)(enc:X→List AVal)(h:∀x,AVal.aX (enc x)=true):PU:=⟨b,.row ak sz (l.map enc),GI l enc h⟩
theorem GJ{K V:Type}(ek:K→AVal)(ev:V→AVal)(h:∀k,(ek k).pure=true)(h':∀v,(ev v).pure=true):∀(m:List (K×V)) (n:Nat),(aB ek ev n m).all (fun p=>p.1.pure&&p.2.1.pure)=true
 | [],_=>rfl
 |p::ps,n=>by simp[aB,h,h',GJ ek ev h h' ps (n+1)]
def gO{K V:Type}(b:Nat)(m:List (K×V))(ek:K→AVal)(ev:V→AVal)(h:∀k,(ek k).pure=true)(h':∀v,(ev v).pure=true):PU:=⟨b,.map m.length (aB ek ev 0 m),GJ ek ev h h' m 0⟩
def eR{X:Type}(p:Pl)(b ak sz n:Nat)(l:List X)(enc:X→List AVal)(h:∀x,AVal.aX (enc x)=true):FZ:=⟨p,b,ak,sz,n,l.map enc,GI l enc h⟩
def yx{X:Type}(b ak sz:Nat)(l:List X)(c:X→AVal)(h:∀x,(c x).pure=true):PU:=⟨b,.row ak sz [l.map c],by
 have:∀l:List X,AVal.aX (l.map c)=true:=by
  intro l;induction l with
  |nil=>rfl
  |cons x xs ih=>grind [AVal.aX]
 simp[qX,this]⟩
def BM{X:Type}(b ak sz:Nat)(l:List X)(enc:X→List AVal)(h:∀x,AVal.aX (enc x)=true):PR:=PR.ofRow b ak sz (l.map enc) (GI l enc h)
def qq{K V:Type}(b:Nat)(m:List (K×V))(ek:K→AVal)(ev:V→AVal)(h:∀k,(ek k).pure=true)(h':∀v,(ev v).pure=true):PR:=⟨b,.map m.length (aB ek ev 0 m),GJ ek ev h h' m 0⟩
end Go.AM
end
