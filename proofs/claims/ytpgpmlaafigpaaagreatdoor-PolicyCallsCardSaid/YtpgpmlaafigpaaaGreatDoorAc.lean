/- Put together out of parts: From the abstract machine to a statement. No program. No conditions. -/
import Derived.Test.YtpgpmlaafigpaaaGreatDoorAb
import Derived.ProofKit
import Derived.OpenShut
import Derived.JoinedCond
import Derived.LaidLaws
section
namespace Go.AM
open Go.ChangeShapes Go.WideShapes Go.ChangeAt Go.RowKit
def Gh.bare(w:World):Gh:={ah:=fun _ _=>none,st:=fun k _=>k<w.heap.size}
section
variable [aD]
theorem Gh.SH(w:World)(hg:og (Gh.bare w) w):Inv (Gh.bare w) [] w:=
 ⟨fun b x h=>by simp at h,fun b b' x x' v v' k z z' h=>by simp at h,fun b ai _=>rfl,fun b x v ver' h=>by simp at h,fun b x v k z o h=>by simp at h,fun _ _ h=>h,hg⟩
theorem MS{w w':World}{g':Gh}{H':List aa}(h:aX (Gh.bare w) [] w g' H' w'):Below w.heap.size w w':=
 ⟨h.os,h.tape.1,h.output,h.size,fun k hk=>h.keep k hk eU⟩
end
section
variable {H:Type} {enc:TypeId×Value→H} {P:Program}
theorem DI{f:Func}{s:ChangeSpec}{apart fresh handsOn again:Bool}{W W':World}{args:Array Value}{v:Value}{ds gs:List (DataW H)}{before pa pv:List MemPlace}
 (hW:DataW.Whole enc P f.params.toList s.vars apart W args.toList ds gs before)
 (hres:∀(b:Nat) (sp:Nat→Bool) (hd:Bool),DataW.TrodAll enc P W' b sp hd f.resultTypes.toList (v.resultList f.resultTypes.size) (s.fn H (ds++gs)).results [])
 (hargs:∀sp:Nat→Bool,(∀p∈before,sp p.block=true)→DataW.TrodAll enc P W' 0 sp true f.params.toList args.toList (s.fn H (ds++gs)).args pa)
 (hvars:∀sp:Nat→Bool,(∀p∈before,sp p.block=true)→DataW.TrodVars enc P W' sp s.vars (s.fn H (ds++gs)).vars pv)
 (hps:before=pa++pv) (hb:Below W.heap.size W W')
 (hok:∀(j:Nat) (t:TypeId) (r:Value),f.resultTypes[j]? =some t→(v.resultList f.resultTypes.size)[j]? =some r→Value.okWide P W' .any 0 t r):
 s.post enc P f apart fresh handsOn again W args v W':=by
 have hold:∀p∈before,(fun b=>decide (b<W.heap.size)) p.block=true:=fun p hp=>by simpa using hW.lt p hp
 have hlt:=hW.lt;refine⟨ds,gs,before,[],pa,pv,hW,hres _ _ _,hargs _ hold,hvars _ hold,World.keptBut_mono (fun p hp=>⟨hp,?_⟩) (hb.frame (· ∈before)),fun _=>?_⟩
 ·rw[hps,List.mem_append]at hp;exact Or.inr hp
 ·obtain⟨_,_,_,_,_,hz,hn⟩:=hW;refine⟨hok,_,_,([]++pa)++pv,⟨[]++pa,pv,trodAll_append (hargs _ (fun _ _=>rfl)) (hres _ _ _),hvars _ (fun _ _=>rfl),rfl,?_,?_⟩,?_⟩
  ·intro b off hp;have hm:MemPlace.cell b off∈before:=by rw[hps];simpa using hp
   rw[hb.frozen (hlt _ hm)];exact hz b off hm
  ·intro ha;have:=hn ha;rw[hps]at this;simpa using this
  ·intro p hp _;rw[hps];simpa using hp
end
end Go.AM
end
section
namespace Go.AM
structure Entry where
 f:FuncId
 args:List AVal
 res:AVal
def Cq(f:FuncId)(args:List AVal):List Entry→Option AVal
 | []=>none
 |e::es=>if e.f==f&&vE e.args args then some e.res else Cq f args es
def Bc[aD](P:Program)(cfg:dL)(tbl:List Entry)(loops:Nat):Nat→kr
 | 0=>⟨fun _ _ _=>none,fun _ _ _=>none⟩
 |n+1=>⟨fun f args H=>match(match H with | []=>Cq f args tbl |_=>none)with
  |some r=>some (.ret r,[])
  |none=>G0 P cfg (Bc P cfg tbl loops n) loops f args H,roundOf P cfg (Bc P cfg tbl loops n) loops⟩
section
set_option linter.unusedSectionVars false
variable [aD] {P:Program} {cfg:dL}
def IF(P:Program)(e:Entry):Prop:=
 (∃ fn c, P.funcs[e.f]? = some fn ∧ fn.body = some c ∧ fn.name ≠ "runtime.NumGoroutine") ∧
 ∀g w (vs:Array Value),Inv g [] w→RL g w e.args vs.toList→Calls P e.f vs w (eC g [] w (.ret e.res) [])
def zm(P:Program)(tbl:List Entry):Prop:=∀e∈tbl,IF P e
theorem zm.nil:zm P []:=fun _ h=>by cases h
theorem zm.cons{e:Entry}{tbl:List Entry}(h:IF P e)(h':zm P tbl):zm P (e::tbl):=fun x hx=>by
 rcases List.mem_cons.1 hx with rfl |hx
 ·exact h
 ·exact h' x hx
theorem Em{f:FuncId}{args:List AVal}{r:AVal}:∀{tbl:List Entry},Cq f args tbl=some r→∃e∈tbl,e.f=f∧e.args=args∧e.res=r
 | [],h=>by simp[Cq]at h
 |e::es,h=>by
  simp only[Cq]at h;split at h
  ·rename_i hc;simp only[Bool.and_eq_true,beq_iff_eq]at hc;simp only[Option.some.injEq]at h;exact⟨e,by simp,hc.1,rT _ _ hc.2,h⟩
  ·obtain⟨e',h1,h2⟩:=Em h;exact⟨e',List.mem_cons_of_mem _ h1,h2⟩
theorem xN(hm : P.follows .mixedOrders = true)(hN : ∀ (f : FuncId) (fn : Func), P.funcs[f]? = some fn → fn.name ≠ "runtime.NumGoroutine"){tbl : List Entry}(ht : zm P tbl)(loops : Nat) : ∀ n, gI P (Bc P cfg tbl loops n)
 | 0=>⟨fun _ _ _ _ _ h=>by simp[Bc]at h,fun _ _ _ _ _ h=>by simp[Bc]at h⟩
 |n+1=>by
  refine⟨fun f args H r H1 h=>?_,fun _ _ _ _ _ h=>Kh hm (xN hm hN ht loops n) h⟩
  simp only[Bc]at h;split at h
  ·rename_i v hv;simp only[Option.some.injEq,Prod.mk.injEq]at h;obtain⟨rfl,rfl⟩:=h;cases H with
   |nil=>
    obtain⟨e,he,rfl,rfl,rfl⟩:=Em hv;exact ht e he
   |cons x xs=>cases hv
  ·exact Li hm hN (xN hm hN ht loops n) h
def Hf(orc:kr)(e:Entry):Bool:=match orc.fn e.f e.args []with
 |some (.ret v,H1)=>match(snap kq v).run H1 with
  |some v'=>same v' e.res
  |none=>false
 |_=>false
theorem Lj{orc:kr}(ho:gI P orc){e:Entry}(h:Hf orc e=true):IF P e:=by
 unfold Hf at h;split at h
 ·rename_i v H1 hc;split at h
  ·rename_i v' hs;have:=wP _ _ h;subst this;obtain⟨h1,h2⟩:=ho.fn _ _ _ _ _ hc;refine⟨h1,fun g w vs hi hl=>(h2 g w vs hi hl).mono ?_⟩
   rintro en w' ⟨g',hi',hla,x,rfl,hr⟩;obtain⟨r1,r2⟩:=qt hi' _ _ _ _ hs hr;refine⟨cN g' H1,hi'.cN,⟨⟨fun b ai x hx=>?_,fun k o hk=>.inl (hla.ext.st k o hk),hla.ext.cell,hla.ext.shape⟩,hla.size,hla.keep,fun k _ ho=>absurd ho eU,Nat.le_refl _,hla.os,hla.tape,hla.output,fun k o hk hst=>?_,fun b hb=>by simp at hb,fun b ai k z h=>by cases h⟩,x,rfl,r1⟩
   ·rw[hi.fresh b ai (.inr (by simp))]at hx;cases hx
   ·rcases hst with hst |hst
    ·exact(hla.stk k o hk hst).imp_right fun h=>absurd h.1 eU
    ·exact absurd (hla.own k hk hst) eU
  ·cases h
 ·cases h
end
end Go.AM
end
section
namespace Go.AM
def litVal:Lit→Option Value
 | .bool b=>some (.bool b)
 | .int k n=>some (.int k n)
 | .string l=>some (.string ⟨l.toArray⟩)
 |_=>none
mutual
def xO{H:Type}:DataW H→Option (List Value)
 | .lit l=>(litVal l).map fun v=>[v]
 | .agg ds=>yd ds
 |_=>none
def yd{H:Type}:List (DataW H)→Option (List Value)
 | []=>some []
 |d::ds=>match xO d,yd ds with
  |some a,some b=>some (a++b)
  |_,_=>none
end
section
variable {H:Type} {enc:TypeId×Value→H} {P:Program} {w:World} {base:Nat} {sp:Nat→Bool} {held:Bool}
theorem vL{t n:Nat}(h:dh P t=some n):P.cellsOf t=n:=by
 unfold dh at h;simp[Program.cellsOf,h]
theorem Jy{s:Nat}{cs:List Value}{F:List Value→Option (DataW H×List MemPlace)}(hF:∀c x v,F c=some x→xO x.1=some v→c=v):∀(xs:List (DataW H×List MemPlace)) (off:Nat) (vs:List Value),
 (∀i,i<xs.length→F ((cs.drop (off+i*s)).take s)=xs[i]?)→yd (xs.map (·.1))=some vs→(cs.drop off).take (xs.length*s)=vs
 | [],off,vs,_,h=>by simp[yd]at h;simp[h]
 |x::xs,off,vs,hx,h=>by
  simp only[List.map_cons,yd]at h;split at h
  ·rename_i a b ha hb;simp only[Option.some.injEq]at h;subst h;have h0:=hx 0 (by simp)
   simp only[Nat.zero_mul,Nat.add_zero,List.getElem?_cons_zero]at h0;have e0:=hF _ _ _ h0 ha;have e1:=Jy hF xs (off+s) b (fun i hi=>by
    have:=hx (i+1) (by simpa using hi)
    rw[List.getElem?_cons_succ]at this;rw[← this,Nat.add_mul,Nat.one_mul];congr 3;omega) hb
   rw[List.length_cons,Nat.add_mul,Nat.one_mul,Nat.add_comm,List.take_add,e0,List.drop_drop,e1]
  ·cases h
theorem FW{K:TypeId→Option (List Kd)}{cs:List Value}{F:TypeId→List Value→Option (DataW H×List MemPlace)}(hF:∀t ks c x v,K t=some ks→F t c=some x→xO x.1=some v→c=v):
 ∀(fl:List Field) (off:Nat) (ks:List Kd) (xs:List (DataW H×List MemPlace)) (vs:List Value),dI.kindsFields P K fl off=some ks→xs.length=fl.length→
  (∀(i:Nat) (f:Field),fl[i]? =some f→F f.type ((cs.drop f.offset).take (P.cellsOf f.type))=xs[i]?)→yd (xs.map (·.1))=some vs→(cs.drop off).take ks.length=vs
 | [],off,ks,xs,vs,hk,hl,_,h=>by
  simp only[dI.kindsFields,Option.some.injEq]at hk;subst hk;have:xs=[]:=List.eq_nil_of_length_eq_zero (by simpa using hl)
  subst this;simp[yd]at h;simp[h]
 |f::fl,off,ks,[],vs,_,hl,_,_=>by simp at hl
 |f::fl,off,ks,x::xs,vs,hk,hl,hx,h=>by
  simp only[dI.kindsFields]at hk;split at hk
  ·rename_i hc;split at hk
   ·rename_i k1 hk1;split at hk
    ·rename_i hsz;obtain⟨k2,hk2,rfl⟩:=Option.map_eq_some_iff.1 hk;simp only[beq_iff_eq]at hsz;simp only[List.map_cons,yd]at h;split at h
     ·rename_i a b ha hb;simp only[Option.some.injEq]at h;subst h;have h0:=hx 0 f (by simp)
      simp only[List.getElem?_cons_zero]at h0;have e0:=hF _ _ _ _ _ hk1 h0 ha;rw[hc.2,vL hsz]at e0;have e1:=FW hF fl (off+k1.length) k2 xs b hk2 (by simpa using hl) (fun i f' hf=>by
       have:=hx (i+1) f' (by simpa using hf)
       simpa using this) hb
      rw[List.length_append,List.take_add,e0,List.drop_drop,e1]
     ·cases h
    ·cases hk
   ·cases hk
  ·cases hk
theorem Jz:∀(d t:Nat) (ks:List Kd) (fuel:Nat) (cs:List Value) (x:DataW H×List MemPlace) (vs:List Value),dI P d t=some ks→DataW.trod enc P w base sp held fuel t cs=some x→xO x.1=some vs→cs=vs
 | 0,_,_,_,_,_,_,hk,_,_=>by simp[dI]at hk
 |d+1,t,ks,fuel,cs,x,vs,hk,h,hv=>by
  have ih:=Jz d;simp only[dI]at hk;split at hk
  ·rename_i hu;have:∃b,cs=[.bool b]∧x=(.lit (.bool b),[]):=by
    cases fuel with
    |zero=>simp[DataW.trod]at h
    |succ n=>
     unfold DataW.trod at h;rw[hu]at h;split at h<;>simp_all
   obtain⟨b,rfl,rfl⟩:=this;simpa[xO,litVal]using hv
  ·rename_i k hu;obtain⟨n,rfl,rfl,_⟩:=DataW.trod_int hu h;simpa[xO,litVal]using hv
  ·rename_i hu;obtain⟨s,rfl,rfl,_⟩:=DataW.trod_string hu h;simpa[xO,litVal]using hv
  ·rename_i fs hu;split at hk
   ·cases hk
   ·split at hk
    ·rename_i ks' hks;split at hk
     ·rename_i hsz;simp only[Option.some.injEq]at hk;subst hk;simp only[beq_iff_eq]at hsz;obtain⟨xs,n,rfl,rfl,hl,hxl,hget⟩:=DataW.trod_struct hu h;simp only[xO]at hv;have:=FW (P:=P) (cs:=cs) (K:=dI P d) (F:=fun t c=>DataW.trod enc P w base sp held n t c) (fun t ks c x v hk hf hv=>ih t ks n c x v hk hf hv) fs.toList 0 ks' xs vs hks (by simpa using hxl) (fun i f hf=>hget i f (by simpa using hf)) hv
      rw[vL hsz]at hl;rw[← hl]at this;simpa using this
     ·cases hk
    ·cases hk
  ·rename_i n e hu;split at hk
   ·rename_i ks' hks;split at hk
    ·rename_i hsz;simp only[Bool.and_eq_true,beq_iff_eq]at hsz;obtain⟨xs,m,rfl,rfl,hl,hxl,hget⟩:=DataW.trod_array hu h;simp only[xO]at hv;rw[vL hsz.1]at hget;have:=Jy (s:=ks'.length) (cs:=cs) (F:=fun c=>DataW.trod enc P w base sp held m e c) (fun c x v hf hv=>ih e ks' m c x v hks hf hv) xs 0 vs (fun i hi=>by
      rw[Nat.zero_add];exact hget i (by omega)) hv
     rw[vL hsz.2]at hl;rw[hxl,← hl]at this;simpa using this
    ·cases hk
   ·cases hk
  ·cases hk
theorem Hg{name:String}{d:DataW Unit}{rest:List (String×DataW Unit)}{g t:Nat}{ks:List Kd}{vs:List Value}(hg:P.globalNamed name=some g)(hty:(P.globals[g]?).map (·.type)=some t)(hk:dI P 9 t=some ks)(hv:xO d=some vs)
 (h:laidMet P ((name,d)::rest) w):w.var? P name=some vs.toArray:=by
 obtain⟨ps,⟨g',t',cs,fuel,p,q,hg',ht',hvar,hd,_,_⟩,_⟩:=h;obtain rfl:=Option.some.inj (hg.symm.trans hg');obtain rfl:=Option.some.inj (hty.symm.trans ht');have:=Jz _ _ _ _ _ _ _ hk hd hv;rw[hvar,← this]
theorem JA[gl:aD]{name:String}{g:Nat}{vs:List Value}(hg:P.globalNamed name=some g)(hvar:w.var? P name=some vs.toArray)(h1:vs.all (·.oneCell')=true)(hgl:∀i cs,gl.default.cells i=some cs→i=g∧cs=vs.map .sc):og (Gh.bare w) w:=by
 intro i cs hi;obtain⟨rfl,rfl⟩:=hgl i cs hi;refine⟨?_,A9 fun j x hx=>?_⟩
 ·exact qn.2 fun x hx=>by
   obtain⟨v,_,rfl⟩:=List.mem_map.1 hx;rfl
 ·rw[List.getElem?_map]at hx;obtain⟨v,hv,rfl⟩:=Option.map_eq_some_iff.1 hx;have hc:=World.var?_cell hg hvar j;rw[List.getElem?_toArray,hv]at hc;have hlt:i<w.heap.size:=by
   apply Decidable.byContradiction;intro hn;simp[World.cell?,Array.getElem?_eq_none (Nat.le_of_not_lt hn)]at hc
  rw[Nat.zero_add];exact⟨hlt,v,hc,List.all_eq_true.1 h1 v (List.mem_of_getElem? hv),by simp[R]⟩
end
end Go.AM
end
section
namespace Go.AM
abbrev Ren:=Nat→Nat→Option (Nat×Nat)
namespace AVal
mutual
def jO(f:Ren):AVal→AVal
 | .sc v=>.sc v
 | .agg cs=>.agg (oW f cs)
 | .cw cs=>.cw (oW f cs)
 | .ptr b ai i o=>match f b ai with
  |some (b',ver')=>.ptr b' ver' i o
  |none=>.af
 | .bK cs o=>.bK cs o
 | .sl b ai sz o n=>match f b ai with
  |some (b',ver')=>.sl b' ver' sz o n
  |none=>.af
 | .aj rows=>.aj rows
 | .fn g a b=>.fn g (oW f a) (oW f b)
 | .fF t v=>.fF t (jO f v)
 | .mp b=>match f b 0 with
  |some (b',0)=>.mp b'
  |_=>.af
 | .jd b=>match f b 0 with
  |some (b',0)=>.jd b'
  |_=>.af
 | .sa b ai i o s n=>match f b ai with
  |some (b',ver')=>.sa b' ver' i o s n
  |none=>.af
 | .gN i o=>.gN i o
 | .emp=>.emp
 | .nz b=>.nz b
 | .af=>.af
def oW(f:Ren):List AVal→List AVal
 | []=>[]
 |a::as=>jO f a::oW f as
end
theorem FX(f:Ren):∀(l:List AVal),(oW f l).length=l.length
 | []=>rfl
 |_::as=>by simp[oW,FX f as]
end AVal
section
set_option linter.unusedSectionVars false
variable [aD] {g g':Gh} {w:World} {f:Ren}
mutual
theorem Hh(hst:∀k o,g.st k o→g'.st k o)(hf:∀b v b' v' x,f b v=some (b',v')→g.ah b v=some x→g'.ah b' v'=some x):∀(v:AVal) (x:Value),R g w v x→R g' w (v.jO f) x
 | .sc _,x,hr=>by simpa[R,AVal.jO]using hr
 | .agg cs,x,hr=>by
  simp only[R,AVal.jO]at hr ⊢;obtain⟨vs,e,h1,hl⟩:=hr;exact⟨vs,e,h1,ug hst hf cs vs hl⟩
 | .cw cs,x,hr=>by
  simp only[R,AVal.jO]at hr ⊢;obtain⟨vs,e,hl⟩:=hr;exact⟨vs,e,ug hst hf cs vs hl⟩
 | .ptr b ai i o,x,hr=>by
  grind [R,AVal.jO]
 | .bK cs o,x,hr=>by
  grind [R,AVal.jO,k8]
 | .sl b ai sz o n,x,hr=>by
  grind [R,AVal.jO]
 | .aj rows,x,hr=>by
  simp only[R,AVal.jO]at hr ⊢;obtain⟨a,cap,e,hle,hr⟩:=hr;refine⟨a,cap,e,hle,?_⟩;rcases hr with h0 |⟨k,off,sz,ha,hc⟩
  ·exact .inl h0
  ·exact .inr ⟨k,off,sz,ha,Fk hst rows k off sz hc⟩
 | .fn _ a b,x,hr=>by
  simp only[R,AVal.jO]at hr ⊢;obtain⟨va,vb,e,h1,h2⟩:=hr;exact⟨va,vb,e,ug hst hf a va h1,ug hst hf b vb h2⟩
 | .fF t v,x,hr=>by
  simp only[R,AVal.jO]at hr ⊢;obtain⟨y,e,h1⟩:=hr;exact⟨y,e,Hh hst hf v y h1⟩
 | .mp b,x,hr=>by
  grind [R,AVal.jO]
 | .jd b,x,hr=>by
  grind [R,AVal.jO]
 | .sa b ai i o s n,x,hr=>by
  grind [R,AVal.jO]
 | .gN i o,x,hr=>by simpa[R,AVal.jO]using hr
 | .emp,x,hr=>by simpa[R,AVal.jO]using hr
 | .nz _,x,hr=>by simpa[R,AVal.jO]using hr
 | .af,x,_=>by simp[R,AVal.jO]
theorem ug(hst:∀k o,g.st k o→g'.st k o)(hf:∀b v b' v' x,f b v=some (b',v')→g.ah b v=some x→g'.ah b' v'=some x):∀(v:List AVal) (x:List Value),RL g w v x→RL g' w (AVal.oW f v) x
 | [],x,hr=>by simpa[RL,AVal.oW]using hr
 |a::as,x,hr=>by
  simp only[RL,AVal.oW]at hr ⊢;obtain⟨y,ys,e,h1,h2⟩:=hr;exact⟨y,ys,e,Hh hst hf a y h1,ug hst hf as ys h2⟩
end
def Lk(f:Ren):aa→aa→Prop
 | .row _ sz rows,.row _ sz' rows'=>sz'=sz∧((rows'=rows∧rows.all AVal.aT=true)∨rows'=rows.map (AVal.oW f))
 | .map c es,.map c' es'=>c'=c∧((es'=es∧es.all (fun p=>p.1.pure&&p.2.1.pure)=true)∨es'=es.map fun p=>(p.1.jO f,p.2.1.jO f,p.2.2))
 | .loop st pend fid A ps as bd,.loop st' pend' fid' A' ps' as' bd'=>st'=st∧pend'=pend∧fid'=fid∧ps'=ps∧as'=as∧bd'=bd∧A'=AVal.oW f A
 | .defs,.defs=>True
 | .iter m since seen stepped,.iter m' since' seen' stepped'=>since'=since∧seen'=seen∧stepped'=stepped∧m'=m.jO f
 |_,_=>False
structure O6(g g':Gh)(H H':List aa)(f:Ren):Prop where
 st:g'.st=g.st
 ah:∀b v b' v' x,f b v=some (b',v')→g.ah b v=some x→g'.ah b' v'=some x
 blk:∀(b':Nat) (x':aa),H'[b']? =some x'→x'.live=none∨∃b x v v',H[b]? =some x∧x.live=some v∧x'.live=some v'∧f b v=some (b',v')∧g'.ah b' v'=g.ah b v∧Lk f x x'
 fresh:∀b' v,(H'[b']? =some .aZ∨H'.length≤b')→g'.ah b' v=none
 next:∀(b':Nat) (x':aa) v v',H'[b']? =some x'→x'.live=some v→v<v'→g'.ah b' v'=none
theorem SI{H H':List aa}(h:O6 g g' H H' f){b b' v v':Nat}{x x':aa}(hg:Good g w b x)(hv:x.live=some v)(hv':x'.live=some v')(hr:g'.ah b' v'=g.ah b v)(hb:Lk f x x'):Good g' w b' x':=by
 have hst:∀k o,g.st k o→g'.st k o:=fun k o h'=>by rw[h.st];exact h'
 cases x<;>cases x'<;>simp only[Lk]at hb<;>try exact hb.elim
 case row.row ai sz rows ver' sz' rows'=>
  simp only[aa.live,Option.some.injEq]at hv hv';subst hv;subst hv';obtain⟨rfl,hb⟩:=hb;rcases hg with⟨k,c,e,h1,h2,h3,h4,h5⟩ |⟨rfl,h2,h3⟩
  ·rcases hb with⟨rfl,hp⟩ |rfl
   ·refine .inl ⟨k,c,e,hr.trans h1,h2,ic _ _ fun j r hj=>?_,h4,h5⟩
    obtain⟨r1,r2⟩:=cC _ _ _ _ h3 hj;obtain⟨vs,v1,v2,v3,v4⟩:=fH r2;exact⟨r1,fG (ri hst _ _ (List.all_eq_true.1 hp r (List.mem_of_getElem? hj)) v3) v2 v4⟩
   ·refine .inl ⟨k,c,e,hr.trans h1,h2,ic _ _ fun j r hj=>?_,by simpa using h4,h5⟩
    rw[List.getElem?_map]at hj;obtain⟨r0,hj0,rfl⟩:=Option.map_eq_some_iff.1 hj;obtain⟨r1,r2⟩:=cC _ _ _ _ h3 hj0;obtain⟨vs,v1,v2,v3,v4⟩:=fH r2;exact⟨by rw[AVal.FX,r1],fG (ug hst h.ah _ _ v3) v2 v4⟩
  ·rcases hb with⟨rfl,_⟩ |rfl
   ·exact .inr ⟨rfl,hr.trans h2,h3⟩
   ·exact .inr ⟨rfl,hr.trans h2,h3⟩
 case map.map c es c' es'=>
  simp only[aa.live,Option.some.injEq]at hv hv';subst hv;subst hv';obtain⟨rfl,hb⟩:=hb;obtain⟨k,ents,h1,h2,h3⟩:=hg;refine⟨k,ents,hr.trans h1,h2,?_⟩;grind [ow,xZ,mY,Hh,h.ah]
 case loop.loop=>
  simp only[aa.live,Option.some.injEq]at hv hv';subst hv;subst hv';obtain⟨rfl,rfl,rfl,rfl,rfl,rfl,rfl⟩:=hb;obtain⟨k,tmps,dk,fn,h1,h2,h3⟩:=hg;exact⟨k,tmps,dk,fn,hr.trans h1,h2,ug hst h.ah _ _ h3⟩
 case iter.iter=>
  simp only[aa.live,Option.some.injEq]at hv hv';subst hv;subst hv';obtain⟨rfl,rfl,rfl,rfl⟩:=hb;obtain⟨k,mo,h1,h2,h3⟩:=hg;exact⟨k,mo,hr.trans h1,h2,Hh hst h.ah _ _ h3⟩
 case defs.defs=>
  simp only[aa.live,Option.some.injEq]at hv hv';subst hv;subst hv';obtain⟨k,h1,h2⟩:=hg;exact⟨k,hr.trans h1,h2⟩
theorem Inv.jO{H H':List aa}(hi:Inv g H w)(h:O6 g g' H H' f):Inv g' H' w:=by
 have hst:∀k o,g.st k o→g'.st k o:=fun k o h'=>by rw[h.st];exact h'
 refine⟨?_,?_,h.fresh,h.next,?_,?_,hi.di.st hst⟩
 ·intro b' x' hb';rcases h.blk b' x' hb' with hl |⟨b,x,v,v',h1,h2,h3,h4,h5,h6⟩
  ·cases x'<;>simp[aa.live]at hl<;>trivial
  ·exact SI h (hi.good b x h1) h2 h3 h5 h6
 ·intro b1 b2 x1 x2 v1 v2 k z1 z2 hb1 hb2 l1 l2 k1 k2;rcases h.blk b1 x1 hb1 with hl |⟨c1,y1,u1,u1',p1,p2,p3,p4,p5,p6⟩
  ·rw[l1]at hl;cases hl
  ·rcases h.blk b2 x2 hb2 with hl |⟨c2,y2,u2,u2',q1,q2,q3,q4,q5,q6⟩
   ·rw[l2]at hl;cases hl
   ·rw[l1]at p3;cases p3;rw[l2]at q3;cases q3;rw[p5]at k1;rw[q5]at k2;have:=hi.inj c1 c2 y1 y2 u1 u2 k z1 z2 p1 q1 p2 q2 k1 k2;grind
 ·intro b' x' v k z o hb' hl hk hs;rcases h.blk b' x' hb' with hl' |⟨b,x,u,u',p1,p2,p3,p4,p5,p6⟩
  ·rw[hl]at hl';cases hl'
  ·rw[hl]at p3;cases p3;rw[p5]at hk;rw[h.st]at hs;exact hi.free b x u k z o p1 p2 hk hs
 ·intro k o hs;rw[h.st]at hs;exact hi.er k o hs
end
def iJ[aD](H0:List aa)(s s':St):Prop:=
 ∀(g0:Gh) (w0:World) (g:Gh) (a:Act) (w:World),Inv g0 H0 w0→aX g0 H0 w0 g s.H w→eD g s a w→∃g',eD g' s' a w∧aX g0 H0 w0 g' s'.H w
theorem iJ.refl[aD](H0:List aa)(s:St):iJ H0 s s:=fun _ _ g _ _ _ hl hs=>⟨g,hs,hl⟩
theorem iJ.trans[aD]{H0:List aa}{s s1 s2:St}(h:iJ H0 s s1)(h':iJ H0 s1 s2):iJ H0 s s2:=fun g0 w0 g a w hi hl hs=>
 let⟨g1,hs1,hl1⟩:=h g0 w0 g a w hi hl hs
 h' g0 w0 g1 a w hi hl1 hs1
def aa.uh:aa→Option Nat
 | .row v _ _=>some v
 |_=>none
def rq:aa→Bool
 | .row _ _ rows=>rows.all AVal.aT
 | .map _ es=>es.all fun p=>p.1.pure&&p.2.1.pure
 |_=>true
def En(pu:List Nat)(H:List aa):Prop:=∀b∈pu,∀x,H[b]? =some x→rq x=true
def pH(b:Nat):List Nat→Nat→Option Nat
 | [],_=>none
 |c::cs,j=>match c==b with
  |true=>some j
  |false=>pH b cs (j+1)
def zY:List Nat→Bool
 | []=>true
 |c::cs=> !cs.contains c&&zY cs
def oB(bump:List Nat)(H0 H:List aa)(b:Nat):Option (Nat×Nat):=
 match bump.contains b with
 |true=>match(H0[b]?).bind aa.uh,(H[b]?).bind aa.uh with
  |some v0,some v1=>some (v0,v1)
  |_,_=>none
 |false=>none
def tK(H0:List aa)(b:Nat):Bool:=match H0[b]? with
 |some .aZ=>false
 |some _=>true
 |none=>false
theorem NK{H0:List aa}{b:Nat}(h:tK H0 b=true):b<H0.length:=by
 grind [tK]
theorem Hi{H0:List aa}{b:Nat}(h:tK H0 b=false):H0[b]? =some .aZ∨H0.length≤b:=by
 grind [tK]
def rB(bl bump:List Nat)(H0 H:List aa):Ren:=fun b v=>
 match tK H0 b with
 |true=>match oB bump H0 H b with
  |some (v0,v1)=>if v=v1 then some (b,v0+1)else none
  |none=>some (b,v)
 |false=>match pH b bl 0 with
  |some j=>if(H[b]?).bind aa.live=some v then some (H0.length+j,0)else none
  |none=>none
def jq(f:Ren)(p:Bool)(v':Option Nat):aa→aa
 | .row v sz rows=>.row (v'.getD v) sz (match p with |true=>rows |false=>rows.map (AVal.oW f))
 | .map c es=>.map c (match p with |true=>es |false=>es.map fun p=>(p.1.jO f,p.2.1.jO f,p.2.2))
 | .loop st pend fid A ps as bd=>.loop st pend fid (AVal.oW f A) ps as bd
 | .iter m since seen stepped=>.iter (m.jO f) since seen stepped
 |x=>x
def pU(f:Ren)(pu bump:List Nat)(H0 H:List aa):Nat→List aa→List aa
 |_,[]=>[]
 |b,x::xs=>(match tK H0 b with |true=>jq f (pu.contains b) ((oB bump H0 H b).map (·.1+1)) x |false=>.aZ)::pU f pu bump H0 H (b+1) xs
def Gs(f:Ren):List tJ→Option (List tJ)
 | []=>some []
 | .call h args::ds=>(Gs f ds).map (.call h (AVal.oW f args):: ·)
 | .mark b::ds=>if f b 0=some (b,0)then(Gs f ds).map (.mark b:: ·)else none
def SJ(bl bump pu:List Nat)(H0:List aa)(s:St):Option St:=
 match zY bl&&bl.all (fun b=> !tK H0 b&&decide (b<s.H.length))with
 |true=>match Gs (rB bl bump H0 s.H) s.D with
  |some D=>some ⟨AVal.oW (rB bl bump H0 s.H) s.A,pU (rB bl bump H0 s.H) pu bump H0 s.H 0 (s.H.take H0.length)++bl.map (fun b=>jq (rB bl bump H0 s.H) (pu.contains b) (some 0) (s.H.getD b .dead)),D⟩
  |none=>none
 |false=>none
theorem u9:∀{bl:List Nat} {b i j:Nat},pH b bl i=some j→i≤j∧bl[j - i]? =some b
 | [],b,i,j,h=>by simp[pH]at h
 |c::cs,b,i,j,h=>by
  simp only[pH]at h;split at h
  ·grind
  ·obtain⟨h1,h2⟩:=u9 h;grind
theorem BP:∀{bl:List Nat} {b j:Nat} (i:Nat),zY bl=true→bl[j]? =some b→pH b bl i=some (i+j)
 | [],b,j,i,_,h=>by simp at h
 |c::cs,b,0,i,_,h=>by simp at h;subst h;simp[pH]
 |c::cs,b,j+1,i,hn,h=>by
  simp only[zY,Bool.and_eq_true,Bool.not_eq_true']at hn;simp only[List.getElem?_cons_succ]at h;have hne:(c==b)=false:=by
   apply beq_false_of_ne;rintro rfl;have:=List.mem_of_getElem? h;simp[this]at hn
  simp only[pH,hne];rw[BP (i+1) hn.2 h,show i+1+j=i+(j+1)by omega]
theorem BQ(f:Ren)(pu bump:List Nat)(H0 H:List aa):∀(l:List aa) (b j:Nat),(pU f pu bump H0 H b l)[j]? =(l[j]?).map fun x=>match tK H0 (b+j)with |true=>jq f (pu.contains (b+j)) ((oB bump H0 H (b+j)).map (·.1+1)) x |false=>.aZ
 | [],b,j=>by simp[pU]
 |x::xs,b,0=>by simp[pU]
 |x::xs,b,j+1=>by
  simp only[pU,List.getElem?_cons_succ];rw[BQ f pu bump H0 H xs (b+1) j,show b+1+j=b+(j+1)by omega]
theorem ru(f:Ren)(p:Bool)(v':Option Nat)(x:aa):(jq f p v' x).live=match x with | .row v _ _=>some (v'.getD v) |x=>x.live:=by cases x<;>rfl
theorem zn(f:Ren)(p:Bool)(v':Option Nat){x:aa}(hp:p=true→rq x=true)(hl:x.live≠none):Lk f x (jq f p v' x):=by
 cases x with
 |row v sz rows=>
  refine⟨rfl,?_⟩;cases p with
  |true=>exact .inl ⟨rfl,hp rfl⟩
  |false=>exact .inr rfl
 |map c es=>
  refine⟨rfl,?_⟩;cases p with
  |true=>exact .inl ⟨rfl,hp rfl⟩
  |false=>exact .inr rfl
 |loop=>exact⟨rfl,rfl,rfl,rfl,rfl,rfl,rfl⟩
 |defs=>trivial
 |iter=>exact⟨rfl,rfl,rfl,rfl⟩
 |aZ=>exact absurd rfl hl
 |dead=>exact absurd rfl hl
def oZ(bl bump:List Nat)(H0 H:List aa)(g:Gh):Gh:=
 {ah:=fun b v=>match decide (b<H0.length)with
  |true=>match tK H0 b with
   |true=>match oB bump H0 H b with
    |some (v0,v1)=>if v≤v0 then g.ah b v else if v=v0+1 then g.ah b v1 else none
    |none=>g.ah b v
   |false=>none
  |false=>match bl[b - H0.length]? with
   |some c=>if v=0 then(match(H[c]?).bind aa.live with |some u=>g.ah c u |none=>none)else none
   |none=>none
  st:=g.st}
theorem FY{x:aa}{v:Nat}(h:x.uh=some v):x.live=some v:=by cases x<;>simp[aa.uh]at h<;>simp[aa.live,h]
theorem uj{bump:List Nat}{H0 H:List aa}{b v0 v1:Nat}(h:oB bump H0 H b=some (v0,v1)):(∃x0,H0[b]? =some x0∧x0.uh=some v0)∧∃x1,H[b]? =some x1∧x1.uh=some v1:=by
 grind [oB]
theorem SK[aD]{bl bump pu:List Nat}{H0:List aa}{s s':St}(F0:En pu s.H)(h:SJ bl bump pu H0 s=some s'):iJ H0 s s':=by
 intro g0 w0 g a w hi0 hl hs;unfold SJ at h;split at h
 ·rename_i hc;simp only[Bool.and_eq_true,List.all_eq_true,decide_eq_true_eq,Bool.not_eq_true']at hc;obtain⟨hnd,hbl⟩:=hc;split at h
  ·rename_i D hD;simp only[Option.some.injEq]at h;subst h;have hlen:H0.length≤s.H.length:=hl.len;have htl:(s.H.take H0.length).length=H0.length:=by simp;omega
   have hrl:(pU (rB bl bump H0 s.H) pu bump H0 s.H 0 (s.H.take H0.length)).length=H0.length:=by
    have:∀(l:List aa) (b:Nat),(pU (rB bl bump H0 s.H) pu bump H0 s.H b l).length=l.length:=by
     intro l;induction l with
     |nil=>intro b;rfl
     |cons x xs ih=>intro b;simp[pU,ih]
    rw[this,htl]
   have side:∀(b':Nat) (x':aa),(pU (rB bl bump H0 s.H) pu bump H0 s.H 0 (s.H.take H0.length)++bl.map (fun b=>jq (rB bl bump H0 s.H) (pu.contains b) (some 0) (s.H.getD b .dead)))[b']? =some x'→
    (b'<H0.length∧tK H0 b'=true∧∃x,s.H[b']? =some x∧x'=jq (rB bl bump H0 s.H) (pu.contains b') ((oB bump H0 s.H b').map (·.1+1)) x)∨
    (b'<H0.length∧tK H0 b'=false∧x'=.aZ)∨
    (H0.length≤b'∧∃b x,bl[b' - H0.length]? =some b∧s.H[b]? =some x∧x'=jq (rB bl bump H0 s.H) (pu.contains b) (some 0) x):=by
    intro b' x' hx;by_cases hb:b'<H0.length
    ·grind [BQ,tK]
    ·grind
   have hpure:∀b x,s.H[b]? =some x→pu.contains b=true→rq x=true:=fun b x hx hc=>F0 b (by simpa using hc) x hx
   have ok:O6 g (oZ bl bump H0 s.H g) s.H (pU (rB bl bump H0 s.H) pu bump H0 s.H 0 (s.H.take H0.length)++bl.map (fun b=>jq (rB bl bump H0 s.H) (pu.contains b) (some 0) (s.H.getD b .dead))) (rB bl bump H0 s.H):=by
    refine⟨rfl,?_,?_,?_,?_⟩
    ·intro b v b' v' x hf hr;unfold rB at hf;split at hf
     ·grind [NK,oZ]
     ·rename_i hlt;split at hf
      ·rename_i j hj;split at hf
       ·rename_i hv;simp only[Option.some.injEq,Prod.mk.injEq]at hf;obtain⟨rfl,rfl⟩:=hf;obtain⟨_,hj⟩:=u9 hj;have h1:decide (H0.length+j<H0.length)=false:=by simp
        simp only[oZ,h1,Nat.add_sub_cancel_left];grind
       ·cases hf
      ·cases hf
    ·intro b' x' hx;rcases side b' x' hx with⟨hlt,hold,x,h1,rfl⟩ |⟨_,_,rfl⟩ |⟨hge,b,x,h1,h2,rfl⟩
     ·by_cases hlv:x.live=none
      ·grind [ru,aa.live]
      ·right;obtain⟨v,hv⟩:=Option.ne_none_iff_exists'.1 hlv;have hlt':decide (b'<H0.length)=true:=by simpa using hlt
       cases hbu:oB bump H0 s.H b' with
       |none=>
        refine⟨b',x,v,v,h1,hv,?_,by simp only[rB,hold,hbu],by simp only[oZ,hlt',hold,hbu],zn _ _ _ (hpure _ _ h1) hlv⟩
        grind [ru,aa.live]
       |some p=>
        obtain⟨v0,v1⟩:=p;obtain⟨_,x1,q1,q2⟩:=uj hbu;rw[h1]at q1;cases q1;have:v=v1:=by rw[FY q2]at hv;cases hv;rfl
        subst this;refine⟨b',x,v,v0+1,h1,hv,?_,by simp only[rB,hold,hbu,if_true],?_,zn _ _ _ (hpure _ _ h1) hlv⟩
        ·grind [ru,aa.uh]
        grind [oZ]
     ·exact .inl rfl
     ·by_cases hlv:x.live=none
      ·grind [ru,aa.live]
      ·right;obtain⟨v,hv⟩:=Option.ne_none_iff_exists'.1 hlv;have hbge:=(hbl b (List.mem_of_getElem? h1)).1;have hlt2:decide (b'<H0.length)=false:=by simp;omega
       refine⟨b,x,v,0,h2,hv,?_,?_,?_,zn _ _ _ (hpure _ _ h2) hlv⟩
       ·rw[ru];cases x<;>simp[aa.live]at hv ⊢
       ·simp only[rB,hbge,BP 0 hnd h1,Nat.zero_add];grind
       grind [oZ]
    ·intro b' v hb;rcases hb with hb |hb
     ·rcases side b' _ hb with⟨hlt,hold,x,h1,hx⟩ |⟨hlt,hold,_⟩ |⟨hge,b,x,h1,h2,hx⟩
      ·have hx':x=.aZ:=by cases x<;>simp[jq]at hx;rfl
       subst hx';have hlt':decide (b'<H0.length)=true:=by simpa using hlt
       have hbu:oB bump H0 s.H b'=none:=by
        cases hbu:oB bump H0 s.H b' with
        |none=>rfl
        |some p=>
         grind [uj,aa.uh]
       simp only[oZ,hlt',hold,hbu];exact hs.inv.fresh b' v (.inl h1)
      ·grind [oZ]
      ·have hx':x=.aZ:=by cases x<;>simp[jq]at hx;rfl
       grind [oZ,aa.live]
     grind [oZ]
    ·intro b' x' v v' hx hv hlt;rcases side b' x' hx with⟨hlb,hold,x,h1,rfl⟩ |⟨_,_,rfl⟩ |⟨hge,b,x,h1,h2,rfl⟩
     ·have hlt':decide (b'<H0.length)=true:=by simpa using hlb
      rw[ru]at hv;cases hbu:oB bump H0 s.H b' with
      |none=>
       simp only[oZ,hlt',hold,hbu];rw[hbu]at hv;refine hs.inv.next b' x v v' h1 ?_ hlt;grind [aa.live]
      |some p=>
       grind [uj,oZ,aa.uh]
     ·cases hv
     grind [oZ]
   refine⟨oZ bl bump H0 s.H g,⟨hs.inv.jO ok,ug (g:=g) (g':=oZ bl bump H0 s.H g) (fun _ _ h=>h) ok.ah _ _ hs.tmps,?_⟩,?_⟩
   ·have key:∀(l l':List tJ) (ds:List Deferred),Gs (rB bl bump H0 s.H) l=some l'→RD g w l ds→RD (oZ bl bump H0 s.H g) w l' ds:=by
     intro l;induction l with
     |nil=>intro l' ds h hd;simp[Gs]at h;subst h;exact hd
     |cons d l ih=>
      intro l' ds h hd;obtain⟨d',ds',rfl,h1,h2⟩:=hd;cases d with
      |call f args=>
       simp only[Gs,Option.map_eq_some_iff]at h;obtain⟨l2,h,rfl⟩:=h;obtain⟨cap,t1,t2⟩:=h1;exact⟨d',ds',rfl,⟨cap,t1,ug (g:=g) (g':=oZ bl bump H0 s.H g) (fun _ _ h=>h) ok.ah _ _ t2⟩,ih _ _ h h2⟩
      |mark b=>
       simp only[Gs]at h;split at h
       ·rename_i hb;obtain⟨l2,h0,rfl⟩:=Option.map_eq_some_iff.1 h;obtain⟨k,sz,t1,t2⟩:=h1;exact⟨d',ds',rfl,⟨k,sz,ok.ah _ _ _ _ _ hb t1,t2⟩,ih _ _ h0 h2⟩
       ·cases h
    exact key _ _ _ hD hs.defs
   ·refine⟨⟨?_,hl.ext.st,hl.ext.cell,hl.ext.shape⟩,hl.size,hl.keep,?_,by simp[hrl],hl.os,hl.tape,hl.output,fun k o hk hs=>?_,?_,?_⟩
    ·intro b v x hx;have hold:tK H0 b=true:=by
      cases ho:tK H0 b with
      |true=>rfl
      |false=>rw[hi0.fresh b v (Hi ho)]at hx;cases hx
     have hlt':decide (b<H0.length)=true:=by simpa using NK hold
     cases hbu:oB bump H0 s.H b with
     |none=>simp only[oZ,hlt',hold,hbu];exact hl.ext.ah b v x hx
     |some p=>
      obtain⟨v0,v1⟩:=p;obtain⟨⟨x0,q1,q2⟩,_⟩:=uj hbu;simp only[oZ,hlt',hold,hbu];have:v≤v0:=by
       apply Decidable.byContradiction;intro hn;rw[hi0.next b x0 v0 v q1 (FY q2) (by omega)]at hx;cases hx
      rw[if_pos this];exact hl.ext.ah b v x hx
    ·rintro k hk ⟨b',x',v',z,h1,h2,h3⟩;rcases ok.blk b' x' h1 with hn |⟨b,x,v,v2,p1,p2,p3,p4,p5,p6⟩
     ·rw[h2]at hn;cases hn
     ·rw[h2]at p3;cases p3;rw[p5]at h3;exact hl.own k hk ⟨b,x,v,z,p1,p2,h3⟩
    ·rcases hl.stk k o hk hs with h1 |⟨h1,h2⟩
     ·exact .inl h1
     ·refine .inr ⟨h1,?_⟩;rintro⟨b',x',v',z,q1,q2,q3⟩;rcases ok.blk b' x' q1 with hn |⟨b,x,v,v2,p1,p2,p3,p4,p5,p6⟩
      ·rw[q2]at hn;cases hn
      ·rw[q2]at p3;cases p3;rw[p5]at q3;exact h2 ⟨b,x,v,z,p1,p2,q3⟩
    ·intro b hb;have hlt:b<H0.length:=(List.getElem?_eq_some_iff.1 hb).1;have hlt':decide (b<H0.length)=true:=by simpa using hlt
     obtain⟨d1,d2⟩:=hl.sZ b hb;have hbu:oB bump H0 s.H b=none:=by
      cases hbu:oB bump H0 s.H b with
      |none=>rfl
      |some p=>
       grind [uj,aa.uh]
     have hold:tK H0 b=true:=by simp[tK,hb]
     refine⟨?_,fun ai=>by grind [oZ]⟩
     rw[List.getElem?_append_left (by omega),BQ,Nat.zero_add,List.getElem?_take,if_pos hlt,d1]
     simp only[Option.map_some,hold];rfl
    ·intro b' v' k z hr;simp only[oZ]at hr;split at hr
     ·split at hr
      ·split at hr
       ·split at hr
        ·exact hl.rQ b' _ k z hr
        ·split at hr
         ·exact hl.rQ b' _ k z hr
         ·cases hr
       ·exact hl.rQ b' _ k z hr
      ·cases hr
     ·split at hr
      ·rename_i c hcb;split at hr
       ·split at hr
        ·rcases hl.rQ c _ k z hr with⟨u,z',hu⟩ |hn
         ·have:=(hbl c (List.mem_of_getElem? hcb)).1;rw[hi0.fresh c u (Hi this)]at hu;cases hu
         ·exact .inr hn
        ·cases hr
       ·cases hr
      ·cases hr
  ·cases h
 ·cases h
def QM:AVal→AVal
 | .sc (.slice none 0 0)=>.aj []
 | .emp=>.aj []
 | .nz _=>.aj []
 |v=>v
mutual
def jY:AVal→AVal
 | .sc v=>QM (.sc v)
 | .emp=>.aj []
 | .nz _=>.aj []
 | .agg cs=>.agg (oC cs)
 | .cw cs=>.cw (oC cs)
 | .fn f a b=>.fn f (oC a) (oC b)
 | .fF t v=>.fF t v
 | .bK cs o=>.bK (oC cs) o
 |v=>v
def oC:List AVal→List AVal
 | []=>[]
 |a::as=>jY a::oC as
end
section
set_option linter.unusedSectionVars false
variable [aD] {g:Gh} {w:World}
theorem Ky{v:AVal}{x:Value}(h:R g w v x):R g w (QM v) x:=by
 unfold QM;grind [fT,R]
mutual
theorem SL:∀(v:AVal),v.pure=true→(jY v).pure=true
 | .sc v,h=>by
  simp only[jY,QM];split<;>simp_all [AVal.pure]
 | .emp,_=>by simp[jY,AVal.pure]
 | .nz _,_=>by simp[jY,AVal.pure]
 | .agg cs,h=>by simp only[AVal.pure]at h;simp only[jY,AVal.pure,uE cs h]
 | .cw cs,h=>by simp only[AVal.pure]at h;simp only[jY,AVal.pure,uE cs h]
 | .fn f a b,h=>by simp only[AVal.pure,Bool.and_eq_true]at h;simp only[jY,AVal.pure,uE a h.1,uE b h.2,Bool.and_self]
 | .fF t v,h=>by simpa only[jY]using h
 | .bK cs o,_=>by simp[jY,AVal.pure]
 | .ptr ..,h=>by simpa only[jY]using h
 | .sl ..,h=>by simpa only[jY]using h
 | .aj _,h=>by simpa only[jY]using h
 | .mp _,h=>by simpa only[jY]using h
 | .jd _,h=>by simpa only[jY]using h
 | .sa ..,h=>by simpa only[jY]using h
 | .gN ..,h=>by simpa only[jY]using h
 | .af,h=>by simpa only[jY]using h
theorem uE:∀(l:List AVal),AVal.aT l=true→AVal.aT (oC l)=true
 | [],_=>rfl
 |a::as,h=>by simp only[AVal.aT,Bool.and_eq_true]at h;simp only[oC,AVal.aT,SL a h.1,uE as h.2,Bool.and_self]
end
mutual
theorem Hj:∀(v:AVal) (x:Value),R g w v x→R g w (jY v) x
 | .sc v,x,h=>by simp only[jY];exact Ky h
 | .emp,x,h=>by simp only[jY];exact Ky (v:=.emp) h
 | .nz b,x,h=>by simp only[jY];exact Ky (v:=.nz b) h
 | .agg cs,x,h=>by
  simp only[jY,R]at h ⊢;obtain⟨vs,e,h1,hl⟩:=h;exact⟨vs,e,h1,ye cs vs hl⟩
 | .cw cs,x,h=>by
  simp only[jY,R]at h ⊢;obtain⟨vs,e,hl⟩:=h;exact⟨vs,e,ye cs vs hl⟩
 | .fn f a b,x,h=>by
  simp only[jY,R]at h ⊢;obtain⟨va,vb,e,h1,h2⟩:=h;exact⟨va,vb,e,ye a va h1,ye b vb h2⟩
 | .fF t v,x,h=>by simpa only[jY]using h
 | .bK cs o,x,h=>by
  simp only[jY,R]at h ⊢;obtain⟨k,off,e,hp,hc⟩:=h;exact⟨k,off,e,uE cs hp,Ll cs k off hc⟩
 | .ptr ..,x,h=>by simpa only[jY]using h
 | .sl ..,x,h=>by simpa only[jY]using h
 | .aj _,x,h=>by simpa only[jY]using h
 | .mp _,x,h=>by simpa only[jY]using h
 | .jd _,x,h=>by simpa only[jY]using h
 | .sa ..,x,h=>by simpa only[jY]using h
 | .gN ..,x,h=>by simpa only[jY]using h
 | .af,x,h=>by simpa only[jY]using h
theorem ye:∀(l:List AVal) (vs:List Value),RL g w l vs→RL g w (oC l) vs
 | [],vs,h=>by simpa only[oC]using h
 |a::as,vs,h=>by
  simp only[oC,RL]at h ⊢;obtain⟨y,ys,e,h1,h2⟩:=h;exact⟨y,ys,e,Hj a y h1,ye as ys h2⟩
theorem Ll:∀(l:List AVal) (k o:Nat),RC g w l k o→RC g w (oC l) k o
 | [],k,o,h=>by simpa only[oC]using h
 |a::as,k,o,h=>by
  simp only[oC,RC]at h ⊢;obtain⟨⟨hs,y,hy,ho,hr⟩,h2⟩:=h;exact⟨⟨hs,y,hy,ho,Hj a y hr⟩,Ll as k (o+1) h2⟩
end
theorem NL{A:List AVal}{vs:List Value}{d:Nat}{v v':AVal}(h:RL g w A vs)(hd:A[d]? =some v)(hv:∀x,R g w v x→R g w v' x):RL g w (A.set d v') vs:=by
 grind [dD,vw]
theorem Inv.QN{H:List aa}(hi:Inv g H w){b ai sz i j:Nat}{rows:List (List AVal)}{cs:List AVal}{v v':AVal}(hb:H[b]? =some (.row ai sz rows))(hcs:rows[i]? =some cs)(hj:cs[j]? =some v)(hv:∀x,R g w v x→R g w v' x):
 Inv g (H.set b (.row ai sz (rows.set i (cs.set j v')))) w∧aX g H w g (H.set b (.row ai sz (rows.set i (cs.set j v')))) w:=by
 have hlt:b<H.length:=(List.getElem?_eq_some_iff.1 hb).1;have f:∀(b':Nat) (x':aa) (v1:Nat),(H.set b (.row ai sz (rows.set i (cs.set j v'))))[b']? =some x'→x'.live=some v1→∃x1,H[b']? =some x1∧x1.live=some v1:=by
  intro b' x' v1 h hl;rcases bU h with⟨rfl,he,_⟩ |⟨_,h⟩
  ·subst he;exact⟨_,hb,hl⟩
  ·exact⟨x',h,hl⟩
 refine⟨⟨?_,?_,?_,?_,?_,hi.er,hi.di⟩,⟨Ext.refl g w,Nat.le_refl _,fun _ _ _=>rfl,?_,by simp,rfl,⟨rfl,Nat.le_refl _⟩,rfl,fun _ _ _ h=>.inl h,?_,fun _ ai _ z h=>.inl ⟨ai,z,h⟩⟩⟩
 ·intro b' x h;rcases bU h with⟨rfl,he,_⟩ |⟨hne,h⟩
  ·subst he;rcases hi.good _ _ hb with⟨k,c,e,h1,h2,h3,h4,h5⟩ |⟨h1,_⟩
   ·refine .inl ⟨k,c,e,h1,h2,ic _ _ fun i' r hi'=>?_,by simpa using h4,h5⟩
    by_cases hii:i=i'
    ·subst hii;have hil:i<rows.length:=(List.getElem?_eq_some_iff.1 hcs).1;rw[List.getElem?_set_self hil]at hi';cases hi';obtain⟨r1,r2⟩:=cC _ _ _ _ h3 hcs;obtain⟨vs,v1,v2,v3,v4⟩:=fH r2;exact⟨by simpa using r1,fG (NL v3 hj hv) v2 v4⟩
    ·rw[List.getElem?_set_ne hii]at hi';exact cC _ _ _ _ h3 hi'
   ·subst h1;simp at hcs
  ·exact hi.good b' x h
 ·intro b1 b2 x1 x2 v1 v2 k z1 z2 h1 h2 l1 l2 k1 k2;obtain⟨y1,p1,p2⟩:=f _ _ _ h1 l1;obtain⟨y2,q1,q2⟩:=f _ _ _ h2 l2;exact hi.inj b1 b2 y1 y2 v1 v2 k z1 z2 p1 q1 p2 q2 k1 k2
 ·intro b' v h;rcases h with h |h
  ·rcases bU h with⟨rfl,he,_⟩ |⟨_,h⟩
   ·cases he
   ·exact hi.fresh b' v (.inl h)
  ·exact hi.fresh b' v (.inr (by simpa using h))
 ·intro b' x v v' h hl hv;obtain⟨y1,p1,p2⟩:=f _ _ _ h hl;exact hi.next b' y1 v v' p1 p2 hv
 ·intro b' x v k z o h hl hk;obtain⟨y1,p1,p2⟩:=f _ _ _ h hl;exact hi.free b' y1 v k z o p1 p2 hk
 ·rintro k _ ⟨b',x,v,z,h,hl,hz⟩;obtain⟨y1,p1,p2⟩:=f _ _ _ h hl;exact⟨b',y1,v,z,p1,p2,hz⟩
 grind
end
inductive Pl where
 |s (d:Nat)
 |c (d j:Nat)
 |b (b j:Nat)
def uF(s:St):Pl→Option AVal
 | .s d=>s.A[d]?
 | .c d j=>match s.A[d]? with
  |some (.ptr b ai i o)=>match s.H[b]? with
   |some (.row v _ rows)=>match decide (v=ai)with
    |true=>(rows[i]?).bind fun cs=>cs[o+j]?
    |false=>none
   |_=>none
  |_=>none
 | .b b j=>match s.H[b]? with
  |some (.row _ _ rows)=>(rows[0]?).bind fun cs=>cs[j]?
  |_=>none
def C8(s:St)(v':AVal):Pl→St
 | .s d=>{s with A:=s.A.set d v'}
 | .c d j=>match s.A[d]? with
  |some (.ptr b _ i o)=>match s.H[b]? with
   |some (.row v sz rows)=>{s with H:=s.H.set b (.row v sz (rows.set i ((rows.getD i []).set (o+j) v')))}
   |_=>s
  |_=>s
 | .b b j=>match s.H[b]? with
  |some (.row v sz rows)=>{s with H:=s.H.set b (.row v sz (rows.set 0 ((rows.getD 0 []).set j v')))}
  |_=>s
theorem zo[aD]{s:St}{p:Pl}{v v':AVal}(hp:uF s p=some v){g:Gh}{a:Act}{w:World}(hs:eD g s a w)(hv:∀x,R g w v x→R g w v' x):eD g (C8 s v' p) a w∧aX g s.H w g (C8 s v' p).H w:=by
 cases p with
 |s d=>exact⟨⟨hs.inv,NL hs.tmps hp hv,hs.defs⟩,aX.refl _ _ _⟩
 |c d j=>
  simp only[uF]at hp;split at hp
  ·rename_i b ai i o hd;split at hp
   ·rename_i v0 sz rows hb;split at hp
    ·obtain⟨cs,h1,h2⟩:=Option.bind_eq_some_iff.1 hp;obtain⟨i1,i2⟩:=hs.inv.QN hb h1 h2 hv;have hgd:rows.getD i []=cs:=by rw[List.getD_eq_getElem?_getD,h1];rfl
     simp only[C8,hd,hb,hgd];exact⟨⟨i1,cc i2.ext _ _ hs.tmps,ej i2.ext _ _ hs.defs⟩,i2⟩
    ·cases hp
   ·cases hp
  ·cases hp
 |b b j=>
  simp only[uF]at hp;split at hp
  ·rename_i v0 sz rows hb;obtain⟨cs,h1,h2⟩:=Option.bind_eq_some_iff.1 hp;obtain⟨i1,i2⟩:=hs.inv.QN hb h1 h2 hv;have hgd:rows.getD 0 []=cs:=by rw[List.getD_eq_getElem?_getD,h1];rfl
   simp only[C8,hb,hgd];exact⟨⟨i1,cc i2.ext _ _ hs.tmps,ej i2.ext _ _ hs.defs⟩,i2⟩
  ·cases hp
def U1(s:St)(p:Pl):Option St:=match uF s p with
 |some v=>some (C8 s (QM v) p)
 |none=>none
theorem SM[aD]{H0:List aa}{s s':St}{p:Pl}(h:U1 s p=some s'):iJ H0 s s':=by
 unfold U1 at h;split at h
 ·rename_i v hv;simp only[Option.some.injEq]at h;subst h;intro g0 w0 g a w _ hl hs;obtain⟨h1,h2⟩:=zo hv hs fun _=>Ky
  exact⟨g,h1,hl.trans h2⟩
 ·cases h
def SN(s:St)(p:Pl)(sz:Nat):Option St:=match uF s p,decide (0<sz)with
 |some (.sc (.slice none 0 0)),true=>some (C8 {s with H:=s.H++[.row 0 sz []]} (.sl s.H.length 0 sz 0 0) p)
 |some _,_=>some s
 |none,_=>none
theorem QO[aD]{H0:List aa}{s s':St}{p:Pl}{sz:Nat}(h:SN s p sz=some s'):iJ H0 s s':=by
 unfold SN at h;split at h
 ·rename_i hv hz;simp only[Option.some.injEq]at h;subst h;intro g0 w0 g a w _ hl hs;obtain⟨i1,i2⟩:=hs.inv.WR (sz:=sz) (by simpa using hz)
  have hs1:eD g {s with H:=s.H++[.row 0 sz []]} a w:=⟨i1,cc i2.ext _ _ hs.tmps,ej i2.ext _ _ hs.defs⟩;have hv1:uF {s with H:=s.H++[.row 0 sz []]} p=some (.sc (.slice none 0 0)):=by
   cases p with
   |s d=>exact hv
   |c d j=>
    grind [uF]
   |b b j=>
    grind [uF]
  obtain⟨h1,h2⟩:=zo hv1 hs1 (v':=.sl s.H.length 0 sz 0 0) fun x hx=>by
   have:=fT hx;subst this;simp[R]
  exact⟨g,h1,(hl.trans i2).trans h2⟩
 ·grind [iJ.refl]
 ·cases h
set_option linter.unusedVariables false in
theorem U2[aD]{g:Gh}{H:List aa}{w:World}{g0:Gh}{H0:List aa}{w0:World}(hi0:Inv g0 H0 w0)(hi:Inv g H w)(hl:aX g0 H0 w0 g H w){b ai sz:Nat}{rows:List (List AVal)}(hb:H[b]? =some (.row ai sz rows)):
 Inv {ah:=g.ah,st:=fun k o=>g.st k o∨∃z,g.ah b ai=some (k,z)} (H.set b .dead) w∧aX g0 H0 w0 {ah:=g.ah,st:=fun k o=>g.st k o∨∃z,g.ah b ai=some (k,z)} (H.set b .dead) w∧
 Ext g w {ah:=g.ah,st:=fun k o=>g.st k o∨∃z,g.ah b ai=some (k,z)} w:=by
 have hext:Ext g w {ah:=g.ah,st:=fun k o=>g.st k o∨∃z,g.ah b ai=some (k,z)} w:=⟨fun _ _ _ h=>h,fun _ _ h=>.inl h,fun _ _ _=>rfl,fun _ _ h=>h⟩
 have f:∀(b':Nat) (x':aa),(H.set b aa.dead)[b']? =some x'→x'=.dead∨(b'≠b∧H[b']? =some x'):=by
  intro b' x' h;rcases bU h with⟨rfl,he,_⟩ |⟨h1,h⟩
  ·exact .inl he
  ·exact .inr ⟨h1,h⟩
 refine⟨⟨?_,?_,?_,?_,?_,?_,hi.di.mono hext⟩,⟨⟨hl.ext.ah,fun k o h=>.inl (hl.ext.st k o h),hl.ext.cell,hl.ext.shape⟩,hl.size,hl.keep,?_,by simpa using hl.len,hl.os,hl.tape,hl.output,?_,?_,hl.rQ⟩,hext⟩
 ·intro b' x' h;rcases f _ _ h with rfl |⟨hne,h⟩
  ·trivial
  ·exact kN hext (hi.good b' x' h) (fun _ _ _ _ _=>rfl) fun _ _ h=>h
 ·intro b1 b2 x1 x2 v1 v2 k z1 z2 h1 h2 l1 l2;rcases f _ _ h1 with rfl |⟨_,h1⟩
  ·cases l1
  ·rcases f _ _ h2 with rfl |⟨_,h2⟩
   ·cases l2
   ·exact hi.inj b1 b2 x1 x2 v1 v2 k z1 z2 h1 h2 l1 l2
 ·grind [hi.fresh]
 ·intro b' x' v v' h hlv;rcases f _ _ h with rfl |⟨_,h⟩
  ·cases hlv
  ·exact hi.next b' x' v v' h hlv
 ·intro b' x' v k z o h hlv hk hs;rcases f _ _ h with rfl |⟨hne,h⟩
  ·cases hlv
  ·rcases hs with hs |⟨z',hz⟩
   ·exact hi.free b' x' v k z o h hlv hk hs
   ·exact hne (hi.inj b' b x' _ v ai k z z' h hb hlv rfl hk hz)
 ·intro k o hs;rcases hs with hs |⟨z,hz⟩
  ·exact hi.er k o hs
  ·exact hi.rP hb rfl hz
 ·rintro k hk ⟨b',x',v,z,h,hlv,hz⟩;rcases f _ _ h with rfl |⟨_,h⟩
  ·cases hlv
  ·exact hl.own k hk ⟨b',x',v,z,h,hlv,hz⟩
 ·rintro k o hk (hs |⟨z,hz⟩)
  ·rcases hl.stk k o hk hs with h1 |⟨h1,h2⟩
   ·exact .inl h1
   ·refine .inr ⟨h1,?_⟩;rintro⟨b',x',v,z,h,hlv,hz⟩;rcases f _ _ h with rfl |⟨_,h⟩
    ·cases hlv
    ·exact h2 ⟨b',x',v,z,h,hlv,hz⟩
  ·refine .inr ⟨hl.own k hk ⟨b,_,ai,z,hb,rfl,hz⟩,?_⟩;rintro⟨b',x',v,z',h,hlv,hz'⟩;rcases f _ _ h with rfl |⟨hne,h⟩
   ·cases hlv
   ·exact hne (hi.inj b' b x' _ v ai k z' z h hb hlv rfl hz' hz)
 ·intro b1 hb1;obtain⟨d1,d2⟩:=hl.sZ b1 hb1;grind
def SO(_H0:List aa)(s:St)(p:Pl)(rows:List (List AVal)):Option St:=match uF s p with
 |some (.sl b ai sz 0 _)=>match s.H[b]? with
  |some (.row ver' sz' _)=>match decide (ver'=ai∧sz'=sz)with
   |true=>some (C8 {s with H:=s.H.set b .dead} (.aj rows) p)
   |false=>none
  |_=>none
 |_=>none
def We(s:St)(p:Pl)(rows:List (List AVal)):Prop:=∃b ai sz,uF s p=some (.sl b ai sz 0 rows.length)∧s.H[b]? =some (.row ai sz rows)∧rows.all AVal.aT=true
theorem QS[aD]{H0:List aa}{s s':St}{p:Pl}{rows:List (List AVal)}(hok:We s p rows)(h:SO H0 s p rows=some s'):iJ H0 s s':=by
 obtain⟨b,ai,sz,h1,h2,h3⟩:=hok;unfold SO at h;rw[h1]at h;simp only at h;split at h
 ·rename_i ver' sz' rows' hb;rw[h2]at hb;simp only[Option.some.injEq,aa.row.injEq]at hb;obtain⟨rfl,rfl,rfl⟩:=hb;split at h
  ·simp only[Option.some.injEq]at h;subst h;intro g0 w0 g a w hi0 hl hs;obtain⟨i1,i2,i3⟩:=U2 hi0 hs.inv hl h2;have hs1:eD {ah:=g.ah,st:=fun k o=>g.st k o∨∃z,g.ah b ai=some (k,z)} {s with H:=s.H.set b .dead} a w:=⟨i1,cc i3 _ _ hs.tmps,ej i3 _ _ hs.defs⟩
   have key0:∀(l:List AVal) (j:Nat) (y:AVal),AVal.aT l=true→l[j]? =some y→y.pure=true:=by
    intro l;induction l with
    |nil=>intro j y _ h;simp at h
    |cons c cs ih3=>
     grind [AVal.aT]
   have hgp:uF {s with H:=s.H.set b .dead} p=some (.sl b ai sz 0 rows.length):=by
    cases p with
    |s d=>exact h1
    |c d j=>
     simp only[uF]at h1 ⊢;split at h1
     ·grind [aa.row.injEq,AVal.pure]
     ·cases h1
    |b b2 j=>
     grind [uF,aa.row.injEq,AVal.pure]
   obtain⟨q1,q2⟩:=zo hgp hs1 (v':=.aj rows) fun x hx=>by
    simp only[R]at hx ⊢;rcases hx with⟨hn,rfl⟩ |⟨k,cap,e',sz2,hk,rfl,hsh,hcs,hm,hmax⟩
    ·simp_all
    ·obtain⟨k',c,e,r1,r2,r3,r4,r5,r6⟩:=hs.inv.row b ai _ _ h2 hk;rw[hk]at r1;simp at r1;subst r1;refine⟨_,cap,rfl,by omega,.inr ⟨k,0*sz,sz,rfl,Fl fun i r hr=>?_⟩⟩
     obtain⟨t1,t2⟩:=cC _ _ _ _ r3 hr;grind [A9,lI,qN,kf]
   exact⟨_,q1,i2.trans q2⟩
  ·cases h
 ·cases h
end Go.AM
end
section
namespace Go.AM
def jl(n:Nat):List AVal:=List.replicate n .af
def ap(a b:List AVal):List AVal:=a++b
section
set_option linter.unusedSectionVars false
variable [aD] {P:Program} {cfg:dL} {g:Gh} {H:List aa} {w:World} {fro:Option Nat}
def eP(P:Program)(fro:Option Nat)(g0:Gh)(H0:List aa)(w0:World)[aD](c:Code)(s:St)(Φ:bu→St→Prop):Prop:=
 ∀(Q:Exit→Act→World→Prop) (g:Gh) (a:Act) (w:World),eD g s a w→aX g0 H0 w0 g s.H w→(∀o s',Φ o s'→eO Q g0 H0 w0 s' o)→c.wpIn (Fr fro) 0 P Q a w
variable {g0:Gh} {H0:List aa} {w0:World}
theorem eP.mono{c:Code}{s:St}{Φ Ψ:bu→St→Prop}(h:eP P fro g0 H0 w0 c s Φ)(hp:∀o s',Φ o s'→Ψ o s'):eP P fro g0 H0 w0 c s Ψ:=
 fun Q g a w hs hl hk=>h Q g a w hs hl fun o s' hf=>hk o s' (hp o s' hf)
theorem eP.skip{s:St}{Φ:bu→St→Prop}(h:Φ .normal s):eP P fro g0 H0 w0 .skip s Φ:=
 fun _ g a w hs hl hp=>wpIn_skip (hp _ _ h g a w hs hl)
theorem eP.exit{s:St}{Φ:bu→St→Prop}{id:Nat}(h:Φ (.exit id) s):eP P fro g0 H0 w0 (.exit id) s Φ:=
 fun _ g a w hs hl hp=>wpIn_exit (hp _ _ h g a w hs hl)
theorem eP.ret{s:St}{Φ:bu→St→Prop}(h:Φ .ret s):eP P fro g0 H0 w0 .ret s Φ:=
 fun _ g a w hs hl hp=>wpIn_ret (hp _ _ h g a w hs hl)
def Fo:ee→bu×St
 | .ok s=>(.normal,s)
 | .bf v s=>(.bf v,s)
theorem eP.region(hm:P.follows .mixedOrders=true){orcs:Nat→kr}(ho:∀k,gI P (orcs k)){id:Nat}{ops:Array Oper}{draw:Bool}{s:St}{r:ee}{Φ:bu→St→Prop}(hcalm:∀(k:Nat) (o:Oper),ops[k]? =some o→Calm fro o)
 (h:u6 P cfg orcs ops draw s=some r) (hr:Φ (Fo r).1 (Fo r).2):eP P fro g0 H0 w0 (.region id ops draw) s Φ:=by
 intro Q g a w hs hl hp;cases r with
 |ok s'=>exact vK hm ho hcalm h hs (rj.later (r:=.ok s') (hp _ _ hr) hl)
 |bf v s'=>exact vK hm ho hcalm h hs (rj.later (r:=.bf v s') (hp _ _ hr) hl)
theorem eP.seq{a b:Code}{s:St}{Φ:bu→St→Prop}(h:eP P fro g0 H0 w0 a s fun o s'=>match o with | .normal=>eP P fro g0 H0 w0 b s' Φ |o=>Φ o s'):eP P fro g0 H0 w0 (.seq a b) s Φ:=by
 intro Q g x w hs hl hp;refine wpIn_seq (h _ g x w hs hl fun o s' hf=>?_)
 cases o with
 |normal=>exact fun g' a' w' hs' hla=>hf Q g' a' w' hs' hla hp
 |exit id=>exact hp _ _ hf
 |ret=>exact hp _ _ hf
 |bf v=>exact hp _ _ hf
theorem eP.cond{c:Operand}{a b:Code}{s:St}{Φ:bu→St→Prop}(z:Bool)(hc:dm s.A c=.sc (.bool z))(h:eP P fro g0 H0 w0 (if z then a else b) s Φ):eP P fro g0 H0 w0 (.cond c a b) s Φ:=by
 intro Q g x w hs hl hp;have hev:=hs.eval c;rw[hc]at hev;simp only[R]at hev;cases z with
 |true=>exact wpIn_cond_true hev (h Q g x w hs hl hp)
 |false=>exact wpIn_cond_false hev (h Q g x w hs hl hp)
def behind(id:Nat):bu→bu
 | .exit id'=>if id'=id then .normal else .exit id'
 |o=>o
theorem eP.block{id:Nat}{b:Code}{s:St}{Φ:bu→St→Prop}(h:eP P fro g0 H0 w0 b s fun o s'=>Φ (behind id o) s'):eP P fro g0 H0 w0 (.block id b) s Φ:=by
 intro Q g x w hs hl hp;refine wpIn_block (h _ g x w hs hl fun o s' hf=>?_)
 cases o with
 |normal=>exact fun g' a' w' hs' hla=>hp _ _ hf g' a' w' hs' hla
 |exit id'=>
  intro g' a' w' hs' hla;by_cases he:id'=id
  ·simp only[behind,he,if_true]at hf;simp only[Exit.inBlock,he,if_true];exact hp _ _ hf g' a' w' hs' hla
  ·simp only[behind,he,if_false]at hf;simp only[Exit.inBlock,he,if_false];exact hp _ _ hf g' a' w' hs' hla
 |ret=>exact fun g' a' w' hs' hla=>hp _ _ hf g' a' w' hs' hla
 |bf v=>exact fun g' a' w' x hv hs' hla hr=>hp _ _ hf g' a' w' x hv hs' hla hr
theorem eO.weak{Q:Exit→Act→World→Prop}{g0:Gh}{H0:List aa}{w0:World}(hi0:Inv g0 H0 w0){s' s'':St}{o:bu}(hw:iJ H0 s' s'')(h:eO Q g0 H0 w0 s'' o):eO Q g0 H0 w0 s' o:=by
 cases o with
 |normal=>exact fun g' a' w' hs hl'=>let⟨g2,h1,h2⟩:=hw g0 w0 g' a' w' hi0 hl' hs;h g2 a' w' h1 h2
 |exit id=>exact fun g' a' w' hs hl'=>let⟨g2,h1,h2⟩:=hw g0 w0 g' a' w' hi0 hl' hs;h g2 a' w' h1 h2
 |ret=>exact fun g' a' w' hs hl'=>let⟨g2,h1,h2⟩:=hw g0 w0 g' a' w' hi0 hl' hs;h g2 a' w' h1 h2
 |bf v=>exact fun g' a' w' x hv hs hl' hr=>let⟨g2,h1,h2⟩:=hw g0 w0 g' a' w' hi0 hl' hs;h g2 a' w' x hv h1 h2 (lY _ _ hv hr)
theorem eP.weak(hi0:Inv g0 H0 w0){c:Code}{s s1:St}{Φ:bu→St→Prop}(hw:iJ H0 s s1)(h:eP P fro g0 H0 w0 c s1 Φ):eP P fro g0 H0 w0 c s Φ:=by
 intro Q g a w hs hl hp;obtain⟨g2,h1,h2⟩:=hw g0 w0 g a w hi0 hl hs;exact h Q g2 a w h1 h2 hp
theorem eP.loop(hi0:Inv g0 H0 w0){b:Code}{s s0:St}{n:Nat}{Φ:bu→St→Prop}(J:Nat→St→Prop)(h0:∀s,¬J 0 s)(hs0:iJ H0 s s0)(hJ:J n s0)
 (hb:∀n s1,J (n+1) s1→eP P fro g0 H0 w0 b s1 fun o s2=>∃s3,iJ H0 s2 s3∧match o with | .normal=>J n s3 |o=>Φ o s3):eP P fro g0 H0 w0 (.loop b) s Φ:=by
 intro Q gs a0 ws hs hl hp;have key:∀(n:Nat) (s1:St) (g:Gh) (a:Act) (w:World),J n s1→eD g s1 a w→aX g0 H0 w0 g s1.H w→
  ∀(fr:Frame) (k:List Item) (cs:List Frame),fr.roundOf=(Fr fro).round→∃e a' w',Q e a' w'∧ArrivesIn (Machine.fenced P (Fr fro)) P (lone (fr.atR a (.code b:: .inLoop b::k)) cs w) fr k cs e a' w':=by
  intro n;induction n with
  |zero=>grind
  |succ n ih=>
   intro s1 g a w hj hsim hla fr k cs hfr;have hstep:b.wpIn (Fr fro) 0 P (Exit.then (fun a' w'=>∀(fr:Frame) (k:List Item) (cs:List Frame),fr.roundOf=(Fr fro).round→∃e a2 w2,Q e a2 w2∧ArrivesIn (Machine.fenced P (Fr fro)) P (lone (fr.atR a' (.code b:: .inLoop b::k)) cs w') fr k cs e a2 w2) Q) a w:=by
    refine hb n s1 hj _ g a w hsim hla fun o s2 ⟨s3,hw,hf⟩=>?_
    cases o with
    |normal=>
     intro g' a' w' hs' hla';obtain⟨g2,h1,h2⟩:=hw g0 w0 g' a' w' hi0 hla' hs';exact ih s3 g2 a' w' hf h1 h2
    |exit id=>exact eO.weak hi0 (o:=.exit id) hw (hp _ _ hf)
    |ret=>exact eO.weak hi0 (o:=.ret) hw (hp _ _ hf)
    |bf v=>exact eO.weak hi0 (o:=.bf v) hw (hp _ _ hf)
   obtain⟨e,a₁,w₁,hq,harr⟩:=hstep fr (.inLoop b::k) cs hfr trivial (Fm _ _);cases e with
   |normal=>
    obtain⟨e₂,a₂,w₂,hq₂,harr₂⟩:=hq fr k cs hfr;exact⟨e₂,a₂,w₂,hq₂,.of_steps (StepsIn.trans harr (.one (fenced_calm (n:=0) trivial (Fm _ _) rfl) stepR_inLoop)) harr₂⟩
   |exit id=>exact⟨_,a₁,w₁,hq,.pass (x:=.inLoop b) rfl (fun _ _=>.inl (by simp)) harr⟩
   |goto l=>exact⟨_,a₁,w₁,hq,.pass (x:=.inLoop b) rfl (fun _ _=>.inl (by simp)) harr⟩
   |ret=>exact⟨_,a₁,w₁,hq,.pass (x:=.inLoop b) rfl (fun _ _=>.inl (by simp)) harr⟩
   |panic ch=>exact⟨_,a₁,w₁,hq,.pass (x:=.inLoop b) rfl (fun _ _=>.inl (by simp)) harr⟩
   |outgrown=>exact⟨_,a₁,w₁,hq,.pass (x:=.inLoop b) rfl (fun _ _=>.inl (by simp)) harr⟩
 obtain⟨g1,h1,h2⟩:=hs0 g0 w0 gs a0 ws hi0 hl hs;intro fr k cs hfr _ hroom;obtain⟨e,a',w',hq,harr⟩:=key n s0 g1 a0 ws hJ h1 h2 fr k cs hfr;exact⟨e,a',w',hq,.of_steps (.one (fenced_calm trivial hroom rfl) stepR_loop) harr⟩
end
inductive Sh:Type 1 where
 |one (τ:Type)
 |two (a b:Sh)
def Sh.El:Sh→Type
 | .one τ=>τ
 | .two a b=>a.El⊕b.El
def Sh.all:(s:Sh)→(s.El→Prop)→Prop
 | .one _,p=>∀x,p x
 | .two a b,p=>a.all (fun x=>p (.inl x))∧b.all (fun x=>p (.inr x))
theorem Sh.cG:∀(s:Sh) (p:s.El→Prop),s.all p↔∀x,p x
 | .one _,p=>Iff.rfl
 | .two a b,p=>by
  simp only[Sh.all,Sh.cG a,Sh.cG b];exact⟨fun h x=>match x with | .inl y=>h.1 y | .inr y=>h.2 y,fun h=>⟨fun y=>h (.inl y),fun y=>h (.inr y)⟩⟩
namespace AVal
mutual
def zb(b v:Nat):AVal→AVal
 | .sc x=>.sc x
 | .agg cs=>.agg (vM b v cs)
 | .cw cs=>.cw (vM b v cs)
 | .ptr _ _ i o=>.ptr b v i o
 | .bK cs o=>.bK cs o
 | .sl _ _ sz o n=>.sl b v sz o n
 | .aj rows=>.aj rows
 | .fn f c d=>.fn f (vM b v c) (vM b v d)
 | .fF t a=>.fF t (zb b v a)
 | .mp x=>.mp x
 | .jd x=>.jd x
 | .sa _ _ i o s n=>.sa b v i o s n
 | .gN i o=>.gN i o
 | .emp=>.emp
 | .nz x=>.nz x
 | .af=>.af
def vM(b v:Nat):List AVal→List AVal
 | []=>[]
 |a::as=>zb b v a::vM b v as
end
mutual
def uy:AVal→Bool
 | .sc _=>true
 | .agg cs=>mZ cs
 | .cw cs=>mZ cs
 | .ptr b v .. =>b==0&&v==0
 | .bK .. =>true
 | .sl b v .. =>b==0&&v==0
 | .aj _=>true
 | .fn _ c d=>mZ c&&mZ d
 | .fF _ a=>uy a
 | .mp _=>false
 | .jd _=>false
 | .sa b v .. =>b==0&&v==0
 | .gN _ _=>true
 | .emp=>true
 | .nz _=>true
 | .af=>true
def mZ:List AVal→Bool
 | []=>true
 |a::as=>uy a&&mZ as
end
mutual
def but(b:Nat):AVal→AVal
 | .sc x=>.sc x
 | .agg cs=>.agg (zZ b cs)
 | .cw cs=>.cw (zZ b cs)
 | .ptr c v i o=>match Nat.beq c b with
  |true=>.ptr c v i o
  |false=>.af
 | .bK cs o=>.bK cs o
 | .sl c v sz o n=>match Nat.beq c b with
  |true=>.sl c v sz o n
  |false=>.af
 | .aj rows=>.aj rows
 | .fn f c d=>.fn f (zZ b c) (zZ b d)
 | .fF t a=>.fF t (but b a)
 | .mp _=>.af
 | .jd _=>.af
 | .sa c v i o s n=>match Nat.beq c b with
  |true=>.sa c v i o s n
  |false=>.af
 | .gN i o=>.gN i o
 | .emp=>.emp
 | .nz x=>.nz x
 | .af=>.af
def zZ(b:Nat):List AVal→List AVal
 | []=>[]
 |a::as=>but b a::zZ b as
end
end AVal
def aa.jt:aa→Bool
 | .row ai _ rows=>ai==0&&rows.all AVal.aT
 |_=>false
def aa.ng(v:Nat):aa→aa
 | .row _ sz rows=>.row v sz rows
 |x=>x
def aP.Fp:aP→Bool
 | .ret v=>v.pure
 | .bf v=>v.flat
def AVal.Bd(b v:Nat):AVal→AVal
 | .sl _ _ sz o n=>.sl b v sz o n
 |u=>u
def aP.Bd(b v:Nat):aP→aP
 | .ret u=>.ret (u.Bd b v)
 | .bf u=>.bf u
def aP.wL:aP→Bool
 | .ret (.sl b v _ _ _)=>b==0&&v==0
 | .ret u=>u.pure
 | .bf u=>u.flat
theorem aP.QT{r:aP}(h:r.Fp=true):r.wL=true:=by
 cases r with
 |ret u=>cases u<;>first |exact h |cases h
 |bf u=>exact h
def iQ(P:Program)[aD](f:FuncId)(args:List AVal)(r:aP):Prop:=
 (∃ fn c, P.funcs[f]? = some fn ∧ fn.body = some c ∧ fn.name ≠ "runtime.NumGoroutine") ∧
 ∀g w (vs:Array Value),Inv g [] w→RL g w args vs.toList→Calls P f vs w (eC g [] w r [])
def bz(P:Program)[aD](f:FuncId)(args:List AVal)(H:List aa)(r:aP)(H1:List aa):Prop:=
 (∃ fn c, P.funcs[f]? = some fn ∧ fn.body = some c ∧ fn.name ≠ "runtime.NumGoroutine") ∧
 ∀g w (vs:Array Value),Inv g H w→RL g w args vs.toList→Calls P f vs w (eC g H w r H1)
structure uG(P:Program)[aD]:Type 1 where
 f:FuncId
 X:Type
 args:X→List AVal
 heap:X→List aa
 sh:Sh
 out:sh.El→aP
 gC:X→sh.El→List aa
 S:Nat→X→Option sh.El
 ok:∀n x r,S n x=some r→bz P f (args x) (heap x) (out r) (gC x r)
structure aA(P:Program)[aD]:Type 1 where
 f:FuncId
 X:Type
 args:X→List AVal
 sh:Sh
 out:sh.El→aP
 S:Nat→X→Option sh.El
 ok:∀n x r,S n x=some r→iQ P f (args x) (out r)
structure cD(P:Program)[aD]:Type 1 where
 f:FuncId
 X:Type
 args:X→List AVal
 blk:X→aa
 sh:Sh
 out:sh.El→aP
 o5:X→sh.El→aa
 S:Nat→X→Option sh.El
 a0:∀x,AVal.mZ (args x)=true
 b0:∀x,(blk x).jt=true
 b1:∀x r,(o5 x r).jt=true∨o5 x r=.dead
 r0:∀r,(out r).wL=true
 ok:∀n x r,S n x=some r→bz P f (args x) [blk x] (out r) [o5 x r]
structure kO(X:Type) where
 run:Option X
 bw:X→cU
 ids:List Nat
 nZ:aD→Program→dL→Nat→Op→(Operand→AVal)→List aa→Prop
 gR:Prop
 holds:gR
 sound:∀(gl:aD) (P:Program) (cfg:dL) (nid:Nat) (op:Op) (ah:Operand→AVal) (H:List aa),nZ gl P cfg nid op ah H→∀x,run=some x→
  (bF P cfg nid ah op).run H=some (.bw (bw x))∧(bF P cfg nid ah op).reads H=ids
structure PU where
 b:Nat
 blk:aa
 pf:rq blk=true
def vN:aa→Bool
 | .row _ _ rows=>rows.all AVal.aT
 | .map _ es=>es.all fun p=>p.1.pure&&p.2.1.pure
 |_=>false
theorem Be{x:aa}(h:vN x=true):(∃v sz rows,x=.row v sz rows∧rows.all AVal.aT=true)∨∃c es,x=.map c es∧(es.all fun p=>p.1.pure&&p.2.1.pure)=true:=by
 unfold vN at h;grind
structure PR where
 b:Nat
 blk:aa
 pf:vN blk=true
def PR.ofRow(b ai sz:Nat)(rows:List (List AVal))(pf:rows.all AVal.aT=true):PR:=⟨b,.row ai sz rows,pf⟩
structure FZ where
 p:Pl
 b:Nat
 ai:Nat
 sz:Nat
 n:Nat
 rows:List (List AVal)
 pf:rows.all AVal.aT=true
structure PK where
 b:Nat
 mb:Nat
 n:Nat
 es:List (AVal×AVal×Nat)
 pf:es.length=n∧∀(i:Nat) p,es[i]? =some p→p.2.2=i
structure RW where
 p:Pl
 rows:List (List AVal)
 rows':List (List AVal)
 pf:rows.map oC=rows'
inductive TS where
 |keep (l:List Nat)
 |wk (p:Pl)
 |own (p:Pl) (sz:Nat)
 |cN (z:FZ)
 |T3 (z:RW)
 |cut (bl bump:List Nat) (pu:List PU)
inductive G (P:Program) [aD]:Type→Type 1 where
 |stop {ρ:Type}:G P ρ
 |done {ρ:Type} (ts:List TS) (r:ρ):G P ρ
 |fail {ρ:Type}:G P ρ
 |skip {ρ:Type} (n:Nat) (g:G P ρ):G P ρ
 |br {ρ:Type} (d:Tmp) (c:Bool) (t f:G P ρ):G P ρ
 |F1 {ρ:Type} (d:Tmp) (k:IntKind) (x c:Int) (t f:G P ρ):G P ρ
 |sp {ρ:Type} (c:Bool) (t f:G P ρ):G P ρ
 |op {ρ X:Type} (t:kO X) (k:X→G P ρ):G P ρ
 |call {ρ:Type} (c:aA P) (x:c.X) (k:c.sh.El→G P ρ):G P ρ
 |fK {ρ:Type} (c:uG P) (x:c.X) (k:c.sh.El→G P ρ):G P ρ
 |ax {ρ:Type} (c:cD P) (b v:Nat) (ex:List PR) (x:c.X) (k:c.sh.El→G P ρ):G P ρ
 |tidy {ρ:Type} (l:List TS) (g:G P ρ):G P ρ
 |loop {ρ σ:Type} (sh:Sh) (hd:List TS) (E:σ→St) (X:sh.El→bu×St) (a0:σ) (body:σ→G P (σ⊕sh.El)) (k:sh.El→G P ρ):G P ρ
 |fL {ρ:Type} (n:Nat) (g:G P ρ):G P ρ
 |xP {ρ:Type} (Q:Prop) (h:Q) (g:G P ρ):G P ρ
 |join {ρ:Type} (sh:Sh) (Y:sh.El→bu×St) (g:G P sh.El) (k:sh.El→G P ρ):G P ρ
 |pick {ρ:Type} (z:PK) (seen:List Nat) (k:Option Nat→G P ρ):G P ρ
 |inl {ρ:Type} (pr:List PR) (g:G P ρ):G P ρ
def aI:List TS→Bool
 | []=>true
 | .cN z::ts=>decide (z.n=z.rows.length)&&aI ts
 |_::ts=>aI ts
def bZ{σ τ:Type}(f:σ→Option (σ⊕τ)):Nat→σ→Option τ
 | 0,_=>none
 |n+1,a=>match f a with
  |some (.inl a')=>bZ f n a'
  |some (.inr t)=>some t
  |none=>none
section
variable {P:Program} [aD]
def G.run(n:Nat):{ρ:Type}→G P ρ→Option ρ
 |_,.stop=>none
 |_,.done ts r=>if aI ts then some r else none
 |_,.fail=>none
 |_,.skip _ g=>g.run n
 |_,.br _ c t f=>if c then t.run n else f.run n
 |_,.F1 _ _ x c t f=>if x=c then t.run n else f.run n
 |_,.sp c t f=>if c then t.run n else f.run n
 |_,.op t k=>t.run.bind fun x=>(k x).run n
 |_,.call c x k=>(c.S n x).bind fun r=>(k r).run n
 |_,.fK c x k=>(c.S n x).bind fun r=>(k r).run n
 |_,.ax c _ _ _ x k=>(c.S n x).bind fun r=>(k r).run n
 |_,.tidy l g=>if aI l then g.run n else none
 |_,.loop _ hd _ _ a0 body k=>if aI hd then(bZ (fun a=>(body a).run n) n a0).bind fun t=>(k t).run n else none
 |_,.fL _ g=>g.run n
 |_,.xP _ _ g=>g.run n
 |_,.join _ _ g k=>(g.run n).bind fun t=>(k t).run n
 |_,.pick _ _ _=>none
 |_,.inl _ g=>g.run n
def T4{σ:Type}{sh:Sh}(E:σ→St)(X:sh.El→bu×St):σ⊕sh.El→Prop
 | .inl a=>(bu.normal,E a)=(bu.normal,E a)
 | .inr t=>X t=X t
def Wf{sh:Sh}(Y:sh.El→bu×St)(t:sh.El):Prop:=Y t=Y t
def Gt:List PU→Prop
 | []=>True
 |p::ps=>some p.blk=some p.blk∧Gt ps
def C9:List PR→Prop
 | []=>True
 |p::ps=>some p.blk=some p.blk∧C9 ps
def o6:List TS→Prop→Prop
 | [],q=>q
 | .keep _::ts,q=>o6 ts q
 | .wk _::ts,q=>o6 ts q
 | .own _ _::ts,q=>o6 ts q
 | .cN z::ts,q=>some (AVal.sl z.b z.ai z.sz 0 z.n)=some (AVal.sl z.b z.ai z.sz 0 z.n)∧some (aa.row z.ai z.sz z.rows)=some (aa.row z.ai z.sz z.rows)∧o6 ts q
 | .cut _ _ pu::ts,q=>Gt pu∧o6 ts q
 | .T3 z::ts,q=>some (AVal.aj z.rows)=some (AVal.aj z.rows)∧o6 ts q
omit [aD] in
theorem DJ:∀(l:List PU),Gt l
 | []=>trivial
 |_::ps=>⟨rfl,DJ ps⟩
omit [aD] in
theorem yA:∀(l:List PR),C9 l
 | []=>trivial
 |_::ps=>⟨rfl,yA ps⟩
omit [aD] in
theorem jB{q:Prop}(h:q):∀(l:List TS),o6 l q
 | []=>h
 | .keep _::ts=>jB h ts
 | .wk _::ts=>jB h ts
 | .own _ _::ts=>jB h ts
 | .cN _::ts=>⟨rfl,rfl,jB h ts⟩
 | .cut _ _ pu::ts=>⟨DJ pu,jB h ts⟩
 | .T3 _::ts=>⟨rfl,jB h ts⟩
def G.dV:{ρ:Type}→(ρ→Prop)→G P ρ→Prop
 |_,_,.stop=>True
 |_,leaf,.done ts r=>o6 ts (leaf r)
 |_,_,.fail=>True
 |_,leaf,.skip _ g=>g.dV leaf
 |_,leaf,.br _ c t f=>some (AVal.sc (.bool c))=some (AVal.sc (.bool c))∧t.dV leaf∧f.dV leaf
 |_,leaf,.F1 _ k x _ t f=>some (AVal.sc (.int k x))=some (AVal.sc (.int k x))∧t.dV leaf∧f.dV leaf
 |_,leaf,.sp _ t f=>t.dV leaf∧f.dV leaf
 |_,leaf,.op t k=>some true=some true∧t.gR∧∀x,(k x).dV leaf
 |_,leaf,.call c x k=>some true=some true∧some (c.f,c.args x)=some (c.f,c.args x)∧c.sh.all fun r=>(k r).dV leaf
 |_,leaf,.fK c x k=>some true=some true∧some (c.f,c.args x,c.heap x)=some (c.f,c.args x,c.heap x)∧c.sh.all fun r=>(k r).dV leaf
 |_,leaf,.ax c b v ex x k=>some true=some true∧C9 ex∧some (c.f,AVal.vM b v (c.args x),some ((c.blk x).ng v))=some (c.f,AVal.vM b v (c.args x),some ((c.blk x).ng v))∧c.sh.all fun r=>(k r).dV leaf
 |_,leaf,.tidy l g=>o6 l (g.dV leaf)
 |_,leaf,.loop sh hd E X a0 body k=>o6 hd (E a0=E a0)∧(∀a,(body a).dV (T4 E X))∧sh.all fun t=>(k t).dV leaf
 |_,leaf,.fL _ g=>g.dV leaf
 |_,_,.xP Q _ _=>Q
 |_,leaf,.join sh Y g k=>g.dV (Wf Y)∧sh.all fun t=>(k t).dV leaf
 |_,leaf,.pick z seen k=>some true=some true∧AVal.ptr z.b 0 0 0=AVal.ptr z.b 0 0 0∧some (aa.iter (.mp z.mb) z.n seen z.n)=some (aa.iter (.mp z.mb) z.n seen z.n)∧some (aa.map z.n z.es)=some (aa.map z.n z.es)∧(k none).dV leaf∧∀i,(k (some i)).dV leaf
 |_,leaf,.inl pr g=>some true=some true∧C9 pr∧g.dV leaf
omit [aD] in
theorem MT{σ:Type}{sh:Sh}(E:σ→St)(X:sh.El→bu×St):∀r,T4 E X r
 | .inl _=>rfl
 | .inr _=>rfl
theorem G.bL:∀{ρ:Type} {leaf:ρ→Prop} (_:∀r,leaf r) (g:G P ρ),g.dV leaf
 |_,_,_,.stop=>trivial
 |_,_,h,.done ts r=>jB (h r) ts
 |_,_,_,.fail=>trivial
 |_,_,h,.skip _ g=>G.bL h g
 |_,_,h,.br _ _ t f=>⟨rfl,G.bL h t,G.bL h f⟩
 |_,_,h,.F1 _ _ _ _ t f=>⟨rfl,G.bL h t,G.bL h f⟩
 |_,_,h,.sp _ t f=>⟨G.bL h t,G.bL h f⟩
 |_,_,h,.op t k=>⟨rfl,t.holds,fun x=>G.bL h (k x)⟩
 |_,_,h,.call c _ k=>⟨rfl,rfl,(c.sh.cG _).2 fun r=>G.bL h (k r)⟩
 |_,_,h,.fK c _ k=>⟨rfl,rfl,(c.sh.cG _).2 fun r=>G.bL h (k r)⟩
 |_,_,h,.ax c _ _ ex _ k=>⟨rfl,yA ex,rfl,(c.sh.cG _).2 fun r=>G.bL h (k r)⟩
 |_,_,h,.tidy l g=>jB (G.bL h g) l
 |_,_,h,.loop sh hd E X _ body k=>⟨jB rfl hd,fun a=>G.bL (MT E X) (body a),(sh.cG _).2 fun t=>G.bL h (k t)⟩
 |_,_,h,.fL _ g=>G.bL h g
 |_,_,_,.xP _ q _=>q
 |_,_,h,.join sh _ g k=>⟨G.bL (fun _=>rfl) g,(sh.cG _).2 fun t=>G.bL h (k t)⟩
 |_,_,h,.pick _ _ k=>⟨rfl,rfl,rfl,rfl,G.bL h (k none),fun i=>G.bL h (k (some i))⟩
 |_,_,h,.inl pr g=>⟨rfl,yA pr,G.bL h g⟩
def G.less{ρ:Type}:Nat→G P ρ→G P ρ
 | 0,g=>g
 |n+1,g=>.skip (n+1) g
theorem G.Lm{ρ:Type}(n m:Nat)(g:G P ρ):(G.less m g).run n=g.run n:=by cases m<;>simp[G.less,G.run]
end
structure BR(P:Program)[aD] where
 fn:{ρ:Type}→FuncId→List AVal→List aa→G P ρ→(G P ρ→aP→List aa→Prop)→Prop
 DF:{ρ:Type}→Nat→List AVal→List aa→G P ρ→(G P ρ→aP→List aa→Prop)→Prop
 lp:{σ:Type}→{sh:Sh}→Option Nat→List aa→Code→G P (σ⊕sh.El)→(σ→St)→St→(sh.El→bu×St)→Prop
structure Env(P:Program)[aD] where
 cfg:dL
 ro:Option Nat
 N:BR P
 nd:Bool
def Wg(P:Program)[aD]:BR P:=⟨fun _ _ _ _ _=>False,fun _ _ _ _ _=>False,fun _ _ _ _ _ _ _=>False⟩
def O7(P:Program)[aD]{ρ:Type}(f:FuncId)(args:List AVal)(H:List aa)(c:uG P)(x:c.X)(kk:c.sh.El→G P ρ)(k:G P ρ→aP→List aa→Prop):Prop:=
 some true=some true∧some (f,oC args,H)=some (c.f,c.args x,c.heap x)∧c.sh.all fun r=>k (kk r) (c.out r) (c.gC x r)
def uz(P:Program)[aD]:BR P:=⟨fun f args H g k=>match g with
 | .fK c x kk=>O7 P f args H c x kk k
 |_=>False,fun _ _ _ _ _=>False,fun _ _ _ _ _ _ _=>False⟩
def Env.at{P:Program}[aD](X:Env P)(draw:Bool):Env P:=match draw&&X.nd with
 |true=>{X with N:=uz P}
 |false=>X
inductive WT (P:Program) [aD] {ρ:Type} (X:Env P) (ops:Array Oper) (n0:Nat) (o:Oper) (nid:Nat) (s:St) (k:G P ρ→ee→gH→Prop) (draw:Bool) (H0:List aa):Prop
inductive U3 (P:Program) [aD] {ρ:Type} (X:Env P) (c:Operand) (a b:Code) (s:St) (k:G P ρ→bu→St→Prop) (H0:List aa):Prop
inductive U4 (P:Program) [aD] {ρ:Type} (X:Env P) (b:Code) (s:St) (k:G P ρ→bu→St→Prop) (H0:List aa):Prop
inductive Us (P:Program) [aD] {ρ:Type} (X:Env P) (f:Operand) (ps:Array Tmp) (assign body:Code) (s:St) (k:G P ρ→bu→St→Prop) (H0:List aa):Prop
inductive Wh (P:Program) [aD] {ρ:Type} (fn:Func) (o:bu) (s:St) (out:ρ→aP):Prop
inductive U5 (P:Program) [aD] {ρ:Type} (fn:Func) (o:bu) (s:St) (H0:List aa) (k:G P ρ→List PR→bu→St→Prop):Prop
inductive U6 (P:Program) [aD] {ρ:Type} (b:Nat) (o:bu) (s:St) (H0:List aa) (k:G P ρ→St→Prop):Prop
inductive U7 (P:Program) [aD] {sh:Sh} (H0:List aa) (o:bu) (s:St) (Y:sh.El→bu×St):Prop
inductive Ut (P:Program) [aD] {σ:Type} {sh:Sh} (H0:List aa) (o:bu) (s:St) (E:σ→St) (X:sh.El→bu×St):Prop
inductive Hl (P:Program) [aD] {ρ:Type} (ops:Array Oper) (o:Oper) (s:St) (g:G P ρ):Prop
def xQ(keep:List Nat):Nat→List AVal→List AVal
 |_,[]=>[]
 |i,a::as=>(match keep.contains i with |true=>a |false=>.af)::xQ keep (i+1) as
def NM:List PU→List aa→Prop
 | [],_=>True
 |p::ps,H=>H[p.b]? =some p.blk∧NM ps H
def NN:List PR→List aa→Prop
 | [],_=>True
 |p::ps,H=>H[p.b]? =some p.blk∧NN ps H
def jS(H0:List aa):List TS→St→(St→Prop)→Prop
 | [],s,k=>k s
 | .keep l::ts,s,k=>iH (xQ l 0 s.A) fun A=>jS H0 ts {s with A:=A} k
 | .wk p::ts,s,k=>match U1 s p with
  |some s=>jS H0 ts s k
  |none=>False
 | .own p sz::ts,s,k=>match SN s p sz with
  |some s=>jS H0 ts s k
  |none=>False
 | .cN z::ts,s,k=>uF s z.p=some (.sl z.b z.ai z.sz 0 z.n)∧s.H[z.b]? =some (.row z.ai z.sz z.rows)∧match SO H0 s z.p z.rows with
  |some s=>jS H0 ts s k
  |none=>False
 | .T3 z::ts,s,k=>uF s z.p=some (.aj z.rows)∧jS H0 ts (C8 s (.aj z.rows') z.p) k
 | .cut bl bump pu::ts,s,k=>NM pu s.H∧match SJ bl bump (pu.map (·.b)) H0 s with
  |some ⟨A,H,D⟩=>iH A fun A=>iH H fun H=>jS H0 ts ⟨A,H,D⟩ k
  |none=>False
section
variable {P:Program} [aD]
def pI{ρ:Type}:G P ρ→St→(G P ρ→St→Prop)→Prop
 | .br d c t f,s,k=>s.A[d]? =some (.sc (.bool c))∧(C1 s.A d (.sc (.bool true)) fun A=>pI t {s with A:=A} k)∧(C1 s.A d (.sc (.bool false)) fun A=>pI f {s with A:=A} k)
 | .F1 d ik x c t f,s,k=>s.A[d]? =some (.sc (.int ik x))∧(C1 s.A d (.sc (.int ik c)) fun A=>pI t {s with A:=A} k)∧pI f s k
 | .sp _ t f,s,k=>pI t s k∧pI f s k
 | .fail,_,_=>True
 |g,s,k=>k g s
def wV:kr:=⟨fun _ _ _=>none,fun _ _ _=>none⟩
def O8(r:Option (aP×List aa)):kr:=⟨fun _ _ _=>r,fun _ _ _=>none⟩
def O9(H:List aa):Option Pre→Option (FuncId×List AVal×List aa)
 |some (.lN f args ids)=>some (f,oC args,mask ids H)
 |_=>none
def Fq(ids:List Nat):List Nat→Bool
 | []=>true
 |c::cs=>ids.contains c&&Fq ids cs
def Bf:List Nat→List Nat→List Nat
 | [],seen=>seen
 |b::todo,seen=>match seen.contains b with
  |true=>Bf todo seen
  |false=>Bf todo (b::seen)
def wW:List Nat→List Nat→List Nat
 | [],_=>[]
 |b::todo,seen=>match seen.contains b with
  |true=>wW todo seen
  |false=>b::wW todo (b::seen)
def th(P:Program)[aD](cfg:dL)(ids:List Nat)(ah:Operand→AVal):Op→Option (FuncId×List AVal×List Nat×List Nat)
 | .call {callee:=.value f,args:=args,.. }=>match ah f with
  | .fn (.func n) p q=>match P.funcs[n]? with
   |some fn=>match fn.body.isNone||cfg.val n||cfg.fz n with
    |false=>
     let l:=AVal.pG (p++args.toList.map ah++q)
     match Fq ids l&&Nat.ble l.length 900 with
     |true=>some (n,p++args.toList.map ah++q,Bf l [],wW l [])
     |false=>none
    |true=>none
   |none=>none
  |_=>none
 |_=>none
def SP(H:List aa)(b:Nat):Option (FuncId×List AVal×List Nat×List Nat)→Option (FuncId×List AVal×Option aa)
 |some (f,args,ids,_)=>match ids.contains b with
  |true=>some (f,AVal.zZ b (oC args),H[b]?)
  |false=>none
 |none=>none
def Fs:Option (FuncId×List AVal×List Nat×List Nat)→List Nat×List Nat
 |some (_,_,ids,rs)=>(ids,rs)
 |none=>([],[])
def Ln:Option Pre→Option (FuncId×List AVal)
 |some (.Fi f args _)=>some (f,oC args)
 |_=>none
def tj(pr:List Nat)(H:List aa):Nat→List Nat→List Nat→Option (List Nat×List Nat)
 |_,[],seen=>some (seen,[])
 | 0,_::_,_=>none
 |n+1,b::todo,seen=>match seen.contains b with
  |true=>tj pr H n todo seen
  |false=>match pr.contains b with
   |true=>(tj pr H n todo (b::seen)).map fun p=>(p.1,b::p.2)
   |false=>match H[b]? with
    |some (.row _ _ rows)=>(tj pr H n ((if rows.all AVal.aT then[]else AVal.pG rows.flatten)++todo) (b::seen)).map fun p=>(p.1,b::p.2)
    |some (.loop _ _ _ A _ _ _)=>(tj pr H n (AVal.pG A++todo) (b::seen)).map fun p=>(p.1,b::p.2)
    |some (.iter m _ _ _)=>(tj pr H n (AVal.refs m++todo) (b::seen)).map fun p=>(p.1,b::p.2)
    |some _=>(tj pr H n todo (b::seen)).map fun p=>(p.1,b::p.2)
    |none=>none
def Gu(P:Program)[aD](cfg:dL)(pr:List Nat)(ah:Operand→AVal)(op:Op)(H:List aa):Option ((FuncId⊕Nat)×List AVal×List Nat×List Nat):=
 match op with
 | .call {callee:=.value f,args:=args,.. }=>match ah f with
  | .fn (.func n) p q=>match P.funcs[n]? with
   |some fn=>match fn.body.isNone||cfg.val n||cfg.fz n with
    |false=>match tj pr H 1000 (AVal.pG (p++args.toList.map ah++q)) []with
     |some (ids,rs)=>some (.inl n,p++args.toList.map ah++q,ids,rs)
     |none=>none
    |true=>none
   |none=>none
  | .jd b=>match tj pr H 1000 (b::AVal.pG (args.toList.map ah)) []with
   |some (ids,rs)=>some (.inr b,args.toList.map ah,ids,rs)
   |none=>none
  |_=>none
 |_=>none
def Eo(ids:List Nat)(H:List aa)(a:aP)(H1:List aa)(k:cU→List Nat→Bool→Prop)(kp:AVal→Prop):Prop:=
 match a with
 | .ret v=>match Nat.beq H1.length H.length with
  |true=>k {val:=v,dH:=ids.map fun i=>(i,H1.getD i .dead)} ids false
  |false=>match eY H ids (some (.ret v,H1))with
   |some (.ok e)=>IC e fun e=>k e (e.dH.map (·.1)) (!e.news.isEmpty)
   |_=>False
 | .bf v=>match v.flat with
  |true=>kp v
  |false=>False
def si{ρ:Type}(P:Program)[gl:aD](X:Env P)(draw:Bool)(H0:List aa)(ops:Array Oper)(n0:Nat)(o:Oper)(nid:Nat)(g:G P ρ)(s:St)(k:G P ρ→ee→gH→Prop):Prop:=
 match g with
 | .skip (n+1) g'=>match eZ P X.cfg wV ops n0 o nid s with
  |some (r,f)=>k (G.less n g') r f
  |none=>Hl P ops o s g'
 | .op t kk=>kJ ops s.A o=some true∧t.nZ gl P X.cfg nid o.op (dm s.A) s.H∧∀x,IC (t.bw x) fun e=>vH s.A o.dst e.val fun A=>ua e s.H fun H=>
  k (kk x) (.ok {s with A:=A,H:=H}) (iI n0 t.ids (.bw e) (e.dH.map (·.1)) (!e.news.isEmpty))
 | .call c x kk=>kJ ops s.A o=some true∧Ln ((bF P X.cfg nid (dm s.A) o.op).run s.H)=some (c.f,c.args x)∧
  c.sh.all fun r=>match eZ P X.cfg (O8 (some (c.out r,[]))) ops n0 o nid s with
   |some (r',f)=>k (kk r) r' f
   |none=>Hl P ops o s (kk r)
 | .fK c x kk=>kJ ops s.A o=some true∧O9 s.H ((bF P X.cfg nid (dm s.A) o.op).run s.H)=some (c.f,c.args x,c.heap x)∧
  c.sh.all fun r=>match eZ P X.cfg (O8 (some (c.out r,c.gC x r))) ops n0 o nid s with
   |some (r',f)=>k (kk r) r' f
   |none=>Hl P ops o s (kk r)
 | .ax c b v ex x kk=>kJ ops s.A o=some true∧NN ex s.H∧SP s.H b (th P X.cfg (b::ex.map (·.b)) (dm s.A) o.op)=some (c.f,AVal.vM b v (c.args x),some ((c.blk x).ng v))∧
  c.sh.all fun r=>match c.out r with
   | .ret u=>vH s.A o.dst (u.Bd b v) fun A=>ua {val:=u.Bd b v,dH:=[(b,(c.o5 x r).ng v)]} s.H fun H=>k (kk r) (.ok {s with A:=A,H:=H})
    (iI n0 (Fs (th P X.cfg (b::ex.map (·.b)) (dm s.A) o.op)).2 (.lN 0 [] []) (Fs (th P X.cfg (b::ex.map (·.b)) (dm s.A) o.op)).1 false)
   | .bf u=>k (kk r) (.bf u {s with H:=(Fs (th P X.cfg (b::ex.map (·.b)) (dm s.A) o.op)).1.foldl (fun H i=>H.set i .dead) s.H})
    (iI n0 (Fs (th P X.cfg (b::ex.map (·.b)) (dm s.A) o.op)).2 (.lN 0 [] []) (Fs (th P X.cfg (b::ex.map (·.b)) (dm s.A) o.op)).1 false)
 | .inl pr g'=>kJ ops s.A o=some true∧NN pr s.H∧match Gu P X.cfg (pr.map (·.b)) (dm s.A) o.op s.H with
  |some (.inl f,args,ids,rs)=>vD (mask ids s.H) fun Hm=>X.N.fn f args Hm g' fun g2 a H1=>Eo ids s.H a H1 (fun e ws nw=>vH s.A o.dst e.val fun A=>ua e s.H fun H=>k g2 (.ok {s with A:=A,H:=H}) (iI n0 rs (.lN 0 [] []) ws nw))
   (fun v=>k g2 (.bf v {s with H:=ids.foldl (fun H i=>H.set i .dead) s.H}) (iI n0 rs (.lN 0 [] []) ids false))
  |some (.inr b,args,ids,rs)=>vD (mask ids s.H) fun Hm=>X.N.DF b args Hm g' fun g2 a H1=>Eo ids s.H a H1 (fun e ws nw=>vH s.A o.dst e.val fun A=>ua e s.H fun H=>k g2 (.ok {s with A:=A,H:=H}) (iI n0 rs (.lN 0 [] []) ws nw))
   (fun v=>k g2 (.bf v {s with H:=ids.foldl (fun H i=>H.set i .dead) s.H}) (iI n0 rs (.lN 0 [] []) ids false))
  |none=>Hl P ops o s g'
 | .pick z seen kk=>match draw with
  |true=>False
  |false=>(match o.op with
   | .next it false=>kJ ops s.A o=some true∧(dm s.A it=.ptr z.b 0 0 0∧s.H[z.b]? =some (.iter (.mp z.mb) z.n seen z.n)∧s.H[z.mb]? =some (.map z.n z.es)∧
    (vH s.A o.dst (.cw [.sc (.bool false)]) fun A=>k (kk none) (.ok {s with A:=A}) ⟨[],[]⟩)∧
    ∀i,vH s.A o.dst (.cw [.sc (.bool true),.af,.af]) fun A=>ua {val:=nothing,dH:=[(z.b,.iter (.mp z.mb) z.n (seen++[i]) z.n)]} s.H fun H=>k (kk (some i)) (.ok {s with A:=A,H:=H}) ⟨[],[]⟩)
   |_=>False)
 | .fail=>True
 | .stop=>WT P X ops n0 o nid s k draw H0
 |g=>Hl P ops o s g
def zq{ρ:Type}(P:Program)[gl:aD](X:Env P)(draw:Bool)(H0:List aa)(ops:Array Oper)(n0:Nat)(o:Oper)(nid:Nat)(g:G P ρ)(s:St)(k:G P ρ→ee→gH→Prop):Prop:=
 match g with
 | .tidy l g'=>match draw with
  |true=>False
  |false=>jS H0 l s fun s'=>si P X draw H0 ops n0 o nid g' s' k
 |g=>si P X draw H0 ops n0 o nid g s k
def BS{ρ:Type}(P:Program)[aD](X:Env P)(draw:Bool)(H0:List aa)(ops:Array Oper)(n0:Nat):List (Oper×Nat)→G P ρ→St→(G P ρ→ee→List gH→Prop)→Prop
 | [],g,s,k=>k g (.ok s) []
 | (o,nid)::rest,g,s,k=>pI g s fun g s=>zq P X draw H0 ops n0 o nid g s fun g r f=>match r with
  | .ok ⟨A,H,D⟩=>iH A fun A=>iH H fun H=>iH D fun D=>BS P X draw H0 ops n0 rest g ⟨A,H,D⟩ fun g r fs=>k g r (f::fs)
  | .bf v s'=>k g (.bf v s') [f]
def tn{ρ:Type}(P:Program)[aD](X:Env P)(H0:List aa)(ops:Array Oper)(draw:Bool)(g:G P ρ)(s:St)(k:G P ρ→ee→Prop):Prop:=
 ko (nD ops.toList) fun c=>ko (if c=0 then 0 else qq s.H) fun t=>ko (c - t) fun m=>
 GX s.H (List.replicate m .aZ) fun H1=>
 ko H1.length fun n0=>BS P X draw H0 ops n0 (numbered (s.H.length - t) ops.toList) g {s with H:=H1} fun g r feet=>
  if !draw then k g r else
  if wQ ops&&feet.length==ops.size&&indep ops (CheckFast.beforeF ops) feet then
   match r with
   | .ok s'=>k g (.ok s')
   | .bf v s'=>if feet.all (fun f=>f.writes.isEmpty)then k g (.bf v {s' with A:=ops.toList.foldl (fun A o=>iP A o.dst .af) s'.A})else False
  else False
def Gv{ρ:Type}(H0:List aa)(g:G P ρ)(s:St)(k:G P ρ→St→Prop):Prop:=match g with
 | .tidy l g'=>jS H0 l s fun s'=>k g' s'
 |g=>k g s
def Ft{ρ:Type}(f:G P ρ→St→(G P ρ→bu→St→Prop)→Prop):Nat→G P ρ→St→(G P ρ→bu→St→Prop)→Prop
 | 0,_,_,_=>False
 |n+1,g,s,k=>f g s fun g o s'=>match o with
  | .normal=>Ft f n g s' k
  |o=>k g o s'
def qQ{σ:Type}{sh:Sh}(H0:List aa)(E:σ→St)(X:sh.El→bu×St)(g:G P (σ⊕sh.El))(o:bu)(s:St):Prop:=
 match g with
 | .done ts (.inl a)=>jS H0 ts s fun s'=>(o,s')=(bu.normal,E a)
 | .done ts (.inr t)=>match o with
  | .normal=>False
  |o=>jS H0 ts s fun s'=>(o,s')=X t
 | .fail=>True
 |_=>Ut P H0 o s E X
def Fu{sh:Sh}(H0:List aa)(Y:sh.El→bu×St)(g:G P sh.El)(o:bu)(s:St):Prop:=
 match g with
 | .done ts t=>jS H0 ts s fun s'=>(o,s')=Y t
 | .fail=>True
 |_=>U7 P H0 o s Y
def Fv{ρ:Type}(P:Program)[aD](X:Env P)(H0:List aa)(c:Operand)(a b:Code)(wa wb:G P ρ→St→(G P ρ→bu→St→Prop)→Prop)(g:G P ρ)(s:St)(k:G P ρ→bu→St→Prop):Prop:=
 Gv H0 g s fun g s=>pI g s fun g s=>match g with
  | .skip (n+1) g=>match dm s.A c with
   | .sc (.bool true)=>wa (G.less n g) s k
   | .sc (.bool false)=>wb (G.less n g) s k
   |_=>False
  | .fail=>True
  |_=>U3 P X c a b s k H0
def Cr{ρ:Type}(id:Nat)(k:G P ρ→bu→St→Prop)(g:G P ρ)(o:bu)(s':St):Prop:=match o with
 | .exit id'=>if id'=id then k g .normal s' else k g (.exit id') s'
 |o=>k g o s'
def zu(P:Program)[aD](cfg:dL)(L:Nat)(fn:Func)(m:Option AVal)(s:St):Option (aP×List aa):=
 match leave P cfg wV L s.D m s.H with
 |some (m',H')=>match ending P fn s.A m' H' with
  |some (.ret v,H1)=>some (.ret (jY v),H1)
  |some (.bf v,H1)=>match v.flat with
   |true=>some (.bf v,H1)
   |false=>none
  |none=>none
 |none=>none
def pV(P:Program)[aD](cfg:dL)(L:Nat)(fn:Func)(o:bu)(s:St):Option (aP×List aa):=
 match o with
 | .normal=>zu P cfg L fn none s
 | .ret=>zu P cfg L fn none s
 | .bf v=>zu P cfg L fn (some v) s
 | .exit _=>none
def Ho{σ:Type}{sh:Sh}(N:BR P)(ro:Option Nat)(H0:List aa)(b:Code)(E:σ→St)(s:St)(Y:sh.El→bu×St)(g:G P (σ⊕sh.El))(f:G P (σ⊕sh.El)→Prop):Prop:=
 match g with
 | .xP _ _ g=>N.lp ro H0 b g E s Y
 |g=>f g
def jP(P:Program)[aD](X:Env P)(H0:List aa):Code→{ρ:Type}→G P ρ→St→(G P ρ→bu→St→Prop)→Prop
 | .skip,_,g,s,k=>k g .normal s
 | .region _ ops draw,_,g,s,k=>match X.ro.isSome&&ops.toList.any Co with
  |true=>False
  |false=>Gv H0 g s fun g s=>tn P (X.at draw) H0 ops draw g s fun g r=>match r with
   | .ok s'=>k g .normal s'
   | .bf v s'=>k g (.bf v) s'
 | .seq a b,_,g,s,k=>jP P X H0 a g s fun g o s'=>match o with
  | .normal=>jP P X H0 b g s' k
  |o=>k g o s'
 | .cond c a b,_,g,s,k=>match g with
  | .join sh Y g1 kk=>Fv P X H0 c a b (fun g s k=>jP P X H0 a g s k) (fun g s k=>jP P X H0 b g s k) g1 s (Fu H0 Y)∧sh.all fun t=>k (kk t) (Y t).1 (Y t).2
  |g=>Fv P X H0 c a b (fun g s k=>jP P X H0 a g s k) (fun g s k=>jP P X H0 b g s k) g s k
 | .block id b,_,g,s,k=>match g with
  | .join sh Y g1 kk=>jP P X H0 b g1 s (Cr id (Fu H0 Y))∧sh.all fun t=>k (kk t) (Y t).1 (Y t).2
  |g=>jP P X H0 b g s (Cr id k)
 | .loop b,_,g,s,k=>match g with
  | .fL n g=>Ft (fun g s k=>jP P X H0 b g s k) n g s k
  | .loop sh hd E Y a0 body kk=>(jS H0 hd s fun s'=>s'=E a0)∧(∀a,Ho X.N X.ro H0 b E (E a) Y (body a) fun g=>jP P X H0 b g (E a) (qQ H0 E Y))∧sh.all fun t=>k (kk t) (Y t).1 (Y t).2
  | .fail=>True
  |_=>U4 P X b s k H0
 | .exit id,_,g,s,k=>k g (.exit id) s
 | .ret,_,g,s,k=>k g .ret s
 | .rangeFunc f ps assign body,_,g,s,k=>Gv H0 g s fun g s=>match g with
  | .inl pr g=>(some true=some true)∧match dm s.A f with
   | .fn (.func n) p q=>match Ee X.ro 0 ps assign body s with
    |some (l,H1,D1)=>iH H1 fun H1=>NN pr H1∧match tj (pr.map (·.b)) H1 1000 (AVal.pG (p++[.jd l]++q)) []with
     |some (ids,_)=>vD (mask ids H1) fun Hm=>X.N.fn n (p++[.jd l]++q) Hm g fun g2 a H2=>Eo ids H1 a H2
      (fun e _ _=>ua e H1 fun H3=>match K5 l D1 s H3 with
       |some (out,s')=>k g2 out s'
       |none=>False)
      (fun v=>k g2 (.bf v) {s with H:=ids.foldl (fun H i=>H.set i .dead) H1,D:=D1})
     |none=>False
    |none=>False
   |_=>False
  | .fail=>True
  |_=>Us P X f ps assign body s k H0
 |_,_,_,_,_=>False
def BT(pr:List Nat)(n:Nat):Nat→List aa→Bool
 |_,[]=>true
 |i,x::xs=>(match pr.contains i with
  |true=>true
  |false=>vG n x)&&BT pr n (i+1) xs
def aP.gD(n:Nat):aP→Bool
 | .ret v=>v.gD n
 | .bf _=>true
def T5(pr:List PR)(n:Nat)(a:aP)(H1:List aa)(k:aP→List aa→Prop):Prop:=
 NN pr H1∧match a.gD n&&BT (pr.map (·.b)) n 0 (H1.take n)with
  |true=>iH (H1.take n) fun H=>k a H
  |false=>k a H1
def SQ{ρ:Type}(P:Program)[aD](cfg:dL)(fn:Func)(H0:List aa)(g:G P ρ)(o:bu)(s:St)(k:G P ρ→aP→List aa→Prop):Prop:=
 match g with
 | .tidy ts (.inl pr g)=>jS H0 ts s fun s=>match pV P cfg 10 fn o s with
  |some (a,H1)=>(some true=some true)∧T5 pr H0.length a H1 (k g)
  |none=>False
 | .fail=>True
 |_=>U5 P fn o s H0 fun g pr o s=>match pV P cfg 10 fn o s with
  |some (a,H1)=>T5 pr H0.length a H1 (k g)
  |none=>False
def T6(P:Program)[aD](cfg:dL)(nd:Bool)(N:BR P){ρ:Type}(f:FuncId)(args:List AVal)(H:List aa)(g:G P ρ)(k:G P ρ→aP→List aa→Prop):Prop:=
 match g with
 | .fK c x kk=>O7 P f args H c x kk k
 |g=>match P.funcs[f]? with
  |some fn=>match fn.body with
   |some c=>jP P ⟨cfg,none,N,nd⟩ H c g ⟨lX fn.ntmps args,H,[]⟩ fun g o s=>SQ P cfg fn H g o s k
   |none=>False
  |none=>False
def SR{ρ:Type}(P:Program)[aD](b:Nat)(H0:List aa)(g:G P ρ)(o:bu)(s:St)(k:G P ρ→aP→List aa→Prop):Prop:=
 match rU o with
 |some j=>match g with
  | .tidy ts g=>jS H0 ts s fun s=>match marked b (if j.isNone then .ready else .done) j s.H with
   |some H2=>k g (.ret (.sc (.bool j.isNone))) H2
   |none=>False
  | .fail=>True
  |_=>U6 P b o s H0 fun g s=>match marked b (if j.isNone then .ready else .done) j s.H with
   |some H2=>k g (.ret (.sc (.bool j.isNone))) H2
   |none=>False
 |none=>False
def SS(P:Program)[aD](cfg:dL)(nd:Bool)(N:BR P){ρ:Type}(b:Nat)(args:List AVal)(H:List aa)(g:G P ρ)(k:G P ρ→aP→List aa→Prop):Prop:=
 match H[b]? with
 |some (.loop _ _ _ A ps assign body)=>match Nat.beq ps.length args.length with
  |true=>jP P ⟨cfg,some b,N,nd⟩ H assign g ⟨ud A ps args,H,[]⟩ fun g o s1=>match o with
   | .normal=>match s1.H[b]? with
    |some (.loop .ready pend1 fid1 A1 ps1 as1 bd1)=>iH (s1.H.set b (.loop .busy pend1 fid1 A1 ps1 as1 bd1)) fun H1=>
     jP P ⟨cfg,some b,N,nd⟩ H body g {s1 with H:=H1} fun g o s2=>SR P b H g o s2 k
    |_=>False
   |_=>False
  |false=>False
 |_=>False
inductive QU (P:Program) [aD] (cfg:dL) (nd:Bool) (N:BR P) (ro:Option Nat) (H0:List aa) (b:Code) {σ:Type} {sh:Sh} (g:G P (σ⊕sh.El)) (E:σ→St) (s:St) (Y:sh.El→bu×St):Prop
 |mk (h:jP P ⟨cfg,ro,N,nd⟩ H0 b g s (qQ H0 E Y)):QU P cfg nd N ro H0 b g E s Y
def kU(P:Program)[aD](cfg:dL)(nd:Bool):Nat→BR P
 | 0=>Wg P
 |n+1=>⟨T6 P cfg nd (kU P cfg nd n),SS P cfg nd (kU P cfg nd n),fun ro H0 b g E s Y=>QU P cfg nd (kU P cfg nd n) ro H0 b g E s Y⟩
def IG(P:Program)[aD](cfg:dL):Env P:=⟨cfg,none,kU P cfg false 9,false⟩
def U8(P:Program)[aD](cfg:dL):Env P:=⟨cfg,none,kU P cfg true 9,true⟩
end
end Go.AM
end
section
namespace Go.AM
section
set_option linter.unusedSectionVars false
variable [aD] {P:Program} {g g':Gh} {w:World}
theorem Ep(hst:∀k o,g.st k o→g'.st k o){c:Array Value}:∀(l:List AVal) (o:Nat),AVal.aT l=true→dP g w c l o→dP g' w c l o
 | [],_,_,_=>trivial
 |a::as,o,hp,h=>by
  simp only[AVal.aT,Bool.and_eq_true]at hp;obtain⟨⟨y,h1,h2,h3⟩,h4⟩:=h;exact⟨⟨y,h1,h2,mY hst a y hp.1 h3⟩,Ep hst as (o+1) hp.2 h4⟩
theorem uk(hst:∀k o,g.st k o→g'.st k o){c:Array Value}{sz:Nat}:∀(l:List (List AVal)) (o:Nat),l.all AVal.aT=true→fA g w c sz l o→fA g' w c sz l o
 | [],_,_,_=>trivial
 |r::rs,o,hp,h=>by
  simp only[List.all_cons,Bool.and_eq_true]at hp;exact⟨⟨h.1.1,Ep hst r o hp.1 h.1.2⟩,uk hst rs (o+sz) hp.2 h.2⟩
mutual
theorem T7{b v:Nat}(hst:∀k o,g.st k o→g'.st k o)(hrho:∀x,g.ah b v=some x→g'.ah 0 0=some x):∀(a:AVal) (x:Value),a.uy=true→R g w (a.zb b v) x→R g' w a x
 | .sc _,x,_,hr=>by simpa[R,AVal.zb]using hr
 | .agg cs,x,hp,hr=>by
  simp only[R,AVal.uy,AVal.zb]at hr hp ⊢;obtain⟨vs,e,h1,hl⟩:=hr;exact⟨vs,e,h1,z6 hst hrho cs vs hp hl⟩
 | .cw cs,x,hp,hr=>by
  simp only[R,AVal.uy,AVal.zb]at hr hp ⊢;obtain⟨vs,e,hl⟩:=hr;exact⟨vs,e,z6 hst hrho cs vs hp hl⟩
 | .ptr b' v' i o,x,hp,hr=>by
  simp only[R,AVal.uy,AVal.zb,Bool.and_eq_true,beq_iff_eq]at hr hp ⊢;obtain⟨rfl,rfl⟩:=hp;obtain⟨k,sz,e,hx⟩:=hr;exact⟨k,sz,hrho _ e,hx⟩
 | .bK cs o,x,_,hr=>by
  simp only[R,AVal.zb]at hr ⊢;obtain⟨k,off,e,hp,hc⟩:=hr;exact⟨k,off,e,hp,k8 hst cs k off hp hc⟩
 | .sl b' v' sz o n,x,hp,hr=>by
  simp only[R,AVal.uy,AVal.zb,Bool.and_eq_true,beq_iff_eq]at hr hp ⊢;obtain⟨rfl,rfl⟩:=hp;rcases hr with hr |⟨k,cap,e,s,h1,h2⟩
  ·exact .inl hr
  ·exact .inr ⟨k,cap,e,s,hrho _ h1,h2⟩
 | .aj rows,x,_,hr=>mY hst _ x rfl (by simpa only[AVal.zb]using hr)
 | .fn f c d,x,hp,hr=>by
  simp only[R,AVal.uy,AVal.zb,Bool.and_eq_true]at hr hp ⊢;obtain⟨va,vb,e,h1,h2⟩:=hr;exact⟨va,vb,e,z6 hst hrho c va hp.1 h1,z6 hst hrho d vb hp.2 h2⟩
 | .fF t a,x,hp,hr=>by
  simp only[R,AVal.uy,AVal.zb]at hr hp ⊢;obtain⟨y,e,h1⟩:=hr;exact⟨y,e,T7 hst hrho a y hp h1⟩
 | .mp _,_,hp,_=>by simp[AVal.uy]at hp
 | .jd _,_,hp,_=>by simp[AVal.uy]at hp
 | .sa b' v' i o s n,x,hp,hr=>by
  simp only[R,AVal.uy,AVal.zb,Bool.and_eq_true,beq_iff_eq]at hr hp ⊢;obtain⟨rfl,rfl⟩:=hp;obtain⟨k,sz,cap,e,hx⟩:=hr;exact⟨k,sz,cap,hrho _ e,hx⟩
 | .gN i o,x,_,hr=>by simpa[R,AVal.zb]using hr
 | .emp,x,_,hr=>by simpa[R,AVal.zb]using hr
 | .nz _,x,_,hr=>by simpa[R,AVal.zb]using hr
 | .af,x,_,_=>by simp[R]
theorem z6{b v:Nat}(hst:∀k o,g.st k o→g'.st k o)(hrho:∀x,g.ah b v=some x→g'.ah 0 0=some x):∀(a:List AVal) (x:List Value),AVal.mZ a=true→RL g w (AVal.vM b v a) x→RL g' w a x
 | [],x,_,hr=>by simpa[RL,AVal.vM]using hr
 |a::as,x,hp,hr=>by
  simp only[RL,AVal.mZ,AVal.vM,Bool.and_eq_true]at hr hp ⊢;obtain⟨y,ys,e,h1,h2⟩:=hr;exact⟨y,ys,e,T7 hst hrho a y hp.1 h1,z6 hst hrho as ys hp.2 h2⟩
end
theorem z7{x:aa}(h:x.jt=true):∃sz rows,x=.row 0 sz rows∧rows.all AVal.aT=true:=by
 unfold aa.jt at h;split at h
 ·rename_i ai sz rows;simp only[Bool.and_eq_true,beq_iff_eq]at h;obtain⟨rfl,h⟩:=h;exact⟨sz,rows,rfl,h⟩
 ·cases h
open Classical in
theorem bz.move{f:FuncId}{args:List AVal}{x x':aa}{r:aP}(h:bz P f args [x] r [x'])(ha:AVal.mZ args=true)(hx:x.jt=true)(hx':x'.jt=true)(hr:r.wL=true)
 (b v:Nat) (H:List aa) (hb:H[b]? =some (x.ng v)) (hd:∀b',b'≠b→∀y,H[b']? =some y→y=.dead):bz P f (AVal.vM b v args) H (r.Bd b v) (H.set b (x'.ng v)):=by
 obtain⟨sz,rows,rfl,hp⟩:=z7 hx;obtain⟨sz',rows',rfl,hp'⟩:=z7 hx';simp only[aa.ng]at hb ⊢;have hblt:b<H.length:=(List.getElem?_eq_some_iff.1 hb).1;refine⟨h.1,fun g w vs hi hl=>?_⟩
 let g':Gh:=⟨fun b' v'=>if b'=0∧v'=0 then g.ah b v else none,g.st⟩
 have h00:g'.ah 0 0=g.ah b v:=by simp[g']
 have hno:∀b' v',¬(b'=0∧v'=0)→g'.ah b' v'=none:=fun b' v' hc=>by simp[g',hc]
 have hst:∀k o,g.st k o→g'.st k o:=fun _ _ h=>h
 have hi':Inv g' [.row 0 sz rows] w:=by
  refine⟨fun b' y hy=>?_,fun b1 b2 y1 y2 v1 v2 k z z' e1 e2 _ _ _ _=>?_,fun b' v' hc=>?_,fun b' y v1 v2 hy hv hlt=>?_,fun b' y v1 k z o hy hv hk=>?_,hi.er,fun i cs hc=>⟨(hi.di i cs hc).1,k8 hst _ _ _ (hi.di i cs hc).1 (hi.di i cs hc).2⟩⟩
  ·cases b' with
   |zero=>
    simp only[List.getElem?_cons_zero,Option.some.injEq]at hy;subst hy;rcases hi.good b _ hb with⟨k,c,e,h1,h2,h3,h4,h5⟩ |⟨h1,h2,h3⟩
    ·exact .inl ⟨k,c,e,by rw[h00];exact h1,h2,uk hst rows 0 hp h3,h4,h5⟩
    ·exact .inr ⟨h1,by rw[h00];exact h2,h3⟩
   |succ n=>simp at hy
  ·cases b1 with
   |zero=>cases b2 with
    |zero=>rfl
    |succ n=>simp at e2
   |succ n=>simp at e1
  ·refine hno _ _ fun hc'=>?_
   obtain⟨rfl,rfl⟩:=hc';simp at hc
  ·cases b' with
   |zero=>
    simp only[List.getElem?_cons_zero,Option.some.injEq]at hy;subst hy;simp only[aa.live,Option.some.injEq]at hv;exact hno _ _ (by omega)
   |succ n=>simp at hy
  ·by_cases hc:b'=0∧v1=0
   ·obtain⟨rfl,rfl⟩:=hc;rw[h00]at hk;exact hi.free b _ v k z o hb rfl hk
   ·rw[hno _ _ hc]at hk;cases hk
 have hl':RL g' w args vs.toList:=z6 hst (fun x hx=>by rw[h00];exact hx) _ _ ha hl
 refine(h.2 g' w vs hi' hl').mono fun e w' ⟨g1',hi1,hla,he⟩=>?_
 have hown:∀k,gG g' [.row 0 sz rows] k→gG g H k:=by
  rintro k ⟨b',y,v',z,hy,hv,hk⟩;by_cases hc:b'=0∧v'=0
  ·obtain⟨rfl,rfl⟩:=hc;rw[h00]at hk;exact⟨b,_,v,z,hb,rfl,hk⟩
  ·rw[hno _ _ hc]at hk;cases hk
 have hown':∀k,gG g H k→gG g' [.row 0 sz rows] k:=by
  rintro k ⟨b',y,v',z,hy,hv,hk⟩;by_cases hc:b'=b
  ·subst hc;rw[hb]at hy;cases hy;simp only[aa.live,Option.some.injEq]at hv;subst hv;exact⟨0,_,0,z,rfl,rfl,by rw[h00];exact hk⟩
  ·rw[hd b' hc y hy]at hv;cases hv
 let g1:Gh:=⟨fun b' v'=>if b'=b∧v'=v then g1'.ah 0 0 else g.ah b' v',g1'.st⟩
 have e00:g1.ah b v=g1'.ah 0 0:=by simp[g1]
 have eno:∀b' v',¬(b'=b∧v'=v)→g1.ah b' v'=g.ah b' v':=fun b' v' hc=>by simp[g1,hc]
 have hst1:∀k o,g1'.st k o→g1.st k o:=fun _ _ h=>h
 have hget:∀b',b'≠b→(H.set b (.row v sz' rows'))[b']? =H[b']? :=fun b' hc=>List.getElem?_set_ne (Ne.symm hc)
 have hself:(H.set b (.row v sz' rows'))[b]? =some (.row v sz' rows'):=List.getElem?_set_self hblt;have hinv1:Inv g1 (H.set b (.row v sz' rows')) w':=by
  refine⟨fun b' y hy=>?_,fun b1 b2 y1 y2 v1 v2 k z z' e1 e2 l1 l2 _ _=>?_,fun b' v' hc=>?_,fun b' y v1 v2 hy hv hlt=>?_,fun b' y v1 k z o hy hv hk=>?_,hi1.er,fun i cs hc=>⟨(hi1.di i cs hc).1,k8 hst1 _ _ _ (hi1.di i cs hc).1 (hi1.di i cs hc).2⟩⟩
  ·by_cases hc:b'=b
   ·subst hc;rw[hself]at hy;cases hy;rcases hi1.good 0 _ rfl with⟨k,c,e,h1,h2,h3,h4,h5⟩ |⟨h1,h2,h3⟩
    ·exact .inl ⟨k,c,e,by rw[e00];exact h1,h2,uk hst1 rows' 0 hp' h3,h4,h5⟩
    ·exact .inr ⟨h1,by rw[e00];exact h2,h3⟩
   ·rw[hget b' hc]at hy;rw[hd b' hc y hy];trivial
  ·have key:∀(b':Nat) (y:aa) (v':Nat),(H.set b (.row v sz' rows'))[b']? =some y→y.live=some v'→b'=b:=by
    intro b' y v' hy hv;by_cases hc:b'=b
    ·exact hc
    ·rw[hget b' hc]at hy;rw[hd b' hc y hy]at hv;cases hv
   rw[key b1 y1 v1 e1 l1,key b2 y2 v2 e2 l2]
  ·have hne:b'≠b:=by
    rintro rfl;rcases hc with hc |hc
    ·rw[hself]at hc;cases hc
    ·rw[List.length_set]at hc;omega
   rw[eno _ _ (fun hh=>hne hh.1)]
   refine hi.fresh b' v' ?_;rcases hc with hc |hc
   ·rw[hget b' hne]at hc;exact .inl hc
   ·rw[List.length_set]at hc;exact .inr hc
  ·by_cases hc:b'=b
   ·subst hc;rw[hself]at hy;cases hy;simp only[aa.live,Option.some.injEq]at hv;subst hv;rw[eno _ _ (by omega)]
    exact hi.next b' _ v v2 hb rfl hlt
   ·rw[hget b' hc]at hy;rw[hd b' hc y hy]at hv;cases hv
  ·by_cases hc:b'=b
   ·subst hc;rw[hself]at hy;cases hy;simp only[aa.live,Option.some.injEq]at hv;subst hv;rw[e00]at hk;exact hi1.free 0 _ 0 k z o rfl rfl hk
   ·rw[hget b' hc]at hy;rw[hd b' hc y hy]at hv;cases hv
 have hback:∀k,gG g1 (H.set b (.row v sz' rows')) k→gG g1' [.row 0 sz' rows'] k:=by
  rintro k ⟨b',y,v',z,hy,hv,hkz⟩;by_cases hc:b'=b
  ·subst hc;rw[hself]at hy;cases hy;simp only[aa.live,Option.some.injEq]at hv;subst hv;rw[e00]at hkz;exact⟨0,_,0,z,rfl,rfl,hkz⟩
  ·rw[hget b' hc]at hy;rw[hd b' hc y hy]at hv;cases hv
 refine⟨g1,hinv1,⟨⟨fun b' v' y hy=>?_,fun k o hk=>hla.ext.st k o hk,hla.ext.cell,hla.ext.shape⟩,hla.size,fun k hk ho=>hla.keep k hk fun hc=>ho (hown k hc),fun k hk ho=>?_,by rw[List.length_set];exact Nat.le_refl _,hla.os,hla.tape,hla.output,fun k o hk hs=>(hla.stk k o hk hs).imp_right fun h=>⟨hown k h.1,fun ho=>h.2 (hback k ho)⟩,fun b' hb'=>?_,fun b' v' k z hk=>?_⟩,?_⟩
 ·by_cases hc:b'=b∧v'=v
  ·obtain⟨rfl,rfl⟩:=hc;rw[e00];exact hla.ext.ah 0 0 y (by rw[h00];exact hy)
  ·rw[eno _ _ hc];exact hy
 ·refine hown k (hla.own k hk ?_);obtain⟨b',y,v',z,hy,hv,hkz⟩:=ho;by_cases hc:b'=b
  ·subst hc;rw[hself]at hy;cases hy;simp only[aa.live,Option.some.injEq]at hv;subst hv;rw[e00]at hkz;exact⟨0,_,0,z,rfl,rfl,hkz⟩
  ·rw[hget b' hc]at hy;rw[hd b' hc y hy]at hv;cases hv
 ·have hne:b'≠b:=by rintro rfl;rw[hb]at hb';cases hb'
  exact⟨by rw[hget b' hne];exact hb',fun v'=>eno _ _ (fun hh=>hne hh.1)⟩
 ·by_cases hc:b'=b∧v'=v
  ·obtain⟨rfl,rfl⟩:=hc;rw[e00]at hk;rcases hla.rQ 0 0 k z hk with⟨v1,z1,h1⟩ |h1
   ·by_cases hv1:v1=0
    ·subst hv1;rw[h00]at h1;exact .inl ⟨v',z1,h1⟩
    ·rw[hno 0 v1 (by simp[hv1])]at h1;cases h1
   ·exact .inr h1
  ·rw[eno _ _ hc]at hk;exact .inl ⟨v',z,hk⟩
 ·cases r with
  |ret u=>
   obtain⟨y,rfl,hy⟩:=he;have hq:(∃sz o n,u=.sl 0 0 sz o n)∨(u.pure=true∧u.Bd b v=u):=by
    cases u with
    |sl b1 v1 sz o n=>
     simp only[aP.wL,Bool.and_eq_true,beq_iff_eq]at hr;obtain⟨rfl,rfl⟩:=hr;exact .inl ⟨sz,o,n,rfl⟩
    |_=>exact .inr ⟨hr,rfl⟩
   rcases hq with⟨sz,o,n,rfl⟩ |⟨hp2,he2⟩
   ·refine⟨y,rfl,?_⟩;simp only[AVal.Bd,R]at hy ⊢;rw[e00];exact hy
   ·refine⟨y,rfl,?_⟩;rw[he2];exact mY hst1 _ _ hp2 hy
  |bf u=>
   obtain⟨y,rfl,hy⟩:=he;exact⟨y,rfl,lY _ _ hr hy⟩
open Classical in
theorem bz.Wi{f:FuncId}{args:List AVal}{x:aa}{r:aP}(h:bz P f args [x] r [.dead])(ha:AVal.mZ args=true)(hx:x.jt=true)(hr:r.wL=true)
 (b v:Nat) (H:List aa) (hb:H[b]? =some (x.ng v)) (hd:∀b',b'≠b→∀y,H[b']? =some y→y=.dead):bz P f (AVal.vM b v args) H (r.Bd b v) (H.set b .dead):=by
 obtain⟨sz,rows,rfl,hp⟩:=z7 hx;simp only[aa.ng]at hb ⊢;have hblt:b<H.length:=(List.getElem?_eq_some_iff.1 hb).1;refine⟨h.1,fun g w vs hi hl=>?_⟩
 let g':Gh:=⟨fun b' v'=>if b'=0∧v'=0 then g.ah b v else none,g.st⟩
 have h00:g'.ah 0 0=g.ah b v:=by simp[g']
 have hno:∀b' v',¬(b'=0∧v'=0)→g'.ah b' v'=none:=fun b' v' hc=>by simp[g',hc]
 have hst:∀k o,g.st k o→g'.st k o:=fun _ _ h=>h
 have hi':Inv g' [.row 0 sz rows] w:=by
  refine⟨fun b' y hy=>?_,fun b1 b2 y1 y2 v1 v2 k z z' e1 e2 _ _ _ _=>?_,fun b' v' hc=>?_,fun b' y v1 v2 hy hv hlt=>?_,fun b' y v1 k z o hy hv hk=>?_,hi.er,fun i cs hc=>⟨(hi.di i cs hc).1,k8 hst _ _ _ (hi.di i cs hc).1 (hi.di i cs hc).2⟩⟩
  ·cases b' with
   |zero=>
    simp only[List.getElem?_cons_zero,Option.some.injEq]at hy;subst hy;rcases hi.good b _ hb with⟨k,c,e,h1,h2,h3,h4,h5⟩ |⟨h1,h2,h3⟩
    ·exact .inl ⟨k,c,e,by rw[h00];exact h1,h2,uk hst rows 0 hp h3,h4,h5⟩
    ·exact .inr ⟨h1,by rw[h00];exact h2,h3⟩
   |succ n=>simp at hy
  ·cases b1 with
   |zero=>cases b2 with
    |zero=>rfl
    |succ n=>simp at e2
   |succ n=>simp at e1
  ·refine hno _ _ fun hc'=>?_
   obtain⟨rfl,rfl⟩:=hc';simp at hc
  ·cases b' with
   |zero=>
    simp only[List.getElem?_cons_zero,Option.some.injEq]at hy;subst hy;simp only[aa.live,Option.some.injEq]at hv;exact hno _ _ (by omega)
   |succ n=>simp at hy
  ·by_cases hc:b'=0∧v1=0
   ·obtain⟨rfl,rfl⟩:=hc;rw[h00]at hk;exact hi.free b _ v k z o hb rfl hk
   ·rw[hno _ _ hc]at hk;cases hk
 have hl':RL g' w args vs.toList:=z6 hst (fun x hx=>by rw[h00];exact hx) _ _ ha hl
 refine(h.2 g' w vs hi' hl').mono fun e w' ⟨g1',hi1,hla,he⟩=>?_
 have hown:∀k,gG g' [.row 0 sz rows] k→gG g H k:=by
  rintro k ⟨b',y,v',z,hy,hv,hk⟩;by_cases hc:b'=0∧v'=0
  ·obtain⟨rfl,rfl⟩:=hc;rw[h00]at hk;exact⟨b,_,v,z,hb,rfl,hk⟩
  ·rw[hno _ _ hc]at hk;cases hk
 have hown':∀k,gG g H k→gG g' [.row 0 sz rows] k:=by
  rintro k ⟨b',y,v',z,hy,hv,hk⟩;by_cases hc:b'=b
  ·subst hc;rw[hb]at hy;cases hy;simp only[aa.live,Option.some.injEq]at hv;subst hv;exact⟨0,_,0,z,rfl,rfl,by rw[h00];exact hk⟩
  ·rw[hd b' hc y hy]at hv;cases hv
 let g1:Gh:=⟨fun b' v'=>if b'=b∧v'=v then g1'.ah 0 0 else g.ah b' v',g1'.st⟩
 have e00:g1.ah b v=g1'.ah 0 0:=by simp[g1]
 have eno:∀b' v',¬(b'=b∧v'=v)→g1.ah b' v'=g.ah b' v':=fun b' v' hc=>by simp[g1,hc]
 have hst1:∀k o,g1'.st k o→g1.st k o:=fun _ _ h=>h
 have hget:∀b',b'≠b→(H.set b .dead)[b']? =H[b']? :=fun b' hc=>List.getElem?_set_ne (Ne.symm hc)
 have hself:(H.set b .dead)[b]? =some .dead:=List.getElem?_set_self hblt;have hinv1:Inv g1 (H.set b .dead) w':=by
  refine⟨fun b' y hy=>?_,fun b1 b2 y1 y2 v1 v2 k z z' e1 e2 l1 l2 _ _=>?_,fun b' v' hc=>?_,fun b' y v1 v2 hy hv hlt=>?_,fun b' y v1 k z o hy hv hk=>?_,hi1.er,fun i cs hc=>⟨(hi1.di i cs hc).1,k8 hst1 _ _ _ (hi1.di i cs hc).1 (hi1.di i cs hc).2⟩⟩
  ·by_cases hc:b'=b
   ·subst hc;rw[hself]at hy;cases hy
    trivial
   ·rw[hget b' hc]at hy;rw[hd b' hc y hy];trivial
  ·have key:∀(b':Nat) (y:aa) (v':Nat),(H.set b .dead)[b']? =some y→y.live=some v'→b'=b:=by
    intro b' y v' hy hv;by_cases hc:b'=b
    ·exact hc
    ·rw[hget b' hc]at hy;rw[hd b' hc y hy]at hv;cases hv
   rw[key b1 y1 v1 e1 l1,key b2 y2 v2 e2 l2]
  ·have hne:b'≠b:=by
    rintro rfl;rcases hc with hc |hc
    ·rw[hself]at hc;cases hc
    ·rw[List.length_set]at hc;omega
   rw[eno _ _ (fun hh=>hne hh.1)]
   refine hi.fresh b' v' ?_;rcases hc with hc |hc
   ·rw[hget b' hne]at hc;exact .inl hc
   ·rw[List.length_set]at hc;exact .inr hc
  ·by_cases hc:b'=b
   ·subst hc;rw[hself]at hy;cases hy;cases hv
   ·rw[hget b' hc]at hy;rw[hd b' hc y hy]at hv;cases hv
  ·by_cases hc:b'=b
   ·subst hc;rw[hself]at hy;cases hy;cases hv
   ·rw[hget b' hc]at hy;rw[hd b' hc y hy]at hv;cases hv
 have hback:∀k,gG g1 (H.set b .dead) k→gG g1' [.dead] k:=by
  rintro k ⟨b',y,v',z,hy,hv,hkz⟩;by_cases hc:b'=b
  ·subst hc;rw[hself]at hy;cases hy;cases hv
  ·rw[hget b' hc]at hy;rw[hd b' hc y hy]at hv;cases hv
 refine⟨g1,hinv1,⟨⟨fun b' v' y hy=>?_,fun k o hk=>hla.ext.st k o hk,hla.ext.cell,hla.ext.shape⟩,hla.size,fun k hk ho=>hla.keep k hk fun hc=>ho (hown k hc),fun k hk ho=>?_,by rw[List.length_set];exact Nat.le_refl _,hla.os,hla.tape,hla.output,fun k o hk hs=>(hla.stk k o hk hs).imp_right fun h=>⟨hown k h.1,fun ho=>h.2 (hback k ho)⟩,fun b' hb'=>?_,fun b' v' k z hk=>?_⟩,?_⟩
 ·by_cases hc:b'=b∧v'=v
  ·obtain⟨rfl,rfl⟩:=hc;rw[e00];exact hla.ext.ah 0 0 y (by rw[h00];exact hy)
  ·rw[eno _ _ hc];exact hy
 ·refine hown k (hla.own k hk ?_);obtain⟨b',y,v',z,hy,hv,hkz⟩:=ho;by_cases hc:b'=b
  ·subst hc;rw[hself]at hy;cases hy;cases hv
  ·rw[hget b' hc]at hy;rw[hd b' hc y hy]at hv;cases hv
 ·have hne:b'≠b:=by rintro rfl;rw[hb]at hb';cases hb'
  exact⟨by rw[hget b' hne];exact hb',fun v'=>eno _ _ (fun hh=>hne hh.1)⟩
 ·by_cases hc:b'=b∧v'=v
  ·obtain⟨rfl,rfl⟩:=hc;rw[e00]at hk;rcases hla.rQ 0 0 k z hk with⟨v1,z1,h1⟩ |h1
   ·by_cases hv1:v1=0
    ·subst hv1;rw[h00]at h1;exact .inl ⟨v',z1,h1⟩
    ·rw[hno 0 v1 (by simp[hv1])]at h1;cases h1
   ·exact .inr h1
  ·rw[eno _ _ hc]at hk;exact .inl ⟨v',z,hk⟩
 ·cases r with
  |ret u=>
   obtain⟨y,rfl,hy⟩:=he;have hq:(∃sz o n,u=.sl 0 0 sz o n)∨(u.pure=true∧u.Bd b v=u):=by
    cases u with
    |sl b1 v1 sz o n=>
     simp only[aP.wL,Bool.and_eq_true,beq_iff_eq]at hr;obtain⟨rfl,rfl⟩:=hr;exact .inl ⟨sz,o,n,rfl⟩
    |_=>exact .inr ⟨hr,rfl⟩
   rcases hq with⟨sz,o,n,rfl⟩ |⟨hp2,he2⟩
   ·refine⟨y,rfl,?_⟩;simp only[AVal.Bd,R]at hy ⊢;rw[e00];exact hy
   ·refine⟨y,rfl,?_⟩;rw[he2];exact mY hst1 _ _ hp2 hy
  |bf u=>
   obtain⟨y,rfl,hy⟩:=he;exact⟨y,rfl,lY _ _ hr hy⟩
theorem bz.Wj{f:FuncId}{args:List AVal}{x x':aa}{r:aP}(h:bz P f args [x] r [x'])(ha:AVal.mZ args=true)(hx:x.jt=true)(hx':x'.jt=true∨x'=.dead)(hr:r.wL=true)
 (b v:Nat) (H:List aa) (hb:H[b]? =some (x.ng v)) (hd:∀b',b'≠b→∀y,H[b']? =some y→y=.dead):bz P f (AVal.vM b v args) H (r.Bd b v) (H.set b (x'.ng v)):=by
 rcases hx' with hx' |rfl
 ·exact h.move ha hx hx' hr b v H hb hd
 ·exact h.Wi ha hx hr b v H hb hd
theorem bz.frame{f:FuncId}{args:List AVal}{H:List aa}{r:aP}{b:Nat}{y:aa}(h:bz P f args (mask [b] H) r ((mask [b] H).set b y))(hb:b<H.length):bz P f args H r (H.set b y):=by
 refine⟨h.1,fun g w vs hi hl=>(h.2 g w vs (qu hi [b]) hl).mono fun e w' ⟨g1,hi1,hla,he⟩=>?_⟩
 have hlen:((mask [b] H).set b y).length=H.length:=by rw[List.length_set,oR]
 have:=Inv.merge hi hi1 hla (by omega)
 have e1:merged [b] H ((mask [b] H).set b y)=H.set b y:=by
  simp only[merged,List.foldl_cons,List.foldl_nil];rw[List.getD_eq_getElem?_getD,List.getElem?_set_self (by rw[oR];exact hb)];rfl
 have e2:((mask [b] H).set b y).drop H.length=[]:=List.drop_of_length_le (by omega)
 rw[e1,e2,List.append_nil]at this;exact⟨g1,this.1,this.2,he⟩
mutual
theorem um(n:Nat):∀(v:AVal),v.pure=true→v.gD n=true
 | .sc _,_=>rfl
 | .agg cs,h=>by simp only[AVal.pure,AVal.gD]at h ⊢;exact lZ n cs h
 | .cw cs,h=>by simp only[AVal.pure,AVal.gD]at h ⊢;exact lZ n cs h
 | .ptr ..,h=>by simp[AVal.pure]at h
 | .bK ..,_=>rfl
 | .sl ..,h=>by simp[AVal.pure]at h
 | .aj _,_=>rfl
 | .fn f a b,h=>by
  simp only[AVal.pure,AVal.gD,Bool.and_eq_true]at h ⊢;exact⟨lZ n a h.1,lZ n b h.2⟩
 | .fF t v,h=>by simp only[AVal.pure,AVal.gD]at h ⊢;exact um n v h
 | .mp _,h=>by simp[AVal.pure]at h
 | .jd _,h=>by simp[AVal.pure]at h
 | .sa ..,h=>by simp[AVal.pure]at h
 | .gN ..,_=>rfl
 | .emp,_=>rfl
 | .nz _,_=>rfl
 | .af,_=>rfl
theorem lZ(n:Nat):∀(l:List AVal),AVal.aT l=true→AVal.pN n l=true
 | [],_=>rfl
 |a::as,h=>by
  simp only[AVal.aT,AVal.pN,Bool.and_eq_true]at h ⊢;exact⟨um n a h.1,lZ n as h.2⟩
end
theorem bz.take{f:FuncId}{args:List AVal}{H H1:List aa}{a:aP}(h:bz P f args H a H1)(h0:0<H.length)(ha:a.wL=true)(hb:∀x∈H1.take H.length,x.jt=true∨x=.dead):bz P f args H a (H1.take H.length):=by
 refine⟨h.1,fun g w vs hi hl=>(h.2 g w vs hi hl).mono fun e w' ⟨g1,hi1,hla,he⟩=>?_⟩
 have hlen:(H1.take H.length).length=H.length:=by rw[List.length_take];have:=hla.len;omega
 have hK:H1.take H.length++H1.drop H.length=H1:=List.take_append_drop _ _;obtain⟨i1,i2⟩:=Inv.drop (n:=H.length) (K:=H1.take H.length) (L:=H1.drop H.length) hi (by rw[hK];exact hi1) (by rw[hK];exact hla) hlen rfl fun b x hx=>.inl (by
  rcases hb x (List.mem_of_getElem? hx)with hb |rfl
  ·obtain⟨sz,rows,rfl,hp⟩:=z7 hb;simp only[vG,List.all_eq_true]at hp ⊢;exact fun r hr=>lZ _ _ (hp r hr)
  ·rfl)
 refine⟨g1.upto H.length,i1,i2,?_⟩;cases a with
 |ret v=>
  obtain⟨x,rfl,hx⟩:=he;refine⟨x,rfl,?_⟩;by_cases hp:v.pure=true
  ·exact mY (g:=g1) (g2:=g1.upto H.length) (fun _ _ h=>h) v x hp hx
  ·cases v<;>try exact absurd ha hp
   rename_i b ai sz o n;simp only[aP.wL,Bool.and_eq_true,beq_iff_eq]at ha;obtain⟨rfl,rfl⟩:=ha;simp only[R]at hx ⊢;rcases hx with hx |⟨k,cap,e,s,h1,h2⟩
   ·exact .inl hx
   ·exact .inr ⟨k,cap,e,s,by simpa[Gh.upto,h0]using h1,h2⟩
 |bf v=>
  obtain⟨x,rfl,hx⟩:=he;exact⟨x,rfl,lY v x ha hx⟩
theorem Gw{pr:List Nat}{n:Nat}:∀{L:List aa} {i:Nat},BT pr n i L=true→∀(b:Nat) (x:aa),L[b]? =some x→pr.contains (i+b)=true∨vG n x=true
 | [],_,_,b,x,h=>by simp at h
 |y::ys,i,hl,0,x,h=>by
  simp only[BT,Bool.and_eq_true]at hl;simp only[List.getElem?_cons_zero,Option.some.injEq]at h;subst h;have:=hl.1;split at this
  ·rename_i hc;exact .inl (by simpa using hc)
  ·exact .inr this
 |y::ys,i,hl,b+1,x,h=>by
  simp only[BT,Bool.and_eq_true]at hl;have:=Gw hl.2 b x (by simpa using h)
  rwa[show i+1+b=i+(b+1)by omega]at this
theorem bz.trim{f:FuncId}{args:List AVal}{H H1:List aa}{a:aP}{pr:List Nat}(h:bz P f args H a H1)(hpan:∀v,a=.bf v→v.flat=true)(ha:a.gD H.length=true)(hl:BT pr H.length 0 (H1.take H.length)=true)
 (hp:∀i,pr.contains i=true→∃x,H1[i]? =some x∧vN x=true):bz P f args H a (H1.take H.length):=by
 refine⟨h.1,fun g w vs hi hl'=>(h.2 g w vs hi hl').mono fun e w' ⟨g1,hi1,hla,he⟩=>?_⟩
 have hlen:(H1.take H.length).length=H.length:=by rw[List.length_take];have:=hla.len;omega
 have hK:H1.take H.length++H1.drop H.length=H1:=List.take_append_drop _ _;obtain⟨i1,i2⟩:=Inv.drop (n:=H.length) (K:=H1.take H.length) (L:=H1.drop H.length) hi (by rw[hK];exact hi1) (by rw[hK];exact hla) hlen rfl fun b x hx=>.inl (by
  rcases Gw hl b x hx with hc |hc
  ·rw[Nat.zero_add]at hc;obtain⟨y,h1,hpb⟩:=hp b hc;have hb:b<H.length:=by have:=(List.getElem?_eq_some_iff.1 hx).1;omega
   rw[List.getElem?_take_of_lt hb,h1]at hx;cases hx;rcases Be hpb with⟨v,sz,rows,rfl,h2⟩ |⟨ck,es,rfl,h2⟩
   ·simp only[vG,List.all_eq_true]at h2 ⊢;exact fun r hr=>lZ _ _ (h2 r hr)
   ·simp only[vG,List.all_eq_true,Bool.and_eq_true]at h2 ⊢;exact fun r hr=>⟨um _ _ (h2 r hr).1,um _ _ (h2 r hr).2⟩
  ·exact hc)
 refine⟨g1.upto H.length,i1,i2,?_⟩;cases a with
 |ret v=>
  obtain⟨x,rfl,hx⟩:=he;exact⟨x,rfl,ox (n:=H.length) (g:=g1) (g2:=g1.upto H.length) (fun _ _ h=>h) (fun b ai x hb he=>by simp only[Gh.upto];rw[if_pos hb];exact he) v x ha hx⟩
 |bf v=>
  obtain⟨x,rfl,hx⟩:=he;exact⟨x,rfl,lY v x (hpan v rfl) hx⟩
mutual
theorem T8{b:Nat}:∀(a:AVal) (x:Value),R g w a x→R g w (a.but b) x
 | .sc _,x,hr=>by simpa only[AVal.but]using hr
 | .agg cs,x,hr=>by
  simp only[R,AVal.but]at hr ⊢;obtain⟨vs,e,h1,hl⟩:=hr;exact⟨vs,e,h1,Cs cs vs hl⟩
 | .cw cs,x,hr=>by
  simp only[R,AVal.but]at hr ⊢;obtain⟨vs,e,hl⟩:=hr;exact⟨vs,e,Cs cs vs hl⟩
 | .ptr ..,x,hr=>by
  simp only[AVal.but];split
  ·exact hr
  ·simp[R]
 | .bK ..,x,hr=>by simpa only[AVal.but]using hr
 | .sl ..,x,hr=>by
  simp only[AVal.but];split
  ·exact hr
  ·simp[R]
 | .aj _,x,hr=>by simpa only[AVal.but]using hr
 | .fn f c d,x,hr=>by
  simp only[R,AVal.but]at hr ⊢;obtain⟨va,vb,e,h1,h2⟩:=hr;exact⟨va,vb,e,Cs c va h1,Cs d vb h2⟩
 | .fF t a,x,hr=>by
  simp only[R,AVal.but]at hr ⊢;obtain⟨y,e,h1⟩:=hr;exact⟨y,e,T8 a y h1⟩
 | .mp _,_,_=>by simp[AVal.but,R]
 | .jd _,_,_=>by simp[AVal.but,R]
 | .sa ..,x,hr=>by
  simp only[AVal.but];split
  ·exact hr
  ·simp[R]
 | .gN ..,x,hr=>by simpa only[AVal.but]using hr
 | .emp,x,hr=>by simpa only[AVal.but]using hr
 | .nz _,x,hr=>by simpa only[AVal.but]using hr
 | .af,x,_=>by simp[AVal.but,R]
theorem Cs{b:Nat}:∀(a:List AVal) (x:List Value),RL g w a x→RL g w (AVal.zZ b a) x
 | [],x,hr=>by simpa[RL,AVal.zZ]using hr
 |a::as,x,hr=>by
  simp only[RL,AVal.zZ]at hr ⊢;obtain⟨y,ys,e,h1,h2⟩:=hr;exact⟨y,ys,e,T8 a y h1,Cs as ys h2⟩
end
theorem bz.but{b:Nat}{f:FuncId}{args:List AVal}{H H1:List aa}{r:aP}(h:bz P f (AVal.zZ b args) H r H1):bz P f args H r H1:=
 ⟨h.1,fun g w vs hi hl=>h.2 g w vs hi (Cs _ _ hl)⟩
theorem bz.shrink{f:FuncId}{args:List AVal}{x:aa}{sz:Nat}{rows:List (List AVal)}{r:aP}(n:Nat)(h:bz P f args [x] r [.row 0 sz rows]):bz P f args [x] r [.row 0 sz (rows.take n)]:=by
 refine⟨h.1,fun g w vs hi hl=>(h.2 g w vs hi hl).mono fun e w' ⟨g',hi',hla,he⟩=>⟨g',?_,?_,he⟩⟩
 ·have one:∀{b:Nat} {y y':aa},[y][b]? =some y'→b=0∧y'=y:=by
   intro b y y' hy;cases b with
   |zero=>simp at hy;exact⟨rfl,hy.symm⟩
   |succ b=>simp at hy
  refine⟨fun b y hy=>?_,fun b b' y y' v v' k z z' h1 h2 _ _ _ _=>(one h1).1.trans (one h2).1.symm,fun b ai hc=>hi'.fresh b ai ?_,fun b y v ver' hy hv hlt=>?_,fun b y v k z o hy hv hk=>?_,hi'.er,hi'.di⟩
  ·obtain⟨rfl,rfl⟩:=one hy;rcases hi'.good 0 _ rfl with⟨k,c,e,h1,h2,h3,h4,h5⟩ |⟨h1,h2⟩
   ·refine .inl ⟨k,c,e,h1,h2,ic _ _ fun j r hr=>?_,Nat.le_trans (Nat.mul_le_mul_right _ (by rw[List.length_take];omega)) h4,h5⟩
    rw[List.getElem?_take]at hr;split at hr
    ·exact cC _ _ _ _ h3 hr
    ·cases hr
   ·exact .inr ⟨by rw[h1];simp,h2⟩
  ·rcases hc with hc |hc
   ·have:=(one hc).2;cases this
   ·exact .inr hc
  ·obtain⟨rfl,rfl⟩:=one hy;exact hi'.next 0 (.row 0 sz rows) v ver' rfl hv hlt
  ·obtain⟨rfl,rfl⟩:=one hy;exact hi'.free 0 (.row 0 sz rows) v k z o rfl hv hk
 ·refine⟨hla.ext,hla.size,hla.keep,fun k hk ho=>hla.own k hk ?_,hla.len,hla.os,hla.tape,hla.output,fun k o hk hs=>?_,fun b hb=>?_,hla.rQ⟩
  ·obtain⟨b,y,v,z,hy,hv,hz⟩:=ho;cases b with
   |zero=>
    simp only[List.getElem?_cons_zero,Option.some.injEq]at hy;subst hy;exact⟨0,.row 0 sz rows,v,z,rfl,hv,hz⟩
   |succ b=>simp at hy
  ·refine(hla.stk k o hk hs).imp_right fun h=>⟨h.1,?_⟩
   rintro⟨b,y,v,z,hy,hv,hz⟩;cases b with
   |zero=>
    simp only[List.getElem?_cons_zero,Option.some.injEq]at hy;subst hy;exact h.2 ⟨0,.row 0 sz rows,v,z,rfl,hv,hz⟩
   |succ b=>simp at hy
  ·have:=(hla.sZ b hb).1;cases b with
   |zero=>simp at this
   |succ b=>simp at this
end
end Go.AM
end
section
namespace Go.AM
section
set_option linter.unusedSectionVars false
variable [aD] {P:Program} {cfg:dL} {X:Env P}
theorem tq:gI P wV:=⟨fun _ _ _ _ _ h=>by simp[wV]at h,fun _ _ _ _ _ h=>by simp[wV]at h⟩
open Classical in
noncomputable def qR(f:FuncId)(args:List AVal)(H:List aa)(r:aP)(H1:List aa):kr:=
 ⟨fun f' args' H'=>if f'=f∧args'=args∧H'=H then some (r,H1)else none,fun _ _ _=>none⟩
theorem Bg{f:FuncId}{args:List AVal}{H H1:List aa}{r:aP}(h:bz P f args H r H1):gI P (qR f args H r H1):=by
 refine⟨fun f' args' H' r' H1' hr=>?_,fun _ _ _ _ _ h=>by simp[qR]at h⟩
 simp only[qR]at hr;split at hr
 ·rename_i hc;obtain⟨rfl,rfl,rfl⟩:=hc;simp only[Option.some.injEq,Prod.mk.injEq]at hr;obtain⟨rfl,rfl⟩:=hr;exact h
 ·cases hr
open Classical in
noncomputable def Ct(f:FuncId)(args:List AVal)(r:aP):kr:=
 ⟨fun f' args' H=>if f'=f∧args'=args∧H=[]then some (r,[])else none,fun _ _ _=>none⟩
theorem Pa{f:FuncId}{args:List AVal}{r:aP}(h:iQ P f args r):gI P (Ct f args r):=by
 refine⟨fun f' args' H r' H1 hr=>?_,fun _ _ _ _ _ h=>by simp[Ct]at h⟩
 simp only[Ct]at hr;split at hr
 ·rename_i hc;obtain⟨rfl,rfl,rfl⟩:=hc;simp only[Option.some.injEq,Prod.mk.injEq]at hr;obtain⟨rfl,rfl⟩:=hr;exact h
 ·cases hr
def Hp(P:Program)[aD](b:Nat)(args:List AVal)(H:List aa)(r:aP)(H1:List aa):Prop:=
 ∀g w (vs:Array Value) k sz,Inv g H w→RL g w args vs.toList→g.ah b 0=some (k,sz)→
  ∃rec,w.heap[k]? =some (.loop rec)∧vs.size=rec.params.size∧RoundIn Fence.wide 0 P k rec.fn (nE rec vs) rec.assign rec.body w (eC g H w r H1)
open Classical in
noncomputable def Er(b:Nat)(args:List AVal)(H:List aa)(r:aP)(H1:List aa):kr:=
 ⟨fun _ _ _=>none,fun b' args' H'=>if b'=b∧args'=args∧H'=H then some (r,H1)else none⟩
theorem QV{b:Nat}{args:List AVal}{H H1:List aa}{r:aP}(h:Hp P b args H r H1):gI P (Er b args H r H1):=by
 refine⟨fun _ _ _ _ _ h=>by simp[Er]at h,fun b' args' H' r' H1' hr=>?_⟩
 simp only[Er]at hr;split at hr
 ·rename_i hc;obtain⟨rfl,rfl,rfl⟩:=hc;simp only[Option.some.injEq,Prod.mk.injEq]at hr;obtain⟨rfl,rfl⟩:=hr;exact h
 ·cases hr
theorem Hp.wk{b:Nat}{args:List AVal}{H H1:List aa}{r:aP}(h:Hp P b (oC args) H r H1):Hp P b args H r H1:=
 fun g w vs k sz hi hl hk=>h g w vs k sz hi (ye _ _ hl) hk
structure pW(P:Program)[aD](N:BR P):Prop where
 fn:∀{ρ:Type} {n:Nat} {f:FuncId} {args:List AVal} {H:List aa} {g:G P ρ} {k:G P ρ→aP→List aa→Prop} {r:ρ},N.fn f args H g k→g.run n=some r→
  ∃g' a H1,k g' a H1∧g'.run n=some r∧bz P f args H a H1
 DF:∀{ρ:Type} {n:Nat} {b:Nat} {args:List AVal} {H:List aa} {g:G P ρ} {k:G P ρ→aP→List aa→Prop} {r:ρ},N.DF b args H g k→g.run n=some r→
  ∃g' a H1,k g' a H1∧g'.run n=some r∧Hp P b args H a H1
 lp:∀{σ:Type} {sh:Sh} {n:Nat} {ro:Option Nat} {H0:List aa} {b:Code} {g:G P (σ⊕sh.El)} {E:σ→St} {s:St} {Y:sh.El→bu×St} {q:σ⊕sh.El},N.lp ro H0 b g E s Y→g.run n=some q→
  ∃(g':G P (σ⊕sh.El)) (o:bu) (s':St),qQ H0 E Y g' o s'∧g'.run n=some q∧∀fro g0 w0,Inv g0 H0 w0→oV g0 ro fro→eP P fro g0 H0 w0 b s fun o1 s1=>o1=o∧s1=s'
variable {ops:Array Oper} {n0 nid:Nat} {o:Oper} {s:St}
theorem Es{orc orc':kr}(h:kJ ops s.A o=some true→∀pre,(bF P cfg nid (dm s.A) o.op).run s.H=some pre→finish orc s.H pre=finish orc' s.H pre):
 eZ P cfg orc ops n0 o nid s=eZ P cfg orc' ops n0 o nid s:=by
 grind [eZ]
theorem nr{n:Nat}{ρ:Type}{r:ρ}:∀{g:G P ρ} {s:St} {k:G P ρ→St→Prop},pI g s k→g.run n=some r→∃g',k g' s∧g'.run n=some r
 | .br d c t f,s,k,h,hr=>by
  simp only[pI,pP]at h;obtain⟨hd,h1,h2⟩:=h;have hset:s.A.set d (.sc (.bool c))=s.A:=by
   apply List.ext_getElem?;intro j;by_cases hj:d=j
   ·grind
   ·rw[List.getElem?_set_ne hj]
  cases c with
  |true=>
   rw[hset]at h1;simp only[G.run,if_true]at hr;exact nr h1 hr
  |false=>
   rw[hset]at h2;simp only[G.run,Bool.false_eq_true,if_false]at hr;exact nr h2 hr
 | .F1 d ik x c t f,s,k,h,hr=>by
  simp only[pI,pP]at h;obtain⟨hd,h1,h2⟩:=h;by_cases hx:x=c
  ·subst hx;have hset:s.A.set d (.sc (.int ik x))=s.A:=by
    apply List.ext_getElem?;intro j;by_cases hj:d=j
    ·grind
    ·rw[List.getElem?_set_ne hj]
   rw[hset]at h1;simp only[G.run,if_true]at hr;exact nr h1 hr
  ·simp only[G.run,hx,if_false]at hr;exact nr h2 hr
 | .sp c t f,s,k,h,hr=>by
  simp only[pI]at h;cases c with
  |true=>
   simp only[G.run,if_true]at hr;exact nr h.1 hr
  |false=>
   simp only[G.run,Bool.false_eq_true,if_false]at hr;exact nr h.2 hr
 | .fail,s,k,h,hr=>by simp[G.run]at hr
 | .stop,s,k,h,hr=>by simp[G.run]at hr
 | .done ..,s,k,h,hr=>⟨_,h,hr⟩
 | .skip ..,s,k,h,hr=>⟨_,h,hr⟩
 | .op ..,s,k,h,hr=>⟨_,h,hr⟩
 | .call ..,s,k,h,hr=>⟨_,h,hr⟩
 | .fK ..,s,k,h,hr=>⟨_,h,hr⟩
 | .ax ..,s,k,h,hr=>⟨_,h,hr⟩
 | .tidy ..,s,k,h,hr=>⟨_,h,hr⟩
 | .loop ..,s,k,h,hr=>⟨_,h,hr⟩
 | .fL ..,s,k,h,hr=>⟨_,h,hr⟩
 | .xP ..,s,k,h,hr=>⟨_,h,hr⟩
 | .join ..,s,k,h,hr=>⟨_,h,hr⟩
 | .inl ..,s,k,h,hr=>⟨_,h,hr⟩
theorem MU{x:Option Pre}{f:FuncId}{args:List AVal}(h:Ln x=some (f,args)):∃args' own,x=some (.Fi f args' own)∧oC args'=args:=by
 unfold Ln at h;grind
theorem iQ.wk{f:FuncId}{args:List AVal}{r:aP}(h:iQ P f (oC args) r):iQ P f args r:=
 ⟨h.1,fun g w vs hi hl=>h.2 g w vs hi (ye _ _ hl)⟩
theorem Pb{H:List aa}{x:Option Pre}{f:FuncId}{args:List AVal}{H1:List aa}(h:O9 H x=some (f,args,H1)):∃args' ids,x=some (.lN f args' ids)∧oC args'=args∧mask ids H=H1:=by
 unfold O9 at h;grind
theorem z8{ids:List Nat}{H:List aa}(hp:∀i,ids.contains i=true→∃x,H[i]? =some x∧vN x=true):
 ∀(n:Nat) (l seen:List Nat),Fq ids l=true→l.length≤n→(closure n l seen).run H=some (Bf l seen)∧(closure n l seen).reads H=wW l seen
 |_,[],_,_,_=>by simp[closure,Rd.run,Rd.reads,Bf,wW]
 | 0,_::_,_,_,h=>by simp at h
 |n+1,c::cs,seen,h,hl=>by
  simp only[Fq,Bool.and_eq_true]at h;simp only[List.length_cons]at hl;simp only[closure,Bf,wW];cases hc:seen.contains c with
  |true=>
   simp only[if_true];exact z8 hp n cs seen h.2 (by omega)
  |false=>
   obtain⟨x,hb,hpb⟩:=hp c h.1;obtain⟨q1,q2⟩:=z8 hp n cs (c::seen) h.2 (by omega)
   grind [Be,Rd.run,Rd.reads]
theorem Et{ids:List Nat}:∀(l seen:List Nat),Fq ids l=true→(∀i∈seen,ids.contains i=true)→∀i∈Bf l seen,ids.contains i=true
 | [],_,_,hs,i,hi=>hs i hi
 |c::cs,seen,h,hs,i,hi=>by
  simp only[Fq,Bool.and_eq_true]at h;simp only[Bf]at hi;cases hc:seen.contains c with
  |true=>rw[hc]at hi;exact Et cs seen h.2 hs i hi
  |false=>
   rw[hc]at hi;refine Et cs (c::seen) h.2 (fun j hj=>?_) i hi
   grind
theorem mP{α β:Type}{H:List aa}:∀{m:Rd α} {f:α→β} {x:α},m.run H=some x→(m.bind fun y=>.done (f y)).run H=some (f x)∧(m.bind fun y=>.done (f y)).reads H=m.reads H
 | .done a,f,x,h=>by grind [Rd.run,Rd.bind,Rd.reads]
 | .get b k,f,x,h=>by
  simp only[Rd.run]at h;split at h
  ·rename_i y hy;have:=mP (f:=f) h;simp[Rd.bind,Rd.run,Rd.reads,hy,this]
  ·cases h
theorem Lo{ids:List Nat}{ah:Operand→AVal}{op:Op}{nid:Nat}{H:List aa}{f:FuncId}{args:List AVal}{js rs:List Nat}(h:th P cfg ids ah op=some (f,args,js,rs))
 (hp:∀i,ids.contains i=true→∃x,H[i]? =some x∧vN x=true):
 (bF P cfg nid ah op).run H=some (.lN f args js)∧(bF P cfg nid ah op).reads H=rs∧∀i∈js,ids.contains i=true:=by
 unfold th at h;split at h
 ·rename_i g _ _ _;split at h
  ·rename_i n p q hg;split at h
   ·rename_i fn hfn;split at h
    ·rename_i hc;simp only[Bool.or_eq_false_iff]at hc;dsimp only at h;split at h
     ·rename_i ho;simp only[Option.some.injEq,Prod.mk.injEq]at h;simp only[Bool.and_eq_true]at ho;have ho2:=Nat.le_of_ble_eq_true ho.2;obtain⟨rfl,rfl,rfl,rfl⟩:=h;obtain⟨q1,q2⟩:=z8 hp 1000 _ [] ho.1 (by omega)
      simp only[bF,hg,hfn,hc.1.1,Bool.false_eq_true,if_false,q9,hc.1.2,hc.2];exact⟨(mP q1).1,(mP q1).2.trans q2,Et _ [] ho.1 (by simp)⟩
     ·cases h
    ·cases h
   ·cases h
  ·cases h
 ·cases h
theorem QW{H:List aa}{b:Nat}{x:Option (FuncId×List AVal×List Nat×List Nat)}{f:FuncId}{args:List AVal}{y:Option aa}(h:SP H b x=some (f,args,y)):∃args' ids rs,x=some (f,args',ids,rs)∧AVal.zZ b (oC args')=args∧H[b]? =y∧ids.contains b=true:=by
 unfold SP at h;grind
theorem Cu:∀{l:List PR} {H:List aa},NN l H→∀i,(l.map (·.b)).contains i=true→∃x,H[i]? =some x∧vN x=true
 | [],_,_,i,h=>by simp at h
 |p::ps,H,hc,i,h=>by
  simp only[List.map_cons,List.contains_cons,Bool.or_eq_true,beq_iff_eq]at h;rcases h with rfl |h
  ·exact⟨_,hc.1,p.pf⟩
  ·exact Cu hc.2 i h
theorem bz.wk{f:FuncId}{args:List AVal}{H H1:List aa}{r:aP}(h:bz P f (oC args) H r H1):bz P f args H r H1:=
 ⟨h.1,fun g w vs hi hl=>h.2 g w vs hi (ye _ _ hl)⟩
theorem qx{pr:List Nat}{H:List aa}(hp:∀i,pr.contains i=true→∃x,H[i]? =some x∧vN x=true):
 ∀(n:Nat) (l seen ids rs:List Nat),tj pr H n l seen=some (ids,rs)→(closure n l seen).run H=some ids∧(closure n l seen).reads H=rs
 |_,[],seen,ids,rs,h=>by
  grind [tj,closure,Rd.run,Rd.reads]
 | 0,_::_,_,_,_,h=>by simp[tj]at h
 |n+1,b::todo,seen,ids,rs,h=>by
  simp only[tj]at h;simp only[closure];cases hc:seen.contains b with
  |true=>
   rw[hc]at h;simp only[if_true];exact qx hp n todo seen ids rs h
  |false=>
   rw[hc]at h;simp only[Bool.false_eq_true,if_false];cases hpr:pr.contains b with
   |true=>
    rw[hpr]at h;simp only[Option.map_eq_some_iff,Prod.exists,Prod.mk.injEq]at h;obtain⟨ids',rs',h,rfl,rfl⟩:=h;obtain⟨x,hb,hpb⟩:=hp b hpr;obtain⟨q1,q2⟩:=qx hp n todo (b::seen) _ _ h;grind [Be,Rd.run,Rd.reads]
   |false=>
    rw[hpr]at h;simp only at h;split at h
    ·rename_i v sz rows hb;simp only[Option.map_eq_some_iff,Prod.exists,Prod.mk.injEq]at h;obtain⟨ids',rs',h,rfl,rfl⟩:=h;obtain⟨q1,q2⟩:=qx hp n _ (b::seen) _ _ h;grind [Rd.run,Rd.reads]
    ·rename_i hb;simp only[Option.map_eq_some_iff,Prod.exists,Prod.mk.injEq]at h;obtain⟨ids',rs',h,rfl,rfl⟩:=h;obtain⟨q1,q2⟩:=qx hp n _ (b::seen) _ _ h;grind [Rd.run,Rd.reads]
    ·rename_i hb;simp only[Option.map_eq_some_iff,Prod.exists,Prod.mk.injEq]at h;obtain⟨ids',rs',h,rfl,rfl⟩:=h;obtain⟨q1,q2⟩:=qx hp n _ (b::seen) _ _ h;grind [Rd.run,Rd.reads]
    ·rename_i x hx hl hit hb;simp only[Option.map_eq_some_iff,Prod.exists,Prod.mk.injEq]at h;obtain⟨ids',rs',h,rfl,rfl⟩:=h;obtain⟨q1,q2⟩:=qx hp n _ (b::seen) _ _ h;grind [Rd.run,Rd.reads]
    ·cases h
def Lp:FuncId⊕Nat→List AVal→List Nat→Pre
 | .inl f,args,ids=>.lN f args ids
 | .inr b,args,ids=>.round b args ids
theorem NP{cfg:dL}{pr:List Nat}{ah:Operand→AVal}{op:Op}{H:List aa}{t:FuncId⊕Nat}{args:List AVal}{ids rs:List Nat}(hp:∀i,pr.contains i=true→∃x,H[i]? =some x∧vN x=true)
 (h:Gu P cfg pr ah op H=some (t,args,ids,rs)):(bF P cfg nid ah op).run H=some (Lp t args ids)∧(bF P cfg nid ah op).reads H=rs:=by
 unfold Gu at h;split at h
 ·rename_i g _ _ _;split at h
  ·rename_i n p q hg;split at h
   ·rename_i fn hfn;split at h
    ·rename_i hc;simp only[Bool.or_eq_false_iff]at hc;split at h
     ·rename_i ids' rs' hcl;simp only[Option.some.injEq,Prod.mk.injEq]at h;obtain⟨rfl,rfl,rfl,rfl⟩:=h;obtain⟨q1,q2⟩:=qx hp _ _ _ _ _ hcl;simp only[bF,hg,hfn,hc.1.1,Bool.false_eq_true,if_false,q9,hc.1.2,hc.2];exact⟨(mP q1).1,(mP q1).2.trans q2⟩
     ·cases h
    ·cases h
   ·cases h
  ·rename_i b hg;split at h
   ·rename_i ids' rs' hcl;simp only[Option.some.injEq,Prod.mk.injEq]at h;obtain⟨rfl,rfl,rfl,rfl⟩:=h;obtain⟨q1,q2⟩:=qx hp _ _ _ _ _ hcl;simp only[bF,hg];exact⟨(mP q1).1,(mP q1).2.trans q2⟩
   ·cases h
  ·cases h
 ·cases h
theorem wX{ids:List Nat}{H H1:List aa}{a:aP}{k:cU→List Nat→Bool→Prop}{kp:AVal→Prop}(h:Eo ids H a H1 k kp):
 (∃e,eY H ids (some (a,H1))=some (.ok e)∧k e (e.dH.map (·.1)) (!e.news.isEmpty))∨(∃v,eY H ids (some (a,H1))=some (.bf v ids)∧kp v):=by
 unfold Eo at h;split at h
 ·rename_i v;split at h
  ·rename_i hl;have hl:=Nat.eq_of_beq_eq_true hl;refine .inl ⟨{val:=v,dH:=ids.map fun i=>(i,H1.getD i .dead)},?_,?_⟩
   ·grind [eY]
   ·simpa[List.map_map,Function.comp_def]using h
  grind [mC]
 grind [eY]
theorem l5(hNe:pW P X.N){n:Nat}{ρ:Type}{r:ρ}{g:G P ρ}{draw:Bool}{H0:List aa}{k:G P ρ→ee→gH→Prop}(h:si P X draw H0 ops n0 o nid g s k)(hr:g.run n=some r):
 ∃orc,gI P orc∧∃res f g',eZ P X.cfg orc ops n0 o nid s=some (res,f)∧k g' res f∧g'.run n=some r:=by
 unfold si at h;split at h
 ·rename_i m g';split at h
  ·rename_i res f hs;exact⟨wV,tq,res,f,_,hs,h,by rw[G.Lm];simpa[G.run]using hr⟩
  ·exact nomatch h
 ·rename_i X t kk;obtain⟨hw,hc,hk⟩:=h;simp only[G.run]at hr;cases hx:t.run with
  |none=>rw[hx]at hr;cases hr
  |some x=>
   rw[hx]at hr;obtain⟨h1,h2⟩:=t.sound _ _ _ _ _ _ _ hc x hx;have hk:=hk x;simp only[mC,iF,fm]at hk;refine⟨wV,tq,_,_,kk x,?_,hk,by simpa using hr⟩
   grind [eZ,finish,mC,iF,fm]
 ·rename_i c x kk;obtain⟨hw,hc,hk⟩:=h;simp only[G.run]at hr;cases hx:c.S n x with
  |none=>rw[hx]at hr;cases hr
  |some q=>
   rw[hx]at hr;have hk:=(c.sh.cG _).1 hk q;obtain⟨args',own,hp,he⟩:=MU hc;split at hk
   ·rename_i res f hs;refine⟨Ct c.f args' (c.out q),Pa (iQ.wk (by rw[he];exact c.ok n x q hx)),res,f,kk q,?_,hk,by simpa using hr⟩
    rw[← hs];refine Es fun _ pre hpre=>?_
    rw[hp]at hpre;simp only[Option.some.injEq]at hpre;subst hpre;simp[finish,fk,Ct,O8]
   ·exact nomatch hk
 ·rename_i c x kk;obtain⟨hw,hc,hk⟩:=h;simp only[G.run]at hr;cases hx:c.S n x with
  |none=>rw[hx]at hr;cases hr
  |some q=>
   rw[hx]at hr;have hk:=(c.sh.cG _).1 hk q;obtain⟨args',ids,hp,he,hm⟩:=Pb hc;split at hk
   ·rename_i res f hs;refine⟨qR c.f args' (c.heap x) (c.out q) (c.gC x q),Bg (bz.wk (by rw[he];exact c.ok n x q hx)),res,f,kk q,?_,hk,by simpa using hr⟩
    rw[← hs];refine Es fun _ pre hpre=>?_
    rw[hp]at hpre;simp only[Option.some.injEq]at hpre;subst hpre;simp[finish,fk,cO,qR,O8,hm]
   ·exact nomatch hk
 ·rename_i c b v ex x kk;obtain⟨hw,hex,hc,hk⟩:=h;simp only[G.run]at hr;cases hx:c.S n x with
  |none=>rw[hx]at hr;cases hr
  |some q=>
   rw[hx]at hr;have hk:=(c.sh.cG _).1 hk q;obtain⟨args',ids,rs,hp,he,hb,hbi⟩:=QW hc;obtain⟨bsz,brows,hbx,hbp⟩:=z7 (c.b0 x);have hpure:∀i,(b::ex.map (·.b)).contains i=true→∃x,s.H[i]? =some x∧vN x=true:=by
    intro i hi;simp only[List.contains_cons,Bool.or_eq_true,beq_iff_eq]at hi;rcases hi with rfl |hi
    ·exact⟨.row v bsz brows,by rw[hb,hbx];rfl,hbp⟩
    ·exact Cu hex i hi
   have hcall:=hp;obtain⟨hp,hrd,hsub⟩:=Lo (nid:=nid) (H:=s.H) hp hpure;have hlt:∀i∈ids,i<s.H.length:=fun i hi=>by
    grind
   have hblt:b<s.H.length:=(List.getElem?_eq_some_iff.1 hb).1
   let H':=mask ids s.H
   have hl':H'.length=s.H.length:=oR _ _;have hmb:(mask [b] H')[b]? =some ((c.blk x).ng v):=by rw[zI (by simp),zI hbi];exact hb
   have hmd:∀b',b'≠b→∀y,(mask [b] H')[b']? =some y→y=.dead:=by
    intro b' hne y hy;rcases rV hy with⟨h1,_⟩ |⟨_,h2,_⟩
    ·grind
    ·exact h2
   have href:=bz.frame (bz.Wj (c.ok n x q hx) (c.a0 x) (c.b0 x) (c.b1 x q) (c.r0 q) b v (mask [b] H') hmb hmd) (by omega)
   have horc:=Bg (P:=P) (bz.wk (args:=args') (bz.but (b:=b) (by rw[he];exact href)))
   refine⟨_,horc,?_⟩;have hlen:(H'.set b ((c.o5 x q).ng v)).length=s.H.length:=by rw[List.length_set,oR]
   have hdrop:(H'.set b ((c.o5 x q).ng v)).drop s.H.length=[]:=List.drop_of_length_le (by rw[hlen];exact Nat.le_refl _)
   have hid:Fs (th P X.cfg (b::ex.map (·.b)) (dm s.A) o.op)=(ids,rs):=by rw[hcall];rfl
   cases ho:c.out q with
   |ret u=>
    rw[ho]at hk;simp only[iF,fm,hid]at hk;refine⟨_,_,kk q,?_,hk,by simpa using hr⟩
    have happ:∀val news,news=[]→cU.apply {val:=val,dH:=ids.map fun i=>(i,(H'.set b ((c.o5 x q).ng v)).getD i .dead),news:=news} s.H=cU.apply {val:=u.Bd b v,dH:=[(b,(c.o5 x q).ng v)]} s.H:=by
     intro val news hn;subst hn;simp only[cU.apply,List.append_nil,List.foldl_cons,List.foldl_nil,List.foldl_map];apply List.ext_getElem?;intro j;rw[wS,List.getElem?_set];by_cases hj:b=j
     ·grind
     ·grind [zI]
    unfold eZ;rw[hw];simp only[hp,hrd,finish,fk,cO,qR,and_self,if_true,aP.Bd,eY,hlen,Nat.le_refl,hdrop,ite_self,mC,iF,fm,List.isEmpty_nil,Bool.not_true,H'];simp only[iI,ya];rw[happ _ _ rfl];simp_all
   |bf u=>
    rw[ho]at hk;have hfl:u.flat=true:=by have:=c.r0 q;rw[ho]at this;exact this
    simp only[hid]at hk;refine⟨_,_,kk q,?_,hk,by simpa using hr⟩
    unfold eZ;rw[hw];simp only[hp,hrd,finish,fk,cO,qR,and_self,if_true,aP.Bd,eY,hfl,H'];simp only[iI,ya]
 ·rename_i pr g';obtain⟨hw,hpr,hc⟩:=h;simp only[G.run]at hr;have hpure:=Cu hpr;split at hc
  ·rename_i f args ids rs hx;obtain⟨hp,hrd⟩:=NP (nid:=nid) hpure hx;simp only[Lp]at hp;simp only[cO]at hc;obtain⟨g2,a,H1,hk,hr2,hfn⟩:=hNe.fn hc hr;refine⟨_,Bg hfn,?_⟩;rcases wX hk with⟨e,hm,hk⟩ |⟨v,hm,hk⟩
   ·simp only[iF,fm]at hk;refine⟨_,_,g2,?_,hk,hr2⟩;unfold eZ;rw[hw];simp only[hp,hrd,finish,fk,cO,qR,and_self,if_true,hm,mC,iF,fm];simp only[iI,ya]
   ·refine⟨_,_,g2,?_,hk,hr2⟩;unfold eZ;rw[hw];simp only[hp,hrd,finish,fk,cO,qR,and_self,if_true,hm];simp only[iI,ya]
  ·rename_i b args ids rs hx;obtain⟨hp,hrd⟩:=NP (nid:=nid) hpure hx;simp only[Lp]at hp;simp only[cO]at hc;obtain⟨g2,a,H1,hk,hr2,hfn⟩:=hNe.DF hc hr;refine⟨_,QV hfn,?_⟩;rcases wX hk with⟨e,hm,hk⟩ |⟨v,hm,hk⟩
   ·simp only[iF,fm]at hk;refine⟨_,_,g2,?_,hk,hr2⟩;unfold eZ;rw[hw];simp only[hp,hrd,finish,fk,cO,Er,and_self,if_true,hm,mC,iF,fm];simp only[iI,ya]
   ·refine⟨_,_,g2,?_,hk,hr2⟩;unfold eZ;rw[hw];simp only[hp,hrd,finish,fk,cO,Er,and_self,if_true,hm];simp only[iI,ya]
  ·exact nomatch hc
 ·simp[G.run]at hr
 ·simp[G.run]at hr
 ·exact nomatch h
 ·exact nomatch h
theorem Aa{orc orc':Nat→kr}:∀(l:List (Oper×Nat)) (i:Nat) (s:St),(∀j,i≤j→orc j=orc' j)→lW P X.cfg orc ops n0 i l s=lW P X.cfg orc' ops n0 i l s
 | [],_,_,_=>rfl
 | (o,nid)::rest,i,s,h=>by
  simp only[lW,h i (Nat.le_refl _)];split
  ·rw[Aa rest (i+1) _ fun j hj=>h j (by omega)]
  ·rfl
  ·rfl
theorem MV(hNe:pW P X.N){n:Nat}{ρ:Type}{r:ρ}{g:G P ρ}{H0:List aa}{k:G P ρ→ee→gH→Prop}(h:zq P X true H0 ops n0 o nid g s k)(hr:g.run n=some r):
 ∃orc,gI P orc∧∃res f g',eZ P X.cfg orc ops n0 o nid s=some (res,f)∧k g' res f∧g'.run n=some r:=by
 unfold zq at h;grind [l5]
theorem Hq(hNe:pW P X.N){n:Nat}{ρ:Type}{r:ρ}{H0:List aa}:∀(l:List (Oper×Nat)) (i:Nat) (g:G P ρ) (s:St) (k:G P ρ→ee→List gH→Prop),BS P X true H0 ops n0 l g s k→g.run n=some r→
 ∃orcs:Nat→kr,(∀j,gI P (orcs j))∧∃res fs g',lW P X.cfg orcs ops n0 i l s=some (res,fs)∧k g' res fs∧g'.run n=some r
 | [],i,g,s,k,h,hr=>⟨fun _=>wV,fun _=>tq,.ok s,[],g,rfl,h,hr⟩
 | (o,nid)::rest,i,g,s,k,h,hr=>by
  simp only[BS]at h;obtain⟨g1,h,hr⟩:=nr h hr;obtain⟨orc,ho,res,f,g2,hs,h,hr⟩:=MV hNe h hr;cases res with
  |ok s'=>
   obtain⟨A,H,D⟩:=s';simp only[dz]at h;obtain⟨orcs,hos,res,fs,g3,hrun,hk,hr⟩:=Hq hNe rest (i+1) g2 _ _ h hr;refine⟨fun j=>if j=i then orc else orcs j,fun j=>(by grind:gI P (if j=i then orc else orcs j)),res,f::fs,g3,?_,hk,hr⟩
   grind [lW,Aa]
  |bf v s'=>
   exact⟨fun _=>orc,fun _=>ho,.bf v s',[f],g2,by simp only[lW,hs],h,hr⟩
theorem Ki(hNe:pW P X.N){n:Nat}{ρ:Type}{r:ρ}{H0:List aa}{g:G P ρ}{s:St}{k:G P ρ→ee→Prop}(h:tn P X H0 ops true g s k)(hr:g.run n=some r):
 ∃orcs:Nat→kr,(∀j,gI P (orcs j))∧∃res g',u6 P X.cfg orcs ops true s=some res∧k g' res∧g'.run n=some r:=by
 simp only[tn,gY,rS]at h;obtain⟨orcs,ho,res,fs,g',hrun,hk,hr⟩:=Hq hNe _ 0 _ _ _ h hr;refine⟨orcs,ho,?_⟩;simp only[u6,gY,rS,hrun];grind
theorem JB(keep:List Nat):∀(A:List AVal) (i j:Nat),(xQ keep i A)[j]? =(A[j]?).map fun a=>match keep.contains (i+j)with |true=>a |false=>.af
 | [],_,_=>by simp[xQ]
 |a::as,i,0=>rfl
 |a::as,i,j+1=>by
  simp only[xQ,List.getElem?_cons_succ];rw[JB keep as (i+1) j,show i+1+j=i+(j+1)by omega]
theorem Uu{g:Gh}{w:World}{keep:List Nat}{A:List AVal}{vs:List Value}(h:RL g w A vs):RL g w (xQ keep 0 A) vs:=by
 obtain⟨h1,h2⟩:=dD _ _ h;have hlen:(xQ keep 0 A).length=A.length:=by
  have:∀(A:List AVal) (i:Nat),(xQ keep i A).length=A.length:=by
   intro A;induction A with
   |nil=>intro i;rfl
   |cons a as ih=>intro i;simp[xQ,ih]
  exact this A 0
 grind [vw,JB,R]
theorem Lq:∀{l:List PU} {H:List aa},NM l H→En (l.map (·.b)) H
 | [],_,_=>fun _ h=>by simp at h
 |p::ps,H,h=>by
  intro b hb x hx;simp only[List.map_cons,List.mem_cons]at hb;rcases hb with rfl |hb
  ·rw[h.1]at hx;cases hx;exact p.pf
  ·exact Lq h.2 b hb x hx
theorem NQ:∀(l:List AVal),(oC l).length=l.length
 | []=>rfl
 |_::l=>by simp[oC,NQ l]
theorem QX{g:Gh}{w:World}:∀(l:List (List AVal)) (k o sz:Nat),RR g w l k o sz→RR g w (l.map oC) k o sz
 | [],_,_,_,_=>by simp[RR]
 |r::rs,k,o,sz,h=>by
  simp only[RR,List.map_cons]at h ⊢;exact⟨⟨by rw[NQ];exact h.1.1,uE _ h.1.2.1,Ll _ _ _ h.1.2.2⟩,QX rs k (o+sz) sz h.2⟩
theorem SU{g:Gh}{w:World}{rows:List (List AVal)}{x:Value}(h:R g w (.aj rows) x):R g w (.aj (rows.map oC)) x:=by
 simp only[R,List.length_map]at h ⊢;obtain⟨a,cap,e,h1,h2⟩:=h;refine⟨a,cap,e,h1,?_⟩;rcases h2 with h2 |⟨k,off,sz,ha,hr⟩
 ·exact .inl h2
 ·exact .inr ⟨k,off,sz,ha,QX _ _ _ _ hr⟩
theorem dA{H0:List aa}:∀{ts:List TS} {s:St} {k:St→Prop},aI ts=true→jS H0 ts s k→∃s',iJ H0 s s'∧k s'
 | [],s,k,_,h=>⟨s,.refl _ _,h⟩
 | .keep l::ts,s,k,hok,h=>by
  simp only[jS,dz]at h;obtain⟨s',h1,h2⟩:=dA (by simpa only[aI]using hok) h
  exact⟨s',iJ.trans (s1:={s with A:=xQ l 0 s.A}) (fun _ _ g a w _ hl hs=>⟨g,⟨hs.inv,Uu hs.tmps,hs.defs⟩,hl⟩) h1,h2⟩
 | .wk p::ts,s,k,hok,h=>by
  simp only[jS]at h;split at h
  ·rename_i s1 hw;obtain⟨s',h1,h2⟩:=dA (by simpa only[aI]using hok) h
   exact⟨s',(SM hw).trans h1,h2⟩
  ·exact h.elim
 | .own p sz::ts,s,k,hok,h=>by
  simp only[jS]at h;split at h
  ·rename_i s1 hw;obtain⟨s',h1,h2⟩:=dA (by simpa only[aI]using hok) h
   exact⟨s',(QO hw).trans h1,h2⟩
  ·exact h.elim
 | .cN z::ts,s,k,hok,h=>by
  simp only[jS]at h;simp only[aI,Bool.and_eq_true,decide_eq_true_eq]at hok;obtain⟨q1,q2,h⟩:=h;split at h
  ·rename_i s1 hw;obtain⟨s',h1,h2⟩:=dA hok.2 h;exact⟨s',(QS ⟨z.b,z.ai,z.sz,by rw[q1,hok.1],q2,z.pf⟩ hw).trans h1,h2⟩
  ·exact h.elim
 | .T3 z::ts,s,k,hok,h=>by
  simp only[jS]at h;obtain⟨q1,h⟩:=h;obtain⟨s',h1,h2⟩:=dA (by simpa only[aI]using hok) h
  refine⟨s',iJ.trans (s1:=C8 s (.aj z.rows') z.p) (fun _ _ g a w _ hl hs=>?_) h1,h2⟩
  obtain⟨p1,p2⟩:=zo q1 hs (v':=.aj z.rows') fun x hx=>by rw[← z.pf];exact SU hx
  exact⟨g,p1,hl.trans p2⟩
 | .cut bl bump pu::ts,s,k,hok,h=>by
  simp only[jS,dz]at h;obtain⟨q1,h⟩:=h;split at h
  ·rename_i A H D hw;obtain⟨s',h1,h2⟩:=dA (by simpa only[aI]using hok) h
   exact⟨s',(SK (Lq q1) hw).trans h1,h2⟩
  ·exact h.elim
theorem MW(hNe:pW P X.N){n:Nat}{ρ:Type}{r:ρ}{g:G P ρ}{H0:List aa}{k:G P ρ→ee→gH→Prop}(h:zq P X false H0 ops n0 o nid g s k)(hr:g.run n=some r):
 ∃s2,iJ H0 s s2∧∃orc,gI P orc∧∃res f g',eZ P X.cfg orc ops n0 o nid s2=some (res,f)∧k g' res f∧g'.run n=some r:=by
 unfold zq at h;split at h
 ·grind [G.run,dA,l5]
 ·exact⟨s,.refl _ _,l5 hNe h hr⟩
theorem Hr(hNe:pW P X.N){n:Nat}{ρ:Type}{r:ρ}{H0:List aa}:∀(l:List (Oper×Nat)) (i:Nat) (g:G P ρ) (s:St) (k:G P ρ→ee→List gH→Prop),BS P X false H0 ops n0 l g s k→g.run n=some r→
 (∀(j:Nat),(l[j]?).map (fun(p:Oper×Nat)=>p.1)=(ops.toList.drop i)[j]?)→∃g' res fs,k g' res fs∧g'.run n=some r∧
 ∀(fro:Option Nat),(∀(k:Nat) (o:Oper),ops[k]? =some o→Calm fro o)→∀(gg:Gh) (ww:World) (Q:Exit→Act→World→Prop),Inv gg H0 ww→∀(g1:Gh) (a:Act) (w:World),eD g1 s a w→aX gg H0 ww g1 s.H w→rj Q gg H0 ww res→wpOpsIn (Fr fro) 0 P ops Q (List.range' i l.length) a w
 | [],i,g,s,k,h,hr,_=>⟨g,.ok s,[],h,hr,fun _ _ _ _ _ _ g1 a w hs hl hp=>hp g1 a w hs hl⟩
 | (o,nid)::rest,i,g,s,k,h,hr,hj=>by
  have hi:ops[i]? =some o:=by
   have:=hj 0;simp at this;exact this.symm
  simp only[BS]at h;obtain⟨g',h,hr⟩:=nr h hr;obtain⟨s2,hw2,orc,ho,res,f,g3,hst,h,hr⟩:=MW hNe h hr;cases res with
  |ok s'=>
   obtain⟨A,H,D⟩:=s';simp only[dz]at h;obtain⟨g4,res4,fs4,hk4,hr4,hwp⟩:=Hr hNe rest (i+1) g3 ⟨A,H,D⟩ _ h hr (fun j=>by
    have:=hj (j+1);grind)
   refine⟨g4,res4,_,hk4,hr4,fun fro hcalm gg ww Q hi0 g1 a w hs hl hp=>?_⟩
   simp only[List.length_cons,List.range'_succ,wpOpsIn_cons];obtain⟨g2,hs2,hl2⟩:=hw2 gg ww g1 a w hi0 hl hs;exact qw ho hs2 hi (hcalm i o hi) hst fun g5 a' w' hs' hla=>hwp fro hcalm gg ww Q hi0 g5 a' w' hs' (hl2.trans hla) hp
  |bf v s'=>
   refine⟨g3,.bf v s',_,h,hr,fun fro hcalm gg ww Q hi0 g1 a w hs hl hp=>?_⟩
   simp only[List.length_cons,List.range'_succ,wpOpsIn_cons];obtain⟨g2,hs2,hl2⟩:=hw2 gg ww g1 a w hi0 hl hs;exact qw ho hs2 hi (hcalm i o hi) hst fun g' w' x hv hs' hla hx=>hp g' a w' x hv hs' (hl2.trans hla) hx
theorem Kj(hNe:pW P X.N){H0:List aa}{n:Nat}{ρ:Type}{r:ρ}{id:Nat}{g:G P ρ}{s:St}{k:G P ρ→ee→Prop}(h:tn P X H0 ops false g s k)(hr:g.run n=some r):
 ∃g' res,k g' res∧g'.run n=some r∧∀(fro:Option Nat),(∀(k:Nat) (o:Oper),ops[k]? =some o→Calm fro o)→∀(gg:Gh) (ww:World),Inv gg H0 ww→eP P fro gg H0 ww (.region id ops false) s fun o s'=>o=(Fo res).1∧s'=(Fo res).2:=by
 simp only[tn,gY,rS]at h;generalize (if nD ops.toList=0 then 0 else qq s.H)=t0 at h
 generalize nD ops.toList - t0=m0 at h;generalize s.H.length - t0=f0 at h;obtain⟨g',res,fs,hk,hr',hwp⟩:=Hr hNe _ 0 _ _ _ h hr (fun j=>by rw[rZ];simp)
 simp only[Bool.not_false,if_true]at hk;refine⟨g',res,hk,hr',fun fro hcalm gg ww hi0 Q g1 a w hs hl hp=>?_⟩
 obtain⟨i1,i2⟩:=hs.inv.reserve m0;have hs0:eD g1 {s with H:=s.H++List.replicate m0 .aZ} a w:=⟨i1,hs.tmps,hs.defs⟩;refine wpIn_region ?_;rw[List.range_eq_range'];have:=hwp fro hcalm gg ww Q hi0 g1 a w hs0 (hl.trans i2) (by
  have:=hp _ _ ⟨rfl,rfl⟩;cases res with
  |ok s'=>exact this
  |bf v s'=>exact this)
 grind [sg]
theorem Da{H0:List aa}{n:Nat}{ρ:Type}{r:ρ}{g:G P ρ}{s:St}{k:G P ρ→St→Prop}(h:Gv H0 g s k)(hr:g.run n=some r):∃s' g',iJ H0 s s'∧k g' s'∧g'.run n=some r:=by
 unfold Gv at h;split at h
 ·grind [G.run,dA]
 ·exact⟨s,g,.refl _ _,h,hr⟩
theorem QY{n:Nat}{σ:Type}{sh:Sh}{H0:List aa}{E:σ→St}{X:sh.El→bu×St}{g:G P (σ⊕sh.El)}{o:bu}{s:St}{q:σ⊕sh.El}(h:qQ H0 E X g o s)(hr:g.run n=some q):
 ∃s',iJ H0 s s'∧match q with | .inl a=>o=.normal∧s'=E a | .inr t=>o≠ .normal∧(o,s')=X t:=by
 unfold qQ at h;split at h
 ·grind [G.run,dA]
 ·grind [G.run,dA]
 ·simp[G.run]at hr
 ·exact nomatch h
def Lr(P:Program)[aD](H0:List aa)(ro:Option Nat)(b:Code):Nat→St→bu→St→Prop
 | 0,_,_,_=>False
 |n+1,s,o,s'=>∃o1 s1,(∀fro g0 w0,Inv g0 H0 w0→oV g0 ro fro→eP P fro g0 H0 w0 b s fun o2 s2=>o2=o1∧s2=s1)∧
  match o1 with
  | .normal=>Lr P H0 ro b n s1 o s'
  |o1=>o1=o∧s1=s'
theorem JC{ro:Option Nat}{H0:List aa}{b:Code}{n:Nat}{ρ:Type}{r:ρ}{k:G P ρ→bu→St→Prop}
 (ih:∀(g:G P ρ) (s:St) (k:G P ρ→bu→St→Prop),jP P X H0 b g s k→g.run n=some r→∃g' o s',k g' o s'∧g'.run n=some r∧∀fro g0 w0,Inv g0 H0 w0→oV g0 ro fro→eP P fro g0 H0 w0 b s fun o1 s1=>o1=o∧s1=s'):
 ∀(m:Nat) (g:G P ρ) (s:St),Ft (fun g s k=>jP P X H0 b g s k) m g s k→g.run n=some r→∃g' o s',k g' o s'∧g'.run n=some r∧o≠ .normal∧Lr P H0 ro b m s o s'
 | 0,_,_,h,_=>h.elim
 |m+1,g,s,h,hr=>by
  simp only[Ft]at h;obtain⟨g1,o1,s1,hk,hr1,hd⟩:=ih g s _ h hr;cases o1 with
  |normal=>
   obtain⟨g',o,s',h1,h2,h3,h4⟩:=JC ih m g1 s1 hk hr1;exact⟨g',o,s',h1,h2,h3,.normal,s1,hd,h4⟩
  |exit id=>exact⟨g1,_,s1,hk,hr1,(fun h=>(by cases h)),_,s1,hd,rfl,rfl⟩
  |ret=>exact⟨g1,_,s1,hk,hr1,(fun h=>(by cases h)),_,s1,hd,rfl,rfl⟩
  |bf v=>exact⟨g1,_,s1,hk,hr1,(fun h=>(by cases h)),_,s1,hd,rfl,rfl⟩
theorem wY{ro fro:Option Nat}{g0:Gh}{ops:Array Oper}(hro:oV g0 ro fro)(h:(ro.isSome&&ops.toList.any Co)=false):∀(k:Nat) (o:Oper),ops[k]? =some o→Calm fro o:=by
 intro k o hk;cases ro with
 |none=>
  cases fro with
  |none=>exact .inl rfl
  |some k=>exact hro.elim
 |some b=>
  right;grind
theorem eP.post{fro:Option Nat}{g0:Gh}{H0:List aa}{w0:World}(hi0:Inv g0 H0 w0){c:Code}{s s1 s2:St}{o:bu}(hw:iJ H0 s1 s2)(h:eP P fro g0 H0 w0 c s fun o1 s'=>o1=o∧s'=s1):
 eP P fro g0 H0 w0 c s fun o1 s'=>o1=o∧s'=s2:=
 fun Q g a w hs hl hk=>h Q g a w hs hl fun o' s' ⟨e1,e2⟩=>by grind [eO.weak]
theorem JD{H0:List aa}{sh:Sh}{Y:sh.El→bu×St}{n:Nat}{g:G P sh.El}{o:bu}{s:St}{t:sh.El}(h:Fu H0 Y g o s)(hr:g.run n=some t):∃s',iJ H0 s s'∧(o,s')=Y t:=by
 unfold Fu at h;split at h
 ·grind [G.run,dA]
 ·simp[G.run]at hr
 ·exact nomatch h
theorem NR{ρ:Type}{n:Nat}{f:FuncId}{args:List AVal}{H:List aa}{c:uG P}{x:c.X}{kk:c.sh.El→G P ρ}{k:G P ρ→aP→List aa→Prop}{r:ρ}(h:O7 P f args H c x kk k)(hr:(G.fK c x kk).run n=some r):
 ∃g' a H1,k g' a H1∧g'.run n=some r∧bz P f args H a H1:=by
 obtain⟨_,he,h⟩:=h;simp only[Option.some.injEq,Prod.mk.injEq]at he;obtain⟨rfl,ha,rfl⟩:=he;obtain⟨q,hq,hr⟩:=Option.bind_eq_some_iff.1 (show(c.S n x).bind (fun q=>(kk q).run n)=some r from hr)
 refine⟨kk q,c.out q,c.gC x q,(c.sh.cG _).1 h q,hr,bz.wk ?_⟩;rw[ha];exact c.ok n x q hq
theorem wZ:pW P (uz P):=by
 refine⟨fun h hr=>?_,fun h=>h.elim,fun h=>h.elim⟩
 simp only[uz]at h;split at h
 ·exact NR h hr
 ·exact h.elim
theorem Wk(hNe:pW P X.N)(draw:Bool):pW P (X.at draw).N:=by
 grind [Env.at,wZ]
theorem U9(draw:Bool):(X.at draw).cfg=X.cfg:=by unfold Env.at;split<;>rfl
theorem QZ(hNe:pW P X.N){H0:List aa}{n:Nat}{σ:Type}{sh:Sh}{b:Code}{E:σ→St}{s:St}{Y:sh.El→bu×St}{q:σ⊕sh.El}{f:G P (σ⊕sh.El)→Prop}
 (ih:∀g,f g→g.run n=some q→∃(g':G P (σ⊕sh.El)) (o:bu) (s':St),qQ H0 E Y g' o s'∧g'.run n=some q∧∀fro g0 w0,Inv g0 H0 w0→oV g0 X.ro fro→eP P fro g0 H0 w0 b s fun o1 s1=>o1=o∧s1=s')
 {g:G P (σ⊕sh.El)} (h:Ho X.N X.ro H0 b E s Y g f) (hr:g.run n=some q):
 ∃(g':G P (σ⊕sh.El)) (o:bu) (s':St),qQ H0 E Y g' o s'∧g'.run n=some q∧∀fro g0 w0,Inv g0 H0 w0→oV g0 X.ro fro→eP P fro g0 H0 w0 b s fun o1 s1=>o1=o∧s1=s':=by
 unfold Ho at h;split at h
 ·exact hNe.lp h (by simpa[G.run]using hr)
 ·exact ih _ h hr
theorem w9(hm:P.follows .mixedOrders=true)(hNe:pW P X.N){H0:List aa}{n:Nat}:∀(c:Code) {ρ:Type} (r:ρ) (g:G P ρ) (s:St) (k:G P ρ→bu→St→Prop),jP P X H0 c g s k→g.run n=some r→
 ∃g' o s',k g' o s'∧g'.run n=some r∧∀fro g0 w0,Inv g0 H0 w0→oV g0 X.ro fro→eP P fro g0 H0 w0 c s fun o1 s1=>o1=o∧s1=s':=by
 intro c;induction c with
 |skip=>intro ρ r g s k h hr;exact⟨g,.normal,s,h,hr,fun _ _ _ _ _=>.skip ⟨rfl,rfl⟩⟩
 |region id ops draw=>
  intro ρ r g s k h hr;simp only[jP]at h;split at h
  ·exact h.elim
  rename_i hoff;obtain⟨s1,g1,hw,h,hr⟩:=Da h hr;cases draw with
  |false=>
   obtain⟨g',res,hk,hr',hd⟩:=Kj hNe (id:=id) h hr;cases res with
   |ok s'=>exact⟨g',.normal,s',hk,hr',fun fro g0 w0 hi hro=>.weak hi hw (hd fro (wY hro hoff) g0 w0 hi)⟩
   |bf v s'=>exact⟨g',.bf v,s',hk,hr',fun fro g0 w0 hi hro=>.weak hi hw (hd fro (wY hro hoff) g0 w0 hi)⟩
  |true=>
   obtain⟨orcs,ho,res,g',hreg,h,hr⟩:=Ki (Wk hNe true) h hr;rw[U9]at hreg;cases res with
   |ok s'=>exact⟨g',.normal,s',h,hr,fun fro g0 w0 hi hro=>.weak hi hw (.region hm ho (wY hro hoff) hreg ⟨rfl,rfl⟩)⟩
   |bf v s'=>exact⟨g',.bf v,s',h,hr,fun fro g0 w0 hi hro=>.weak hi hw (.region hm ho (wY hro hoff) hreg ⟨rfl,rfl⟩)⟩
 |seq a b iha ihb=>
  intro ρ r g s k h hr;simp only[jP]at h;obtain⟨g1,o1,s1,h1,hr1,d1⟩:=iha r g s _ h hr;cases o1 with
  |normal=>
   obtain⟨g2,o2,s2,h2,hr2,d2⟩:=ihb r g1 s1 k h1 hr1;refine⟨g2,o2,s2,h2,hr2,fun fro g0 w0 hi hro=>.seq ((d1 fro g0 w0 hi hro).mono fun o s' ⟨e1,e2⟩=>?_)⟩
   grind
  |exit id=>exact⟨g1,_,s1,h1,hr1,fun fro g0 w0 hi hro=>.seq ((d1 fro g0 w0 hi hro).mono fun o s' ⟨e1,e2⟩=>by grind)⟩
  |ret=>exact⟨g1,_,s1,h1,hr1,fun fro g0 w0 hi hro=>.seq ((d1 fro g0 w0 hi hro).mono fun o s' ⟨e1,e2⟩=>by grind)⟩
  |bf v=>exact⟨g1,_,s1,h1,hr1,fun fro g0 w0 hi hro=>.seq ((d1 fro g0 w0 hi hro).mono fun o s' ⟨e1,e2⟩=>by grind)⟩
 |cond c a b iha ihb=>
  have main:∀{ρ:Type} (r:ρ) (g:G P ρ) (s:St) (k:G P ρ→bu→St→Prop),Fv P X H0 c a b (fun g s k=>jP P X H0 a g s k) (fun g s k=>jP P X H0 b g s k) g s k→g.run n=some r→
   ∃g' o s',k g' o s'∧g'.run n=some r∧∀fro g0 w0,Inv g0 H0 w0→oV g0 X.ro fro→eP P fro g0 H0 w0 (.cond c a b) s fun o1 s1=>o1=o∧s1=s':=by
   intro ρ r g s k h hr;unfold Fv at h;obtain⟨s1,g1,hw,h,hr⟩:=Da h hr;obtain⟨g1,h,hr⟩:=nr h hr;split at h
   ·rename_i m g2;have hr2:(G.less m g2).run n=some r:=by rw[G.Lm];simpa[G.run]using hr
    split at h
    ·rename_i hc;obtain⟨g',o,s',h1,h2,d⟩:=iha r _ _ k h hr2;exact⟨g',o,s',h1,h2,fun fro g0 w0 hi hro=>.weak hi hw (.cond true hc (d fro g0 w0 hi hro))⟩
    ·rename_i hc;obtain⟨g',o,s',h1,h2,d⟩:=ihb r _ _ k h hr2;exact⟨g',o,s',h1,h2,fun fro g0 w0 hi hro=>.weak hi hw (.cond false hc (d fro g0 w0 hi hro))⟩
    ·exact h.elim
   ·simp[G.run]at hr
   ·exact nomatch h
  intro ρ r g s k h hr;simp only[jP]at h;split at h
  ·rename_i sh Y g1 kk;obtain⟨t,ht,hr⟩:=Option.bind_eq_some_iff.1 (show(g1.run n).bind (fun t=>(kk t).run n)=some r from hr)
   obtain⟨g',o,s',h1,h2,d⟩:=main t g1 s _ h.1 ht;obtain⟨s'',hw,e⟩:=JD h1 h2;have e1:o=(Y t).1:=congrArg Prod.fst e;have e2:s''=(Y t).2:=congrArg Prod.snd e;refine⟨kk t,(Y t).1,(Y t).2,(sh.cG _).1 h.2 t,hr,fun fro g0 w0 hi hro=>?_⟩
   rw[← e1,← e2];exact(d fro g0 w0 hi hro).post hi hw
  ·exact main r g s k h hr
 |block id b ih=>
  have main:∀{ρ:Type} (r:ρ) (g:G P ρ) (s:St) (k:G P ρ→bu→St→Prop),jP P X H0 b g s (Cr id k)→g.run n=some r→
   ∃g' o s',k g' o s'∧g'.run n=some r∧∀fro g0 w0,Inv g0 H0 w0→oV g0 X.ro fro→eP P fro g0 H0 w0 (.block id b) s fun o1 s1=>o1=o∧s1=s':=by
   intro ρ r g s k h hr;obtain⟨g1,o1,s1,h1,hr1,d1⟩:=ih r g s _ h hr;refine⟨g1,behind id o1,s1,?_,hr1,fun fro g0 w0 hi hro=>.block ((d1 fro g0 w0 hi hro).mono fun o s' ⟨e1,e2⟩=>by grind)⟩
   unfold Cr at h1;cases o1 with
   |exit id'=>
    grind [behind]
   |normal=>exact h1
   |ret=>exact h1
   |bf v=>exact h1
  intro ρ r g s k h hr;simp only[jP]at h;split at h
  ·rename_i sh Y g1 kk;obtain⟨t,ht,hr⟩:=Option.bind_eq_some_iff.1 (show(g1.run n).bind (fun t=>(kk t).run n)=some r from hr)
   obtain⟨g',o,s',h1,h2,d⟩:=main t g1 s _ h.1 ht;obtain⟨s'',hw,e⟩:=JD h1 h2;have e1:o=(Y t).1:=congrArg Prod.fst e;have e2:s''=(Y t).2:=congrArg Prod.snd e;refine⟨kk t,(Y t).1,(Y t).2,(sh.cG _).1 h.2 t,hr,fun fro g0 w0 hi hro=>?_⟩
   rw[← e1,← e2];exact(d fro g0 w0 hi hro).post hi hw
  ·exact main r g s k h hr
 |loop b ih=>
  intro ρ r g s k h hr;simp only[jP]at h;split at h
  ·rename_i m g1;simp only[G.run]at hr;obtain⟨g',o,s',h1,h2,hne,hrd⟩:=JC (ro:=X.ro) (fun g s k h hr=>ih r g s k h hr) m g1 s h hr
   refine⟨g',o,s',h1,h2,fun fro g0 w0 hi hro=>.loop hi (n:=m) (s0:=s) (fun m s=>Lr P H0 X.ro b m s o s') (fun s h=>h.elim) (.refl _ _) hrd ?_⟩
   rintro m s1 ⟨o1,s2,hd,hx⟩;refine(hd fro g0 w0 hi hro).mono fun o3 s3 ⟨e1,e2⟩=>?_
   subst e1;subst e2;refine⟨s3,.refl _ _,?_⟩;grind
  ·rename_i σ sh hd E Y a0 body kk;obtain⟨h0,hb,hx⟩:=h;simp only[G.run,Option.ite_none_right_eq_some]at hr;obtain⟨hok,hr⟩:=hr;cases ht:bZ (fun a=>(body a).run n) n a0 with
   |none=>rw[ht]at hr;cases hr
   |some t=>
    rw[ht]at hr;have hx:=(sh.cG _).1 hx t;obtain⟨_,h0,rfl⟩:=dA hok h0;refine⟨kk t,(Y t).1,(Y t).2,hx,by simpa using hr,fun fro g0 w0 hi hro=>.loop hi (n:=n) (s0:=E a0) (fun m s1=>∃a,s1=E a∧bZ (fun a=>(body a).run n) m a=some t) (fun s ⟨a,_,h⟩=>by simp[bZ]at h) h0 ⟨a0,rfl,ht⟩ ?_⟩
    rintro m s1 ⟨a,rfl,hit⟩;simp only[bZ]at hit;cases hq:(body a).run n with
    |none=>rw[hq]at hit;cases hit
    |some q=>
     rw[hq]at hit;obtain⟨g',o',s',h',hr',d'⟩:=QZ hNe (fun g h hr=>ih q g (E a) _ h hr) (hb a) hq
     refine(d' fro g0 w0 hi hro).mono fun o2 s2 ⟨e1,e2⟩=>?_
     grind [QY]
  ·simp[G.run]at hr
  ·exact nomatch h
 |exit id=>intro ρ r g s k h hr;exact⟨g,_,s,h,hr,fun _ _ _ _ _=>.exit ⟨rfl,rfl⟩⟩
 |ret=>intro ρ r g s k h hr;exact⟨g,_,s,h,hr,fun _ _ _ _ _=>.ret ⟨rfl,rfl⟩⟩
 |rangeFunc x ps as bd=>
  intro ρ r g s k h hr;simp only[jP]at h;obtain⟨s1,g1,hw,h,hr⟩:=Da h hr;split at h
  ·rename_i pr g2;obtain⟨_,h⟩:=h;simp only[G.run]at hr;split at h
   ·rename_i f p q hf;split at h
    ·rename_i l H1 D1 hen;rw[dz]at h;obtain⟨hpr,h⟩:=h;split at h
     ·rename_i ids rs hcl;simp only[cO]at h;obtain⟨hq,_⟩:=qx (Cu hpr) _ _ _ _ _ hcl;obtain⟨g3,a,H2,hk,hr3,hfn⟩:=hNe.fn h hr;have ho:=Bg hfn;have hran:∀out s',Cn (qR f (p++[.jd l]++q) (mask ids H1) a H2) X.ro 0 (dm s1.A x) ps as bd s1=some (out,s')→∀fro g0 w0,Inv g0 H0 w0→oV g0 X.ro fro→eP P fro g0 H0 w0 (.rangeFunc x ps as bd) s fun o1 s1=>o1=out∧s1=s':=by
       intro out s' hra fro g0 w0 hi hro;refine .weak hi hw fun Q g a w hs hl hp=>?_
       exact FU ho (hro.mono hl.ext) hra hs ((hp out s' ⟨rfl,rfl⟩).later hl)
      rcases wX hk with⟨e,hm,hk⟩ |⟨v,hm,hk⟩
      ·simp only[fm]at hk;split at hk
       ·rename_i out s' hend;refine⟨g3,out,s',hk,hr3,hran out s' ?_⟩;simp only[Cn,hf,hen,dz,hq,finish,fk,cO,qR,and_self,if_true,hm,mC,fm,hend]
       ·exact hk.elim
      ·refine⟨g3,_,_,hk,hr3,hran _ _ ?_⟩;simp only[Cn,hf,hen,dz,hq,finish,fk,cO,qR,and_self,if_true,hm]
     ·exact h.elim
    ·exact h.elim
   ·exact h.elim
  ·simp[G.run]at hr
  ·exact nomatch h
 |_=>intro ρ r g s k h hr;exact h.elim
theorem k9{F:Fence}{fn:Func}{tmps:Array Value}{R R':Ending→World→Prop}(hR:∀e w,R e w→R' e w):∀{ds:List Deferred} {m:Nat} {u:FrameMode} {w:World},LeavesInM F m P fn tmps R ds u w→LeavesInM F m P fn tmps R' ds u w
 | [],m,u,w,h=>by
  cases u with
  |run=>exact h
  |returning=>obtain⟨v,h1,h2⟩:=h;exact⟨v,h1,hR _ _ h2⟩
  |panicking chain=>exact hR _ _ h
 |d::ds,m,u,w,h=>by
  obtain⟨hrun,h⟩:=h;refine⟨hrun,?_⟩;rcases h with⟨r,w',htar,htake,hrest⟩ |⟨hn,fv,cap,f,args,htar,hinv,hlead,hcall⟩
  ·exact .inl ⟨r,w',htar,htake,k9 hR hrest⟩
  ·refine .inr ⟨hn,fv,cap,f,args,htar,hinv,hlead,hcall.mono fun e u' w' h=>?_⟩
   cases e with
   |returned v=>exact k9 hR h
   |panicked chain=>exact k9 hR h
   |outgrown=>exact hR _ _ h
theorem JE{L:Nat}{fn:Func}{m:Option AVal}{s:St}{r':aP}{H1:List aa}(h:zu P cfg L fn m s=some (r',H1)):
 ∃m' H' r,leave P cfg wV L s.D m s.H=some (m',H')∧ending P fn s.A m' H'=some (r,H1)∧(∀v,r=.ret v→r'=.ret (jY v))∧(∀v,r=.bf v→r'=.bf v):=by
 grind [zu]
theorem bz.of(hm : P.follows .mixedOrders = true)(hN : ∀ (f : FuncId) (fn : Func), P.funcs[f]? = some fn → fn.name ≠ "runtime.NumGoroutine"){L : Nat}{f : FuncId}{fn : Func}{c : Code}{args : List AVal}{H0 H1 : List aa}{a : aP}{o : bu}{s s' : St}
 (hf:P.funcs[f]? =some fn) (hb:fn.body=some c) (hd:∀g0 w0,Inv g0 H0 w0→eP P none g0 H0 w0 c ⟨lX fn.ntmps args,H0,[]⟩ fun o1 s1=>o1=o∧s1=s) (hwk:iJ H0 s s') (hlo:pV P cfg L fn o s'=some (a,H1)):bz P f args H0 a H1:=by
 refine⟨⟨fn,c,hf,hb,hN f fn hf⟩,fun gh w vs hi hl=>callsIn_wide.1 (callsIn_of_wp_marks (F:=Fr none) (n:=0) hf hb trivial ?_)⟩
 have hsim:eD gh ⟨lX fn.ntmps args,H0,[]⟩ {tmps:=vs++Array.replicate (fn.ntmps - vs.size) undef,defers:=[]} w:=⟨hi,wU hl _,rfl⟩;refine hd gh w hi _ gh _ w hsim (aX.refl _ _ _) fun o1 s1 ⟨e1,e2⟩=>?_
 subst e1;subst e2;refine eO.weak hi hwk ?_;have key:∀(m:Option AVal) (u:FrameMode),zu P cfg L fn m s'=some (a,H1)→∀g' a' w',eD g' s' a' w'→aX gh H0 w g' s'.H w'→oA g' w' m u→
  LeavesInM (Fr none) 0 P fn a'.tmps (eC gh H0 w a H1) a'.defers u w':=by
  intro m u hla g' a' w' hs' hlat hmo;obtain⟨m',H',rr,h1,h2,h3,h4⟩:=JE hla;refine k9 ?_ (lP hm hN tq s'.D a'.defers m u s'.H g' w' m' H' hs'.defs hs'.inv hs'.tmps hmo h1 h2 hlat);rintro e w2 ⟨g2,hi2,hla2,he2⟩;refine⟨g2,hi2,hla2,?_⟩;cases rr with
  |ret v=>rw[h3 v rfl];obtain⟨x,rfl,hx⟩:=he2;exact⟨x,rfl,Hj _ _ hx⟩
  |bf v=>rw[h4 v rfl];exact he2
 cases o1 with
 |normal=>exact fun g' a' w' hs' hlat=>key none .returning hlo g' a' w' hs' hlat rfl
 |ret=>exact fun g' a' w' hs' hlat=>key none .returning hlo g' a' w' hs' hlat rfl
 |exit id=>simp[pV]at hlo
 |bf v=>exact fun g' a' w' x hv hs' hlat hrx=>key (some v) (.panicking [{v:=x,recovered:=false}]) hlo g' a' w' hs' hlat ⟨hv,x,rfl,hrx⟩
theorem Db{L:Nat}{fn:Func}{m:Option AVal}{s:St}{a:aP}{H1:List aa}(h:zu P cfg L fn m s=some (a,H1)):∀v,a=.bf v→v.flat=true:=by
 grind [zu]
theorem F2{L:Nat}{fn:Func}{o:bu}{s:St}{a:aP}{H1:List aa}(h:pV P cfg L fn o s=some (a,H1)):∀v,a=.bf v→v.flat=true:=by
 cases o with
 |normal=>exact Db h
 |ret=>exact Db h
 |exit id=>simp[pV]at h
 |bf v=>exact Db h
theorem Ab{nd : Bool}(hm : P.follows .mixedOrders = true)(hN : ∀ (f : FuncId) (fn : Func), P.funcs[f]? = some fn → fn.name ≠ "runtime.NumGoroutine") : ∀ d, pW P (kU P cfg nd d)
 | 0=>⟨fun h=>h.elim,fun h=>h.elim,fun h=>h.elim⟩
 |d+1=>by
  have ih:=Ab (nd:=nd) hm hN d;constructor
  ·intro ρ n f args H g k r h hr;simp only[kU,T6]at h;split at h
   ·exact NR h hr
   split at h
   ·rename_i fn hf;split at h
    ·rename_i c hb;obtain⟨g1,o,s1,h,hr,hd⟩:=w9 (X:=⟨cfg,none,kU P cfg nd d,nd⟩) hm ih c r g _ _ h hr;unfold SQ at h;split at h
     ·rename_i ts pr g2;simp only[G.run,Option.ite_none_right_eq_some]at hr;obtain⟨s',hw,h⟩:=dA hr.1 h;split at h
      ·rename_i a H1 hla;have hfn:=bz.of hm hN hf hb (fun g0 w0 hi=>hd none g0 w0 hi trivial) hw hla
       obtain⟨_,hpr,h⟩:=h;grind [dz,bz.trim,F2,Cu]
      ·exact h.elim
     ·simp[G.run]at hr
     ·exact nomatch h
    ·exact h.elim
   ·exact h.elim
  ·intro ρ n b args H g k r h hr;simp only[kU,SS]at h;split at h
   ·rename_i st pend fid A ps assign body hb;split at h
    ·rename_i hlen;have hlen:=Nat.eq_of_beq_eq_true hlen;obtain⟨g1,o1,s1,h,hr,hd1⟩:=w9 (X:=⟨cfg,some b,kU P cfg nd d,nd⟩) hm ih assign r g _ _ h hr;split at h
     ·split at h
      ·rename_i pend1 fid1 A1 ps1 as1 bd1 hb1;rw[dz]at h;obtain⟨g2,o2,s2,h,hr,hd2⟩:=w9 (X:=⟨cfg,some b,kU P cfg nd d,nd⟩) hm ih body r g1 _ _ h hr;unfold SR at h;split at h
       ·rename_i j hj;split at h
        ·rename_i ts g3;simp only[G.run,Option.ite_none_right_eq_some]at hr;obtain⟨s3,hw,h⟩:=dA hr.1 h;split at h
         ·rename_i H2 hmk;refine⟨g3,_,H2,h,hr.2,fun gh w vs k sz hi hl hk=>?_⟩
          obtain⟨k0,tmps0,dk0,fn0,q1,q2,q3⟩:=hi.good b _ hb;rw[hk]at q1;simp only[Option.some.injEq,Prod.mk.injEq]at q1;obtain⟨rfl,rfl⟩:=q1;have hvs:=(dD _ _ hl).1;refine⟨_,q2,by grind,?_⟩
          rw[zW _ ps vs rfl];have hsim:eD gh ⟨ud A ps args,H,[]⟩ {tmps:=(ps.zip vs.toList).foldl (fun(tmps:Array Value) (p:Tmp×Value)=>tmps.setIfInBounds p.1 p.2) tmps0,defers:=[]} w:=
           ⟨hi,Bb ps args A _ tmps0 q3 hl,rfl⟩
          refine roundIn_of_wpIn trivial ?_;refine hd1 (some k) gh w hi ⟨0,hk⟩ _ gh _ w hsim (aX.refl _ _ _) fun oo ss ⟨e1,e2⟩=>?_
          subst e1;subst e2;intro gg1 a1 w1 hs1 hla1;have hk1:=hla1.ext.ah _ _ _ hk;obtain⟨k1,tmps1,dk1,fn1,u1,u2,u3⟩:=hs1.inv.good b _ hb1;rw[hk1]at u1;simp only[Option.some.injEq,Prod.mk.injEq]at u1;obtain⟨rfl,-⟩:=u1;refine⟨_,run_beginRound u2 rfl,?_⟩;obtain⟨i2,l2⟩:=hs1.inv.put (y:=.loop .busy pend1 fid1 A1 ps1 as1 bd1)
           (ob:=.loop {state:=.busy,pending:=pend1,fn:=fn1,tmps:=tmps1,params:=ps1.toArray,assign:=as1,body:=bd1,defers:=dk1}) hb1 rfl hk1 rfl (uf u2)
           fun hext=>⟨_,tmps1,dk1,fn1,hk1,World.putObj_heap_same (Array.getElem?_eq_some_iff.1 u2).1,cc hext _ _ u3⟩
          have hsim2:eD gg1 {ss with H:=ss.H.set b (.loop .busy pend1 fid1 A1 ps1 as1 bd1)} a1 (w1.putObj k (.loop {state:=.busy,pending:=pend1,fn:=fn1,tmps:=tmps1,params:=ps1.toArray,assign:=as1,body:=bd1,defers:=dk1})):=
           ⟨i2,cc l2.ext _ _ hs1.tmps,ej l2.ext _ _ hs1.defs⟩
          refine hd2 (some k) gh w hi ⟨0,hk⟩ _ gg1 a1 _ hsim2 (hla1.trans l2) fun oo2 ss2 ⟨e1,e2⟩=>?_
          subst e1;subst e2;refine eO.weak hi hw ?_;have hend:∀g' a' w',eD g' s3 a' w'→aX gh H w g' s3.H w'→
           ∃v w'',(Instr.endRound k j).run P w'=.ok v w''∧eC gh H w (.ret (.sc (.bool j.isNone))) H2 (.returned v) w'':=by
           intro g' a' w' hs' hla';obtain⟨rr,e1,e2,e3⟩:=zX hs'.inv (hla'.ext.ah _ _ _ hk) hmk;exact⟨_,_,run_endRound j e1,g',e2,hla'.trans e3,_,rfl,by simp[R]⟩
          cases oo2 with
          |normal=>
           simp only[rU,Option.some.injEq]at hj;subst hj;exact fun g' a' w' h1 h2=>hend g' a' w' h1 h2
          |ret=>
           simp only[rU,Option.some.injEq]at hj;subst hj;exact fun g' a' w' h1 h2=>hend g' a' w' h1 h2
          |exit id=>
           simp only[rU,Option.some.injEq]at hj;subst hj;exact fun g' a' w' h1 h2=>hend g' a' w' h1 h2
          |bf v=>cases hj
         ·exact h.elim
        ·simp[G.run]at hr
        ·exact nomatch h
       ·exact h.elim
      ·exact h.elim
     ·exact h.elim
    ·exact h.elim
   ·exact h.elim
  ·intro σ sh n ro H0 b g E s Y q h hr;obtain⟨h⟩:=h;exact w9 (X:=⟨cfg,ro,kU P cfg nd d,nd⟩) hm ih b q g s _ h hr
end
end Go.AM
end
section
namespace Go.AM
section
set_option linter.unusedSectionVars false
variable [aD] {P:Program} {cfg:dL}
def Dc(P:Program)[aD](cfg:dL)(L:Nat)(fn:Func)(m:Option AVal)(s:St):Option aP:=
 match leave P cfg wV L s.D m s.H with
 |some (m',H')=>match ending P fn s.A m' H' with
  |some (.ret v,H1)=>match(snap kq v).run H1 with
   |some v'=>some (.ret (jY v'))
   |none=>none
  |some (.bf v,_)=>match v.flat with
   |true=>some (.bf v)
   |false=>none
  |none=>none
 |none=>none
def Hs(P:Program)[aD](cfg:dL)(L:Nat)(fn:Func)(o:bu)(s:St):Option aP:=
 match o with
 | .normal=>Dc P cfg L fn none s
 | .ret=>Dc P cfg L fn none s
 | .bf v=>Dc P cfg L fn (some v) s
 | .exit _=>none
def II{ρ:Type}(P:Program)[aD](cfg:dL)(L:Nat)(fn:Func)(out:ρ→aP)(g:G P ρ)(o:bu)(s:St):Prop:=
 match g with
 | .done ts r=>jS [] ts s fun s=>Hs P cfg L fn o s=some (out r)
 | .fail=>True
 |_=>Wh P fn o s out
def NS{ρ:Type}(P:Program)[aD](cfg:dL)(L:Nat)(f:FuncId)(args:List AVal)(out:ρ→aP)(g:G P ρ):Prop:=
 match P.funcs[f]? with
 |some fn=>match fn.body with
  |some c=>jP P (IG P cfg) [] c g ⟨lX fn.ntmps args,[],[]⟩ fun g o s=>II P cfg L fn out g o s
  |none=>False
 |none=>False
def Ht{ρ:Type}(out:ρ→aP)(r:ρ):Prop:=some (out r)=some (out r)
theorem SV{n L:Nat}{ρ:Type}{fn:Func}{out:ρ→aP}{g:G P ρ}{o:bu}{s:St}{r:ρ}(h:II P cfg L fn out g o s)(hr:g.run n=some r):∃s',iJ [] s s'∧Hs P cfg L fn o s'=some (out r):=by
 unfold II at h;split at h
 ·simp only[G.run,Option.ite_none_right_eq_some,Option.some.injEq]at hr;obtain⟨hok,rfl⟩:=hr;exact dA hok h
 ·simp[G.run]at hr
 ·exact nomatch h
theorem Hu{g g':Gh}{w w':World}{H1:List aa}{r r':aP}{e:Ending}(hi:Inv g [] w)(hi':Inv g' H1 w')(hla:aX g [] w g' H1 w')(hl:(∀v,r=.ret v→∃v',(snap kq v).run H1=some v'∧r'=.ret (jY v'))∧(∀v,r=.bf v→v.flat=true∧r'=.bf v))
 (he:T2 g' w' r e):eC g [] w r' [] e w':=by
 refine⟨cN g' H1,hi'.cN,⟨⟨fun b ai x hx=>?_,fun k o hk=>.inl (hla.ext.st k o hk),hla.ext.cell,hla.ext.shape⟩,hla.size,hla.keep,fun k _ ho=>absurd ho eU,Nat.le_refl _,hla.os,hla.tape,hla.output,fun k o hk hst=>?_,fun b hb=>by simp at hb,fun b ai k z h=>by cases h⟩,?_⟩
 ·rw[hi.fresh b ai (.inr (by simp))]at hx;cases hx
 ·rcases hst with hst |hst
  ·exact(hla.stk k o hk hst).imp_right fun h=>absurd h.1 eU
  ·exact absurd (hla.own k hk hst) eU
 ·cases r with
  |ret v=>
   obtain⟨v',hs,rfl⟩:=hl.1 v rfl;obtain⟨x,rfl,hr⟩:=he;exact⟨x,rfl,Hj _ _ (qt hi' _ _ _ _ hs hr).1⟩
  |bf v=>
   obtain⟨hf,rfl⟩:=hl.2 v rfl;obtain⟨x,rfl,hr⟩:=he;exact⟨x,rfl,lY _ _ hf hr⟩
theorem JF{L:Nat}{fn:Func}{m:Option AVal}{s:St}{r':aP}(h:Dc P cfg L fn m s=some r'):
 ∃m' H' r H1,leave P cfg wV L s.D m s.H=some (m',H')∧ending P fn s.A m' H'=some (r,H1)∧(∀v,r=.ret v→∃v',(snap kq v).run H1=some v'∧r'=.ret (jY v'))∧(∀v,r=.bf v→v.flat=true∧r'=.bf v):=by
 unfold Dc at h;split at h
 ·rename_i m' H' hl;split at h
  ·rename_i v H1 he;split at h
   ·rename_i v' hs;simp only[Option.some.injEq]at h;subst h;refine⟨m',H',_,H1,hl,he,?_,?_⟩
    ·intro u hu;cases hu;exact⟨v',hs,rfl⟩
    ·intro u hu;cases hu
   ·cases h
  ·rename_i v H1 he;split at h
   ·rename_i hf;simp only[Option.some.injEq]at h;subst h;refine⟨m',H',_,H1,hl,he,?_,?_⟩
    ·intro u hu;cases hu
    ·intro u hu;cases hu;exact⟨hf,rfl⟩
   ·cases h
  ·cases h
 ·cases h
theorem Bh(hm : P.follows .mixedOrders = true)(hN : ∀ (f : FuncId) (fn : Func), P.funcs[f]? = some fn → fn.name ≠ "runtime.NumGoroutine"){L : Nat}{f : FuncId}{args : List AVal}{ρ : Type}{out : ρ → aP}{g : G P ρ}
 (h:NS P cfg L f args out g) {n:Nat} {r:ρ} (hr:g.run n=some r):iQ P f args (out r):=by
 unfold NS at h;split at h
 ·rename_i fn hf;split at h
  ·rename_i c hb;refine⟨⟨fn,c,hf,hb,hN f fn hf⟩,fun gh w vs hi hl=>callsIn_wide.1 (callsIn_of_wp_marks (F:=Fr none) (n:=0) hf hb trivial ?_)⟩
   have hsim:eD gh ⟨lX fn.ntmps args,[],[]⟩ {tmps:=vs++Array.replicate (fn.ntmps - vs.size) undef,defers:=[]} w:=⟨hi,wU hl _,rfl⟩;obtain⟨g',o,s1,h',hr',hd⟩:=w9 (X:=IG P cfg) hm (Ab hm hN 9) c r g _ _ h hr;obtain⟨s',hwk,hlo⟩:=SV h' hr';refine hd none gh w hi trivial _ gh _ w hsim (aX.refl _ _ _) fun o1 s1 ⟨e1,e2⟩=>?_
   subst e1;subst e2;refine eO.weak hi hwk ?_;have key:∀(m:Option AVal) (u:FrameMode),Dc P cfg L fn m s'=some (out r)→∀g' a' w',eD g' s' a' w'→aX gh [] w g' s'.H w'→oA g' w' m u→
    LeavesInM (Fr none) 0 P fn a'.tmps (eC gh [] w (out r) []) a'.defers u w':=by
    intro m u hla g' a' w' hs' hlat hmo;obtain⟨m',H',rr,H1,h1,h2,h3⟩:=JF hla;refine k9 ?_ (lP hm hN tq s'.D a'.defers m u s'.H g' w' m' H' hs'.defs hs'.inv hs'.tmps hmo h1 h2 hlat);rintro e w2 ⟨g2,hi2,hla2,he2⟩;exact Hu hi hi2 hla2 h3 he2
   cases o1 with
   |normal=>exact fun g' a' w' hs' hlat=>key none .returning hlo g' a' w' hs' hlat rfl
   |ret=>exact fun g' a' w' hs' hlat=>key none .returning hlo g' a' w' hs' hlat rfl
   |exit id=>simp[Hs]at hlo
   |bf v=>exact fun g' a' w' x hv hs' hlat hrx=>key (some v) (.panicking [{v:=x,recovered:=false}]) hlo g' a' w' hs' hlat ⟨hv,x,rfl,hrx⟩
  ·exact h.elim
 ·exact h.elim
inductive Q0 (P:Program) [aD] {ρ:Type} (fn:Func) (o:bu) (s:St) (H0:List aa) (out:ρ→aP×List aa):Prop
def Pc(n:Nat):Option (aP×List aa)→Option (aP×List aa)
 |some (a,H)=>some (a,H.take n)
 |none=>none
def Pd{ρ:Type}(P:Program)[aD](cfg:dL)(L:Nat)(fn:Func)(H0:List aa)(out:ρ→aP×List aa)(g:G P ρ)(o:bu)(s:St):Prop:=
 match g with
 | .done ts r=>jS H0 ts s fun s=>Pc H0.length (pV P cfg L fn o s)=some (out r)
 | .fail=>True
 |_=>Q0 P fn o s H0 out
def Ls{ρ:Type}(P:Program)[aD](cfg:dL)(L:Nat)(f:FuncId)(args:List AVal)(H0:List aa)(out:ρ→aP×List aa)(g:G P ρ):Prop:=
 match P.funcs[f]? with
 |some fn=>match fn.body with
  |some c=>jP P (IG P cfg) H0 c g ⟨lX fn.ntmps args,H0,[]⟩ fun g o s=>Pd P cfg L fn H0 out g o s
  |none=>False
 |none=>False
def Bi{ρ:Type}(out:ρ→aP×List aa)(r:ρ):Prop:=some (out r)=some (out r)
theorem Q1{n L:Nat}{ρ:Type}{fn:Func}{H0:List aa}{out:ρ→aP×List aa}{g:G P ρ}{o:bu}{s:St}{r:ρ}(h:Pd P cfg L fn H0 out g o s)(hr:g.run n=some r):∃s',iJ H0 s s'∧Pc H0.length (pV P cfg L fn o s')=some (out r):=by
 unfold Pd at h;split at h
 ·simp only[G.run,Option.ite_none_right_eq_some,Option.some.injEq]at hr;obtain⟨hok,rfl⟩:=hr;exact dA hok h
 ·simp[G.run]at hr
 ·exact nomatch h
theorem Dd(hm : P.follows .mixedOrders = true)(hN : ∀ (f : FuncId) (fn : Func), P.funcs[f]? = some fn → fn.name ≠ "runtime.NumGoroutine"){L : Nat}{f : FuncId}{args : List AVal}{H0 : List aa}{ρ : Type}{out : ρ → aP × List aa}{g : G P ρ}
 (h:Ls P cfg L f args H0 out g) {n:Nat} {r:ρ} (hr:g.run n=some r) (h0:0<H0.length) (ha:(out r).1.wL=true) (hrow:∀x∈(out r).2,x.jt=true∨x=.dead):bz P f args H0 (out r).1 (out r).2:=by
 unfold Ls at h;split at h
 ·rename_i fn hf;split at h
  ·rename_i c hb;obtain⟨g',o,s1,h',hr',hd⟩:=w9 (X:=IG P cfg) hm (Ab hm hN 9) c r g _ _ h hr;obtain⟨s',hwk,hlo⟩:=Q1 h' hr';cases hl:pV P cfg L fn o s' with
   |none=>rw[hl]at hlo;cases hlo
   |some p=>
    obtain⟨a,H1⟩:=p;rw[hl]at hlo;simp only[Pc,Option.some.injEq]at hlo;have:=bz.of hm hN hf hb (fun g0 w0 hi=>hd none g0 w0 hi trivial) hwk hl
    rw[← hlo]at ha hrow ⊢;exact bz.take this h0 ha hrow
  ·exact h.elim
 ·exact h.elim
class Plain (P:Program):Prop where
 mixed:P.follows .mixedOrders=true
 names : ∀ (f : FuncId) (fn : Func), P.funcs[f]? = some fn → fn.name ≠ "runtime.NumGoroutine"
def aA.of[hp:Plain P](cfg:dL)(L:Nat)(f:FuncId)(X:Type)(args:X→List AVal)(sh:Sh)(out:sh.El→aP)(g:X→G P sh.El)(h:∀x,NS P cfg L f (args x) out (g x)=(g x).dV (Ht out)):aA P where
 f:=f
 X:=X
 args:=args
 sh:=sh
 out:=out
 S:=fun n x=>(g x).run n
 ok:=fun _ x _ hr=>Bh hp.mixed hp.names (by rw[h x];exact G.bL (fun _=>rfl) (g x)) hr
def cD.ofVar[hp:Plain P](cfg:dL)(L:Nat)(f:FuncId)(X:Type)(args:X→List AVal)(τ:Type)(sz:Nat)(enc:τ→List AVal)(b:X→τ)(sh:Sh)(out:sh.El→aP)(bo:sh.El→τ)(g:X→G P sh.El)
 (he:∀a,AVal.aT (enc a)=true) (ha:∀x,AVal.mZ (args x)=true) (hr:sh.all fun r=>(out r).wL=true)
 (h:∀x,Ls P cfg L f (args x) [.row 0 sz [enc (b x)]] (fun r=>(out r,[.row 0 sz [enc (bo r)]])) (g x)=(g x).dV (Bi fun r=>(out r,[.row 0 sz [enc (bo r)]]))):cD P where
 f:=f
 X:=X
 args:=args
 blk:=fun x=>.row 0 sz [enc (b x)]
 sh:=sh
 out:=out
 o5:=fun _ r=>.row 0 sz [enc (bo r)]
 S:=fun n x=>(g x).run n
 a0:=ha
 b0:=fun x=>by simp[aa.jt,he]
 b1:=fun _ r=>.inl (by simp[aa.jt,he])
 r0:=fun r=>(sh.cG _).1 hr r
 ok:=fun _ x r hr'=>Dd hp.mixed hp.names (out:=fun r=>(out r,[.row 0 sz [enc (bo r)]])) (by rw[h x];exact G.bL (fun _=>rfl) (g x)) hr' (Nat.zero_lt_succ _) ((sh.cG _).1 hr r) fun y hy=>by
  simp only[List.mem_singleton]at hy;subst hy;exact .inl (by simp[aa.jt,he])
def cD.sj[hp:Plain P](cfg:dL)(L:Nat)(f:FuncId)(X:Type)(args:X→List AVal)(τ:Type)(sz:Nat)(enc:τ→List AVal)(b:X→List τ)(sh:Sh)(out:sh.El→aP)(bo:sh.El→List τ)(g:X→G P sh.El)
 (he:∀a,AVal.aT (enc a)=true) (ha:∀x,AVal.mZ (args x)=true) (hr:sh.all fun r=>(out r).wL=true)
 (h:∀x,Ls P cfg L f (args x) [.row 0 sz ((b x).map enc)] (fun r=>(out r,[.row 0 sz ((bo r).map enc)])) (g x)=(g x).dV (Bi fun r=>(out r,[.row 0 sz ((bo r).map enc)]))):cD P where
 f:=f
 X:=X
 args:=args
 blk:=fun x=>.row 0 sz ((b x).map enc)
 sh:=sh
 out:=out
 o5:=fun _ r=>.row 0 sz ((bo r).map enc)
 S:=fun n x=>(g x).run n
 a0:=ha
 b0:=fun x=>by simp[aa.jt,he]
 b1:=fun _ r=>.inl (by simp[aa.jt,he])
 r0:=fun r=>(sh.cG _).1 hr r
 ok:=fun _ x r hr'=>Dd hp.mixed hp.names (out:=fun r=>(out r,[.row 0 sz ((bo r).map enc)])) (by rw[h x];exact G.bL (fun _=>rfl) (g x)) hr' (Nat.zero_lt_succ _) ((sh.cG _).1 hr r) fun y hy=>by
  simp only[List.mem_singleton]at hy;subst hy;exact .inl (by simp[aa.jt,he])
def cD.Uv[hp:Plain P](cfg:dL)(L:Nat)(f:FuncId)(X:Type)(args:X→List AVal)(τ:Type)(sz:Nat)(enc:τ→List AVal)(b:X→List τ)(sh:Sh)(out:sh.El→aP)(g:X→G P sh.El)
 (he:∀a,AVal.aT (enc a)=true) (ha:∀x,AVal.mZ (args x)=true) (hr:sh.all fun r=>(out r).wL=true)
 (h:∀x,Ls P cfg L f (args x) [.row 0 sz ((b x).map enc)] (fun r=>(out r,[.dead])) (g x)=(g x).dV (Bi fun r=>(out r,[.dead]))):cD P where
 f:=f
 X:=X
 args:=args
 blk:=fun x=>.row 0 sz ((b x).map enc)
 sh:=sh
 out:=out
 o5:=fun _ _=>.dead
 S:=fun n x=>(g x).run n
 a0:=ha
 b0:=fun x=>by simp[aa.jt,he]
 b1:=fun _ _=>.inr rfl
 r0:=fun r=>(sh.cG _).1 hr r
 ok:=fun _ x r hr'=>Dd hp.mixed hp.names (out:=fun r=>(out r,[.dead])) (by rw[h x];exact G.bL (fun _=>rfl) (g x)) hr' (Nat.zero_lt_succ _) ((sh.cG _).1 hr r) fun y hy=>by
  simp only[List.mem_singleton]at hy;subst hy;exact .inr rfl
theorem iQ.Lt{f:FuncId}{r:aP}(h0:iQ P f [.nz true] r)(h1:iQ P f [.nz false] r):iQ P f [.aj []] r:=by
 refine⟨h0.1,fun g w vs hi hl=>?_⟩
 obtain⟨x,xs,hv,hx,hl'⟩:=hl;simp only[R]at hx;obtain⟨a,cap,rfl,_,_⟩:=hx;by_cases ha:a.isNone=true
 ·exact h0.2 g w vs hi (by rw[hv];exact⟨_,_,rfl,by simp only[R];exact⟨a,cap,rfl,ha⟩,hl'⟩)
 ·exact h1.2 g w vs hi (by rw[hv];exact⟨_,_,rfl,by simp only[R];exact⟨a,cap,rfl,by cases a<;>simp_all⟩,hl'⟩)
def aA.Pe[hp:Plain P](cfg:dL)(L:Nat)(f:FuncId)(α:Type)(enc:α→List AVal)(sh:Sh)(out:sh.El→aP)(g:List α→G P sh.El)(g0 g1:G P sh.El)(r:sh.El)(e0:g0.run 0=some r)(e1:g1.run 0=some r)
 (h:∀x,NS P cfg L f [.aj (x.map enc)] out (g x)=(g x).dV (Ht out)) (h0:NS P cfg L f [.nz true] out g0=g0.dV (Ht out)) (h1:NS P cfg L f [.nz false] out g1=g1.dV (Ht out)):aA P where
 f:=f
 X:=List α
 args:=fun x=>[.aj (x.map enc)]
 sh:=sh
 out:=out
 S:=fun n x=>match x with
  | []=>some r
  |_::_=>(g x).run n
 ok:=fun n x q hr=>by
  cases x with
  |nil=>
   simp only[Option.some.injEq]at hr;subst hr;exact iQ.Lt (Bh hp.mixed hp.names (by rw[h0];exact G.bL (fun _=>rfl) g0) e0) (Bh hp.mixed hp.names (by rw[h1];exact G.bL (fun _=>rfl) g1) e1)
  |cons y ys=>exact Bh hp.mixed hp.names (by rw[h (y::ys)];exact G.bL (fun _=>rfl) (g (y::ys))) hr
end
end Go.AM
end
section
namespace Go.AM
def l6(P:Program)(T:TypeId):Option Nat:=match P.underlying T with
 |some (.slice e)=>dh P e
 |_=>none
def intOf:AVal→Option Int
 | .sc (.int _ n)=>some n
 |_=>none
theorem ku{v:AVal}{n:Int}(h:intOf v=some n):∃k,v=.sc (.int k n):=by
 unfold intOf at h;grind
def gi{X:Type}(l:List X)(i:Int):Option X:=if 0≤i then l[i.toNat]? else none
theorem fU{P:Program}{T:TypeId}{n:Nat}(h:l6 P T=some n):∃e,P.underlying T=some (.slice e)∧dh P e=some n:=by
 grind [l6]
section
set_option linter.unusedSectionVars false
set_option linter.unusedSimpArgs false
def aV{X:Type}(l:List X)(enc:X→List AVal)(n:Nat)(i:Int):kO X where
 run:=gi l i
 bw x:={val:=.bK (enc x) 0}
 ids:=[]
 nZ gl P cfg nid op ah H:=match op with
  | .indexAddr T a b=>ah a=.aj (l.map enc)∧intOf (ah b)=some i∧l6 P T=some n∧∀x,(enc x).length=n
  |_=>False
 gR:=AVal.aj (l.map enc)=AVal.aj (l.map enc)∧some i=some i∧some n=some n∧∀_:X,n=n
 holds:=⟨rfl,rfl,rfl,fun _=>rfl⟩
 sound gl P cfg nid op ah H h x hx:=by
  cases op<;>try exact h.elim
  rename_i T a b;obtain⟨h1,h2,h3,h4⟩:=h;obtain⟨k,h2⟩:=ku h2;obtain⟨e,e1,e2⟩:=fU h3;unfold gi at hx;split at hx
  ·rename_i h0;simp[bF,cH,cA,h2,h1,ou,e1,e2,h0,hx,h4,yields,Rd.bind,Rd.run,Rd.reads]
  ·cases hx
def aM{X:Type}(l:List X)(enc:X→List AVal):kO Unit where
 run:=some ()
 bw _:={val:=.sc (.int .i64 l.length)}
 ids:=[]
 nZ gl P cfg nid op ah H:=match op with
  | .call {callee:=.builtin .len,args,argTypes}=>match argTypes[0]?,args[0]? with
   |some T,some x=> @Eq Bool (l6 P T).isSome true∧ah x=.aj (l.map enc)
   |_,_=>False
  |_=>False
 gR:=(@Eq Bool true true)∧AVal.aj (l.map enc)=AVal.aj (l.map enc)
 holds:=⟨by rfl,by rfl⟩
 sound gl P cfg nid op ah H h x hx:=by
  split at h
  ·split at h
   ·rename_i args argTypes _ _ T x hT ha;obtain⟨h1,h2⟩:=h;obtain⟨n,hn⟩:=Option.isSome_iff_exists.1 h1;obtain⟨e,e1,e2⟩:=fU hn;grind [bF,cH,cA,rM,Rd.bind,Rd.run,Rd.reads]
   ·exact h.elim
  ·exact h.elim
def Lu{X:Type}(l:List X)(enc:X→List AVal)(eq:Bool):kO Unit where
 run:=if l.isEmpty then none else some ()
 bw _:={val:=.sc (.bool (!eq))}
 ids:=[]
 nZ gl P cfg nid op ah H:=match op with
  | .binOp bop T a b _=>(match bop with | .eql=>eq | .neq=> !eq |_=>false)=true∧rO b=true∧ah a=.aj (l.map enc)∧(match P.underlying T with |some (.slice _)=>true |_=>false)=true
  |_=>False
 gR:=(@Eq Bool true true)∧(@Eq Bool true true)∧AVal.aj (l.map enc)=AVal.aj (l.map enc)∧(@Eq Bool true true)
 holds:=⟨rfl,rfl,rfl,rfl⟩
 sound gl P cfg nid op ah H h x hx:=by
  cases op<;>try exact h.elim
  rename_i bop T a b sz;obtain⟨h1,h2,h3,h4⟩:=h;have hb:=DG h2;subst hb;cases l with
  |nil=>simp at hx
  |cons y ys=>
   split at h4
   ·rename_i e he;cases bop<;>simp at h1<;>subst h1<;>simp[bF,cH,cA,rO,Cf,he,h3,Ku,yields,Rd.bind,Rd.run,Rd.reads]
   ·cases h4
def Q2(P:Program)(T:TypeId):Option (Nat×Nat×Bool):=match P.info? T with
 |some i=>some (i.size,i.bytes,k7 i)
 |none=>none
def qy(P:Program)(T:TypeId):Option (Nat×Nat×Bool):=match P.underlying T with
 |some (.slice e)=>Q2 P e
 |_=>none
theorem mQ{P:Program}{T:TypeId}{n by_:Nat}{z:Bool}(h:qy P T=some (n,by_,z)):∃e i,P.underlying T=some (.slice e)∧P.info? e=some i∧i.size=n∧i.bytes=by_∧k7 i=z:=by
 grind [qy,Q2]
theorem run_bind'{α β:Type}{H:List aa}{m:Rd α}{f:α→Rd β}{x:α}(h:m.run H=some x):(m.bind f).run H=(f x).run H:=by
 induction m with
 |fail=>simp[Rd.run]at h
 |done a=>simp[Rd.run]at h;subst h;rfl
 |get b k ih=>
  grind [Rd.run,Rd.bind]
def fu{X:Type}(len:Nat)(l m:List X)(enc:X→List AVal)(n by_ b ai nid0:Nat)(eids:List Nat):kO Unit where
 run:=if len=l.length∧roomy (l.length+m.length) by_=true then some ()else none
 bw _:={val:=.sl b (ai+1) n 0 (l++m).length,dH:=[(b,.row (ai+1) n ((l++m).map enc))]}
 ids:=nid0::(eids++[b])
 nZ gl P cfg nid op ah H:=match op with
  | .call {callee:=.builtin .append,args,argTypes}=>match argTypes[0]?,argTypes[1]?,args[0]?,args[1]? with
   |some ST,some XT,some s,some x=>nid=nid0∧H[nid]? =some .aZ∧decide (args.size=2)=true∧qy P ST=some (n,by_,true)∧(l6 P XT).isSome=true∧decide (0<n)=true∧ah s=.sl b ai n 0 len∧H[b]? =some (.row ai n (l.map enc))∧
    (elems (ah x)).run H=some (m.map enc)∧(elems (ah x)).reads H=eids∧∀x,(enc x).length=n
   |_,_,_,_=>False
  |_=>False
 gR:=nid0=nid0∧some aa.aZ=some aa.aZ∧ @Eq Bool true true∧some (n,by_,true)=some (n,by_,true)∧ @Eq Bool true true∧ @Eq Bool true true∧AVal.sl b ai n 0 len=AVal.sl b ai n 0 len∧some (aa.row ai n (l.map enc))=some (aa.row ai n (l.map enc))∧
  some (m.map enc)=some (m.map enc)∧eids=eids∧∀_:X,n=n
 holds:=by simp
 sound gl P cfg nid op ah H h x hx:=by
  split at h
  ·split at h
   ·rename_i args argTypes _ _ _ _ ST XT sx x hT hX hs hxx;obtain⟨rfl,hunb,h0,h1,h2,h3,h4,h5,h6,h6',h7⟩:=h;obtain⟨e,i,e1,e2,e3,e4,e5⟩:=mQ h1;obtain⟨n2,hn2⟩:=Option.isSome_iff_exists.1 h2;obtain⟨e',e6,_⟩:=fU hn2;simp only[decide_eq_true_eq]at h0 h3;split at hx
    ·rename_i hroom;obtain⟨rfl,hroom⟩:=hroom;have hz:i.size≠0:=by omega
     have hall:(m.map enc).all (fun r=>r.length==i.size)=true:=by
      simp only[List.all_map,List.all_eq_true];intro y _;simp[h7,e3]
     have hop:bF P cfg nid ah (.call {callee:=.builtin .append,args:=args,argTypes:=argTypes})=.get nid fun
      | .aZ=>(gX P nid ST XT (ah sx) (ah x)).bind fun e=>.done (.bw e)
      |_=>.fail:=by
      simp only[bF,cH,if_true,cA,hT,hX,hs,hxx,h0];congr 1
     have hap:gX P nid ST XT (ah sx) (ah x)=(elems (ah x)).bind fun new=>.get b fun
      | .row v sz rows=>if v=ai then(if 0=0∧l.length≤rows.length∧sz=i.size∧roomy (l.length+new.length) i.bytes=true∧new.all (fun r=>r.length==i.size)=true∧k7 i=true then
       .done {val:=.sl b (ai+1) sz 0 (l.length+new.length),dH:=[(b,.row (ai+1) sz (Gf l.length rows++new))]}else .fail)else .fail
      |_=>.fail:=by
      rw[h4];unfold gX;rw[e1,e6];simp only[e2,hz,if_false];congr 1
      funext new
      simp only[Rd.bind,rowOf];congr 1
      funext y
      cases y with
      |row v sz rows=>grind [Rd.bind]
      |_=>rfl
     rw[hop,hap];simp only[Rd.run,Rd.reads,hunb];have hb:∀{β:Type} (f:cU→Rd β) (g:List (List AVal)→Rd cU),(((elems (ah x)).bind g).bind f)=(elems (ah x)).bind fun n=>(g n).bind f:=by
      intro β f g;generalize elems (ah x)=q;induction q with
      |fail=>rfl
      |done a=>rfl
      |get b k ih=>simp only[Rd.bind,ih]
     grind [run_bind',oz,Rd.bind,Rd.run,Rd.reads,Ce]
    ·cases hx
   ·exact h.elim
  ·exact h.elim
def Ac{X:Type}(len:Nat)(l m:List X)(enc:X→List AVal)(n by_ b ai nid0:Nat)(eids:List Nat):kO Unit where
 run:=if len≤l.length∧roomy (len+m.length) by_=true then some ()else none
 bw _:={val:=.sl b (ai+1) n 0 (l.take len++m).length,dH:=[(b,.row (ai+1) n ((l.take len++m).map enc))]}
 ids:=nid0::(eids++[b])
 nZ gl P cfg nid op ah H:=match op with
  | .call {callee:=.builtin .append,args,argTypes}=>match argTypes[0]?,argTypes[1]?,args[0]?,args[1]? with
   |some ST,some XT,some s,some x=>nid=nid0∧H[nid]? =some .aZ∧decide (args.size=2)=true∧qy P ST=some (n,by_,true)∧(l6 P XT).isSome=true∧decide (0<n)=true∧ah s=.sl b ai n 0 len∧H[b]? =some (.row ai n (l.map enc))∧
    (elems (ah x)).run H=some (m.map enc)∧(elems (ah x)).reads H=eids∧∀x,(enc x).length=n
   |_,_,_,_=>False
  |_=>False
 gR:=nid0=nid0∧some aa.aZ=some aa.aZ∧ @Eq Bool true true∧some (n,by_,true)=some (n,by_,true)∧ @Eq Bool true true∧ @Eq Bool true true∧AVal.sl b ai n 0 len=AVal.sl b ai n 0 len∧some (aa.row ai n (l.map enc))=some (aa.row ai n (l.map enc))∧
  some (m.map enc)=some (m.map enc)∧eids=eids∧∀_:X,n=n
 holds:=by simp
 sound gl P cfg nid op ah H h x hx:=by
  split at h
  ·split at h
   ·rename_i args argTypes _ _ _ _ ST XT sx x hT hX hs hxx;obtain⟨rfl,hunb,h0,h1,h2,h3,h4,h5,h6,h6',h7⟩:=h;obtain⟨e,i,e1,e2,e3,e4,e5⟩:=mQ h1;obtain⟨n2,hn2⟩:=Option.isSome_iff_exists.1 h2;obtain⟨e',e6,_⟩:=fU hn2;simp only[decide_eq_true_eq]at h0 h3;split at hx
    ·rename_i hroom;obtain⟨hlen,hroom⟩:=hroom;have hz:i.size≠0:=by omega
     have hall:(m.map enc).all (fun r=>r.length==i.size)=true:=by
      simp only[List.all_map,List.all_eq_true];intro y _;simp[h7,e3]
     have hop:bF P cfg nid ah (.call {callee:=.builtin .append,args:=args,argTypes:=argTypes})=.get nid fun
      | .aZ=>(gX P nid ST XT (ah sx) (ah x)).bind fun e=>.done (.bw e)
      |_=>.fail:=by
      simp only[bF,cH,if_true,cA,hT,hX,hs,hxx,h0];congr 1
     have hap:gX P nid ST XT (ah sx) (ah x)=(elems (ah x)).bind fun new=>.get b fun
      | .row v sz rows=>if v=ai then(if 0=0∧len≤rows.length∧sz=i.size∧roomy (len+new.length) i.bytes=true∧new.all (fun r=>r.length==i.size)=true∧k7 i=true then
       .done {val:=.sl b (ai+1) sz 0 (len+new.length),dH:=[(b,.row (ai+1) sz (Gf len rows++new))]}else .fail)else .fail
      |_=>.fail:=by
      rw[h4];unfold gX;rw[e1,e6];simp only[e2,hz,if_false];congr 1
      funext new
      simp only[Rd.bind,rowOf];congr 1
      funext y
      cases y with
      |row v sz rows=>grind [Rd.bind]
      |_=>rfl
     rw[hop,hap];simp only[Rd.run,Rd.reads,hunb];have hb:∀{β:Type} (f:cU→Rd β) (g:List (List AVal)→Rd cU),(((elems (ah x)).bind g).bind f)=(elems (ah x)).bind fun n=>(g n).bind f:=by
      intro β f g;generalize elems (ah x)=q;induction q with
      |fail=>rfl
      |done a=>rfl
      |get b k ih=>simp only[Rd.bind,ih]
     rw[hb,run_bind' h6,oz h6,h6'];simp only[Rd.bind,Rd.run,Rd.reads,h5,if_true];rw[if_pos ⟨trivial,by simpa using hlen,e3.symm,by simpa[e4]using hroom,hall,e5⟩]
     rw[Ce _ _ (by simpa using hlen)]
     simp[Rd.bind,Rd.run,Rd.reads,List.map_take,Nat.min_eq_left hlen]
    ·cases hx
   ·exact h.elim
  ·exact h.elim
theorem Hv{X:Type}(l:List X)(enc:X→List AVal){x:AVal}{H:List aa}{b ai sz o n:Nat}(hx:x=.sl b ai sz o n)(hH:H[b]? =some (.row ai sz (l.map enc)))(hle:o+n≤l.length):
 (elems x).run H=some (((l.drop o).take n).map enc)∧(elems x).reads H=[b]:=by
 subst hx;simp[elems,rowOf,Rd.bind,Rd.run,Rd.reads,hH,hle,List.map_drop,List.map_take]
def rC{X:Type}(len:Nat)(l l2:List X)(b2 ver2 o2 n2:Nat)(enc:X→List AVal)(n by_ b ai nid0:Nat):kO Unit where
 run:=if(len=l.length∧o2+n2≤l2.length)∧roomy (l.length+n2) by_=true then some ()else none
 bw _:={val:=.sl b (ai+1) n 0 (l++(l2.drop o2).take n2).length,dH:=[(b,.row (ai+1) n ((l++(l2.drop o2).take n2).map enc))]}
 ids:=nid0::([b2]++[b])
 nZ gl P cfg nid op ah H:=match op with
  | .call {callee:=.builtin .append,args,argTypes}=>match argTypes[0]?,argTypes[1]?,args[0]?,args[1]? with
   |some ST,some XT,some s,some x=>nid=nid0∧H[nid]? =some .aZ∧decide (args.size=2)=true∧qy P ST=some (n,by_,true)∧(l6 P XT).isSome=true∧decide (0<n)=true∧ah s=.sl b ai n 0 len∧H[b]? =some (.row ai n (l.map enc))∧
    ah x=.sl b2 ver2 n o2 n2∧H[b2]? =some (.row ver2 n (l2.map enc))∧∀x,(enc x).length=n
   |_,_,_,_=>False
  |_=>False
 gR:=nid0=nid0∧some aa.aZ=some aa.aZ∧ @Eq Bool true true∧some (n,by_,true)=some (n,by_,true)∧ @Eq Bool true true∧ @Eq Bool true true∧AVal.sl b ai n 0 len=AVal.sl b ai n 0 len∧some (aa.row ai n (l.map enc))=some (aa.row ai n (l.map enc))∧
  AVal.sl b2 ver2 n o2 n2=AVal.sl b2 ver2 n o2 n2∧some (aa.row ver2 n (l2.map enc))=some (aa.row ver2 n (l2.map enc))∧∀_:X,n=n
 holds:=by simp
 sound gl P cfg nid op ah H h x hx:=by
  split at h
  ·split at h
   ·rename_i args argTypes _ _ _ _ ST XT sx x hT hX hs hxx;obtain⟨rfl,hunb,h0,h1,h2,h3,h4,h5,h6,h6',h7⟩:=h;obtain⟨e,i,e1,e2,e3,e4,e5⟩:=mQ h1;obtain⟨n9,hn2⟩:=Option.isSome_iff_exists.1 h2;obtain⟨e',e6,_⟩:=fU hn2;simp only[decide_eq_true_eq]at h0 h3;split at hx
    ·rename_i hroom;obtain⟨⟨rfl,hle2⟩,hroom⟩:=hroom;obtain⟨h6,h6'⟩:=Hv l2 enc h6 h6' hle2;obtain⟨m,hm⟩:∃m,m=(l2.drop o2).take n2:=⟨_,rfl⟩;have hml:m.length=n2:=by rw[hm,List.length_take,List.length_drop];omega
     rw[← hm]at h6 ⊢;rw[← hml]at hroom;have hz:i.size≠0:=by omega
     have hall:(m.map enc).all (fun r=>r.length==i.size)=true:=by
      simp only[List.all_map,List.all_eq_true];intro y _;simp[h7,e3]
     have hop:bF P cfg nid ah (.call {callee:=.builtin .append,args:=args,argTypes:=argTypes})=.get nid fun
      | .aZ=>(gX P nid ST XT (ah sx) (ah x)).bind fun e=>.done (.bw e)
      |_=>.fail:=by
      simp only[bF,cH,if_true,cA,hT,hX,hs,hxx,h0];congr 1
     have hap:gX P nid ST XT (ah sx) (ah x)=(elems (ah x)).bind fun new=>.get b fun
      | .row v sz rows=>if v=ai then(if 0=0∧l.length≤rows.length∧sz=i.size∧roomy (l.length+new.length) i.bytes=true∧new.all (fun r=>r.length==i.size)=true∧k7 i=true then
       .done {val:=.sl b (ai+1) sz 0 (l.length+new.length),dH:=[(b,.row (ai+1) sz (Gf l.length rows++new))]}else .fail)else .fail
      |_=>.fail:=by
      rw[h4];unfold gX;rw[e1,e6];simp only[e2,hz,if_false];congr 1
      funext new
      simp only[Rd.bind,rowOf];congr 1
      funext y
      cases y with
      |row v sz rows=>grind [Rd.bind]
      |_=>rfl
     rw[hop,hap];simp only[Rd.run,Rd.reads,hunb];have hb:∀{β:Type} (f:cU→Rd β) (g:List (List AVal)→Rd cU),(((elems (ah x)).bind g).bind f)=(elems (ah x)).bind fun n=>(g n).bind f:=by
      intro β f g;generalize elems (ah x)=q;induction q with
      |fail=>rfl
      |done a=>rfl
      |get b k ih=>simp only[Rd.bind,ih]
     grind [run_bind',oz,Rd.bind,Rd.run,Rd.reads,Ce]
    ·cases hx
   ·exact h.elim
  ·exact h.elim
def De{X:Type}(len:Nat)(l l2:List X)(b2 ver2 o2 n2:Nat)(enc:X→List AVal)(n by_ b ai nid0:Nat):kO Unit where
 run:=if(len≤l.length∧o2+n2≤l2.length)∧roomy (len+n2) by_=true then some ()else none
 bw _:={val:=.sl b (ai+1) n 0 (l.take len++(l2.drop o2).take n2).length,dH:=[(b,.row (ai+1) n ((l.take len++(l2.drop o2).take n2).map enc))]}
 ids:=nid0::([b2]++[b])
 nZ gl P cfg nid op ah H:=match op with
  | .call {callee:=.builtin .append,args,argTypes}=>match argTypes[0]?,argTypes[1]?,args[0]?,args[1]? with
   |some ST,some XT,some s,some x=>nid=nid0∧H[nid]? =some .aZ∧decide (args.size=2)=true∧qy P ST=some (n,by_,true)∧(l6 P XT).isSome=true∧decide (0<n)=true∧ah s=.sl b ai n 0 len∧H[b]? =some (.row ai n (l.map enc))∧
    ah x=.sl b2 ver2 n o2 n2∧H[b2]? =some (.row ver2 n (l2.map enc))∧∀x,(enc x).length=n
   |_,_,_,_=>False
  |_=>False
 gR:=nid0=nid0∧some aa.aZ=some aa.aZ∧ @Eq Bool true true∧some (n,by_,true)=some (n,by_,true)∧ @Eq Bool true true∧ @Eq Bool true true∧AVal.sl b ai n 0 len=AVal.sl b ai n 0 len∧some (aa.row ai n (l.map enc))=some (aa.row ai n (l.map enc))∧
  AVal.sl b2 ver2 n o2 n2=AVal.sl b2 ver2 n o2 n2∧some (aa.row ver2 n (l2.map enc))=some (aa.row ver2 n (l2.map enc))∧∀_:X,n=n
 holds:=by simp
 sound gl P cfg nid op ah H h x hx:=by
  split at h
  ·split at h
   ·rename_i args argTypes _ _ _ _ ST XT sx x hT hX hs hxx;obtain⟨rfl,hunb,h0,h1,h2,h3,h4,h5,h6,h6',h7⟩:=h;obtain⟨e,i,e1,e2,e3,e4,e5⟩:=mQ h1;obtain⟨n9,hn2⟩:=Option.isSome_iff_exists.1 h2;obtain⟨e',e6,_⟩:=fU hn2;simp only[decide_eq_true_eq]at h0 h3;split at hx
    ·rename_i hroom;obtain⟨⟨hlen,hle2⟩,hroom⟩:=hroom;obtain⟨h6,h6'⟩:=Hv l2 enc h6 h6' hle2;obtain⟨m,hm⟩:∃m,m=(l2.drop o2).take n2:=⟨_,rfl⟩;have hml:m.length=n2:=by rw[hm,List.length_take,List.length_drop];omega
     rw[← hm]at h6 ⊢;rw[← hml]at hroom;have hz:i.size≠0:=by omega
     have hall:(m.map enc).all (fun r=>r.length==i.size)=true:=by
      simp only[List.all_map,List.all_eq_true];intro y _;simp[h7,e3]
     have hop:bF P cfg nid ah (.call {callee:=.builtin .append,args:=args,argTypes:=argTypes})=.get nid fun
      | .aZ=>(gX P nid ST XT (ah sx) (ah x)).bind fun e=>.done (.bw e)
      |_=>.fail:=by
      simp only[bF,cH,if_true,cA,hT,hX,hs,hxx,h0];congr 1
     have hap:gX P nid ST XT (ah sx) (ah x)=(elems (ah x)).bind fun new=>.get b fun
      | .row v sz rows=>if v=ai then(if 0=0∧len≤rows.length∧sz=i.size∧roomy (len+new.length) i.bytes=true∧new.all (fun r=>r.length==i.size)=true∧k7 i=true then
       .done {val:=.sl b (ai+1) sz 0 (len+new.length),dH:=[(b,.row (ai+1) sz (Gf len rows++new))]}else .fail)else .fail
      |_=>.fail:=by
      rw[h4];unfold gX;rw[e1,e6];simp only[e2,hz,if_false];congr 1
      funext new
      simp only[Rd.bind,rowOf];congr 1
      funext y
      cases y with
      |row v sz rows=>grind [Rd.bind]
      |_=>rfl
     rw[hop,hap];simp only[Rd.run,Rd.reads,hunb];have hb:∀{β:Type} (f:cU→Rd β) (g:List (List AVal)→Rd cU),(((elems (ah x)).bind g).bind f)=(elems (ah x)).bind fun n=>(g n).bind f:=by
      intro β f g;generalize elems (ah x)=q;induction q with
      |fail=>rfl
      |done a=>rfl
      |get b k ih=>simp only[Rd.bind,ih]
     rw[hb,run_bind' h6,oz h6,h6'];simp only[Rd.bind,Rd.run,Rd.reads,h5,if_true];rw[if_pos ⟨trivial,by simpa using hlen,e3.symm,by simpa[e4]using hroom,hall,e5⟩]
     rw[Ce _ _ (by simpa using hlen)]
     simp[Rd.bind,Rd.run,Rd.reads,List.map_take,Nat.min_eq_left hlen]
    ·cases hx
   ·exact h.elim
  ·exact h.elim
def bare:AVal→Bool
 | .sc (.slice none 0 0)=>true
 | .emp=>true
 |_=>false
def Pf{X:Type}(m:List X)(enc:X→List AVal)(n by_ nid0:Nat)(eids:List Nat):kO Unit where
 run:=if m.isEmpty=false∧roomy m.length by_=true then some ()else none
 bw _:={val:=.sl nid0 0 n 0 m.length,dH:=[(nid0,.row 0 n (m.map enc))]}
 ids:=nid0::eids
 nZ gl P cfg nid op ah H:=match op with
  | .call {callee:=.builtin .append,args,argTypes}=>match argTypes[0]?,argTypes[1]?,args[0]?,args[1]? with
   |some ST,some XT,some s,some x=>nid=nid0∧H[nid]? =some .aZ∧decide (args.size=2)=true∧qy P ST=some (n,by_,true)∧(l6 P XT).isSome=true∧decide (0<n)=true∧bare (ah s)=true∧
    (elems (ah x)).run H=some (m.map enc)∧(elems (ah x)).reads H=eids∧∀x,(enc x).length=n
   |_,_,_,_=>False
  |_=>False
 gR:=nid0=nid0∧some aa.aZ=some aa.aZ∧ @Eq Bool true true∧some (n,by_,true)=some (n,by_,true)∧ @Eq Bool true true∧ @Eq Bool true true∧ @Eq Bool true true∧
  some (m.map enc)=some (m.map enc)∧eids=eids∧∀_:X,n=n
 holds:=by simp
 sound gl P cfg nid op ah H h x hx:=by
  split at h
  ·split at h
   ·rename_i args argTypes _ _ _ _ ST XT sx x hT hX hs hxx;obtain⟨rfl,hunb,h0,h1,h2,h3,h4,h6,h6',h7⟩:=h;obtain⟨e,i,e1,e2,e3,e4,e5⟩:=mQ h1;obtain⟨n2,hn2⟩:=Option.isSome_iff_exists.1 h2;obtain⟨e',e6,_⟩:=fU hn2;simp only[decide_eq_true_eq]at h0 h3;split at hx
    ·rename_i hroom;obtain⟨hne,hroom⟩:=hroom;have hml:(m.map enc).length≠0:=by cases m<;>simp at hne ⊢
     have hz:i.size≠0:=by omega
     have hall:(m.map enc).all (fun r=>r.length==i.size)=true:=by
      simp only[List.all_map,List.all_eq_true];intro y _;simp[h7,e3]
     have hop:bF P cfg nid ah (.call {callee:=.builtin .append,args:=args,argTypes:=argTypes})=.get nid fun
      | .aZ=>(gX P nid ST XT (ah sx) (ah x)).bind fun e=>.done (.bw e)
      |_=>.fail:=by
      simp only[bF,cH,if_true,cA,hT,hX,hs,hxx,h0];congr 1
     have hap:∃s:AVal,gX P nid ST XT (ah sx) (ah x)=(elems (ah x)).bind fun new=>if new.length=0 then .done {val:=s}
      else if roomy new.length i.bytes&&new.all (fun r=>r.length==i.size)&&k7 i then .done {val:=.sl nid 0 i.size 0 new.length,dH:=[(nid,.row 0 i.size new)]}else .fail:=by
      refine⟨ah sx,?_⟩;unfold gX;rw[e1,e6];simp only[e2,hz,if_false];unfold bare at h4;split at h4
      ·rename_i hb;rw[hb];rfl
      ·rename_i hb;rw[hb]
      ·cases h4
     obtain⟨s,hap⟩:=hap;rw[hop,hap];simp only[Rd.run,Rd.reads,hunb];have hb:∀{β:Type} (f:cU→Rd β) (g:List (List AVal)→Rd cU),(((elems (ah x)).bind g).bind f)=(elems (ah x)).bind fun n=>(g n).bind f:=by
      intro β f g;generalize elems (ah x)=q;induction q with
      |fail=>rfl
      |done a=>rfl
      |get b k ih=>simp only[Rd.bind,ih]
     grind [run_bind',oz,Rd.bind,Rd.run,Rd.reads]
    ·cases hx
   ·exact h.elim
  ·exact h.elim
def Hw:Bool→AVal
 |true=>.emp
 |false=>.sc (.slice none 0 0)
def Pg{X:Type}(m:List X)(enc:X→List AVal)(nid0:Nat)(v:Bool)(eids:List Nat):kO Unit where
 run:=if m.isEmpty=true then some ()else none
 bw _:={val:=Hw v}
 ids:=nid0::eids
 nZ gl P cfg nid op ah H:=match op with
  | .call {callee:=.builtin .append,args,argTypes}=>match argTypes[0]?,argTypes[1]?,args[0]?,args[1]? with
   |some ST,some XT,some s,some x=>nid=nid0∧H[nid]? =some .aZ∧decide (args.size=2)=true∧(match qy P ST with |some (n,_,_)=>decide (0<n) |none=>false)=true∧(l6 P XT).isSome=true∧ah s=Hw v∧
    (elems (ah x)).run H=some (m.map enc)∧(elems (ah x)).reads H=eids
   |_,_,_,_=>False
  |_=>False
 gR:=nid0=nid0∧some aa.aZ=some aa.aZ∧ @Eq Bool true true∧ @Eq Bool true true∧ @Eq Bool true true∧Hw v=Hw v∧
  some (m.map enc)=some (m.map enc)∧eids=eids
 holds:=by simp
 sound gl P cfg nid op ah H h x hx:=by
  split at h
  ·split at h
   ·rename_i args argTypes _ _ _ _ ST XT sx x hT hX hs hxx;obtain⟨rfl,hunb,h0,h1,h2,h4,h6,h6'⟩:=h;split at h1
    ·rename_i n by_ z hei;obtain⟨e,i,e1,e2,e3,e4,e5⟩:=mQ hei;obtain⟨n2,hn2⟩:=Option.isSome_iff_exists.1 h2;obtain⟨e',e6,_⟩:=fU hn2;simp only[decide_eq_true_eq]at h0 h1;split at hx
     ·rename_i hm;have hnil:m=[]:=by cases m<;>simp at hm ⊢
      subst hnil;have hz:i.size≠0:=by omega
      have hop:bF P cfg nid ah (.call {callee:=.builtin .append,args:=args,argTypes:=argTypes})=.get nid fun
       | .aZ=>(gX P nid ST XT (ah sx) (ah x)).bind fun e=>.done (.bw e)
       |_=>.fail:=by
       simp only[bF,cH,if_true,cA,hT,hX,hs,hxx,h0];congr 1
      have hap:gX P nid ST XT (ah sx) (ah x)=(elems (ah x)).bind fun new=>if new.length=0 then .done {val:=Hw v}
       else if roomy new.length i.bytes&&new.all (fun r=>r.length==i.size)&&k7 i then .done {val:=.sl nid 0 i.size 0 new.length,dH:=[(nid,.row 0 i.size new)]}else .fail:=by
       unfold gX;rw[e1,e6];simp only[e2,hz,if_false];rw[h4];cases v<;>rfl
      rw[hop,hap];simp only[Rd.run,Rd.reads,hunb];have hb:∀{β:Type} (f:cU→Rd β) (g:List (List AVal)→Rd cU),(((elems (ah x)).bind g).bind f)=(elems (ah x)).bind fun n=>(g n).bind f:=by
       intro β f g;generalize elems (ah x)=q;induction q with
       |fail=>rfl
       |done a=>rfl
       |get b k ih=>simp only[Rd.bind,ih]
      grind [run_bind',oz,Rd.bind,Rd.run,Rd.reads]
     ·cases hx
    ·cases h1
   ·exact h.elim
  ·exact h.elim
def aN(m n b ai:Nat)(i:Int):kO Unit where
 run:=if 0≤i∧i<m then some ()else none
 bw _:={val:=.ptr b ai i.toNat 0}
 ids:=[]
 nZ gl P cfg nid op ah H:=match op with
  | .indexAddr T a c=>ah a=.sl b ai n 0 m∧intOf (ah c)=some i∧l6 P T=some n
  |_=>False
 gR:=AVal.sl b ai n 0 m=AVal.sl b ai n 0 m∧some i=some i∧some n=some n
 holds:=⟨rfl,rfl,rfl⟩
 sound gl P cfg nid op ah H h x hx:=by
  cases op<;>try exact h.elim
  rename_i T a c;obtain⟨h1,h2,h3⟩:=h;obtain⟨k,h2⟩:=ku h2;obtain⟨e,e1,e2⟩:=fU h3;split at hx
  ·rename_i h0;simp[bF,cH,cA,h2,h1,ou,e1,e2,h0.1,h0.2,yields,Rd.bind,Rd.run,Rd.reads]
  ·cases hx
def bX{X:Type}(l:List X)(enc:X→List AVal)(n b ai i o:Nat)(val:X→AVal):kO X where
 run:=l[i]?
 bw x:={val:=val x}
 ids:=[b]
 nZ gl P cfg nid op ah H:=match op with
  | .load T a=>ah a=.ptr b ai i o∧H[b]? =some (.row ai n (l.map enc))∧∀x,ot P T (enc x) o=some (val x)
  |_=>False
 gR:=AVal.ptr b ai i o=AVal.ptr b ai i o∧some (aa.row ai n (l.map enc))=some (aa.row ai n (l.map enc))∧∀x,some (val x)=some (val x)
 holds:=⟨rfl,rfl,fun _=>rfl⟩
 sound gl P cfg nid op ah H h x hx:=by
  cases op<;>try exact h.elim
  rename_i T a;obtain⟨h1,h2,h3⟩:=h;simp[bF,cH,cA,h1,CX,rowOf,h2,hx,h3,yields,Rd.bind,Rd.run,Rd.reads]
def ig{X:Type}(l:List X)(enc:X→List AVal)(n b ai i o:Nat)(y:X→X):kO X where
 run:=l[i]?
 bw x:={val:=nothing,dH:=[(b,.row ai n ((l.set i (y x)).map enc))]}
 ids:=[b]
 nZ gl P cfg nid op ah H:=match op with
  | .store T a v=>ah a=.ptr b ai i o∧H[b]? =some (.row ai n (l.map enc))∧∀x,(wN P T (ah v)).bind (Fb (enc x) o)=some (enc (y x))
  |_=>False
 gR:=AVal.ptr b ai i o=AVal.ptr b ai i o∧some (aa.row ai n (l.map enc))=some (aa.row ai n (l.map enc))∧∀x,some (enc (y x))=some (enc (y x))
 holds:=⟨rfl,rfl,fun _=>rfl⟩
 sound gl P cfg nid op ah H h x hx:=by
  cases op<;>try exact h.elim
  rename_i T a v;obtain⟨h1,h2,h3⟩:=h;obtain⟨vs,h4,h5⟩:=Option.bind_eq_some_iff.1 (h3 x);simp[bF,cH,cA,h1,DZ,rowOf,h2,hx,h4,h5,Rd.bind,Rd.run,Rd.reads,List.map_set]
def Df{X:Type}(d:X)(enc:X→List AVal)(n by_ nid0:Nat)(k:Int):kO Unit where
 run:=if 0≤k∧roomy k.toNat by_=true then some ()else none
 bw _:={val:=.sl nid0 0 n 0 (List.replicate k.toNat d).length,dH:=[(nid0,.row 0 n ((List.replicate k.toNat d).map enc))]}
 ids:=[nid0]
 nZ gl P cfg nid op ah H:=match op with
  | .makeSlice T a c=>nid=nid0∧H[nid]? =some .aZ∧intOf (ah a)=some k∧intOf (ah c)=some k∧qy P T=some (n,by_,true)∧(match P.underlying T with |some (.slice e)=>ki P e |_=>none)=some (enc d)∧(enc d).length=n∧decide (0<n)=true
  |_=>False
 gR:=nid0=nid0∧some aa.aZ=some aa.aZ∧some k=some k∧some k=some k∧some (n,by_,true)=some (n,by_,true)∧some (enc d)=some (enc d)∧n=n∧ @Eq Bool true true
 holds:=by simp
 sound gl P cfg nid op ah H h x hx:=by
  cases op<;>try exact h.elim
  rename_i T a c;obtain⟨rfl,hunb,h1,h2,h3,h4,h5,h6⟩:=h;obtain⟨k1,h1⟩:=ku h1;obtain⟨k2,h2⟩:=ku h2;obtain⟨e,i,e1,e2,e3,e4,e5⟩:=mQ h3;rw[e1]at h4;simp only at h4;simp only[decide_eq_true_eq]at h6;split at hx
  ·rename_i h0;have hop:vt P nid T (ah a) (ah c)=some {val:=.sl nid 0 i.size 0 k.toNat,dH:=[(nid,.row 0 i.size (List.replicate k.toNat (enc d)))]}:=by
    rw[h1,h2];simp only[vt,e1,e2,h4];rw[if_pos ⟨h0.1,Int.le_refl _,by rw[e4];exact h0.2,by rw[h5,e3],by omega⟩]
   simp[bF,cH,cA,hop,xY,Rd.bind,Rd.run,Rd.reads,hunb,e3]
  ·cases hx
def Ad(d m:Nat):Option Int→Option Nat
 |none=>some d
 |some i=>if 0≤i∧i≤m then some i.toNat else none
def SX{X:Type}(l:List X)(enc:X→List AVal)(n:Nat)(lo hi:Option Int):kO (Nat×Nat) where
 run:=(Ad l.length l.length hi).bind fun h=>(Ad 0 h lo).map fun k=>(k,h)
 bw x:={val:=.aj (((l.take x.2).drop x.1).map enc)}
 ids:=[]
 nZ gl P cfg nid op ah H:=match op with
  | .slice T a lo' hi' none=>ah a=.aj (l.map enc)∧(lo'.map fun x=>intOf (ah x))=lo.map some∧(hi'.map fun x=>intOf (ah x))=hi.map some∧l6 P T=some n∧∀x,(enc x).length=n
  |_=>False
 gR:=AVal.aj (l.map enc)=AVal.aj (l.map enc)∧lo.map some=lo.map some∧hi.map some=hi.map some∧some n=some n∧∀_:X,n=n
 holds:=⟨rfl,rfl,rfl,rfl,fun _=>rfl⟩
 sound gl P cfg nid op ah H h x hx:=by
  cases op<;>try exact h.elim
  rename_i T a lo' hi' mx;cases mx with
  |some _=>exact h.elim
  |none=>
   obtain⟨h1,h2,h3,h4,h5⟩:=h;obtain⟨e,e1,e2⟩:=fU h4;have hb:∀(d m:Nat) (x':Option Operand) (x:Option Int),(x'.map fun x=>intOf (ah x))=x.map some→kj d m (x'.map ah)=Ad d m x:=by
    intro d m x' x hx;cases x'<;>cases x<;>simp at hx
    ·rfl
    ·grind [ku,kj,Ad]
   obtain⟨hh,q1,q2⟩:=Option.bind_eq_some_iff.1 hx;obtain⟨k,q3,rfl⟩:=Option.map_eq_some_iff.1 q2;have hall:(l.map enc).all (fun r=>dh P e==some r.length)=true:=by
    simp only[List.all_map,List.all_eq_true];intro y _;simp[h5,e2]
   have hop:pO P T (ah a) (lo'.map ah) (hi'.map ah)=some (.aj (((l.map enc).take hh).drop k)):=by
    unfold pO;rw[h1];simp only[e1,rM];rw[hb _ _ _ _ h3,List.length_map,q1];simp only[Option.bind_some];rw[hb _ _ _ _ h2,q3];rw[Option.bind_some,if_pos (by rw[hall,e2];rfl)]
   simp[bF,cH,cA,hop,yields,Rd.bind,Rd.run,Rd.reads,List.map_take,List.map_drop]
def yB(m n b ai o:Nat)(hi:Int):kO Nat where
 run:=if 0≤hi∧hi≤m then some hi.toNat else none
 bw x:={val:=.sl b ai n o x}
 ids:=[]
 nZ gl P cfg nid op ah H:=match op with
  | .slice T a none (some h) none=>ah a=.sl b ai n o m∧intOf (ah h)=some hi∧l6 P T=some n
  |_=>False
 gR:=AVal.sl b ai n o m=AVal.sl b ai n o m∧some hi=some hi∧some n=some n
 holds:=⟨rfl,rfl,rfl⟩
 sound gl P cfg nid op ah H h x hx:=by
  split at h
  ·rename_i T a c;obtain⟨h1,h2,h3⟩:=h;obtain⟨k,h2⟩:=ku h2;obtain⟨e,e1,e2⟩:=fU h3;split at hx
   ·rename_i h0;simp only[Option.some.injEq]at hx;subst hx;have hop:pO P T (ah a) none (some (ah c))=some (.sl b ai n o hi.toNat):=by
     unfold pO;rw[h1,h2,e1];simp only[rM,kj,h0,and_self,if_true,Option.bind_some,e2]
    simp[bF,cH,cA,hop,yields,Rd.bind,Rd.run,Rd.reads]
   ·cases hx
  ·exact h.elim
def Ae(m n b ai o:Nat)(lo:Int):kO Nat where
 run:=if 0<lo∧lo<m then some lo.toNat else none
 bw x:={val:=.sl b ai n (o+x) (m - x)}
 ids:=[]
 nZ gl P cfg nid op ah H:=match op with
  | .slice T a (some l) none none=>ah a=.sl b ai n o m∧intOf (ah l)=some lo∧l6 P T=some n
  |_=>False
 gR:=AVal.sl b ai n o m=AVal.sl b ai n o m∧some lo=some lo∧some n=some n
 holds:=⟨rfl,rfl,rfl⟩
 sound gl P cfg nid op ah H h x hx:=by
  split at h
  ·rename_i T a c;obtain⟨h1,h2,h3⟩:=h;obtain⟨k,h2⟩:=ku h2;obtain⟨e,e1,e2⟩:=fU h3;split at hx
   ·rename_i h0;simp only[Option.some.injEq]at hx;subst hx;have hop:pO P T (ah a) (some (ah c)) none=some (.sl b ai n (o+lo.toNat) (m - lo.toNat)):=by
     unfold pO;rw[h1,h2,e1];have hb:0≤lo∧lo≤(m:Int):=⟨by omega,by omega⟩
     have hz:lo.toNat≠0:=by omega
     have hl:lo.toNat<m:=by omega
     simp only[rM,kj,hb,and_self,if_true,Option.bind_some,e2,if_neg hz,if_pos hl]
    simp[bF,cH,cA,hop,yields,Rd.bind,Rd.run,Rd.reads]
   ·cases hx
  ·exact h.elim
def Bj(i:Int):Bool:=decide (i=0)
def Bk(i:Int)(m:Nat):Bool:=decide (i<m)
def Dg(m n b ai o:Nat)(lo:Int):kO Unit where
 run:=if lo=0 then some ()else none
 bw _:={val:=.sl b ai n o m}
 ids:=[]
 nZ gl P cfg nid op ah H:=match op with
  | .slice T a (some l) none none=>ah a=.sl b ai n o m∧intOf (ah l)=some lo∧l6 P T=some n
  |_=>False
 gR:=AVal.sl b ai n o m=AVal.sl b ai n o m∧some lo=some lo∧some n=some n
 holds:=⟨rfl,rfl,rfl⟩
 sound gl P cfg nid op ah H h x hx:=by
  split at h
  ·rename_i T a c;obtain⟨h1,h2,h3⟩:=h;obtain⟨k,h2⟩:=ku h2;obtain⟨e,e1,e2⟩:=fU h3;split at hx
   ·rename_i h0;subst h0;have hop:pO P T (ah a) (some (ah c)) none=some (.sl b ai n o m):=by
     unfold pO;rw[h1,h2,e1];have hb:(0:Int)≤0∧(0:Int)≤(m:Int):=⟨by omega,by omega⟩
     simp only[rM,kj,hb,and_self,if_true,Option.bind_some,e2,Int.toNat_zero]
    simp[bF,cH,cA,hop,yields,Rd.bind,Rd.run,Rd.reads]
   ·cases hx
  ·exact h.elim
def Dh(m n b ai o:Nat)(lo:Int):kO Unit where
 run:=if lo=m∧0<m then some ()else none
 bw _:={val:=.aj []}
 ids:=[]
 nZ gl P cfg nid op ah H:=match op with
  | .slice T a (some l) none none=>ah a=.sl b ai n o m∧intOf (ah l)=some lo∧l6 P T=some n
  |_=>False
 gR:=AVal.sl b ai n o m=AVal.sl b ai n o m∧some lo=some lo∧some n=some n
 holds:=⟨rfl,rfl,rfl⟩
 sound gl P cfg nid op ah H h x hx:=by
  split at h
  ·rename_i T a c;obtain⟨h1,h2,h3⟩:=h;obtain⟨k,h2⟩:=ku h2;obtain⟨e,e1,e2⟩:=fU h3;split at hx
   ·rename_i h0;obtain⟨rfl,h0⟩:=h0;have hop:pO P T (ah a) (some (ah c)) none=some (.aj []):=by
     unfold pO;rw[h1,h2,e1];have hb:(0:Int)≤(m:Int)∧(m:Int)≤(m:Int):=⟨by omega,by omega⟩
     have hz:((m:Int)).toNat≠0:=by omega
     have hl:¬((m:Int)).toNat<m:=by omega
     simp only[rM,kj,hb,and_self,if_true,Option.bind_some,e2,if_neg hz,if_neg hl]
    simp[bF,cH,cA,hop,yields,Rd.bind,Rd.run,Rd.reads]
   ·cases hx
  ·exact h.elim
def Ph(m n b ai o:Nat)(i:Int):kO Unit where
 run:=if 0≤i∧i<m then some ()else none
 bw _:={val:=.ptr b ai (o+i.toNat) 0}
 ids:=[]
 nZ gl P cfg nid op ah H:=match op with
  | .indexAddr T a c=>ah a=.sl b ai n o m∧intOf (ah c)=some i∧l6 P T=some n
  |_=>False
 gR:=AVal.sl b ai n o m=AVal.sl b ai n o m∧some i=some i∧some n=some n
 holds:=⟨rfl,rfl,rfl⟩
 sound gl P cfg nid op ah H h x hx:=by
  cases op<;>try exact h.elim
  rename_i T a c;obtain⟨h1,h2,h3⟩:=h;obtain⟨k,h2⟩:=ku h2;obtain⟨e,e1,e2⟩:=fU h3;split at hx
  ·rename_i h0;simp[bF,cH,cA,h2,h1,ou,e1,e2,h0.1,h0.2,yields,Rd.bind,Rd.run,Rd.reads]
  ·cases hx
def Pj{X:Type}(l:List X)(d:X)(enc:X→List AVal)(m n b ai o:Nat):kO Unit where
 run:=if o+m≤l.length then some ()else none
 bw _:={val:=nothing,dH:=[(b,.row ai n ((l.take o++List.replicate m d++l.drop (o+m)).map enc))]}
 ids:=[b]
 nZ gl P cfg nid op ah H:=match op with
  | .call {callee:=.builtin .clear,args,argTypes}=>match argTypes[0]?,args[0]? with
   |some T,some s=>ah s=.sl b ai n o m∧H[b]? =some (.row ai n (l.map enc))∧decide (args.size=1)=true∧(match P.underlying T with |some (.slice e)=>ki P e |_=>none)=some (enc d)∧(enc d).length=n
   |_,_=>False
  |_=>False
 gR:=AVal.sl b ai n o m=AVal.sl b ai n o m∧some (aa.row ai n (l.map enc))=some (aa.row ai n (l.map enc))∧ @Eq Bool true true∧some (enc d)=some (enc d)∧n=n
 holds:=⟨rfl,rfl,rfl,rfl,rfl⟩
 sound gl P cfg nid op ah H h x hx:=by
  split at h
  ·split at h
   ·rename_i args argTypes _ _ T s hT hs;obtain⟨h1,h2,h3,h4,h5⟩:=h;simp only[decide_eq_true_eq]at h3;split at h4
    ·rename_i e he;split at hx
     ·rename_i hle;have hop:bF P cfg nid ah (.call {callee:=.builtin .clear,args:=args,argTypes:=argTypes})=(D0 P T (ah s)).bind fun e=>.done (.bw e):=by
       simp only[bF,cH,cA,hT,hs,h3,if_true,if_false,Bool.false_eq_true]
      rw[hop,h1];unfold D0;rw[he];simp only[h4,rowOf,Rd.bind,Rd.run,Rd.reads,h2,if_true,List.length_map];rw[if_pos ⟨trivial,hle,h5⟩];simp[Rd.bind,Rd.run,Rd.reads,List.map_take,List.map_drop]
     ·cases hx
    ·cases h4
   ·exact h.elim
  ·exact h.elim
def Lv(op:BinOp)(k k':IntKind)(a b:Int)(ok:Bool)(v:AVal)(h:ok=true→∀(P:Program) (T:TypeId),Gd P op T (.sc (.int k a)) (.sc (.int k' b))=some v):kO Unit where
 run:=if ok then some ()else none
 bw _:={val:=v}
 ids:=[]
 nZ gl P cfg nid o ah H:=match o with
  | .binOp op' T x y _=>op'=op∧ah x=.sc (.int k a)∧ah y=.sc (.int k' b)∧(match y with | .const (.int _ _)=>true | .tmp _=>true |_=>false)=true
  |_=>False
 gR:=op=op∧AVal.sc (.int k a)=AVal.sc (.int k a)∧AVal.sc (.int k' b)=AVal.sc (.int k' b)∧ @Eq Bool true true
 holds:=⟨rfl,rfl,rfl,rfl⟩
 sound gl P cfg nid o ah H h' x hx:=by
  cases o<;>try exact h'.elim
  rename_i op' T x y yT;obtain⟨rfl,h1,h2,h3⟩:=h';cases ok with
  |false=>cases hx
  |true=>
   have hb:=h rfl P T;rw[← h1,← h2]at hb;split at h3
   ·simp[bF,cH,cA,rO,hb,yields,Rd.bind,Rd.run,Rd.reads]
   ·simp[bF,cH,cA,rO,hb,yields,Rd.bind,Rd.run,Rd.reads]
   ·cases h3
def IJ(k:IntKind)(a b:Int):kO Unit:=Lv .rem k k a b (decide (b≠0)) (.sc (.int k (a.tmod b))) fun h P T=>by
 grind [Gd,Fc]
def Eu(k k':IntKind)(a b:Int):kO Unit:=Lv .shl k k' a b (decide (0≤b)) (.sc (.int k (k.wrap (a*2 ^ (min b.toNat k.bits))))) fun h P T=>by
 grind [Gd]
def NT(P:Program)(T:TypeId):Option (Nat×Nat):=match P.underlying T with
 |some (.array n e)=>(dh P e).map fun s=>(n,s)
 |_=>none
def Pk(b ai j o n s:Nat)(i:Int):kO Unit where
 run:=if 0≤i∧i<n then some ()else none
 bw _:={val:=.ptr b ai j (o+i.toNat*s)}
 ids:=[]
 nZ gl P cfg nid op ah H:=match op with
  | .indexAddr T a c=>ah a=.ptr b ai j o∧intOf (ah c)=some i∧NT P T=some (n,s)
  |_=>False
 gR:=AVal.ptr b ai j o=AVal.ptr b ai j o∧some i=some i∧some (n,s)=some (n,s)
 holds:=⟨rfl,rfl,rfl⟩
 sound gl P cfg nid op ah H h x hx:=by
  cases op<;>try exact h.elim
  rename_i T a c;obtain⟨h1,h2,h3⟩:=h;obtain⟨k,h2⟩:=ku h2;unfold NT at h3;split at h3
  ·rename_i n' e hu;obtain⟨s',hs,he⟩:=Option.map_eq_some_iff.1 h3;simp only[Prod.mk.injEq]at he;obtain⟨rfl,rfl⟩:=he;split at hx
   ·rename_i h0;have hop:ou P T (ah a) i=some (.ptr b ai j (o+i.toNat*s')):=by
     rw[h1];unfold ou;rw[hu];simp only[if_pos h0,hs,Option.bind_some,zH]
    simp[bF,cH,cA,h2,hop,yields,Rd.bind,Rd.run,Rd.reads]
   ·cases hx
  ·cases h3
def Va{X:Type}(l:List X)(c:X→AVal)(b ai sz o:Nat):kO X where
 run:=l[o]?
 bw x:={val:=c x}
 ids:=[b]
 nZ gl P cfg nid op ah H:=match op with
  | .load T a=>ah a=.ptr b ai 0 o∧H[b]? =some (.row ai sz [l.map c])∧gv P T=false∧(P.underlying T).isSome=true
  |_=>False
 gR:=AVal.ptr b ai 0 o=AVal.ptr b ai 0 o∧some (aa.row ai sz [l.map c])=some (aa.row ai sz [l.map c])∧ @Eq Bool false false∧ @Eq Bool true true
 holds:=⟨rfl,rfl,rfl,rfl⟩
 sound gl P cfg nid op ah H h x hx:=by
  cases op<;>try exact h.elim
  rename_i T a;obtain⟨h1,h2,h3,h4⟩:=h;simp[bF,cH,cA,h1,CX,rowOf,h2,ot,h3,h4,hx,yields,Rd.bind,Rd.run,Rd.reads]
def Ew{X:Type}(l:List X)(c:X→AVal)(b ai sz o:Nat)(y:X):kO Unit where
 run:=if o<l.length then some ()else none
 bw _:={val:=nothing,dH:=[(b,.row ai sz [(l.set o y).map c])]}
 ids:=[b]
 nZ gl P cfg nid op ah H:=match op with
  | .store T a v=>ah a=.ptr b ai 0 o∧H[b]? =some (.row ai sz [l.map c])∧wN P T (ah v)=some [c y]
  |_=>False
 gR:=AVal.ptr b ai 0 o=AVal.ptr b ai 0 o∧some (aa.row ai sz [l.map c])=some (aa.row ai sz [l.map c])∧some [c y]=some [c y]
 holds:=⟨rfl,rfl,rfl⟩
 sound gl P cfg nid op ah H h x hx:=by
  cases op<;>try exact h.elim
  rename_i T a v;obtain⟨h1,h2,h3⟩:=h;split at hx
  ·rename_i h0;have hle:o+1≤l.length:=h0;simp[bF,cH,cA,h1,DZ,rowOf,h2,h3,Fb,hle,putAt,Rd.bind,Rd.run,Rd.reads,List.map_set]
  ·cases hx
section
variable {K V:Type}
def bJ(ek:K→AVal)(ev:V→AVal):Nat→List (K×V)→List (AVal×AVal×Nat)
 |_,[]=>[]
 |n,p::ps=>(ek p.1,ev p.2,n)::bJ ek ev (n+1) ps
def bp(eq:K→K→Bool)(k:K):List (K×V)→Nat→Option (Nat×V)
 | [],_=>none
 |p::ps,i=>if eq k p.1 then some (i,p.2)else bp eq k ps (i+1)
def dx(eq:K→K→Bool)(k:K)(v:V)(m:List (K×V)):List (K×V):=match bp eq k m 0 with
 |some (i,_)=>m.set i (k,v)
 |none=>m++[(k,v)]
theorem Di{ks:List Kd}{ag:Bool}{ek:K→AVal}{ev:V→AVal}{eq:K→K→Bool}(hag:∀k,qO (ek k)=ag)(heq:∀k k',dy ks (ek k).cells (ek k').cells=some (eq k k'))(k:K):
 ∀(m:List (K×V)) (n i:Nat),uv ks ag (ek k) (bJ ek ev n m) i=some ((bp eq k m i).map fun p=>(p.1,ev p.2,n+(p.1 - i)))
 | [],n,i=>rfl
 |p::ps,n,i=>by
  simp only[bJ,uv,hag,if_true,heq,bp];cases h:eq k p.1 with
  |true=>simp
  |false=>
   simp only[Bool.false_eq_true,if_false];rw[Di hag heq k ps (n+1) (i+1)];congr 1;have hge:∀(m:List (K×V)) (i:Nat) (q:Nat×V),bp eq k m i=some q→i≤q.1:=by
    intro m;induction m with
    |nil=>intro i q h;simp[bp]at h
    |cons p ps ih=>
     grind [bp]
   cases hf:bp eq k ps (i+1)with
   |none=>rfl
   |some q=>
    grind
theorem BU(ek:K→AVal)(ev:V→AVal):∀(m:List (K×V)) (n:Nat),(bJ ek ev n m).length=m.length
 | [],_=>rfl
 |_::ps,n=>by simp[bJ,BU ek ev ps]
theorem F3(ek:K→AVal)(ev:V→AVal):∀(m m':List (K×V)) (n:Nat),bJ ek ev n (m++m')=bJ ek ev n m++bJ ek ev (n+m.length) m'
 | [],m',n=>by simp[bJ]
 |p::ps,m',n=>by simp[bJ,F3 ek ev ps,Nat.add_assoc,Nat.add_comm 1]
theorem Lw(ek:K→AVal)(ev:V→AVal):∀(m:List (K×V)) (n i:Nat) (p:K×V),bJ ek ev n (m.set i p)=(bJ ek ev n m).set i (ek p.1,ev p.2,n+i)
 | [],n,i,p=>rfl
 |q::ps,n,0,p=>by simp[bJ]
 |q::ps,n,i+1,p=>by simp[bJ,Lw ek ev ps,Nat.add_assoc,Nat.add_comm 1]
def Kz(P:Program)(T:TypeId):Option (Option (List Kd)×Bool×Option AVal):=match P.underlying T with
 |some (.map K E)=>some (dI P 9 K,gv P K,CY P E)
 |_=>none
def rH(m:List (K×V))(k:K)(ek:K→AVal)(ev:V→AVal)(eq:K→K→Bool)(d:V)(ks:List Kd)(ag ok:Bool)(b:Nat):kO Unit where
 run:=some ()
 bw _:={val:=match ok with
  |true=>.cw [ev (((bp eq k m 0).map (·.2)).getD d),.sc (.bool (bp eq k m 0).isSome)]
  |false=>ev (((bp eq k m 0).map (·.2)).getD d)}
 ids:=[b]
 nZ gl P cfg nid op ah H:=match op with
  | .lookup T x i ok'=>ok'=ok∧ah x=.mp b∧ah i=ek k∧H[b]? =some (.map m.length (bJ ek ev 0 m))∧Kz P T=some (some ks,ag,some (ev d))∧(∀k,qO (ek k)=ag)∧∀k k',dy ks (ek k).cells (ek k').cells=some (eq k k')
  |_=>False
 gR:=ok=ok∧AVal.mp b=AVal.mp b∧ek k=ek k∧some (aa.map m.length (bJ ek ev 0 m))=some (aa.map m.length (bJ ek ev 0 m))∧some (some ks,ag,some (ev d))=some (some ks,ag,some (ev d))∧(∀_:K,ag=ag)∧∀k k',some (eq k k')=some (eq k k')
 holds:=⟨rfl,rfl,rfl,rfl,rfl,fun _=>rfl,fun _ _=>rfl⟩
 sound gl P cfg nid op ah H h x hx:=by
  cases op<;>try exact h.elim
  rename_i T a i ok';obtain⟨rfl,h1,h2,h3,h4,h5,h6⟩:=h;unfold Kz at h4;split at h4
  ·rename_i TK TE hu;simp only[Option.some.injEq,Prod.mk.injEq]at h4;obtain⟨t1,t2,t3⟩:=h4;have hk:rN P TK (ek k)=some ks:=by simp[rN,t1,h5,t2]
   have hf:=Di (ev:=ev) (eq:=eq) h5 h6 k m 0 0;simp only[bF,cH,cA,Fe,hu,h2,hk,h1,mapOf,Rd.bind,Rd.run,Rd.reads,h3,h6,t2,hf,t3,if_false,Bool.false_eq_true];cases hfm:bp eq k m 0 with
   |none=>grind
   |some q=>grind
  ·cases h4
def qz(m:List (K×V))(k:K)(v:V)(ek:K→AVal)(ev:V→AVal)(eq:K→K→Bool)(ks:List Kd)(ag:Bool)(b:Nat):kO Unit where
 run:=some ()
 bw _:={val:=nothing,dH:=[(b,.map (dx eq k v m).length (bJ ek ev 0 (dx eq k v m)))]}
 ids:=[b]
 nZ gl P cfg nid op ah H:=match op with
  | .mapUpdate T x i y=>ah x=.mp b∧ah i=ek k∧ah y=ev v∧H[b]? =some (.map m.length (bJ ek ev 0 m))∧(Kz P T).map (fun t=>(t.1,t.2.1))=some (some ks,ag)∧(∀k,qO (ek k)=ag)∧∀k k',dy ks (ek k).cells (ek k').cells=some (eq k k')
  |_=>False
 gR:=AVal.mp b=AVal.mp b∧ek k=ek k∧ev v=ev v∧some (aa.map m.length (bJ ek ev 0 m))=some (aa.map m.length (bJ ek ev 0 m))∧some (some ks,ag)=some (some ks,ag)∧(∀_:K,ag=ag)∧∀k k',some (eq k k')=some (eq k k')
 holds:=⟨rfl,rfl,rfl,rfl,rfl,fun _=>rfl,fun _ _=>rfl⟩
 sound gl P cfg nid op ah H h x hx:=by
  cases op<;>try exact h.elim
  rename_i T a i y;obtain⟨h1,h2,hy,h3,h4,h5,h6⟩:=h;obtain⟨t,h4,ht⟩:=Option.map_eq_some_iff.1 h4;unfold Kz at h4;split at h4
  ·rename_i TK TE hu;simp only[Option.some.injEq]at h4;subst h4;simp only[Prod.mk.injEq]at ht;obtain⟨t1,t2⟩:=ht;have hk:rN P TK (ek k)=some ks:=by simp[rN,t1,h5,t2]
   have hf:=Di (ev:=ev) (eq:=eq) h5 h6 k m 0 0;simp only[bF,cH,cA,vu,hu,h2,hk,h1,mapOf,Rd.bind,Rd.run,Rd.reads,h3,h6,t2,hf,hy,if_false,Bool.false_eq_true];cases hfm:bp eq k m 0 with
   |none=>simp[Rd.bind,Rd.run,Rd.reads,dx,hfm,F3,bJ]
   |some q=>simp[Rd.bind,Rd.run,Rd.reads,dx,hfm,Lw,BU]
  ·cases h4
end
end
def cI(k:IntKind)(n:Int):AVal:=.sc (.int k n)
def cL{α:Type}(enc:α→List AVal)(l:List α):AVal:=.aj (l.map enc)
def eI(k:IntKind)(n:Int):List AVal:=[.sc (.int k n)]
def eB(b:Bool):List AVal:=[.sc (.bool b)]
def eS(s:ByteArray):List AVal:=[.sc (.string s)]
def eL{α:Type}(enc:α→List AVal)(l:List α):List AVal:=[.aj (l.map enc)]
structure V2(α:Type) where
 (a0 a1:α)
def Lx{α:Type}(c:α→AVal)(x:V2 α):List AVal:=[c x.a0,c x.a1]
structure V8(α:Type) where
 (a0 a1 a2 a3 a4 a5 a6 a7:α)
def ay{α:Type}(c:α→AVal)(x:V8 α):List AVal:=[c x.a0,c x.a1,c x.a2,c x.a3,c x.a4,c x.a5,c x.a6,c x.a7]
structure kZ(α:Type) where
 (a0 a1 a2 a3 a4 a5 a6 a7 a8 a9:α)
def SY{α:Type}(c:α→AVal)(x:kZ α):List AVal:=[c x.a0,c x.a1,c x.a2,c x.a3,c x.a4,c x.a5,c x.a6,c x.a7,c x.a8,c x.a9]
theorem IK{X:Type}(l:List X)(enc:X→List AVal)(h:∀x,AVal.aT (enc x)=true):(l.map enc).all AVal.aT=true:=by
 grind
def aR{X:Type}(b ai sz:Nat)(l:List X)(enc:X→List AVal)(h:∀x,AVal.aT (enc x)=true):PU:=⟨b,.row ai sz (l.map enc),IK l enc h⟩
theorem IL{K V:Type}(ek:K→AVal)(ev:V→AVal)(h:∀k,(ek k).pure=true)(h':∀v,(ev v).pure=true):∀(m:List (K×V)) (n:Nat),(bJ ek ev n m).all (fun p=>p.1.pure&&p.2.1.pure)=true
 | [],_=>rfl
 |p::ps,n=>by simp[bJ,h,h',IL ek ev h h' ps (n+1)]
def gT{K V:Type}(b:Nat)(m:List (K×V))(ek:K→AVal)(ev:V→AVal)(h:∀k,(ek k).pure=true)(h':∀v,(ev v).pure=true):PU:=⟨b,.map m.length (bJ ek ev 0 m),IL ek ev h h' m 0⟩
def bh{X:Type}(p:Pl)(b ai sz n:Nat)(l:List X)(enc:X→List AVal)(h:∀x,AVal.aT (enc x)=true):FZ:=⟨p,b,ai,sz,n,l.map enc,IK l enc h⟩
def zw{X:Type}(b ai sz:Nat)(l:List X)(c:X→AVal)(h:∀x,(c x).pure=true):PU:=⟨b,.row ai sz [l.map c],by
 have:∀l:List X,AVal.aT (l.map c)=true:=by
  intro l;induction l with
  |nil=>rfl
  |cons x xs ih=>grind [AVal.aT]
 simp[rq,this]⟩
def qA{X:Type}(b ai sz:Nat)(l:List X)(enc:X→List AVal)(h:∀x,AVal.aT (enc x)=true):PR:=PR.ofRow b ai sz (l.map enc) (IK l enc h)
def nW{K V:Type}(b:Nat)(m:List (K×V))(ek:K→AVal)(ev:V→AVal)(h:∀k,(ek k).pure=true)(h':∀v,(ev v).pure=true):PR:=⟨b,.map m.length (bJ ek ev 0 m),IL ek ev h h' m 0⟩
end Go.AM
end
