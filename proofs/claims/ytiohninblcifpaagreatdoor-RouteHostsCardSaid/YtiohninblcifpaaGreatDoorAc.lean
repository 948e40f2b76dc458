/- Parts put together. No conditions. -/
import Derived.Test.YtiohninblcifpaaGreatDoorAb
import Derived.ProofKit
import Derived.OpenShut
import Derived.JoinedCond
import Derived.LaidLaws
set_option linter.unusedSectionVars false
set_option linter.unusedSimpArgs false
section
namespace Go.AM
open Go.ChangeShapes Go.WideShapes Go.ChangeAt Go.RowKit
def Gh.bare(w:World):Gh:={ai:=fun _ _=>none,st:=fun k _=>k<w.heap.size}
section
variable [aH]
theorem Gh.OE(w:World)(hg:oP (Gh.bare w) w):Inv (Gh.bare w) [] w:=
 ⟨fun b x h=>by simp at h,fun b b' x x' v v' k z z' h=>by simp at h,fun b aq _=>rfl,fun b x v ver' h=>by simp at h,fun b x v k z o h=>by simp at h,fun _ _ h=>h,hg⟩
theorem J8{w w':World}{g':Gh}{H':List ah}(h:aW (Gh.bare w) [] w g' H' w'):Below w.heap.size w w':=
 ⟨h.os,h.tape.1,h.output,h.size,fun k hk=>h.keep k hk fM⟩
end
section
variable {H:Type} {enc:TypeId×Value→H} {P:Program}
theorem HN{f:Func}{s:ChangeSpec}{apart fresh handsOn again:Bool}{W W':World}{args:Array Value}{v:Value}{ds gs:List (DataW H)}{before pa pv:List MemPlace}
 (hW:DataW.Whole enc P f.params.toList s.vars apart W args.toList ds gs before)
 (hres:∀(b:Nat) (sp:Nat→Bool) (hd:Bool),DataW.TrodAll enc P W' b sp hd f.resultTypes.toList (v.resultList f.resultTypes.size) (s.fn H (ds++gs)).results [])
 (hargs:∀sp:Nat→Bool,(∀p∈before,sp p.block=true)→DataW.TrodAll enc P W' 0 sp true f.params.toList args.toList (s.fn H (ds++gs)).args pa)
 (hvars:∀sp:Nat→Bool,(∀p∈before,sp p.block=true)→DataW.TrodVars enc P W' sp s.vars (s.fn H (ds++gs)).vars pv)
 (hps:before=pa++pv) (hb:Below W.heap.size W W')
 (hok:∀(j:Nat) (t:TypeId) (r:Value),f.resultTypes[j]? =some t→(v.resultList f.resultTypes.size)[j]? =some r→Value.okWide P W' .any 0 t r):
 s.post enc P f apart fresh handsOn again W args v W':=by
 have hold:∀p∈before,(fun b=>decide (b<W.heap.size)) p.block=true:=fun p hp=>by simpa using hW.lt p hp
 have hlt:=hW.lt;refine⟨ds,gs,before,[],pa,pv,hW,hres _ _ _,hargs _ hold,hvars _ hold,World.keptBut_mono (fun p hp=>⟨hp,?_⟩) (hb.frame (· ∈before)),fun _=>?_⟩
 ·rw[hps,List.mem_append]at hp;exact Or.inr hp
 ·obtain⟨_,_,_,_,_,hz,hn⟩:=hW;refine⟨hok,_,_,([]++pa)++pv,⟨[]++pa,pv,trodAll_append (hargs _ (fun _ _=>rfl)) (hres _ _ _),hvars _ (fun _ _=>rfl),rfl,?_,?_⟩,?_⟩
  ·intro b off hp;have hm:MemPlace.cell b off∈before:=by rw[hps];simpa using hp
   rw[hb.frozen (hlt _ hm)];exact hz b off hm
  ·intro ha;have:=hn ha;rw[hps]at this;simpa using this
  ·intro p hp _;rw[hps];simpa using hp
end
end Go.AM
end
section
namespace Go.AM
structure Entry where
 f:FuncId
 args:List AVal
 res:AVal
def AW(f:FuncId)(args:List AVal):List Entry→Option AVal
 | []=>none
 |e::es=>if e.f==f&&uU e.args args then some e.res else AW f args es
def wT[aH](P:Program)(cfg:fF)(tbl:List Entry)(loops:Nat):Nat→jI
 | 0=>⟨fun _ _ _=>none,fun _ _ _=>none⟩
 |n+1=>⟨fun f args H=>match(match H with | []=>AW f args tbl |_=>none)with
  |some r=>some (.ret r,[])
  |none=>E5 P cfg (wT P cfg tbl loops n) loops f args H,roundOf P cfg (wT P cfg tbl loops n) loops⟩
section
variable [aH] {P:Program} {cfg:fF}
def Gl(P:Program)(e:Entry):Prop:=
 (∃ fn c, P.funcs[e.f]? = some fn ∧ fn.body = some c ∧ fn.name ≠ "runtime.NumGoroutine") ∧
 ∀g w (vs:Array Value),Inv g [] w→RL g w e.args vs.toList→Calls P e.f vs w (eX g [] w (.ret e.res) [])
def BA(P:Program)(tbl:List Entry):Prop:=∀e∈tbl,Gl P e
theorem BA.nil:BA P []:=fun _ h=>by cases h
theorem BA.cons{e:Entry}{tbl:List Entry}(h:Gl P e)(h':BA P tbl):BA P (e::tbl):=fun x hx=>by
 rcases List.mem_cons.1 hx with rfl |hx
 ·exact h
 ·exact h' x hx
theorem CH{f:FuncId}{args:List AVal}{r:AVal}:∀{tbl:List Entry},AW f args tbl=some r→∃e∈tbl,e.f=f∧e.args=args∧e.res=r
 | [],h=>by simp[AW]at h
 |e::es,h=>by
  simp only[AW]at h;split at h
  ·rename_i hc;simp only[Bool.and_eq_true,beq_iff_eq]at hc;simp only[Option.some.injEq]at h;exact⟨e,by simp,hc.1,rB _ _ hc.2,h⟩
  ·obtain⟨e',h1,h2⟩:=CH h;exact⟨e',List.mem_cons_of_mem _ h1,h2⟩
theorem Ao(hm : P.follows .mixedOrders = true)(hN : ∀ (f : FuncId) (fn : Func), P.funcs[f]? = some fn → fn.name ≠ "runtime.NumGoroutine"){tbl : List Entry}(ht : BA P tbl)(loops : Nat) : ∀ n, gx P (wT P cfg tbl loops n)
 | 0=>⟨fun _ _ _ _ _ h=>by simp[wT]at h,fun _ _ _ _ _ h=>by simp[wT]at h⟩
 |n+1=>by
  refine⟨fun f args H r H1 h=>?_,fun _ _ _ _ _ h=>HM hm (Ao hm hN ht loops n) h⟩
  simp only[wT]at h;split at h
  ·rename_i v hv;simp only[Option.some.injEq,Prod.mk.injEq]at h;obtain⟨rfl,rfl⟩:=h;cases H with
   |nil=>
    obtain⟨e,he,rfl,rfl,rfl⟩:=CH hv;exact ht e he
   |cons x xs=>cases hv
  ·exact IW hm hN (Ao hm hN ht loops n) h
def AX(orc:jI)(e:Entry):Bool:=match orc.fn e.f e.args []with
 |some (.ret v,H1)=>match(snap oa v).run H1 with
  |some v'=>same v' e.res
  |none=>false
 |_=>false
theorem OG{orc:jI}(ho:gx P orc){e:Entry}(h:AX orc e=true):Gl P e:=by
 unfold AX at h;split at h
 ·rename_i v H1 hc;split at h
  ·rename_i v' hs;have:=vS _ _ h;subst this;obtain⟨h1,h2⟩:=ho.fn _ _ _ _ _ hc;refine⟨h1,fun g w vs hi hl=>(h2 g w vs hi hl).mono ?_⟩
   rintro en w' ⟨g',hi',hla,x,rfl,hr⟩;obtain⟨r1,r2⟩:=pO hi' _ _ _ _ hs hr;refine⟨gu g' H1,hi'.gu,⟨⟨fun b aq x hx=>?_,fun k o hk=>.inl (hla.ext.st k o hk),hla.ext.cell,hla.ext.shape⟩,hla.size,hla.keep,fun k _ ho=>absurd ho fM,Nat.le_refl _,hla.os,hla.tape,hla.output,fun k o hk hst=>?_,fun b hb=>by simp at hb,fun b aq k z h=>by cases h⟩,x,rfl,r1⟩
   ·rw[hi.fresh b aq (.inr (by simp))]at hx;cases hx
   ·rcases hst with hst |hst
    ·exact(hla.stk k o hk hst).imp_right fun h=>absurd h.1 fM
    ·exact absurd (hla.own k hk hst) fM
  ·cases h
 ·cases h
end
end Go.AM
end
section
namespace Go.AM
def litVal:Lit→Option Value
 | .bool b=>some (.bool b)
 | .int k n=>some (.int k n)
 | .string l=>some (.string ⟨l.toArray⟩)
 |_=>none
mutual
def wU{H:Type}:DataW H→Option (List Value)
 | .lit l=>(litVal l).map fun v=>[v]
 | .agg ds=>xx ds
 |_=>none
def xx{H:Type}:List (DataW H)→Option (List Value)
 | []=>some []
 |d::ds=>match wU d,xx ds with
  |some a,some b=>some (a++b)
  |_,_=>none
end
section
variable {H:Type} {enc:TypeId×Value→H} {P:Program} {w:World} {base:Nat} {sp:Nat→Bool} {held:Bool}
theorem u0{t n:Nat}(h:dG P t=some n):P.cellsOf t=n:=by
 unfold dG at h;simp[Program.cellsOf,h]
theorem G0{s:Nat}{cs:List Value}{F:List Value→Option (DataW H×List MemPlace)}(hF:∀c x v,F c=some x→wU x.1=some v→c=v):∀(xs:List (DataW H×List MemPlace)) (off:Nat) (vs:List Value),
 (∀i,i<xs.length→F ((cs.drop (off+i*s)).take s)=xs[i]?)→xx (xs.map (·.1))=some vs→(cs.drop off).take (xs.length*s)=vs
 | [],off,vs,_,h=>by simp[xx]at h;simp[h]
 |x::xs,off,vs,hx,h=>by
  simp only[List.map_cons,xx]at h;split at h
  ·rename_i a b ha hb;simp only[Option.some.injEq]at h;subst h;have h0:=hx 0 (by simp)
   simp only[Nat.zero_mul,Nat.add_zero,List.getElem?_cons_zero]at h0;have e0:=hF _ _ _ h0 ha;have e1:=G0 hF xs (off+s) b (fun i hi=>by
    have:=hx (i+1) (by simpa using hi)
    rw[List.getElem?_cons_succ]at this;rw[← this,Nat.add_mul,Nat.one_mul];congr 3;omega) hb
   rw[List.length_cons,Nat.add_mul,Nat.one_mul,Nat.add_comm,List.take_add,e0,List.drop_drop,e1]
  ·cases h
theorem Ea{K:TypeId→Option (List Kd)}{cs:List Value}{F:TypeId→List Value→Option (DataW H×List MemPlace)}(hF:∀t ks c x v,K t=some ks→F t c=some x→wU x.1=some v→c=v):
 ∀(fl:List Field) (off:Nat) (ks:List Kd) (xs:List (DataW H×List MemPlace)) (vs:List Value),dV.kindsFields P K fl off=some ks→xs.length=fl.length→
  (∀(i:Nat) (f:Field),fl[i]? =some f→F f.type ((cs.drop f.offset).take (P.cellsOf f.type))=xs[i]?)→xx (xs.map (·.1))=some vs→(cs.drop off).take ks.length=vs
 | [],off,ks,xs,vs,hk,hl,_,h=>by
  grind [dV.kindsFields,xx]
 |f::fl,off,ks,[],vs,_,hl,_,_=>by simp at hl
 |f::fl,off,ks,x::xs,vs,hk,hl,hx,h=>by
  simp only[dV.kindsFields]at hk;split at hk
  ·rename_i hc;split at hk
   ·rename_i k1 hk1;split at hk
    ·rename_i hsz;obtain⟨k2,hk2,rfl⟩:=Option.map_eq_some_iff.1 hk;simp only[beq_iff_eq]at hsz;simp only[List.map_cons,xx]at h;split at h
     ·rename_i a b ha hb;simp only[Option.some.injEq]at h;subst h;have h0:=hx 0 f (by simp)
      simp only[List.getElem?_cons_zero]at h0;have e0:=hF _ _ _ _ _ hk1 h0 ha;rw[hc.2,u0 hsz]at e0;have e1:=Ea hF fl (off+k1.length) k2 xs b hk2 (by simpa using hl) (fun i f' hf=>by
       have:=hx (i+1) f' (by simpa using hf)
       simpa using this) hb
      rw[List.length_append,List.take_add,e0,List.drop_drop,e1]
     ·cases h
    ·cases hk
   ·cases hk
  ·cases hk
theorem G1:∀(d t:Nat) (ks:List Kd) (fuel:Nat) (cs:List Value) (x:DataW H×List MemPlace) (vs:List Value),dV P d t=some ks→DataW.trod enc P w base sp held fuel t cs=some x→wU x.1=some vs→cs=vs
 | 0,_,_,_,_,_,_,hk,_,_=>by simp[dV]at hk
 |d+1,t,ks,fuel,cs,x,vs,hk,h,hv=>by
  have ih:=G1 d;simp only[dV]at hk;split at hk
  ·rename_i hu;have:∃b,cs=[.bool b]∧x=(.lit (.bool b),[]):=by
    cases fuel with
    |zero=>simp[DataW.trod]at h
    |succ n=>
     unfold DataW.trod at h;grind
   grind [wU,litVal]
  ·rename_i k hu;obtain⟨n,rfl,rfl,_⟩:=DataW.trod_int hu h;simpa[wU,litVal]using hv
  ·rename_i hu;obtain⟨s,rfl,rfl,_⟩:=DataW.trod_string hu h;simpa[wU,litVal]using hv
  ·rename_i fs hu;split at hk
   ·cases hk
   ·split at hk
    ·rename_i ks' hks;split at hk
     ·rename_i hsz;simp only[Option.some.injEq]at hk;subst hk;simp only[beq_iff_eq]at hsz;obtain⟨xs,n,rfl,rfl,hl,hxl,hget⟩:=DataW.trod_struct hu h;simp only[wU]at hv;have:=Ea (P:=P) (cs:=cs) (K:=dV P d) (F:=fun t c=>DataW.trod enc P w base sp held n t c) (fun t ks c x v hk hf hv=>ih t ks n c x v hk hf hv) fs.toList 0 ks' xs vs hks (by simpa using hxl) (fun i f hf=>hget i f (by simpa using hf)) hv
      grind [u0]
     ·cases hk
    ·cases hk
  ·rename_i n e hu;split at hk
   ·rename_i ks' hks;split at hk
    ·rename_i hsz;simp only[Bool.and_eq_true,beq_iff_eq]at hsz;obtain⟨xs,m,rfl,rfl,hl,hxl,hget⟩:=DataW.trod_array hu h;simp only[wU]at hv;rw[u0 hsz.1]at hget;have:=G0 (s:=ks'.length) (cs:=cs) (F:=fun c=>DataW.trod enc P w base sp held m e c) (fun c x v hf hv=>ih e ks' m c x v hks hf hv) xs 0 vs (fun i hi=>by
      grind) hv
     grind [u0]
    ·cases hk
   ·cases hk
  ·cases hk
theorem LH{name:String}{d:DataW Unit}{rest:List (String×DataW Unit)}{g t:Nat}{ks:List Kd}{vs:List Value}(hg:P.globalNamed name=some g)(hty:(P.globals[g]?).map (·.type)=some t)(hk:dV P 9 t=some ks)(hv:wU d=some vs)
 (h:laidMet P ((name,d)::rest) w):w.var? P name=some vs.toArray:=by
 obtain⟨ps,⟨g',t',cs,fuel,p,q,hg',ht',hvar,hd,_,_⟩,_⟩:=h;obtain rfl:=Option.some.inj (hg.symm.trans hg');obtain rfl:=Option.some.inj (hty.symm.trans ht');have:=G1 _ _ _ _ _ _ _ hk hd hv;rw[hvar,← this]
theorem Nf[gl:aH]{name:String}{g:Nat}{vs:List Value}(hg:P.globalNamed name=some g)(hvar:w.var? P name=some vs.toArray)(h1:vs.all (·.oneCell')=true)(hgl:∀i cs,gl.default.cells i=some cs→i=g∧cs=vs.map .sc):oP (Gh.bare w) w:=by
 intro i cs hi;obtain⟨rfl,rfl⟩:=hgl i cs hi;refine⟨?_,yt fun j x hx=>?_⟩
 ·exact rz.2 fun x hx=>by
   obtain⟨v,_,rfl⟩:=List.mem_map.1 hx;rfl
 ·rw[List.getElem?_map]at hx;obtain⟨v,hv,rfl⟩:=Option.map_eq_some_iff.1 hx;have hc:=World.var?_cell hg hvar j;rw[List.getElem?_toArray,hv]at hc;have hlt:i<w.heap.size:=by
   apply Decidable.byContradiction;intro hn;simp[World.cell?,Array.getElem?_eq_none (Nat.le_of_not_lt hn)]at hc
  rw[Nat.zero_add];exact⟨hlt,v,hc,List.all_eq_true.1 h1 v (List.mem_of_getElem? hv),by simp[R]⟩
end
end Go.AM
end
section
namespace Go.AM
abbrev Ren:=Nat→Nat→Option (Nat×Nat)
namespace AVal
mutual
def jm(f:Ren):AVal→AVal
 | .sc v=>.sc v
 | .agg cs=>.agg (oq f cs)
 | .dg cs=>.dg (oq f cs)
 | .ptr b aq i o=>match f b aq with
  |some (b',ver')=>.ptr b' ver' i o
  |none=>.ak
 | .bV cs o=>.bV cs o
 | .sl b aq sz o n=>match f b aq with
  |some (b',ver')=>.sl b' ver' sz o n
  |none=>.ak
 | .aB rows=>.aB rows
 | .fn g a b=>.fn g (oq f a) (oq f b)
 | .fK t v=>.fK t (jm f v)
 | .mp b=>match f b 0 with
  |some (b',0)=>.mp b'
  |_=>.ak
 | .jf b=>match f b 0 with
  |some (b',0)=>.jf b'
  |_=>.ak
 | .sa b aq i o s n=>match f b aq with
  |some (b',ver')=>.sa b' ver' i o s n
  |none=>.ak
 | .gB i o=>.gB i o
 | .emp=>.emp
 | .nz b=>.nz b
 | .ak=>.ak
def oq(f:Ren):List AVal→List AVal
 | []=>[]
 |a::as=>jm f a::oq f as
end
theorem Eb(f:Ren):∀(l:List AVal),(oq f l).length=l.length
 | []=>rfl
 |_::as=>by simp[oq,Eb f as]
end AVal
section
variable [aH] {g g':Gh} {w:World} {f:Ren}
mutual
theorem Fh(hst:∀k o,g.st k o→g'.st k o)(hf:∀b v b' v' x,f b v=some (b',v')→g.ai b v=some x→g'.ai b' v'=some x):∀(v:AVal) (x:Value),R g w v x→R g' w (v.jm f) x
 | .sc _,x,hr=>by simpa[R,AVal.jm]using hr
 | .agg cs,x,hr=>by
  simp only[R,AVal.jm]at hr ⊢;obtain⟨vs,e,h1,hl⟩:=hr;exact⟨vs,e,h1,tG hst hf cs vs hl⟩
 | .dg cs,x,hr=>by
  simp only[R,AVal.jm]at hr ⊢;obtain⟨vs,e,hl⟩:=hr;exact⟨vs,e,tG hst hf cs vs hl⟩
 | .ptr b aq i o,x,hr=>by
  grind [R,AVal.jm]
 | .bV cs o,x,hr=>by
  grind [R,AVal.jm,jQ]
 | .sl b aq sz o n,x,hr=>by
  grind [R,AVal.jm]
 | .aB rows,x,hr=>by
  simp only[R,AVal.jm]at hr ⊢;obtain⟨a,cap,e,hle,hr⟩:=hr;refine⟨a,cap,e,hle,?_⟩;rcases hr with h0 |⟨k,off,sz,ha,hc⟩
  ·exact .inl h0
  ·exact .inr ⟨k,off,sz,ha,Du hst rows k off sz hc⟩
 | .fn _ a b,x,hr=>by
  simp only[R,AVal.jm]at hr ⊢;obtain⟨va,vb,e,h1,h2⟩:=hr;exact⟨va,vb,e,tG hst hf a va h1,tG hst hf b vb h2⟩
 | .fK t v,x,hr=>by
  simp only[R,AVal.jm]at hr ⊢;obtain⟨y,e,h1⟩:=hr;exact⟨y,e,Fh hst hf v y h1⟩
 | .mp b,x,hr=>by
  grind [R,AVal.jm]
 | .jf b,x,hr=>by
  grind [R,AVal.jm]
 | .sa b aq i o s n,x,hr=>by
  grind [R,AVal.jm]
 | .gB i o,x,hr=>by simpa[R,AVal.jm]using hr
 | .emp,x,hr=>by simpa[R,AVal.jm]using hr
 | .nz _,x,hr=>by simpa[R,AVal.jm]using hr
 | .ak,x,_=>by simp[R,AVal.jm]
theorem tG(hst:∀k o,g.st k o→g'.st k o)(hf:∀b v b' v' x,f b v=some (b',v')→g.ai b v=some x→g'.ai b' v'=some x):∀(v:List AVal) (x:List Value),RL g w v x→RL g' w (AVal.oq f v) x
 | [],x,hr=>by simpa[RL,AVal.oq]using hr
 |a::as,x,hr=>by
  simp only[RL,AVal.oq]at hr ⊢;obtain⟨y,ys,e,h1,h2⟩:=hr;exact⟨y,ys,e,Fh hst hf a y h1,tG hst hf as ys h2⟩
end
def IX(f:Ren):ah→ah→Prop
 | .row _ sz rows,.row _ sz' rows'=>sz'=sz∧((rows'=rows∧rows.all AVal.bp=true)∨rows'=rows.map (AVal.oq f))
 | .map c es,.map c' es'=>c'=c∧((es'=es∧es.all (fun p=>p.1.pure&&p.2.1.pure)=true)∨es'=es.map fun p=>(p.1.jm f,p.2.1.jm f,p.2.2))
 | .loop st pend fid A ps as bd,.loop st' pend' fid' A' ps' as' bd'=>st'=st∧pend'=pend∧fid'=fid∧ps'=ps∧as'=as∧bd'=bd∧A'=AVal.oq f A
 | .defs,.defs=>True
 | .iter m since seen stepped,.iter m' since' seen' stepped'=>since'=since∧seen'=seen∧stepped'=stepped∧m'=m.jm f
 |_,_=>False
structure LI(g g':Gh)(H H':List ah)(f:Ren):Prop where
 st:g'.st=g.st
 ai:∀b v b' v' x,f b v=some (b',v')→g.ai b v=some x→g'.ai b' v'=some x
 blk:∀(b':Nat) (x':ah),H'[b']? =some x'→x'.live=none∨∃b x v v',H[b]? =some x∧x.live=some v∧x'.live=some v'∧f b v=some (b',v')∧g'.ai b' v'=g.ai b v∧IX f x x'
 fresh:∀b' v,(H'[b']? =some .bw∨H'.length≤b')→g'.ai b' v=none
 next:∀(b':Nat) (x':ah) v v',H'[b']? =some x'→x'.live=some v→v<v'→g'.ai b' v'=none
theorem OH{H H':List ah}(h:LI g g' H H' f){b b' v v':Nat}{x x':ah}(hg:Good g w b x)(hv:x.live=some v)(hv':x'.live=some v')(hr:g'.ai b' v'=g.ai b v)(hb:IX f x x'):Good g' w b' x':=by
 have hst:∀k o,g.st k o→g'.st k o:=fun k o h'=>by rw[h.st];exact h'
 cases x<;>cases x'<;>simp only[IX]at hb<;>try exact hb.elim
 case row.row aq sz rows ver' sz' rows'=>
  simp only[ah.live,Option.some.injEq]at hv hv';subst hv;subst hv';obtain⟨rfl,hb⟩:=hb;rcases hg with⟨k,c,e,h1,h2,h3,h4,h5⟩ |⟨rfl,h2,h3⟩
  ·rcases hb with⟨rfl,hp⟩ |rfl
   ·refine .inl ⟨k,c,e,hr.trans h1,h2,jk _ _ fun j r hj=>?_,h4,h5⟩
    obtain⟨r1,r2⟩:=dh _ _ _ _ h3 hj;obtain⟨vs,v1,v2,v3,v4⟩:=fk r2;exact⟨r1,dZ (nC hst _ _ (List.all_eq_true.1 hp r (List.mem_of_getElem? hj)) v3) v2 v4⟩
   ·refine .inl ⟨k,c,e,hr.trans h1,h2,jk _ _ fun j r hj=>?_,by simpa using h4,h5⟩
    rw[List.getElem?_map]at hj;obtain⟨r0,hj0,rfl⟩:=Option.map_eq_some_iff.1 hj;obtain⟨r1,r2⟩:=dh _ _ _ _ h3 hj0;obtain⟨vs,v1,v2,v3,v4⟩:=fk r2;exact⟨by rw[AVal.Eb,r1],dZ (tG hst h.ai _ _ v3) v2 v4⟩
  ·rcases hb with⟨rfl,_⟩ |rfl
   ·exact .inr ⟨rfl,hr.trans h2,h3⟩
   ·exact .inr ⟨rfl,hr.trans h2,h3⟩
 case map.map c es c' es'=>
  simp only[ah.live,Option.some.injEq]at hv hv';subst hv;subst hv';obtain⟨rfl,hb⟩:=hb;obtain⟨k,ents,h1,h2,h3⟩:=hg;refine⟨k,ents,hr.trans h1,h2,?_⟩;grind [nG,xm,ko,Fh,h.ai]
 case loop.loop=>
  simp only[ah.live,Option.some.injEq]at hv hv';subst hv;subst hv';obtain⟨rfl,rfl,rfl,rfl,rfl,rfl,rfl⟩:=hb;obtain⟨k,tmps,dk,fn,h1,h2,h3⟩:=hg;exact⟨k,tmps,dk,fn,hr.trans h1,h2,tG hst h.ai _ _ h3⟩
 case iter.iter=>
  simp only[ah.live,Option.some.injEq]at hv hv';subst hv;subst hv';obtain⟨rfl,rfl,rfl,rfl⟩:=hb;obtain⟨k,mo,h1,h2,h3⟩:=hg;exact⟨k,mo,hr.trans h1,h2,Fh hst h.ai _ _ h3⟩
 case defs.defs=>
  simp only[ah.live,Option.some.injEq]at hv hv';subst hv;subst hv';obtain⟨k,h1,h2⟩:=hg;exact⟨k,hr.trans h1,h2⟩
theorem Inv.jm{H H':List ah}(hi:Inv g H w)(h:LI g g' H H' f):Inv g' H' w:=by
 have hst:∀k o,g.st k o→g'.st k o:=fun k o h'=>by rw[h.st];exact h'
 refine⟨?_,?_,h.fresh,h.next,?_,?_,hi.dw.st hst⟩
 ·intro b' x' hb';rcases h.blk b' x' hb' with hl |⟨b,x,v,v',h1,h2,h3,h4,h5,h6⟩
  ·cases x'<;>simp[ah.live]at hl<;>trivial
  ·exact OH h (hi.good b x h1) h2 h3 h5 h6
 ·intro b1 b2 x1 x2 v1 v2 k z1 z2 hb1 hb2 l1 l2 k1 k2;rcases h.blk b1 x1 hb1 with hl |⟨c1,y1,u1,u1',p1,p2,p3,p4,p5,p6⟩
  ·rw[l1]at hl;cases hl
  ·rcases h.blk b2 x2 hb2 with hl |⟨c2,y2,u2,u2',q1,q2,q3,q4,q5,q6⟩
   ·rw[l2]at hl;cases hl
   ·rw[l1]at p3;cases p3;rw[l2]at q3;cases q3;rw[p5]at k1;rw[q5]at k2;have:=hi.inj c1 c2 y1 y2 u1 u2 k z1 z2 p1 q1 p2 q2 k1 k2;grind
 ·intro b' x' v k z o hb' hl hk hs;rcases h.blk b' x' hb' with hl' |⟨b,x,u,u',p1,p2,p3,p4,p5,p6⟩
  ·rw[hl]at hl';cases hl'
  ·rw[hl]at p3;cases p3;rw[p5]at hk;rw[h.st]at hs;exact hi.free b x u k z o p1 p2 hk hs
 ·intro k o hs;rw[h.st]at hs;exact hi.eN k o hs
end
def gZ[aH](H0:List ah)(s s':St):Prop:=
 ∀(g0:Gh) (w0:World) (g:Gh) (a:Act) (w:World),Inv g0 H0 w0→aW g0 H0 w0 g s.H w→eH g s a w→∃g',eH g' s' a w∧aW g0 H0 w0 g' s'.H w
theorem gZ.refl[aH](H0:List ah)(s:St):gZ H0 s s:=fun _ _ g _ _ _ hl hs=>⟨g,hs,hl⟩
theorem gZ.trans[aH]{H0:List ah}{s s1 s2:St}(h:gZ H0 s s1)(h':gZ H0 s1 s2):gZ H0 s s2:=fun g0 w0 g a w hi hl hs=>
 let⟨g1,hs1,hl1⟩:=h g0 w0 g a w hi hl hs
 h' g0 w0 g1 a w hi hl1 hs1
def ah.tH:ah→Option Nat
 | .row v _ _=>some v
 |_=>none
def qI:ah→Bool
 | .row _ _ rows=>rows.all AVal.bp
 | .map _ es=>es.all fun p=>p.1.pure&&p.2.1.pure
 |_=>true
def CI(pu:List Nat)(H:List ah):Prop:=∀b∈pu,∀x,H[b]? =some x→qI x=true
def oG(b:Nat):List Nat→Nat→Option Nat
 | [],_=>none
 |c::cs,j=>match c==b with
  |true=>some j
  |false=>oG b cs (j+1)
def yR:List Nat→Bool
 | []=>true
 |c::cs=> !cs.contains c&&yR cs
def nL(bump:List Nat)(H0 H:List ah)(b:Nat):Option (Nat×Nat):=
 match bump.contains b with
 |true=>match(H0[b]?).bind ah.tH,(H[b]?).bind ah.tH with
  |some v0,some v1=>some (v0,v1)
  |_,_=>none
 |false=>none
def td(H0:List ah)(b:Nat):Bool:=match H0[b]? with
 |some .bw=>false
 |some _=>true
 |none=>false
theorem KQ{H0:List ah}{b:Nat}(h:td H0 b=true):b<H0.length:=by
 grind [td]
theorem Fi{H0:List ah}{b:Nat}(h:td H0 b=false):H0[b]? =some .bw∨H0.length≤b:=by
 grind [td]
def qQ(bl bump:List Nat)(H0 H:List ah):Ren:=fun b v=>
 match td H0 b with
 |true=>match nL bump H0 H b with
  |some (v0,v1)=>if v=v1 then some (b,v0+1)else none
  |none=>some (b,v)
 |false=>match oG b bl 0 with
  |some j=>if(H[b]?).bind ah.live=some v then some (H0.length+j,0)else none
  |none=>none
def iR(f:Ren)(p:Bool)(v':Option Nat):ah→ah
 | .row v sz rows=>.row (v'.getD v) sz (match p with |true=>rows |false=>rows.map (AVal.oq f))
 | .map c es=>.map c (match p with |true=>es |false=>es.map fun p=>(p.1.jm f,p.2.1.jm f,p.2.2))
 | .loop st pend fid A ps as bd=>.loop st pend fid (AVal.oq f A) ps as bd
 | .iter m since seen stepped=>.iter (m.jm f) since seen stepped
 |x=>x
def oW(f:Ren)(pu bump:List Nat)(H0 H:List ah):Nat→List ah→List ah
 |_,[]=>[]
 |b,x::xs=>(match td H0 b with |true=>iR f (pu.contains b) ((nL bump H0 H b).map (·.1+1)) x |false=>.bw)::oW f pu bump H0 H (b+1) xs
def EF(f:Ren):List ta→Option (List ta)
 | []=>some []
 | .call h args::ds=>(EF f ds).map (.call h (AVal.oq f args):: ·)
 | .mark b::ds=>if f b 0=some (b,0)then(EF f ds).map (.mark b:: ·)else none
def OI(bl bump pu:List Nat)(H0:List ah)(s:St):Option St:=
 match yR bl&&bl.all (fun b=> !td H0 b&&decide (b<s.H.length))with
 |true=>match EF (qQ bl bump H0 s.H) s.D with
  |some D=>some ⟨AVal.oq (qQ bl bump H0 s.H) s.A,oW (qQ bl bump H0 s.H) pu bump H0 s.H 0 (s.H.take H0.length)++bl.map (fun b=>iR (qQ bl bump H0 s.H) (pu.contains b) (some 0) (s.H.getD b .dead)),D⟩
  |none=>none
 |false=>none
theorem uF:∀{bl:List Nat} {b i j:Nat},oG b bl i=some j→i≤j∧bl[j - i]? =some b
 | [],b,i,j,h=>by simp[oG]at h
 |c::cs,b,i,j,h=>by
  simp only[oG]at h;split at h
  ·grind
  ·obtain⟨h1,h2⟩:=uF h;grind
theorem Ap:∀{bl:List Nat} {b j:Nat} (i:Nat),yR bl=true→bl[j]? =some b→oG b bl i=some (i+j)
 | [],b,j,i,_,h=>by simp at h
 |c::cs,b,0,i,_,h=>by simp at h;subst h;simp[oG]
 |c::cs,b,j+1,i,hn,h=>by
  simp only[yR,Bool.and_eq_true,Bool.not_eq_true']at hn;simp only[List.getElem?_cons_succ]at h;have hne:(c==b)=false:=by
   apply beq_false_of_ne;rintro rfl;have:=List.mem_of_getElem? h;simp[this]at hn
  simp only[oG,hne];rw[Ap (i+1) hn.2 h,show i+1+j=i+(j+1)by omega]
theorem Aq(f:Ren)(pu bump:List Nat)(H0 H:List ah):∀(l:List ah) (b j:Nat),(oW f pu bump H0 H b l)[j]? =(l[j]?).map fun x=>match td H0 (b+j)with |true=>iR f (pu.contains (b+j)) ((nL bump H0 H (b+j)).map (·.1+1)) x |false=>.bw
 | [],b,j=>by simp[oW]
 |x::xs,b,0=>by simp[oW]
 |x::xs,b,j+1=>by
  simp only[oW,List.getElem?_cons_succ];rw[Aq f pu bump H0 H xs (b+1) j,show b+1+j=b+(j+1)by omega]
theorem qJ(f:Ren)(p:Bool)(v':Option Nat)(x:ah):(iR f p v' x).live=match x with | .row v _ _=>some (v'.getD v) |x=>x.live:=by cases x<;>rfl
theorem yw(f:Ren)(p:Bool)(v':Option Nat){x:ah}(hp:p=true→qI x=true)(hl:x.live≠none):IX f x (iR f p v' x):=by
 cases x with
 |row v sz rows=>
  refine⟨rfl,?_⟩;cases p with
  |true=>exact .inl ⟨rfl,hp rfl⟩
  |false=>exact .inr rfl
 |map c es=>
  refine⟨rfl,?_⟩;cases p with
  |true=>exact .inl ⟨rfl,hp rfl⟩
  |false=>exact .inr rfl
 |loop=>exact⟨rfl,rfl,rfl,rfl,rfl,rfl,rfl⟩
 |defs=>trivial
 |iter=>exact⟨rfl,rfl,rfl,rfl⟩
 |bw=>exact absurd rfl hl
 |dead=>exact absurd rfl hl
def ot(bl bump:List Nat)(H0 H:List ah)(g:Gh):Gh:=
 {ai:=fun b v=>match decide (b<H0.length)with
  |true=>match td H0 b with
   |true=>match nL bump H0 H b with
    |some (v0,v1)=>if v≤v0 then g.ai b v else if v=v0+1 then g.ai b v1 else none
    |none=>g.ai b v
   |false=>none
  |false=>match bl[b - H0.length]? with
   |some c=>if v=0 then(match(H[c]?).bind ah.live with |some u=>g.ai c u |none=>none)else none
   |none=>none
  st:=g.st}
theorem Ec{x:ah}{v:Nat}(h:x.tH=some v):x.live=some v:=by cases x<;>simp[ah.tH]at h<;>simp[ah.live,h]
theorem tI{bump:List Nat}{H0 H:List ah}{b v0 v1:Nat}(h:nL bump H0 H b=some (v0,v1)):(∃x0,H0[b]? =some x0∧x0.tH=some v0)∧∃x1,H[b]? =some x1∧x1.tH=some v1:=by
 grind [nL]
theorem OJ[aH]{bl bump pu:List Nat}{H0:List ah}{s s':St}(AY:CI pu s.H)(h:OI bl bump pu H0 s=some s'):gZ H0 s s':=by
 intro g0 w0 g a w hi0 hl hs;unfold OI at h;split at h
 ·rename_i hc;simp only[Bool.and_eq_true,List.all_eq_true,decide_eq_true_eq,Bool.not_eq_true']at hc;obtain⟨hnd,hbl⟩:=hc;split at h
  ·rename_i D hD;simp only[Option.some.injEq]at h;subst h;have hlen:H0.length≤s.H.length:=hl.len;have htl:(s.H.take H0.length).length=H0.length:=by simp;omega
   have hrl:(oW (qQ bl bump H0 s.H) pu bump H0 s.H 0 (s.H.take H0.length)).length=H0.length:=by
    have:∀(l:List ah) (b:Nat),(oW (qQ bl bump H0 s.H) pu bump H0 s.H b l).length=l.length:=by
     intro l;induction l with
     |nil=>intro b;rfl
     |cons x xs ih=>intro b;simp[oW,ih]
    rw[this,htl]
   have side:∀(b':Nat) (x':ah),(oW (qQ bl bump H0 s.H) pu bump H0 s.H 0 (s.H.take H0.length)++bl.map (fun b=>iR (qQ bl bump H0 s.H) (pu.contains b) (some 0) (s.H.getD b .dead)))[b']? =some x'→
    (b'<H0.length∧td H0 b'=true∧∃x,s.H[b']? =some x∧x'=iR (qQ bl bump H0 s.H) (pu.contains b') ((nL bump H0 s.H b').map (·.1+1)) x)∨
    (b'<H0.length∧td H0 b'=false∧x'=.bw)∨
    (H0.length≤b'∧∃b x,bl[b' - H0.length]? =some b∧s.H[b]? =some x∧x'=iR (qQ bl bump H0 s.H) (pu.contains b) (some 0) x):=by
    intro b' x' hx;by_cases hb:b'<H0.length
    ·grind [Aq,td]
    ·grind
   have hpure:∀b x,s.H[b]? =some x→pu.contains b=true→qI x=true:=fun b x hx hc=>AY b (by simpa using hc) x hx
   have ok:LI g (ot bl bump H0 s.H g) s.H (oW (qQ bl bump H0 s.H) pu bump H0 s.H 0 (s.H.take H0.length)++bl.map (fun b=>iR (qQ bl bump H0 s.H) (pu.contains b) (some 0) (s.H.getD b .dead))) (qQ bl bump H0 s.H):=by
    refine⟨rfl,?_,?_,?_,?_⟩
    ·intro b v b' v' x hf hr;unfold qQ at hf;split at hf
     ·grind [KQ,ot]
     ·rename_i hlt;split at hf
      ·rename_i j hj;split at hf
       ·rename_i hv;simp only[Option.some.injEq,Prod.mk.injEq]at hf;obtain⟨rfl,rfl⟩:=hf;obtain⟨_,hj⟩:=uF hj;have h1:decide (H0.length+j<H0.length)=false:=by simp
        simp only[ot,h1,Nat.add_sub_cancel_left];grind
       ·cases hf
      ·cases hf
    ·intro b' x' hx;rcases side b' x' hx with⟨hlt,hold,x,h1,rfl⟩ |⟨_,_,rfl⟩ |⟨hge,b,x,h1,h2,rfl⟩
     ·by_cases hlv:x.live=none
      ·grind [qJ,ah.live]
      ·right;obtain⟨v,hv⟩:=Option.ne_none_iff_exists'.1 hlv;have hlt':decide (b'<H0.length)=true:=by simpa using hlt
       cases hbu:nL bump H0 s.H b' with
       |none=>
        refine⟨b',x,v,v,h1,hv,?_,by simp only[qQ,hold,hbu],by simp only[ot,hlt',hold,hbu],yw _ _ _ (hpure _ _ h1) hlv⟩
        grind [qJ,ah.live]
       |some p=>
        obtain⟨v0,v1⟩:=p;obtain⟨_,x1,q1,q2⟩:=tI hbu;rw[h1]at q1;cases q1;have:v=v1:=by rw[Ec q2]at hv;cases hv;rfl
        subst this;refine⟨b',x,v,v0+1,h1,hv,?_,by simp only[qQ,hold,hbu,if_true],?_,yw _ _ _ (hpure _ _ h1) hlv⟩
        ·grind [qJ,ah.tH]
        grind [ot]
     ·exact .inl rfl
     ·by_cases hlv:x.live=none
      ·grind [qJ,ah.live]
      ·right;obtain⟨v,hv⟩:=Option.ne_none_iff_exists'.1 hlv;have hbge:=(hbl b (List.mem_of_getElem? h1)).1;have hlt2:decide (b'<H0.length)=false:=by simp;omega
       refine⟨b,x,v,0,h2,hv,?_,?_,?_,yw _ _ _ (hpure _ _ h2) hlv⟩
       ·rw[qJ];cases x<;>simp[ah.live]at hv ⊢
       ·simp only[qQ,hbge,Ap 0 hnd h1,Nat.zero_add];grind
       grind [ot]
    ·intro b' v hb;rcases hb with hb |hb
     ·rcases side b' _ hb with⟨hlt,hold,x,h1,hx⟩ |⟨hlt,hold,_⟩ |⟨hge,b,x,h1,h2,hx⟩
      ·have hx':x=.bw:=by cases x<;>simp[iR]at hx;rfl
       subst hx';have hlt':decide (b'<H0.length)=true:=by simpa using hlt
       have hbu:nL bump H0 s.H b'=none:=by
        cases hbu:nL bump H0 s.H b' with
        |none=>rfl
        |some p=>
         grind [tI,ah.tH]
       simp only[ot,hlt',hold,hbu];exact hs.inv.fresh b' v (.inl h1)
      ·grind [ot]
      ·have hx':x=.bw:=by cases x<;>simp[iR]at hx;rfl
       grind [ot,ah.live]
     grind [ot]
    ·intro b' x' v v' hx hv hlt;rcases side b' x' hx with⟨hlb,hold,x,h1,rfl⟩ |⟨_,_,rfl⟩ |⟨hge,b,x,h1,h2,rfl⟩
     ·have hlt':decide (b'<H0.length)=true:=by simpa using hlb
      rw[qJ]at hv;cases hbu:nL bump H0 s.H b' with
      |none=>
       simp only[ot,hlt',hold,hbu];rw[hbu]at hv;refine hs.inv.next b' x v v' h1 ?_ hlt;grind [ah.live]
      |some p=>
       grind [tI,ot,ah.tH]
     ·cases hv
     grind [ot]
   refine⟨ot bl bump H0 s.H g,⟨hs.inv.jm ok,tG (g:=g) (g':=ot bl bump H0 s.H g) (fun _ _ h=>h) ok.ai _ _ hs.tmps,?_⟩,?_⟩
   ·have key:∀(l l':List ta) (ds:List Deferred),EF (qQ bl bump H0 s.H) l=some l'→RD g w l ds→RD (ot bl bump H0 s.H g) w l' ds:=by
     intro l;induction l with
     |nil=>intro l' ds h hd;simp[EF]at h;subst h;exact hd
     |cons d l ih=>
      intro l' ds h hd;obtain⟨d',ds',rfl,h1,h2⟩:=hd;cases d with
      |call f args=>
       simp only[EF,Option.map_eq_some_iff]at h;obtain⟨l2,h,rfl⟩:=h;obtain⟨cap,t1,t2⟩:=h1;exact⟨d',ds',rfl,⟨cap,t1,tG (g:=g) (g':=ot bl bump H0 s.H g) (fun _ _ h=>h) ok.ai _ _ t2⟩,ih _ _ h h2⟩
      |mark b=>
       simp only[EF]at h;split at h
       ·rename_i hb;obtain⟨l2,h0,rfl⟩:=Option.map_eq_some_iff.1 h;obtain⟨k,sz,t1,t2⟩:=h1;exact⟨d',ds',rfl,⟨k,sz,ok.ai _ _ _ _ _ hb t1,t2⟩,ih _ _ h0 h2⟩
       ·cases h
    exact key _ _ _ hD hs.defs
   ·refine⟨⟨?_,hl.ext.st,hl.ext.cell,hl.ext.shape⟩,hl.size,hl.keep,?_,by simp[hrl],hl.os,hl.tape,hl.output,fun k o hk hs=>?_,?_,?_⟩
    ·intro b v x hx;have hold:td H0 b=true:=by
      cases ho:td H0 b with
      |true=>rfl
      |false=>rw[hi0.fresh b v (Fi ho)]at hx;cases hx
     have hlt':decide (b<H0.length)=true:=by simpa using KQ hold
     cases hbu:nL bump H0 s.H b with
     |none=>simp only[ot,hlt',hold,hbu];exact hl.ext.ai b v x hx
     |some p=>
      obtain⟨v0,v1⟩:=p;obtain⟨⟨x0,q1,q2⟩,_⟩:=tI hbu;simp only[ot,hlt',hold,hbu];have:v≤v0:=by
       apply Decidable.byContradiction;intro hn;rw[hi0.next b x0 v0 v q1 (Ec q2) (by omega)]at hx;cases hx
      rw[if_pos this];exact hl.ext.ai b v x hx
    ·rintro k hk ⟨b',x',v',z,h1,h2,h3⟩;rcases ok.blk b' x' h1 with hn |⟨b,x,v,v2,p1,p2,p3,p4,p5,p6⟩
     ·rw[h2]at hn;cases hn
     ·rw[h2]at p3;cases p3;rw[p5]at h3;exact hl.own k hk ⟨b,x,v,z,p1,p2,h3⟩
    ·rcases hl.stk k o hk hs with h1 |⟨h1,h2⟩
     ·exact .inl h1
     ·refine .inr ⟨h1,?_⟩;rintro⟨b',x',v',z,q1,q2,q3⟩;rcases ok.blk b' x' q1 with hn |⟨b,x,v,v2,p1,p2,p3,p4,p5,p6⟩
      ·rw[q2]at hn;cases hn
      ·rw[q2]at p3;cases p3;rw[p5]at q3;exact h2 ⟨b,x,v,z,p1,p2,q3⟩
    ·intro b hb;have hlt:b<H0.length:=(List.getElem?_eq_some_iff.1 hb).1;have hlt':decide (b<H0.length)=true:=by simpa using hlt
     obtain⟨d1,d2⟩:=hl.tV b hb;have hbu:nL bump H0 s.H b=none:=by
      cases hbu:nL bump H0 s.H b with
      |none=>rfl
      |some p=>
       grind [tI,ah.tH]
     have hold:td H0 b=true:=by simp[td,hb]
     refine⟨?_,fun aq=>by grind [ot]⟩
     rw[List.getElem?_append_left (by omega),Aq,Nat.zero_add,List.getElem?_take,if_pos hlt,d1]
     simp only[Option.map_some,hold];rfl
    ·intro b' v' k z hr;simp only[ot]at hr;split at hr
     ·split at hr
      ·split at hr
       ·split at hr
        ·exact hl.s9 b' _ k z hr
        ·split at hr
         ·exact hl.s9 b' _ k z hr
         ·cases hr
       ·exact hl.s9 b' _ k z hr
      ·cases hr
     ·split at hr
      ·rename_i c hcb;split at hr
       ·split at hr
        ·rcases hl.s9 c _ k z hr with⟨u,z',hu⟩ |hn
         ·have:=(hbl c (List.mem_of_getElem? hcb)).1;rw[hi0.fresh c u (Fi this)]at hu;cases hu
         ·exact .inr hn
        ·cases hr
       ·cases hr
      ·cases hr
  ·cases h
 ·cases h
def Ng:AVal→AVal
 | .sc (.slice none 0 0)=>.aB []
 | .emp=>.aB []
 | .nz _=>.aB []
 |v=>v
mutual
def jg:AVal→AVal
 | .sc v=>Ng (.sc v)
 | .emp=>.aB []
 | .nz _=>.aB []
 | .agg cs=>.agg (nM cs)
 | .dg cs=>.dg (nM cs)
 | .fn f a b=>.fn f (nM a) (nM b)
 | .fK t v=>.fK t v
 | .bV cs o=>.bV (nM cs) o
 |v=>v
def nM:List AVal→List AVal
 | []=>[]
 |a::as=>jg a::nM as
end
section
variable [aH] {g:Gh} {w:World}
theorem Ia{v:AVal}{x:Value}(h:R g w v x):R g w (Ng v) x:=by
 unfold Ng;grind [fZ,R]
mutual
theorem OK:∀(v:AVal),v.pure=true→(jg v).pure=true
 | .sc v,h=>by
  simp only[jg,Ng];split<;>simp_all [AVal.pure]
 | .emp,_=>by simp[jg,AVal.pure]
 | .nz _,_=>by simp[jg,AVal.pure]
 | .agg cs,h=>by simp only[AVal.pure]at h;simp only[jg,AVal.pure,uh cs h]
 | .dg cs,h=>by simp only[AVal.pure]at h;simp only[jg,AVal.pure,uh cs h]
 | .fn f a b,h=>by simp only[AVal.pure,Bool.and_eq_true]at h;simp only[jg,AVal.pure,uh a h.1,uh b h.2,Bool.and_self]
 | .fK t v,h=>by simpa only[jg]using h
 | .bV cs o,_=>by simp[jg,AVal.pure]
 | .ptr ..,h=>by simpa only[jg]using h
 | .sl ..,h=>by simpa only[jg]using h
 | .aB _,h=>by simpa only[jg]using h
 | .mp _,h=>by simpa only[jg]using h
 | .jf _,h=>by simpa only[jg]using h
 | .sa ..,h=>by simpa only[jg]using h
 | .gB ..,h=>by simpa only[jg]using h
 | .ak,h=>by simpa only[jg]using h
theorem uh:∀(l:List AVal),AVal.bp l=true→AVal.bp (nM l)=true
 | [],_=>rfl
 |a::as,h=>by simp only[AVal.bp,Bool.and_eq_true]at h;simp only[nM,AVal.bp,OK a h.1,uh as h.2,Bool.and_self]
end
mutual
theorem Dw:∀(v:AVal) (x:Value),R g w v x→R g w (jg v) x
 | .sc v,x,h=>by simp only[jg];exact Ia h
 | .emp,x,h=>by simp only[jg];exact Ia (v:=.emp) h
 | .nz b,x,h=>by simp only[jg];exact Ia (v:=.nz b) h
 | .agg cs,x,h=>by
  simp only[jg,R]at h ⊢;obtain⟨vs,e,h1,hl⟩:=h;exact⟨vs,e,h1,xy cs vs hl⟩
 | .dg cs,x,h=>by
  simp only[jg,R]at h ⊢;obtain⟨vs,e,hl⟩:=h;exact⟨vs,e,xy cs vs hl⟩
 | .fn f a b,x,h=>by
  simp only[jg,R]at h ⊢;obtain⟨va,vb,e,h1,h2⟩:=h;exact⟨va,vb,e,xy a va h1,xy b vb h2⟩
 | .fK t v,x,h=>by simpa only[jg]using h
 | .bV cs o,x,h=>by
  simp only[jg,R]at h ⊢;obtain⟨k,off,e,hp,hc⟩:=h;exact⟨k,off,e,uh cs hp,IY cs k off hc⟩
 | .ptr ..,x,h=>by simpa only[jg]using h
 | .sl ..,x,h=>by simpa only[jg]using h
 | .aB _,x,h=>by simpa only[jg]using h
 | .mp _,x,h=>by simpa only[jg]using h
 | .jf _,x,h=>by simpa only[jg]using h
 | .sa ..,x,h=>by simpa only[jg]using h
 | .gB ..,x,h=>by simpa only[jg]using h
 | .ak,x,h=>by simpa only[jg]using h
theorem xy:∀(l:List AVal) (vs:List Value),RL g w l vs→RL g w (nM l) vs
 | [],vs,h=>by simpa only[nM]using h
 |a::as,vs,h=>by
  simp only[nM,RL]at h ⊢;obtain⟨y,ys,e,h1,h2⟩:=h;exact⟨y,ys,e,Dw a y h1,xy as ys h2⟩
theorem IY:∀(l:List AVal) (k o:Nat),RC g w l k o→RC g w (nM l) k o
 | [],k,o,h=>by simpa only[nM]using h
 |a::as,k,o,h=>by
  simp only[nM,RC]at h ⊢;obtain⟨⟨hs,y,hy,ho,hr⟩,h2⟩:=h;exact⟨⟨hs,y,hy,ho,Dw a y hr⟩,IY as k (o+1) h2⟩
end
theorem KR{A:List AVal}{vs:List Value}{d:Nat}{v v':AVal}(h:RL g w A vs)(hd:A[d]? =some v)(hv:∀x,R g w v x→R g w v' x):RL g w (A.set d v') vs:=by
 grind [dM,uN]
theorem Inv.Nh{H:List ah}(hi:Inv g H w){b aq sz i j:Nat}{rows:List (List AVal)}{cs:List AVal}{v v':AVal}(hb:H[b]? =some (.row aq sz rows))(hcs:rows[i]? =some cs)(hj:cs[j]? =some v)(hv:∀x,R g w v x→R g w v' x):
 Inv g (H.set b (.row aq sz (rows.set i (cs.set j v')))) w∧aW g H w g (H.set b (.row aq sz (rows.set i (cs.set j v')))) w:=by
 have hlt:b<H.length:=(List.getElem?_eq_some_iff.1 hb).1;have f:∀(b':Nat) (x':ah) (v1:Nat),(H.set b (.row aq sz (rows.set i (cs.set j v'))))[b']? =some x'→x'.live=some v1→∃x1,H[b']? =some x1∧x1.live=some v1:=by
  intro b' x' v1 h hl;rcases bW h with⟨rfl,he,_⟩ |⟨_,h⟩
  ·subst he;exact⟨_,hb,hl⟩
  ·exact⟨x',h,hl⟩
 refine⟨⟨?_,?_,?_,?_,?_,hi.eN,hi.dw⟩,⟨Ext.refl g w,Nat.le_refl _,fun _ _ _=>rfl,?_,by simp,rfl,⟨rfl,Nat.le_refl _⟩,rfl,fun _ _ _ h=>.inl h,?_,fun _ aq _ z h=>.inl ⟨aq,z,h⟩⟩⟩
 ·intro b' x h;rcases bW h with⟨rfl,he,_⟩ |⟨hne,h⟩
  ·subst he;rcases hi.good _ _ hb with⟨k,c,e,h1,h2,h3,h4,h5⟩ |⟨h1,_⟩
   ·refine .inl ⟨k,c,e,h1,h2,jk _ _ fun i' r hi'=>?_,by simpa using h4,h5⟩
    by_cases hii:i=i'
    ·subst hii;have hil:i<rows.length:=(List.getElem?_eq_some_iff.1 hcs).1;rw[List.getElem?_set_self hil]at hi';cases hi';obtain⟨r1,r2⟩:=dh _ _ _ _ h3 hcs;obtain⟨vs,v1,v2,v3,v4⟩:=fk r2;exact⟨by simpa using r1,dZ (KR v3 hj hv) v2 v4⟩
    ·rw[List.getElem?_set_ne hii]at hi';exact dh _ _ _ _ h3 hi'
   ·subst h1;simp at hcs
  ·exact hi.good b' x h
 ·intro b1 b2 x1 x2 v1 v2 k z1 z2 h1 h2 l1 l2 k1 k2;obtain⟨y1,p1,p2⟩:=f _ _ _ h1 l1;obtain⟨y2,q1,q2⟩:=f _ _ _ h2 l2;exact hi.inj b1 b2 y1 y2 v1 v2 k z1 z2 p1 q1 p2 q2 k1 k2
 ·intro b' v h;rcases h with h |h
  ·rcases bW h with⟨rfl,he,_⟩ |⟨_,h⟩
   ·cases he
   ·exact hi.fresh b' v (.inl h)
  ·exact hi.fresh b' v (.inr (by simpa using h))
 ·intro b' x v v' h hl hv;obtain⟨y1,p1,p2⟩:=f _ _ _ h hl;exact hi.next b' y1 v v' p1 p2 hv
 ·intro b' x v k z o h hl hk;obtain⟨y1,p1,p2⟩:=f _ _ _ h hl;exact hi.free b' y1 v k z o p1 p2 hk
 ·rintro k _ ⟨b',x,v,z,h,hl,hz⟩;obtain⟨y1,p1,p2⟩:=f _ _ _ h hl;exact⟨b',y1,v,z,p1,p2,hz⟩
 grind
end
inductive Pl where
 |s (d:Nat)
 |c (d j:Nat)
 |b (b j:Nat)
def uj(s:St):Pl→Option AVal
 | .s d=>s.A[d]?
 | .c d j=>match s.A[d]? with
  |some (.ptr b aq i o)=>match s.H[b]? with
   |some (.row v _ rows)=>match decide (v=aq)with
    |true=>(rows[i]?).bind fun cs=>cs[o+j]?
    |false=>none
   |_=>none
  |_=>none
 | .b b j=>match s.H[b]? with
  |some (.row _ _ rows)=>(rows[0]?).bind fun cs=>cs[j]?
  |_=>none
def BB(s:St)(v':AVal):Pl→St
 | .s d=>{s with A:=s.A.set d v'}
 | .c d j=>match s.A[d]? with
  |some (.ptr b _ i o)=>match s.H[b]? with
   |some (.row v sz rows)=>{s with H:=s.H.set b (.row v sz (rows.set i ((rows.getD i []).set (o+j) v')))}
   |_=>s
  |_=>s
 | .b b j=>match s.H[b]? with
  |some (.row v sz rows)=>{s with H:=s.H.set b (.row v sz (rows.set 0 ((rows.getD 0 []).set j v')))}
  |_=>s
theorem yx[aH]{s:St}{p:Pl}{v v':AVal}(hp:uj s p=some v){g:Gh}{a:Act}{w:World}(hs:eH g s a w)(hv:∀x,R g w v x→R g w v' x):eH g (BB s v' p) a w∧aW g s.H w g (BB s v' p).H w:=by
 cases p with
 |s d=>exact⟨⟨hs.inv,KR hs.tmps hp hv,hs.defs⟩,aW.refl _ _ _⟩
 |c d j=>
  simp only[uj]at hp;split at hp
  ·rename_i b aq i o hd;split at hp
   ·rename_i v0 sz rows hb;split at hp
    ·obtain⟨cs,h1,h2⟩:=Option.bind_eq_some_iff.1 hp;obtain⟨i1,i2⟩:=hs.inv.Nh hb h1 h2 hv;have hgd:rows.getD i []=cs:=by rw[List.getD_eq_getElem?_getD,h1];rfl
     simp only[BB,hd,hb,hgd];exact⟨⟨i1,bU i2.ext _ _ hs.tmps,ee i2.ext _ _ hs.defs⟩,i2⟩
    ·cases hp
   ·cases hp
  ·cases hp
 |b b j=>
  simp only[uj]at hp;split at hp
  ·rename_i v0 sz rows hb;obtain⟨cs,h1,h2⟩:=Option.bind_eq_some_iff.1 hp;obtain⟨i1,i2⟩:=hs.inv.Nh hb h1 h2 hv;have hgd:rows.getD 0 []=cs:=by rw[List.getD_eq_getElem?_getD,h1];rfl
   simp only[BB,hb,hgd];exact⟨⟨i1,bU i2.ext _ _ hs.tmps,ee i2.ext _ _ hs.defs⟩,i2⟩
  ·cases hp
def QY(s:St)(p:Pl):Option St:=match uj s p with
 |some v=>some (BB s (Ng v) p)
 |none=>none
theorem OL[aH]{H0:List ah}{s s':St}{p:Pl}(h:QY s p=some s'):gZ H0 s s':=by
 unfold QY at h;split at h
 ·rename_i v hv;simp only[Option.some.injEq]at h;subst h;intro g0 w0 g a w _ hl hs;obtain⟨h1,h2⟩:=yx hv hs fun _=>Ia
  exact⟨g,h1,hl.trans h2⟩
 ·cases h
def OM(s:St)(p:Pl)(sz:Nat):Option St:=match uj s p,decide (0<sz)with
 |some (.sc (.slice none 0 0)),true=>some (BB {s with H:=s.H++[.row 0 sz []]} (.sl s.H.length 0 sz 0 0) p)
 |some _,_=>some s
 |none,_=>none
theorem Ni[aH]{H0:List ah}{s s':St}{p:Pl}{sz:Nat}(h:OM s p sz=some s'):gZ H0 s s':=by
 unfold OM at h;split at h
 ·rename_i hv hz;simp only[Option.some.injEq]at h;subst h;intro g0 w0 g a w _ hl hs;obtain⟨i1,i2⟩:=hs.inv.Sb (sz:=sz) (by simpa using hz)
  have hs1:eH g {s with H:=s.H++[.row 0 sz []]} a w:=⟨i1,bU i2.ext _ _ hs.tmps,ee i2.ext _ _ hs.defs⟩;have hv1:uj {s with H:=s.H++[.row 0 sz []]} p=some (.sc (.slice none 0 0)):=by
   cases p with
   |s d=>exact hv
   |c d j=>
    grind [uj]
   |b b j=>
    grind [uj]
  obtain⟨h1,h2⟩:=yx hv1 hs1 (v':=.sl s.H.length 0 sz 0 0) fun x hx=>by
   have:=fZ hx;subst this;simp[R]
  exact⟨g,h1,(hl.trans i2).trans h2⟩
 ·grind [gZ.refl]
 ·cases h
set_option linter.unusedVariables false in
theorem ON[aH]{g:Gh}{H:List ah}{w:World}{g0:Gh}{H0:List ah}{w0:World}(hi0:Inv g0 H0 w0)(hi:Inv g H w)(hl:aW g0 H0 w0 g H w){b aq sz:Nat}{rows:List (List AVal)}(hb:H[b]? =some (.row aq sz rows)):
 Inv {ai:=g.ai,st:=fun k o=>g.st k o∨∃z,g.ai b aq=some (k,z)} (H.set b .dead) w∧aW g0 H0 w0 {ai:=g.ai,st:=fun k o=>g.st k o∨∃z,g.ai b aq=some (k,z)} (H.set b .dead) w∧
 Ext g w {ai:=g.ai,st:=fun k o=>g.st k o∨∃z,g.ai b aq=some (k,z)} w:=by
 have hext:Ext g w {ai:=g.ai,st:=fun k o=>g.st k o∨∃z,g.ai b aq=some (k,z)} w:=⟨fun _ _ _ h=>h,fun _ _ h=>.inl h,fun _ _ _=>rfl,fun _ _ h=>h⟩
 have f:∀(b':Nat) (x':ah),(H.set b ah.dead)[b']? =some x'→x'=.dead∨(b'≠b∧H[b']? =some x'):=by
  intro b' x' h;rcases bW h with⟨rfl,he,_⟩ |⟨h1,h⟩
  ·exact .inl he
  ·exact .inr ⟨h1,h⟩
 refine⟨⟨?_,?_,?_,?_,?_,?_,hi.dw.mono hext⟩,⟨⟨hl.ext.ai,fun k o h=>.inl (hl.ext.st k o h),hl.ext.cell,hl.ext.shape⟩,hl.size,hl.keep,?_,by simpa using hl.len,hl.os,hl.tape,hl.output,?_,?_,hl.s9⟩,hext⟩
 ·intro b' x' h;rcases f _ _ h with rfl |⟨hne,h⟩
  ·trivial
  ·exact jU hext (hi.good b' x' h) (fun _ _ _ _ _=>rfl) fun _ _ h=>h
 ·intro b1 b2 x1 x2 v1 v2 k z1 z2 h1 h2 l1 l2;rcases f _ _ h1 with rfl |⟨_,h1⟩
  ·cases l1
  ·rcases f _ _ h2 with rfl |⟨_,h2⟩
   ·cases l2
   ·exact hi.inj b1 b2 x1 x2 v1 v2 k z1 z2 h1 h2 l1 l2
 ·grind [hi.fresh]
 ·intro b' x' v v' h hlv;rcases f _ _ h with rfl |⟨_,h⟩
  ·cases hlv
  ·exact hi.next b' x' v v' h hlv
 ·intro b' x' v k z o h hlv hk hs;rcases f _ _ h with rfl |⟨hne,h⟩
  ·cases hlv
  ·rcases hs with hs |⟨z',hz⟩
   ·exact hi.free b' x' v k z o h hlv hk hs
   ·exact hne (hi.inj b' b x' _ v aq k z z' h hb hlv rfl hk hz)
 ·intro k o hs;rcases hs with hs |⟨z,hz⟩
  ·exact hi.eN k o hs
  ·exact hi.ru hb rfl hz
 ·rintro k hk ⟨b',x',v,z,h,hlv,hz⟩;rcases f _ _ h with rfl |⟨_,h⟩
  ·cases hlv
  ·exact hl.own k hk ⟨b',x',v,z,h,hlv,hz⟩
 ·rintro k o hk (hs |⟨z,hz⟩)
  ·rcases hl.stk k o hk hs with h1 |⟨h1,h2⟩
   ·exact .inl h1
   ·refine .inr ⟨h1,?_⟩;rintro⟨b',x',v,z,h,hlv,hz⟩;rcases f _ _ h with rfl |⟨_,h⟩
    ·cases hlv
    ·exact h2 ⟨b',x',v,z,h,hlv,hz⟩
  ·refine .inr ⟨hl.own k hk ⟨b,_,aq,z,hb,rfl,hz⟩,?_⟩;rintro⟨b',x',v,z',h,hlv,hz'⟩;rcases f _ _ h with rfl |⟨hne,h⟩
   ·cases hlv
   ·exact hne (hi.inj b' b x' _ v aq k z' z h hb hlv rfl hz' hz)
 ·intro b1 hb1;obtain⟨d1,d2⟩:=hl.tV b1 hb1;grind
def OO(_H0:List ah)(s:St)(p:Pl)(rows:List (List AVal)):Option St:=match uj s p with
 |some (.sl b aq sz 0 _)=>match s.H[b]? with
  |some (.row ver' sz' _)=>match decide (ver'=aq∧sz'=sz)with
   |true=>some (BB {s with H:=s.H.set b .dead} (.aB rows) p)
   |false=>none
  |_=>none
 |_=>none
def RJ(s:St)(p:Pl)(rows:List (List AVal)):Prop:=∃b aq sz,uj s p=some (.sl b aq sz 0 rows.length)∧s.H[b]? =some (.row aq sz rows)∧rows.all AVal.bp=true
theorem Nj[aH]{H0:List ah}{s s':St}{p:Pl}{rows:List (List AVal)}(hok:RJ s p rows)(h:OO H0 s p rows=some s'):gZ H0 s s':=by
 obtain⟨b,aq,sz,h1,h2,h3⟩:=hok;unfold OO at h;rw[h1]at h;simp only at h;split at h
 ·rename_i ver' sz' rows' hb;rw[h2]at hb;simp only[Option.some.injEq,ah.row.injEq]at hb;obtain⟨rfl,rfl,rfl⟩:=hb;split at h
  ·simp only[Option.some.injEq]at h;subst h;intro g0 w0 g a w hi0 hl hs;obtain⟨i1,i2,i3⟩:=ON hi0 hs.inv hl h2;have hs1:eH {ai:=g.ai,st:=fun k o=>g.st k o∨∃z,g.ai b aq=some (k,z)} {s with H:=s.H.set b .dead} a w:=⟨i1,bU i3 _ _ hs.tmps,ee i3 _ _ hs.defs⟩
   have key0:∀(l:List AVal) (j:Nat) (y:AVal),AVal.bp l=true→l[j]? =some y→y.pure=true:=by
    intro l;induction l with
    |nil=>intro j y _ h;simp at h
    |cons c cs ih3=>
     grind [AVal.bp]
   have hgp:uj {s with H:=s.H.set b .dead} p=some (.sl b aq sz 0 rows.length):=by
    cases p with
    |s d=>exact h1
    |c d j=>
     simp only[uj]at h1 ⊢;split at h1
     ·grind [ah.row.injEq,AVal.pure]
     ·cases h1
    |b b2 j=>
     grind [uj,ah.row.injEq,AVal.pure]
   obtain⟨q1,q2⟩:=yx hgp hs1 (v':=.aB rows) fun x hx=>by
    simp only[R]at hx ⊢;rcases hx with⟨hn,rfl⟩ |⟨k,cap,e',sz2,hk,rfl,hsh,hcs,hm,hmax⟩
    ·simp_all
    ·obtain⟨k',c,e,r1,r2,r3,r4,r5,r6⟩:=hs.inv.row b aq _ _ h2 hk;rw[hk]at r1;simp at r1;subst r1;refine⟨_,cap,rfl,by omega,.inr ⟨k,0*sz,sz,rfl,Bt fun i r hr=>?_⟩⟩
     obtain⟨t1,t2⟩:=dh _ _ _ _ r3 hr;grind [yt,mB,oN,gX]
   exact⟨_,q1,i2.trans q2⟩
  ·cases h
 ·cases h
end Go.AM
end
section
namespace Go.AM
def jl(n:Nat):List AVal:=List.replicate n .ak
def ap(a b:List AVal):List AVal:=a++b
section
variable [aH] {P:Program} {cfg:fF} {g:Gh} {H:List ah} {w:World} {fro:Option Nat}
def fe(P:Program)(fro:Option Nat)(g0:Gh)(H0:List ah)(w0:World)[aH](c:Code)(s:St)(Φ:bx→St→Prop):Prop:=
 ∀(Q:Exit→Act→World→Prop) (g:Gh) (a:Act) (w:World),eH g s a w→aW g0 H0 w0 g s.H w→(∀o s',Φ o s'→fc Q g0 H0 w0 s' o)→c.wpIn (Fr fro) 0 P Q a w
variable {g0:Gh} {H0:List ah} {w0:World}
theorem fe.mono{c:Code}{s:St}{Φ Ψ:bx→St→Prop}(h:fe P fro g0 H0 w0 c s Φ)(hp:∀o s',Φ o s'→Ψ o s'):fe P fro g0 H0 w0 c s Ψ:=
 fun Q g a w hs hl hk=>h Q g a w hs hl fun o s' hf=>hk o s' (hp o s' hf)
theorem fe.skip{s:St}{Φ:bx→St→Prop}(h:Φ .normal s):fe P fro g0 H0 w0 .skip s Φ:=
 fun _ g a w hs hl hp=>wpIn_skip (hp _ _ h g a w hs hl)
theorem fe.exit{s:St}{Φ:bx→St→Prop}{id:Nat}(h:Φ (.exit id) s):fe P fro g0 H0 w0 (.exit id) s Φ:=
 fun _ g a w hs hl hp=>wpIn_exit (hp _ _ h g a w hs hl)
theorem fe.ret{s:St}{Φ:bx→St→Prop}(h:Φ .ret s):fe P fro g0 H0 w0 .ret s Φ:=
 fun _ g a w hs hl hp=>wpIn_ret (hp _ _ h g a w hs hl)
def Dx:eF→bx×St
 | .ok s=>(.normal,s)
 | .bg v s=>(.bg v,s)
theorem fe.region(hm:P.follows .mixedOrders=true){orcs:Nat→jI}(ho:∀k,gx P (orcs k)){id:Nat}{ops:Array Oper}{draw:Bool}{s:St}{r:eF}{Φ:bx→St→Prop}(hcalm:∀(k:Nat) (o:Oper),ops[k]? =some o→Calm fro o)
 (h:uE P cfg orcs ops draw s=some r) (hr:Φ (Dx r).1 (Dx r).2):fe P fro g0 H0 w0 (.region id ops draw) s Φ:=by
 intro Q g a w hs hl hp;cases r with
 |ok s'=>exact uZ hm ho hcalm h hs (qH.later (r:=.ok s') (hp _ _ hr) hl)
 |bg v s'=>exact uZ hm ho hcalm h hs (qH.later (r:=.bg v s') (hp _ _ hr) hl)
theorem fe.seq{a b:Code}{s:St}{Φ:bx→St→Prop}(h:fe P fro g0 H0 w0 a s fun o s'=>match o with | .normal=>fe P fro g0 H0 w0 b s' Φ |o=>Φ o s'):fe P fro g0 H0 w0 (.seq a b) s Φ:=by
 intro Q g x w hs hl hp;refine wpIn_seq (h _ g x w hs hl fun o s' hf=>?_)
 cases o with
 |normal=>exact fun g' a' w' hs' hla=>hf Q g' a' w' hs' hla hp
 |exit id=>exact hp _ _ hf
 |ret=>exact hp _ _ hf
 |bg v=>exact hp _ _ hf
theorem fe.cond{c:Operand}{a b:Code}{s:St}{Φ:bx→St→Prop}(z:Bool)(hc:cQ s.A c=.sc (.bool z))(h:fe P fro g0 H0 w0 (if z then a else b) s Φ):fe P fro g0 H0 w0 (.cond c a b) s Φ:=by
 intro Q g x w hs hl hp;have hev:=hs.eval c;rw[hc]at hev;simp only[R]at hev;cases z with
 |true=>exact wpIn_cond_true hev (h Q g x w hs hl hp)
 |false=>exact wpIn_cond_false hev (h Q g x w hs hl hp)
def behind(id:Nat):bx→bx
 | .exit id'=>if id'=id then .normal else .exit id'
 |o=>o
theorem fe.block{id:Nat}{b:Code}{s:St}{Φ:bx→St→Prop}(h:fe P fro g0 H0 w0 b s fun o s'=>Φ (behind id o) s'):fe P fro g0 H0 w0 (.block id b) s Φ:=by
 intro Q g x w hs hl hp;refine wpIn_block (h _ g x w hs hl fun o s' hf=>?_)
 cases o with
 |normal=>exact fun g' a' w' hs' hla=>hp _ _ hf g' a' w' hs' hla
 |exit id'=>
  intro g' a' w' hs' hla;by_cases he:id'=id
  ·simp only[behind,he,if_true]at hf;simp only[Exit.inBlock,he,if_true];exact hp _ _ hf g' a' w' hs' hla
  ·simp only[behind,he,if_false]at hf;simp only[Exit.inBlock,he,if_false];exact hp _ _ hf g' a' w' hs' hla
 |ret=>exact fun g' a' w' hs' hla=>hp _ _ hf g' a' w' hs' hla
 |bg v=>exact fun g' a' w' x hv hs' hla hr=>hp _ _ hf g' a' w' x hv hs' hla hr
theorem fc.weak{Q:Exit→Act→World→Prop}{g0:Gh}{H0:List ah}{w0:World}(hi0:Inv g0 H0 w0){s' s'':St}{o:bx}(hw:gZ H0 s' s'')(h:fc Q g0 H0 w0 s'' o):fc Q g0 H0 w0 s' o:=by
 cases o with
 |normal=>exact fun g' a' w' hs hl'=>let⟨g2,h1,h2⟩:=hw g0 w0 g' a' w' hi0 hl' hs;h g2 a' w' h1 h2
 |exit id=>exact fun g' a' w' hs hl'=>let⟨g2,h1,h2⟩:=hw g0 w0 g' a' w' hi0 hl' hs;h g2 a' w' h1 h2
 |ret=>exact fun g' a' w' hs hl'=>let⟨g2,h1,h2⟩:=hw g0 w0 g' a' w' hi0 hl' hs;h g2 a' w' h1 h2
 |bg v=>exact fun g' a' w' x hv hs hl' hr=>let⟨g2,h1,h2⟩:=hw g0 w0 g' a' w' hi0 hl' hs;h g2 a' w' x hv h1 h2 (lT _ _ hv hr)
theorem fe.weak(hi0:Inv g0 H0 w0){c:Code}{s s1:St}{Φ:bx→St→Prop}(hw:gZ H0 s s1)(h:fe P fro g0 H0 w0 c s1 Φ):fe P fro g0 H0 w0 c s Φ:=by
 intro Q g a w hs hl hp;obtain⟨g2,h1,h2⟩:=hw g0 w0 g a w hi0 hl hs;exact h Q g2 a w h1 h2 hp
theorem fe.loop(hi0:Inv g0 H0 w0){b:Code}{s s0:St}{n:Nat}{Φ:bx→St→Prop}(J:Nat→St→Prop)(h0:∀s,¬J 0 s)(hs0:gZ H0 s s0)(hJ:J n s0)
 (hb:∀n s1,J (n+1) s1→fe P fro g0 H0 w0 b s1 fun o s2=>∃s3,gZ H0 s2 s3∧match o with | .normal=>J n s3 |o=>Φ o s3):fe P fro g0 H0 w0 (.loop b) s Φ:=by
 intro Q gs a0 ws hs hl hp;have key:∀(n:Nat) (s1:St) (g:Gh) (a:Act) (w:World),J n s1→eH g s1 a w→aW g0 H0 w0 g s1.H w→
  ∀(fr:Frame) (k:List Item) (cs:List Frame),fr.roundOf=(Fr fro).round→∃e a' w',Q e a' w'∧ArrivesIn (Machine.fenced P (Fr fro)) P (lone (fr.atR a (.code b:: .inLoop b::k)) cs w) fr k cs e a' w':=by
  intro n;induction n with
  |zero=>grind
  |succ n ih=>
   intro s1 g a w hj hsim hla fr k cs hfr;have hstep:b.wpIn (Fr fro) 0 P (Exit.then (fun a' w'=>∀(fr:Frame) (k:List Item) (cs:List Frame),fr.roundOf=(Fr fro).round→∃e a2 w2,Q e a2 w2∧ArrivesIn (Machine.fenced P (Fr fro)) P (lone (fr.atR a' (.code b:: .inLoop b::k)) cs w') fr k cs e a2 w2) Q) a w:=by
    refine hb n s1 hj _ g a w hsim hla fun o s2 ⟨s3,hw,hf⟩=>?_
    cases o with
    |normal=>
     intro g' a' w' hs' hla';obtain⟨g2,h1,h2⟩:=hw g0 w0 g' a' w' hi0 hla' hs';exact ih s3 g2 a' w' hf h1 h2
    |exit id=>exact fc.weak hi0 (o:=.exit id) hw (hp _ _ hf)
    |ret=>exact fc.weak hi0 (o:=.ret) hw (hp _ _ hf)
    |bg v=>exact fc.weak hi0 (o:=.bg v) hw (hp _ _ hf)
   obtain⟨e,a₁,w₁,hq,harr⟩:=hstep fr (.inLoop b::k) cs hfr trivial (Dv _ _);cases e with
   |normal=>
    obtain⟨e₂,a₂,w₂,hq₂,harr₂⟩:=hq fr k cs hfr;exact⟨e₂,a₂,w₂,hq₂,.of_steps (StepsIn.trans harr (.one (fenced_calm (n:=0) trivial (Dv _ _) rfl) stepR_inLoop)) harr₂⟩
   |exit id=>exact⟨_,a₁,w₁,hq,.pass (x:=.inLoop b) rfl (fun _ _=>.inl (by simp)) harr⟩
   |goto l=>exact⟨_,a₁,w₁,hq,.pass (x:=.inLoop b) rfl (fun _ _=>.inl (by simp)) harr⟩
   |ret=>exact⟨_,a₁,w₁,hq,.pass (x:=.inLoop b) rfl (fun _ _=>.inl (by simp)) harr⟩
   |panic ch=>exact⟨_,a₁,w₁,hq,.pass (x:=.inLoop b) rfl (fun _ _=>.inl (by simp)) harr⟩
   |outgrown=>exact⟨_,a₁,w₁,hq,.pass (x:=.inLoop b) rfl (fun _ _=>.inl (by simp)) harr⟩
 obtain⟨g1,h1,h2⟩:=hs0 g0 w0 gs a0 ws hi0 hl hs;intro fr k cs hfr _ hroom;obtain⟨e,a',w',hq,harr⟩:=key n s0 g1 a0 ws hJ h1 h2 fr k cs hfr;exact⟨e,a',w',hq,.of_steps (.one (fenced_calm trivial hroom rfl) stepR_loop) harr⟩
end
inductive Sh:Type 1 where
 |one (τ:Type)
 |two (a b:Sh)
def Sh.El:Sh→Type
 | .one τ=>τ
 | .two a b=>a.El⊕b.El
def Sh.all:(s:Sh)→(s.El→Prop)→Prop
 | .one _,p=>∀x,p x
 | .two a b,p=>a.all (fun x=>p (.inl x))∧b.all (fun x=>p (.inr x))
theorem Sh.cc:∀(s:Sh) (p:s.El→Prop),s.all p↔∀x,p x
 | .one _,p=>Iff.rfl
 | .two a b,p=>by
  simp only[Sh.all,Sh.cc a,Sh.cc b];exact⟨fun h x=>match x with | .inl y=>h.1 y | .inr y=>h.2 y,fun h=>⟨fun y=>h (.inl y),fun y=>h (.inr y)⟩⟩
namespace AVal
mutual
def ym(b v:Nat):AVal→AVal
 | .sc x=>.sc x
 | .agg cs=>.agg (u6 b v cs)
 | .dg cs=>.dg (u6 b v cs)
 | .ptr _ _ i o=>.ptr b v i o
 | .bV cs o=>.bV cs o
 | .sl _ _ sz o n=>.sl b v sz o n
 | .aB rows=>.aB rows
 | .fn f c d=>.fn f (u6 b v c) (u6 b v d)
 | .fK t a=>.fK t (ym b v a)
 | .mp x=>.mp x
 | .jf x=>.jf x
 | .sa _ _ i o s n=>.sa b v i o s n
 | .gB i o=>.gB i o
 | .emp=>.emp
 | .nz x=>.nz x
 | .ak=>.ak
def u6(b v:Nat):List AVal→List AVal
 | []=>[]
 |a::as=>ym b v a::u6 b v as
end
mutual
def tZ:AVal→Bool
 | .sc _=>true
 | .agg cs=>mO cs
 | .dg cs=>mO cs
 | .ptr b v .. =>b==0&&v==0
 | .bV .. =>true
 | .sl b v .. =>b==0&&v==0
 | .aB _=>true
 | .fn _ c d=>mO c&&mO d
 | .fK _ a=>tZ a
 | .mp _=>false
 | .jf _=>false
 | .sa b v .. =>b==0&&v==0
 | .gB _ _=>true
 | .emp=>true
 | .nz _=>true
 | .ak=>true
def mO:List AVal→Bool
 | []=>true
 |a::as=>tZ a&&mO as
end
mutual
def but(b:Nat):AVal→AVal
 | .sc x=>.sc x
 | .agg cs=>.agg (yS b cs)
 | .dg cs=>.dg (yS b cs)
 | .ptr c v i o=>match Nat.beq c b with
  |true=>.ptr c v i o
  |false=>.ak
 | .bV cs o=>.bV cs o
 | .sl c v sz o n=>match Nat.beq c b with
  |true=>.sl c v sz o n
  |false=>.ak
 | .aB rows=>.aB rows
 | .fn f c d=>.fn f (yS b c) (yS b d)
 | .fK t a=>.fK t (but b a)
 | .mp _=>.ak
 | .jf _=>.ak
 | .sa c v i o s n=>match Nat.beq c b with
  |true=>.sa c v i o s n
  |false=>.ak
 | .gB i o=>.gB i o
 | .emp=>.emp
 | .nz x=>.nz x
 | .ak=>.ak
def yS(b:Nat):List AVal→List AVal
 | []=>[]
 |a::as=>but b a::yS b as
end
end AVal
def ah.pS:ah→Bool
 | .row aq _ rows=>aq==0&&rows.all AVal.bp
 |_=>false
def ah.lU(v:Nat):ah→ah
 | .row _ sz rows=>.row v sz rows
 |x=>x
def aR.BC:aR→Bool
 | .ret v=>v.pure
 | .bg v=>v.flat
def AVal.zS(b v:Nat):AVal→AVal
 | .sl _ _ sz o n=>.sl b v sz o n
 |u=>u
def aR.zS(b v:Nat):aR→aR
 | .ret u=>.ret (u.zS b v)
 | .bg u=>.bg u
def aR.Cf:aR→Bool
 | .ret (.sl b v _ _ _)=>b==0&&v==0
 | .ret u=>u.pure
 | .bg u=>u.flat
theorem aR.Nk{r:aR}(h:r.BC=true):r.Cf=true:=by
 cases r with
 |ret u=>cases u<;>first |exact h |cases h
 |bg u=>exact h
def jX(P:Program)[aH](f:FuncId)(args:List AVal)(r:aR):Prop:=
 (∃ fn c, P.funcs[f]? = some fn ∧ fn.body = some c ∧ fn.name ≠ "runtime.NumGoroutine") ∧
 ∀g w (vs:Array Value),Inv g [] w→RL g w args vs.toList→Calls P f vs w (eX g [] w r [])
def cg(P:Program)[aH](f:FuncId)(args:List AVal)(H:List ah)(r:aR)(H1:List ah):Prop:=
 (∃ fn c, P.funcs[f]? = some fn ∧ fn.body = some c ∧ fn.name ≠ "runtime.NumGoroutine") ∧
 ∀g w (vs:Array Value),Inv g H w→RL g w args vs.toList→Calls P f vs w (eX g H w r H1)
structure u7(P:Program)[aH]:Type 1 where
 f:FuncId
 X:Type
 args:X→List AVal
 heap:X→List ah
 sh:Sh
 out:sh.El→aR
 gM:X→sh.El→List ah
 S:Nat→X→Option sh.El
 ok:∀n x r,S n x=some r→cg P f (args x) (heap x) (out r) (gM x r)
structure aK(P:Program)[aH]:Type 1 where
 f:FuncId
 X:Type
 args:X→List AVal
 sh:Sh
 out:sh.El→aR
 S:Nat→X→Option sh.El
 ok:∀n x r,S n x=some r→jX P f (args x) (out r)
structure gU(P:Program)[aH]:Type 1 where
 f:FuncId
 X:Type
 args:X→List AVal
 blk:X→ah
 sh:Sh
 out:sh.El→aR
 uk:X→sh.El→ah
 S:Nat→X→Option sh.El
 a0:∀x,AVal.mO (args x)=true
 b0:∀x,(blk x).pS=true
 b1:∀x r,(uk x r).pS=true∨uk x r=.dead
 r0:∀r,(out r).Cf=true
 ok:∀n x r,S n x=some r→cg P f (args x) [blk x] (out r) [uk x r]
structure mP(X:Type) where
 run:Option X
 bA:X→dL
 ids:List Nat
 oD:aH→Program→fF→Nat→Op→(Operand→AVal)→List ah→Prop
 gP:Prop
 holds:gP
 sound:∀(gl:aH) (P:Program) (cfg:fF) (nid:Nat) (op:Op) (ai:Operand→AVal) (H:List ah),oD gl P cfg nid op ai H→∀x,run=some x→
  (bQ P cfg nid ai op).run H=some (.bA (bA x))∧(bQ P cfg nid ai op).reads H=ids
structure PU where
 b:Nat
 blk:ah
 pf:qI blk=true
def u9:ah→Bool
 | .row _ _ rows=>rows.all AVal.bp
 | .map _ es=>es.all fun p=>p.1.pure&&p.2.1.pure
 |_=>false
theorem zT{x:ah}(h:u9 x=true):(∃v sz rows,x=.row v sz rows∧rows.all AVal.bp=true)∨∃c es,x=.map c es∧(es.all fun p=>p.1.pure&&p.2.1.pure)=true:=by
 unfold u9 at h;grind
structure PR where
 b:Nat
 blk:ah
 pf:u9 blk=true
def PR.ofRow(b aq sz:Nat)(rows:List (List AVal))(pf:rows.all AVal.bp=true):PR:=⟨b,.row aq sz rows,pf⟩
structure FZ where
 p:Pl
 b:Nat
 aq:Nat
 sz:Nat
 n:Nat
 rows:List (List AVal)
 pf:rows.all AVal.bp=true
structure PK where
 b:Nat
 mb:Nat
 n:Nat
 es:List (AVal×AVal×Nat)
 pf:es.length=n∧∀(i:Nat) p,es[i]? =some p→p.2.2=i
structure GK where
 {X:Type}
 l:List X
 m:List X
 enc:X→List AVal
 n:Nat
 bytes:Nat
 b:Nat
 aq:Nat
 len:Nat
def GK.ok(z:GK):Bool:=decide (z.len=z.l.length)&&roomy (z.l.length+z.m.length) z.bytes
def Fj(P:Program)(ST XT:TypeId):Option (Nat×Nat):=
 match P.underlying ST,P.underlying XT with
 |some (.slice e),some (.slice _)=>match P.info? e with
  |some i=>if decide (0<i.size)&&nZ i then some (i.size,i.bytes)else none
  |none=>none
 |_,_=>none
structure RW where
 p:Pl
 rows:List (List AVal)
 rows':List (List AVal)
 pf:rows.map nM=rows'
inductive TS where
 |keep (l:List Nat)
 |wk (p:Pl)
 |own (p:Pl) (sz:Nat)
 |gu (z:FZ)
 |PJ (z:RW)
 |cut (bl bump:List Nat) (pu:List PU)
inductive G (P:Program) [aH]:Type→Type 1 where
 |stop {ρ:Type}:G P ρ
 |done {ρ:Type} (ts:List TS) (r:ρ):G P ρ
 |fail {ρ:Type}:G P ρ
 |skip {ρ:Type} (n:Nat) (g:G P ρ):G P ρ
 |br {ρ:Type} (d:Tmp) (c:Bool) (t f:G P ρ):G P ρ
 |Ed {ρ:Type} (d:Tmp) (k:IntKind) (x c:Int) (t f:G P ρ):G P ρ
 |sp {ρ:Type} (c:Bool) (t f:G P ρ):G P ρ
 |op {ρ X:Type} (t:mP X) (k:X→G P ρ):G P ρ
 |call {ρ:Type} (c:aK P) (x:c.X) (k:c.sh.El→G P ρ):G P ρ
 |cR {ρ:Type} (c:u7 P) (x:c.X) (k:c.sh.El→G P ρ):G P ρ
 |cB {ρ:Type} (c:gU P) (b v:Nat) (ex:List PR) (x:c.X) (k:c.sh.El→G P ρ):G P ρ
 |tidy {ρ:Type} (l:List TS) (g:G P ρ):G P ρ
 |loop {ρ σ:Type} (sh:Sh) (hd:List TS) (E:σ→St) (X:sh.El→bx×St) (a0:σ) (body:σ→G P (σ⊕sh.El)) (k:sh.El→G P ρ):G P ρ
 |nr {ρ:Type} (hs sh:Sh) (hd:List TS) (E:hs.El→St) (X:sh.El→bx×St) (a0:hs.El) (body:hs.El→G P (hs.El⊕sh.El)) (k:sh.El→G P ρ):G P ρ
 |gm {ρ:Type} (n:Nat) (g:G P ρ):G P ρ
 |wV {ρ:Type} (Q:Prop) (h:Q) (g:G P ρ):G P ρ
 |join {ρ:Type} (sh:Sh) (Y:sh.El→bx×St) (g:G P sh.El) (k:sh.El→G P ρ):G P ρ
 |pick {ρ:Type} (z:PK) (seen:List Nat) (k:Option Nat→G P ρ):G P ρ
 |grow {ρ:Type} (z:GK) (k:Bool→G P ρ):G P ρ
 |inl {ρ:Type} (pr:List PR) (g:G P ρ):G P ρ
def aN:List TS→Bool
 | []=>true
 | .gu z::ts=>decide (z.n=z.rows.length)&&aN ts
 |_::ts=>aN ts
def dx{σ τ:Type}(f:σ→Option (σ⊕τ)):Nat→σ→Option τ
 | 0,_=>none
 |n+1,a=>match f a with
  |some (.inl a')=>dx f n a'
  |some (.inr t)=>some t
  |none=>none
section
variable {P:Program} [aH]
def G.run(n:Nat):{ρ:Type}→G P ρ→Option ρ
 |_,.stop=>none
 |_,.done ts r=>if aN ts then some r else none
 |_,.fail=>none
 |_,.skip _ g=>g.run n
 |_,.br _ c t f=>if c then t.run n else f.run n
 |_,.Ed _ _ x c t f=>if x=c then t.run n else f.run n
 |_,.sp c t f=>if c then t.run n else f.run n
 |_,.op t k=>t.run.bind fun x=>(k x).run n
 |_,.call c x k=>(c.S n x).bind fun r=>(k r).run n
 |_,.cR c x k=>(c.S n x).bind fun r=>(k r).run n
 |_,.cB c _ _ _ x k=>(c.S n x).bind fun r=>(k r).run n
 |_,.tidy l g=>if aN l then g.run n else none
 |_,.loop _ hd _ _ a0 body k=>if aN hd then(dx (fun a=>(body a).run n) n a0).bind fun t=>(k t).run n else none
 |_,.nr _ _ hd _ _ a0 body k=>if aN hd then(dx (fun a=>(body a).run n) n a0).bind fun t=>(k t).run n else none
 |_,.gm _ g=>g.run n
 |_,.wV _ _ g=>g.run n
 |_,.join _ _ g k=>(g.run n).bind fun t=>(k t).run n
 |_,.pick _ _ _=>none
 |_,.grow _ _=>none
 |_,.inl _ g=>g.run n
def LJ{σ:Type}{sh:Sh}(E:σ→St)(X:sh.El→bx×St):σ⊕sh.El→Prop
 | .inl a=>(bx.normal,E a)=(bx.normal,E a)
 | .inr t=>X t=X t
def RK{sh:Sh}(Y:sh.El→bx×St)(t:sh.El):Prop:=Y t=Y t
def EG:List PU→Prop
 | []=>True
 |p::ps=>some p.blk=some p.blk∧EG ps
def BE:List PR→Prop
 | []=>True
 |p::ps=>some p.blk=some p.blk∧BE ps
def mQ:List TS→Prop→Prop
 | [],q=>q
 | .keep _::ts,q=>mQ ts q
 | .wk _::ts,q=>mQ ts q
 | .own _ _::ts,q=>mQ ts q
 | .gu z::ts,q=>some (AVal.sl z.b z.aq z.sz 0 z.n)=some (AVal.sl z.b z.aq z.sz 0 z.n)∧some (ah.row z.aq z.sz z.rows)=some (ah.row z.aq z.sz z.rows)∧mQ ts q
 | .cut _ _ pu::ts,q=>EG pu∧mQ ts q
 | .PJ z::ts,q=>some (AVal.aB z.rows)=some (AVal.aB z.rows)∧mQ ts q
omit [aH] in
theorem Cg:∀(l:List PU),EG l
 | []=>trivial
 |_::ps=>⟨rfl,Cg ps⟩
omit [aH] in
theorem xN:∀(l:List PR),BE l
 | []=>trivial
 |_::ps=>⟨rfl,xN ps⟩
omit [aH] in
theorem gY{q:Prop}(h:q):∀(l:List TS),mQ l q
 | []=>h
 | .keep _::ts=>gY h ts
 | .wk _::ts=>gY h ts
 | .own _ _::ts=>gY h ts
 | .gu _::ts=>⟨rfl,rfl,gY h ts⟩
 | .cut _ _ pu::ts=>⟨Cg pu,gY h ts⟩
 | .PJ _::ts=>⟨rfl,gY h ts⟩
def G.fB:{ρ:Type}→(ρ→Prop)→G P ρ→Prop
 |_,_,.stop=>True
 |_,leaf,.done ts r=>mQ ts (leaf r)
 |_,_,.fail=>True
 |_,leaf,.skip _ g=>g.fB leaf
 |_,leaf,.br _ c t f=>some (AVal.sc (.bool c))=some (AVal.sc (.bool c))∧t.fB leaf∧f.fB leaf
 |_,leaf,.Ed _ k x _ t f=>some (AVal.sc (.int k x))=some (AVal.sc (.int k x))∧t.fB leaf∧f.fB leaf
 |_,leaf,.sp _ t f=>t.fB leaf∧f.fB leaf
 |_,leaf,.op t k=>some true=some true∧t.gP∧∀x,(k x).fB leaf
 |_,leaf,.call c x k=>some true=some true∧some (c.f,c.args x)=some (c.f,c.args x)∧c.sh.all fun r=>(k r).fB leaf
 |_,leaf,.cR c x k=>some true=some true∧some (c.f,c.args x,c.heap x)=some (c.f,c.args x,c.heap x)∧c.sh.all fun r=>(k r).fB leaf
 |_,leaf,.cB c b v ex x k=>some true=some true∧BE ex∧some (c.f,AVal.u6 b v (c.args x),some ((c.blk x).lU v))=some (c.f,AVal.u6 b v (c.args x),some ((c.blk x).lU v))∧c.sh.all fun r=>(k r).fB leaf
 |_,leaf,.tidy l g=>mQ l (g.fB leaf)
 |_,leaf,.loop sh hd E X a0 body k=>mQ hd (E a0=E a0)∧(∀a,(body a).fB (LJ E X))∧sh.all fun t=>(k t).fB leaf
 |_,leaf,.nr hs sh hd E X a0 body k=>mQ hd (E a0=E a0)∧(hs.all fun a=>(body a).fB (LJ E X))∧sh.all fun t=>(k t).fB leaf
 |_,leaf,.gm _ g=>g.fB leaf
 |_,_,.wV Q _ _=>Q
 |_,leaf,.join sh Y g k=>g.fB (RK Y)∧sh.all fun t=>(k t).fB leaf
 |_,leaf,.pick z seen k=>some true=some true∧AVal.ptr z.b 0 0 0=AVal.ptr z.b 0 0 0∧some (ah.iter (.mp z.mb) z.n seen z.n)=some (ah.iter (.mp z.mb) z.n seen z.n)∧some (ah.map z.n z.es)=some (ah.map z.n z.es)∧(k none).fB leaf∧∀i,(k (some i)).fB leaf
 |_,leaf,.grow z k=>some true=some true∧some ah.bw=some ah.bw∧ @Eq Bool true true∧some (z.n,z.bytes)=some (z.n,z.bytes)∧AVal.sl z.b z.aq z.n 0 z.len=AVal.sl z.b z.aq z.n 0 z.len∧some (ah.row z.aq z.n (z.l.map z.enc))=some (ah.row z.aq z.n (z.l.map z.enc))∧some (z.m.map z.enc)=some (z.m.map z.enc)∧(∀_:z.X,z.n=z.n)∧ @Eq Bool false false∧(k true).fB leaf∧(k false).fB leaf
 |_,leaf,.inl pr g=>some true=some true∧BE pr∧g.fB leaf
omit [aH] in
theorem Ee{σ:Type}{sh:Sh}(E:σ→St)(X:sh.El→bx×St):∀r,LJ E X r
 | .inl _=>rfl
 | .inr _=>rfl
theorem G.bY:∀{ρ:Type} {leaf:ρ→Prop} (_:∀r,leaf r) (g:G P ρ),g.fB leaf
 |_,_,_,.stop=>trivial
 |_,_,h,.done ts r=>gY (h r) ts
 |_,_,_,.fail=>trivial
 |_,_,h,.skip _ g=>G.bY h g
 |_,_,h,.br _ _ t f=>⟨rfl,G.bY h t,G.bY h f⟩
 |_,_,h,.Ed _ _ _ _ t f=>⟨rfl,G.bY h t,G.bY h f⟩
 |_,_,h,.sp _ t f=>⟨G.bY h t,G.bY h f⟩
 |_,_,h,.op t k=>⟨rfl,t.holds,fun x=>G.bY h (k x)⟩
 |_,_,h,.call c _ k=>⟨rfl,rfl,(c.sh.cc _).2 fun r=>G.bY h (k r)⟩
 |_,_,h,.cR c _ k=>⟨rfl,rfl,(c.sh.cc _).2 fun r=>G.bY h (k r)⟩
 |_,_,h,.cB c _ _ ex _ k=>⟨rfl,xN ex,rfl,(c.sh.cc _).2 fun r=>G.bY h (k r)⟩
 |_,_,h,.tidy l g=>gY (G.bY h g) l
 |_,_,h,.loop sh hd E X _ body k=>⟨gY rfl hd,fun a=>G.bY (Ee E X) (body a),(sh.cc _).2 fun t=>G.bY h (k t)⟩
 |_,_,h,.nr hs sh hd E X _ body k=>⟨gY rfl hd,(hs.cc _).2 fun a=>G.bY (Ee E X) (body a),(sh.cc _).2 fun t=>G.bY h (k t)⟩
 |_,_,h,.gm _ g=>G.bY h g
 |_,_,_,.wV _ q _=>q
 |_,_,h,.join sh _ g k=>⟨G.bY (fun _=>rfl) g,(sh.cc _).2 fun t=>G.bY h (k t)⟩
 |_,_,h,.pick _ _ k=>⟨rfl,rfl,rfl,rfl,G.bY h (k none),fun i=>G.bY h (k (some i))⟩
 |_,_,h,.grow _ k=>⟨rfl,rfl,rfl,rfl,rfl,rfl,rfl,fun _=>rfl,rfl,G.bY h (k true),G.bY h (k false)⟩
 |_,_,h,.inl pr g=>⟨rfl,xN pr,G.bY h g⟩
def G.less{ρ:Type}:Nat→G P ρ→G P ρ
 | 0,g=>g
 |n+1,g=>.skip (n+1) g
theorem G.IZ{ρ:Type}(n m:Nat)(g:G P ρ):(G.less m g).run n=g.run n:=by cases m<;>simp[G.less,G.run]
end
structure Ar(P:Program)[aH] where
 fn:{ρ:Type}→FuncId→List AVal→List ah→G P ρ→(G P ρ→aR→List ah→Prop)→Prop
 Cd:{ρ:Type}→Nat→List AVal→List ah→G P ρ→(G P ρ→aR→List ah→Prop)→Prop
 lp:{σ:Type}→{sh:Sh}→Option Nat→List ah→Code→G P (σ⊕sh.El)→(σ→St)→St→(sh.El→bx×St)→Prop
structure Env(P:Program)[aH] where
 cfg:fF
 ro:Option Nat
 N:Ar P
 nd:Bool
def RM(P:Program)[aH]:Ar P:=⟨fun _ _ _ _ _=>False,fun _ _ _ _ _=>False,fun _ _ _ _ _ _ _=>False⟩
def LK(P:Program)[aH]{ρ:Type}(f:FuncId)(args:List AVal)(H:List ah)(c:u7 P)(x:c.X)(kk:c.sh.El→G P ρ)(k:G P ρ→aR→List ah→Prop):Prop:=
 some true=some true∧some (f,nM args,H)=some (c.f,c.args x,c.heap x)∧c.sh.all fun r=>k (kk r) (c.out r) (c.gM x r)
def ua(P:Program)[aH]:Ar P:=⟨fun f args H g k=>match g with
 | .cR c x kk=>LK P f args H c x kk k
 |_=>False,fun _ _ _ _ _=>False,fun _ _ _ _ _ _ _=>False⟩
def Env.at{P:Program}[aH](X:Env P)(draw:Bool):Env P:=match draw&&X.nd with
 |true=>{X with N:=ua P}
 |false=>X
inductive Sd (P:Program) [aH] {ρ:Type} (X:Env P) (ops:Array Oper) (n0:Nat) (o:Oper) (nid:Nat) (s:St) (k:G P ρ→eF→gw→Prop) (draw:Bool) (H0:List ah):Prop
inductive QZ (P:Program) [aH] {ρ:Type} (X:Env P) (c:Operand) (a b:Code) (s:St) (k:G P ρ→bx→St→Prop) (H0:List ah):Prop
inductive Q0 (P:Program) [aH] {ρ:Type} (X:Env P) (b:Code) (s:St) (k:G P ρ→bx→St→Prop) (H0:List ah):Prop
inductive Qh (P:Program) [aH] {ρ:Type} (X:Env P) (f:Operand) (ps:Array Tmp) (assign body:Code) (s:St) (k:G P ρ→bx→St→Prop) (H0:List ah):Prop
inductive RN (P:Program) [aH] {ρ:Type} (fn:Func) (o:bx) (s:St) (out:ρ→aR):Prop
inductive Q1 (P:Program) [aH] {ρ:Type} (fn:Func) (o:bx) (s:St) (H0:List ah) (k:G P ρ→List PR→bx→St→Prop):Prop
inductive Q2 (P:Program) [aH] {ρ:Type} (b:Nat) (o:bx) (s:St) (H0:List ah) (k:G P ρ→St→Prop):Prop
inductive Q3 (P:Program) [aH] {sh:Sh} (H0:List ah) (o:bx) (s:St) (Y:sh.El→bx×St):Prop
inductive Qi (P:Program) [aH] {σ:Type} {sh:Sh} (H0:List ah) (o:bx) (s:St) (E:σ→St) (X:sh.El→bx×St):Prop
inductive Fk (P:Program) [aH] {ρ:Type} (ops:Array Oper) (o:Oper) (s:St) (g:G P ρ):Prop
def wW(keep:List Nat):Nat→List AVal→List AVal
 |_,[]=>[]
 |i,a::as=>(match keep.contains i with |true=>a |false=>.ak)::wW keep (i+1) as
def KS:List PU→List ah→Prop
 | [],_=>True
 |p::ps,H=>H[p.b]? =some p.blk∧KS ps H
def KT:List PR→List ah→Prop
 | [],_=>True
 |p::ps,H=>H[p.b]? =some p.blk∧KT ps H
def jx(H0:List ah):List TS→St→(St→Prop)→Prop
 | [],s,k=>k s
 | .keep l::ts,s,k=>gR (wW l 0 s.A) fun A=>jx H0 ts {s with A:=A} k
 | .wk p::ts,s,k=>match QY s p with
  |some s=>jx H0 ts s k
  |none=>False
 | .own p sz::ts,s,k=>match OM s p sz with
  |some s=>jx H0 ts s k
  |none=>False
 | .gu z::ts,s,k=>uj s z.p=some (.sl z.b z.aq z.sz 0 z.n)∧s.H[z.b]? =some (.row z.aq z.sz z.rows)∧match OO H0 s z.p z.rows with
  |some s=>jx H0 ts s k
  |none=>False
 | .PJ z::ts,s,k=>uj s z.p=some (.aB z.rows)∧jx H0 ts (BB s (.aB z.rows') z.p) k
 | .cut bl bump pu::ts,s,k=>KS pu s.H∧match OI bl bump (pu.map (·.b)) H0 s with
  |some ⟨A,H,D⟩=>gR A fun A=>gR H fun H=>jx H0 ts ⟨A,H,D⟩ k
  |none=>False
section
variable {P:Program} [aH]
def oH{ρ:Type}:G P ρ→St→(G P ρ→St→Prop)→Prop
 | .br d c t f,s,k=>s.A[d]? =some (.sc (.bool c))∧(Bq s.A d (.sc (.bool true)) fun A=>oH t {s with A:=A} k)∧(Bq s.A d (.sc (.bool false)) fun A=>oH f {s with A:=A} k)
 | .Ed d ik x c t f,s,k=>s.A[d]? =some (.sc (.int ik x))∧(Bq s.A d (.sc (.int ik c)) fun A=>oH t {s with A:=A} k)∧oH f s k
 | .sp _ t f,s,k=>oH t s k∧oH f s k
 | .fail,_,_=>True
 |g,s,k=>k g s
def vZ:jI:=⟨fun _ _ _=>none,fun _ _ _=>none⟩
def LL(r:Option (aR×List ah)):jI:=⟨fun _ _ _=>r,fun _ _ _=>none⟩
def LM(H:List ah):Option Pre→Option (FuncId×List AVal×List ah)
 |some (.kK f args ids)=>some (f,nM args,mask ids H)
 |_=>none
def Dy(ids:List Nat):List Nat→Bool
 | []=>true
 |c::cs=>ids.contains c&&Dy ids cs
def zU:List Nat→List Nat→List Nat
 | [],seen=>seen
 |b::todo,seen=>match seen.contains b with
  |true=>zU todo seen
  |false=>zU todo (b::seen)
def v7:List Nat→List Nat→List Nat
 | [],_=>[]
 |b::todo,seen=>match seen.contains b with
  |true=>v7 todo seen
  |false=>b::v7 todo (b::seen)
def sH(P:Program)[aH](cfg:fF)(ids:List Nat)(ai:Operand→AVal):Op→Option (FuncId×List AVal×List Nat×List Nat)
 | .call {callee:=.value f,args:=args,.. }=>match ai f with
  | .fn (.func n) p q=>match P.funcs[n]? with
   |some fn=>match fn.body.isNone||cfg.val n||cfg.fz n with
    |false=>
     let l:=AVal.oF (p++args.toList.map ai++q)
     match Dy ids l&&Nat.ble l.length 900 with
     |true=>some (n,p++args.toList.map ai++q,zU l [],v7 l [])
     |false=>none
    |true=>none
   |none=>none
  |_=>none
 |_=>none
def OP(H:List ah)(b:Nat):Option (FuncId×List AVal×List Nat×List Nat)→Option (FuncId×List AVal×Option ah)
 |some (f,args,ids,_)=>match ids.contains b with
  |true=>some (f,AVal.yS b (nM args),H[b]?)
  |false=>none
 |none=>none
def Dz:Option (FuncId×List AVal×List Nat×List Nat)→List Nat×List Nat
 |some (_,_,ids,rs)=>(ids,rs)
 |none=>([],[])
def I1:Option Pre→Option (FuncId×List AVal)
 |some (.Ds f args _)=>some (f,nM args)
 |_=>none
def sI(pr:List Nat)(H:List ah):Nat→List Nat→List Nat→Option (List Nat×List Nat)
 |_,[],seen=>some (seen,[])
 | 0,_::_,_=>none
 |n+1,b::todo,seen=>match seen.contains b with
  |true=>sI pr H n todo seen
  |false=>match pr.contains b with
   |true=>(sI pr H n todo (b::seen)).map fun p=>(p.1,b::p.2)
   |false=>match H[b]? with
    |some (.row _ _ rows)=>(sI pr H n ((if rows.all AVal.bp then[]else AVal.oF rows.flatten)++todo) (b::seen)).map fun p=>(p.1,b::p.2)
    |some (.loop _ _ _ A _ _ _)=>(sI pr H n (AVal.oF A++todo) (b::seen)).map fun p=>(p.1,b::p.2)
    |some (.iter m _ _ _)=>(sI pr H n (AVal.refs m++todo) (b::seen)).map fun p=>(p.1,b::p.2)
    |some _=>(sI pr H n todo (b::seen)).map fun p=>(p.1,b::p.2)
    |none=>none
def EH(P:Program)[aH](cfg:fF)(pr:List Nat)(ai:Operand→AVal)(op:Op)(H:List ah):Option ((FuncId⊕Nat)×List AVal×List Nat×List Nat):=
 match op with
 | .call {callee:=.value f,args:=args,.. }=>match ai f with
  | .fn (.func n) p q=>match P.funcs[n]? with
   |some fn=>match fn.body.isNone||cfg.val n||cfg.fz n with
    |false=>match sI pr H 1000 (AVal.oF (p++args.toList.map ai++q)) []with
     |some (ids,rs)=>some (.inl n,p++args.toList.map ai++q,ids,rs)
     |none=>none
    |true=>none
   |none=>none
  | .jf b=>match sI pr H 1000 (b::AVal.oF (args.toList.map ai)) []with
   |some (ids,rs)=>some (.inr b,args.toList.map ai,ids,rs)
   |none=>none
  |_=>none
 |_=>none
def CJ(ids:List Nat)(H:List ah)(a:aR)(H1:List ah)(k:dL→List Nat→Bool→Prop)(kp:AVal→Prop):Prop:=
 match a with
 | .ret v=>match Nat.beq H1.length H.length with
  |true=>k {val:=v,ej:=ids.map fun i=>(i,H1.getD i .dead)} ids false
  |false=>match fu H ids (some (.ret v,H1))with
   |some (.ok e)=>Gi e fun e=>k e (e.ej.map (·.1)) (!e.news.isEmpty)
   |_=>False
 | .bg v=>match v.flat with
  |true=>kp v
  |false=>False
def rF{ρ:Type}(P:Program)[gl:aH](X:Env P)(draw:Bool)(H0:List ah)(ops:Array Oper)(n0:Nat)(o:Oper)(nid:Nat)(g:G P ρ)(s:St)(k:G P ρ→eF→gw→Prop):Prop:=
 match g with
 | .skip (n+1) g'=>match fA P X.cfg vZ ops n0 o nid s with
  |some (r,f)=>k (G.less n g') r f
  |none=>Fk P ops o s g'
 | .op t kk=>iN ops s.A o=some true∧t.oD gl P X.cfg nid o.op (cQ s.A) s.H∧∀x,Gi (t.bA x) fun e=>tc s.A o.dst e.val fun A=>qo e s.H fun H=>
  k (kk x) (.ok {s with A:=A,H:=H}) (gT n0 t.ids (.bA e) (e.ej.map (·.1)) (!e.news.isEmpty))
 | .call c x kk=>iN ops s.A o=some true∧I1 ((bQ P X.cfg nid (cQ s.A) o.op).run s.H)=some (c.f,c.args x)∧
  c.sh.all fun r=>match fA P X.cfg (LL (some (c.out r,[]))) ops n0 o nid s with
   |some (r',f)=>k (kk r) r' f
   |none=>Fk P ops o s (kk r)
 | .cR c x kk=>iN ops s.A o=some true∧LM s.H ((bQ P X.cfg nid (cQ s.A) o.op).run s.H)=some (c.f,c.args x,c.heap x)∧
  c.sh.all fun r=>match fA P X.cfg (LL (some (c.out r,c.gM x r))) ops n0 o nid s with
   |some (r',f)=>k (kk r) r' f
   |none=>Fk P ops o s (kk r)
 | .cB c b v ex x kk=>iN ops s.A o=some true∧KT ex s.H∧OP s.H b (sH P X.cfg (b::ex.map (·.b)) (cQ s.A) o.op)=some (c.f,AVal.u6 b v (c.args x),some ((c.blk x).lU v))∧
  c.sh.all fun r=>match c.out r with
   | .ret u=>tc s.A o.dst (u.zS b v) fun A=>qo {val:=u.zS b v,ej:=[(b,(c.uk x r).lU v)]} s.H fun H=>k (kk r) (.ok {s with A:=A,H:=H})
    (gT n0 (Dz (sH P X.cfg (b::ex.map (·.b)) (cQ s.A) o.op)).2 (.kK 0 [] []) (Dz (sH P X.cfg (b::ex.map (·.b)) (cQ s.A) o.op)).1 false)
   | .bg u=>k (kk r) (.bg u {s with H:=(Dz (sH P X.cfg (b::ex.map (·.b)) (cQ s.A) o.op)).1.foldl (fun H i=>H.set i .dead) s.H})
    (gT n0 (Dz (sH P X.cfg (b::ex.map (·.b)) (cQ s.A) o.op)).2 (.kK 0 [] []) (Dz (sH P X.cfg (b::ex.map (·.b)) (cQ s.A) o.op)).1 false)
 | .inl pr g'=>iN ops s.A o=some true∧KT pr s.H∧match EH P X.cfg (pr.map (·.b)) (cQ s.A) o.op s.H with
  |some (.inl f,args,ids,rs)=>uT (mask ids s.H) fun Hm=>X.N.fn f args Hm g' fun g2 a H1=>CJ ids s.H a H1 (fun e ws nw=>tc s.A o.dst e.val fun A=>qo e s.H fun H=>k g2 (.ok {s with A:=A,H:=H}) (gT n0 rs (.kK 0 [] []) ws nw))
   (fun v=>k g2 (.bg v {s with H:=ids.foldl (fun H i=>H.set i .dead) s.H}) (gT n0 rs (.kK 0 [] []) ids false))
  |some (.inr b,args,ids,rs)=>uT (mask ids s.H) fun Hm=>X.N.Cd b args Hm g' fun g2 a H1=>CJ ids s.H a H1 (fun e ws nw=>tc s.A o.dst e.val fun A=>qo e s.H fun H=>k g2 (.ok {s with A:=A,H:=H}) (gT n0 rs (.kK 0 [] []) ws nw))
   (fun v=>k g2 (.bg v {s with H:=ids.foldl (fun H i=>H.set i .dead) s.H}) (gT n0 rs (.kK 0 [] []) ids false))
  |none=>Fk P ops o s g'
 | .pick z seen kk=>match draw with
  |true=>False
  |false=>(match o.op with
   | .next it false=>iN ops s.A o=some true∧(cQ s.A it=.ptr z.b 0 0 0∧s.H[z.b]? =some (.iter (.mp z.mb) z.n seen z.n)∧s.H[z.mb]? =some (.map z.n z.es)∧
    (tc s.A o.dst (.dg [.sc (.bool false)]) fun A=>k (kk none) (.ok {s with A:=A}) ⟨[],[]⟩)∧
    ∀i,tc s.A o.dst (.dg [.sc (.bool true),.ak,.ak]) fun A=>qo {val:=nothing,ej:=[(z.b,.iter (.mp z.mb) z.n (seen++[i]) z.n)]} s.H fun H=>k (kk (some i)) (.ok {s with A:=A,H:=H}) ⟨[],[]⟩)
   |_=>False)
 | .grow z kk=>match draw with
  |true=>False
  |false=>(match o.op with
   | .call {callee:=.builtin .append,args:=args,argTypes:=ats}=>match ats[0]?,ats[1]?,args[0]?,args[1]? with
    |some ST,some XT,some sx,some x=>iN ops s.A o=some true∧s.H[nid]? =some .bw∧decide (args.size=2)=true∧Fj P ST XT=some (z.n,z.bytes)∧cQ s.A sx=.sl z.b z.aq z.n 0 z.len∧s.H[z.b]? =some (.row z.aq z.n (z.l.map z.enc))∧
     (elems (cQ s.A x)).run s.H=some (z.m.map z.enc)∧(∀x,(z.enc x).length=z.n)∧z.m.isEmpty=false∧
     (tc s.A o.dst (.sl z.b z.aq z.n 0 (z.l++z.m).length) fun A=>qo {val:=nothing,ej:=[(z.b,.row z.aq z.n ((z.l++z.m).map z.enc))]} s.H fun H=>k (kk true) (.ok {s with A:=A,H:=H}) ⟨[],[]⟩)∧
     (tc s.A o.dst (.sl nid 0 z.n 0 (z.l++z.m).length) fun A=>qo {val:=nothing,ej:=[(nid,.row 0 z.n ((z.l++z.m).map z.enc))]} s.H fun H=>k (kk false) (.ok {s with A:=A,H:=H}) ⟨[],[]⟩)
    |_,_,_,_=>False
   |_=>False)
 | .fail=>True
 | .stop=>Sd P X ops n0 o nid s k draw H0
 |g=>Fk P ops o s g
def yy{ρ:Type}(P:Program)[gl:aH](X:Env P)(draw:Bool)(H0:List ah)(ops:Array Oper)(n0:Nat)(o:Oper)(nid:Nat)(g:G P ρ)(s:St)(k:G P ρ→eF→gw→Prop):Prop:=
 match g with
 | .tidy l g'=>match draw with
  |true=>False
  |false=>jx H0 l s fun s'=>rF P X draw H0 ops n0 o nid g' s' k
 |g=>rF P X draw H0 ops n0 o nid g s k
def As{ρ:Type}(P:Program)[aH](X:Env P)(draw:Bool)(H0:List ah)(ops:Array Oper)(n0:Nat):List (Oper×Nat)→G P ρ→St→(G P ρ→eF→List gw→Prop)→Prop
 | [],g,s,k=>k g (.ok s) []
 | (o,nid)::rest,g,s,k=>oH g s fun g s=>yy P X draw H0 ops n0 o nid g s fun g r f=>match r with
  | .ok ⟨A,H,D⟩=>gR A fun A=>gR H fun H=>gR D fun D=>As P X draw H0 ops n0 rest g ⟨A,H,D⟩ fun g r fs=>k g r (f::fs)
  | .bg v s'=>k g (.bg v s') [f]
def sJ{ρ:Type}(P:Program)[aH](X:Env P)(H0:List ah)(ops:Array Oper)(draw:Bool)(g:G P ρ)(s:St)(k:G P ρ→eF→Prop):Prop:=
 jH (mE ops.toList) fun c=>jH (if c=0 then 0 else pN s.H) fun t=>jH (c - t) fun m=>
 E3 s.H (List.replicate m .bw) fun H1=>
 jH H1.length fun n0=>As P X draw H0 ops n0 (numbered (s.H.length - t) ops.toList) g {s with H:=H1} fun g r feet=>
  if !draw then k g r else
  if vU ops&&feet.length==ops.size&&indep ops (CheckFast.beforeF ops) feet then
   match r with
   | .ok s'=>k g (.ok s')
   | .bg v s'=>if feet.all (fun f=>f.writes.isEmpty)then k g (.bg v {s' with A:=ops.toList.foldl (fun A o=>gL A o.dst .ak) s'.A})else False
  else False
def EI{ρ:Type}(H0:List ah)(g:G P ρ)(s:St)(k:G P ρ→St→Prop):Prop:=match g with
 | .tidy l g'=>jx H0 l s fun s'=>k g' s'
 |g=>k g s
def DA{ρ:Type}(f:G P ρ→St→(G P ρ→bx→St→Prop)→Prop):Nat→G P ρ→St→(G P ρ→bx→St→Prop)→Prop
 | 0,_,_,_=>False
 |n+1,g,s,k=>f g s fun g o s'=>match o with
  | .normal=>DA f n g s' k
  |o=>k g o s'
def oZ{σ:Type}{sh:Sh}(H0:List ah)(E:σ→St)(X:sh.El→bx×St)(g:G P (σ⊕sh.El))(o:bx)(s:St):Prop:=
 match g with
 | .done ts (.inl a)=>jx H0 ts s fun s'=>(o,s')=(bx.normal,E a)
 | .done ts (.inr t)=>match o with
  | .normal=>False
  |o=>jx H0 ts s fun s'=>(o,s')=X t
 | .fail=>True
 |_=>Qi P H0 o s E X
def DB{sh:Sh}(H0:List ah)(Y:sh.El→bx×St)(g:G P sh.El)(o:bx)(s:St):Prop:=
 match g with
 | .done ts t=>jx H0 ts s fun s'=>(o,s')=Y t
 | .fail=>True
 |_=>Q3 P H0 o s Y
def DC{ρ:Type}(P:Program)[aH](X:Env P)(H0:List ah)(c:Operand)(a b:Code)(wa wb:G P ρ→St→(G P ρ→bx→St→Prop)→Prop)(g:G P ρ)(s:St)(k:G P ρ→bx→St→Prop):Prop:=
 EI H0 g s fun g s=>oH g s fun g s=>match g with
  | .skip (n+1) g=>match cQ s.A c with
   | .sc (.bool true)=>wa (G.less n g) s k
   | .sc (.bool false)=>wb (G.less n g) s k
   |_=>False
  | .fail=>True
  |_=>QZ P X c a b s k H0
def AZ{ρ:Type}(id:Nat)(k:G P ρ→bx→St→Prop)(g:G P ρ)(o:bx)(s':St):Prop:=match o with
 | .exit id'=>if id'=id then k g .normal s' else k g (.exit id') s'
 |o=>k g o s'
def yz(P:Program)[aH](cfg:fF)(L:Nat)(fn:Func)(m:Option AVal)(s:St):Option (aR×List ah):=
 match leave P cfg vZ L s.D m s.H with
 |some (m',H')=>match ending P fn s.A m' H' with
  |some (.ret v,H1)=>some (.ret (jg v),H1)
  |some (.bg v,H1)=>match v.flat with
   |true=>some (.bg v,H1)
   |false=>none
  |none=>none
 |none=>none
def rG(P:Program)[aH](cfg:fF)(L:Nat)(fn:Func)(o:bx)(s:St):Option (aR×List ah):=
 match o with
 | .normal=>yz P cfg L fn none s
 | .ret=>yz P cfg L fn none s
 | .bg v=>yz P cfg L fn (some v) s
 | .exit _=>none
def DD{σ:Type}{sh:Sh}(N:Ar P)(ro:Option Nat)(H0:List ah)(b:Code)(E:σ→St)(s:St)(Y:sh.El→bx×St)(g:G P (σ⊕sh.El))(f:G P (σ⊕sh.El)→Prop):Prop:=
 match g with
 | .wV _ _ g=>N.lp ro H0 b g E s Y
 |g=>f g
def jo(P:Program)[aH](X:Env P)(H0:List ah):Code→{ρ:Type}→G P ρ→St→(G P ρ→bx→St→Prop)→Prop
 | .skip,_,g,s,k=>k g .normal s
 | .region _ ops draw,_,g,s,k=>match X.ro.isSome&&ops.toList.any AR with
  |true=>False
  |false=>EI H0 g s fun g s=>sJ P (X.at draw) H0 ops draw g s fun g r=>match r with
   | .ok s'=>k g .normal s'
   | .bg v s'=>k g (.bg v) s'
 | .seq a b,_,g,s,k=>jo P X H0 a g s fun g o s'=>match o with
  | .normal=>jo P X H0 b g s' k
  |o=>k g o s'
 | .cond c a b,_,g,s,k=>match g with
  | .join sh Y g1 kk=>DC P X H0 c a b (fun g s k=>jo P X H0 a g s k) (fun g s k=>jo P X H0 b g s k) g1 s (DB H0 Y)∧sh.all fun t=>k (kk t) (Y t).1 (Y t).2
  |g=>DC P X H0 c a b (fun g s k=>jo P X H0 a g s k) (fun g s k=>jo P X H0 b g s k) g s k
 | .block id b,_,g,s,k=>match g with
  | .join sh Y g1 kk=>jo P X H0 b g1 s (AZ id (DB H0 Y))∧sh.all fun t=>k (kk t) (Y t).1 (Y t).2
  |g=>jo P X H0 b g s (AZ id k)
 | .loop b,_,g,s,k=>match g with
  | .gm n g=>DA (fun g s k=>jo P X H0 b g s k) n g s k
  | .loop sh hd E Y a0 body kk=>(jx H0 hd s fun s'=>s'=E a0)∧(∀a,DD X.N X.ro H0 b E (E a) Y (body a) fun g=>jo P X H0 b g (E a) (oZ H0 E Y))∧sh.all fun t=>k (kk t) (Y t).1 (Y t).2
  | .nr hs sh hd E Y a0 body kk=>(jx H0 hd s fun s'=>s'=E a0)∧(hs.all fun a=>DD X.N X.ro H0 b E (E a) Y (body a) fun g=>jo P X H0 b g (E a) (oZ H0 E Y))∧sh.all fun t=>k (kk t) (Y t).1 (Y t).2
  | .fail=>True
  |_=>Q0 P X b s k H0
 | .exit id,_,g,s,k=>k g (.exit id) s
 | .ret,_,g,s,k=>k g .ret s
 | .rangeFunc f ps assign body,_,g,s,k=>EI H0 g s fun g s=>match g with
  | .inl pr g=>(some true=some true)∧match cQ s.A f with
   | .fn (.func n) p q=>match CA X.ro 0 ps assign body s with
    |some (l,H1,D1)=>gR H1 fun H1=>KT pr H1∧match sI (pr.map (·.b)) H1 1000 (AVal.oF (p++[.jf l]++q)) []with
     |some (ids,_)=>uT (mask ids H1) fun Hm=>X.N.fn n (p++[.jf l]++q) Hm g fun g2 a H2=>CJ ids H1 a H2
      (fun e _ _=>qo e H1 fun H3=>match IE l D1 s H3 with
       |some (out,s')=>k g2 out s'
       |none=>False)
      (fun v=>k g2 (.bg v) {s with H:=ids.foldl (fun H i=>H.set i .dead) H1,D:=D1})
     |none=>False
    |none=>False
   |_=>False
  | .fail=>True
  |_=>Qh P X f ps assign body s k H0
 |_,_,_,_,_=>False
def EJ(pr:List Nat)(n:Nat):Nat→List ah→Bool
 |_,[]=>true
 |i,x::xs=>(match pr.contains i with
  |true=>true
  |false=>wS n x)&&EJ pr n (i+1) xs
def aR.gq(n:Nat):aR→Bool
 | .ret v=>v.gq n
 | .bg _=>true
def PL(pr:List PR)(n:Nat)(a:aR)(H1:List ah)(k:aR→List ah→Prop):Prop:=
 KT pr H1∧match a.gq n&&EJ (pr.map (·.b)) n 0 (H1.take n)with
  |true=>gR (H1.take n) fun H=>k a H
  |false=>k a H1
def OQ{ρ:Type}(P:Program)[aH](cfg:fF)(fn:Func)(H0:List ah)(g:G P ρ)(o:bx)(s:St)(k:G P ρ→aR→List ah→Prop):Prop:=
 match g with
 | .tidy ts (.inl pr g)=>jx H0 ts s fun s=>match rG P cfg 10 fn o s with
  |some (a,H1)=>(some true=some true)∧PL pr H0.length a H1 (k g)
  |none=>False
 | .fail=>True
 |_=>Q1 P fn o s H0 fun g pr o s=>match rG P cfg 10 fn o s with
  |some (a,H1)=>PL pr H0.length a H1 (k g)
  |none=>False
def PM(P:Program)[aH](cfg:fF)(nd:Bool)(N:Ar P){ρ:Type}(f:FuncId)(args:List AVal)(H:List ah)(g:G P ρ)(k:G P ρ→aR→List ah→Prop):Prop:=
 match g with
 | .cR c x kk=>LK P f args H c x kk k
 |g=>match P.funcs[f]? with
  |some fn=>match fn.body with
   |some c=>jo P ⟨cfg,none,N,nd⟩ H c g ⟨lS fn.ntmps args,H,[]⟩ fun g o s=>OQ P cfg fn H g o s k
   |none=>False
  |none=>False
def OR{ρ:Type}(P:Program)[aH](b:Nat)(H0:List ah)(g:G P ρ)(o:bx)(s:St)(k:G P ρ→aR→List ah→Prop):Prop:=
 match rC o with
 |some j=>match g with
  | .tidy ts g=>jx H0 ts s fun s=>match marked b (if j.isNone then .ready else .done) j s.H with
   |some H2=>k g (.ret (.sc (.bool j.isNone))) H2
   |none=>False
  | .fail=>True
  |_=>Q2 P b o s H0 fun g s=>match marked b (if j.isNone then .ready else .done) j s.H with
   |some H2=>k g (.ret (.sc (.bool j.isNone))) H2
   |none=>False
 |none=>False
def OS(P:Program)[aH](cfg:fF)(nd:Bool)(N:Ar P){ρ:Type}(b:Nat)(args:List AVal)(H:List ah)(g:G P ρ)(k:G P ρ→aR→List ah→Prop):Prop:=
 match H[b]? with
 |some (.loop _ _ _ A ps assign body)=>match Nat.beq ps.length args.length with
  |true=>jo P ⟨cfg,some b,N,nd⟩ H assign g ⟨tD A ps args,H,[]⟩ fun g o s1=>match o with
   | .normal=>match s1.H[b]? with
    |some (.loop .ready pend1 fid1 A1 ps1 as1 bd1)=>gR (s1.H.set b (.loop .busy pend1 fid1 A1 ps1 as1 bd1)) fun H1=>
     jo P ⟨cfg,some b,N,nd⟩ H body g {s1 with H:=H1} fun g o s2=>OR P b H g o s2 k
    |_=>False
   |_=>False
  |false=>False
 |_=>False
inductive Nl (P:Program) [aH] (cfg:fF) (nd:Bool) (N:Ar P) (ro:Option Nat) (H0:List ah) (b:Code) {σ:Type} {sh:Sh} (g:G P (σ⊕sh.El)) (E:σ→St) (s:St) (Y:sh.El→bx×St):Prop
 |mk (h:jo P ⟨cfg,ro,N,nd⟩ H0 b g s (oZ H0 E Y)):Nl P cfg nd N ro H0 b g E s Y
def jY(P:Program)[aH](cfg:fF)(nd:Bool):Nat→Ar P
 | 0=>RM P
 |n+1=>⟨PM P cfg nd (jY P cfg nd n),OS P cfg nd (jY P cfg nd n),fun ro H0 b g E s Y=>Nl P cfg nd (jY P cfg nd n) ro H0 b g E s Y⟩
def LN(P:Program)[aH](cfg:fF):Env P:=⟨cfg,none,jY P cfg false 9,false⟩
def Q4(P:Program)[aH](cfg:fF):Env P:=⟨cfg,none,jY P cfg true 9,true⟩
end
end Go.AM
end
section
namespace Go.AM
section
variable [aH] {P:Program} {g g':Gh} {w:World}
theorem CK(hst:∀k o,g.st k o→g'.st k o){c:Array Value}:∀(l:List AVal) (o:Nat),AVal.bp l=true→dP g w c l o→dP g' w c l o
 | [],_,_,_=>trivial
 |a::as,o,hp,h=>by
  simp only[AVal.bp,Bool.and_eq_true]at hp;obtain⟨⟨y,h1,h2,h3⟩,h4⟩:=h;exact⟨⟨y,h1,h2,ko hst a y hp.1 h3⟩,CK hst as (o+1) hp.2 h4⟩
theorem tJ(hst:∀k o,g.st k o→g'.st k o){c:Array Value}{sz:Nat}:∀(l:List (List AVal)) (o:Nat),l.all AVal.bp=true→gr g w c sz l o→gr g' w c sz l o
 | [],_,_,_=>trivial
 |r::rs,o,hp,h=>by
  simp only[List.all_cons,Bool.and_eq_true]at hp;exact⟨⟨h.1.1,CK hst r o hp.1 h.1.2⟩,tJ hst rs (o+sz) hp.2 h.2⟩
mutual
theorem PN{b v:Nat}(hst:∀k o,g.st k o→g'.st k o)(hrho:∀x,g.ai b v=some x→g'.ai 0 0=some x):∀(a:AVal) (x:Value),a.tZ=true→R g w (a.ym b v) x→R g' w a x
 | .sc _,x,_,hr=>by simpa[R,AVal.ym]using hr
 | .agg cs,x,hp,hr=>by
  simp only[R,AVal.tZ,AVal.ym]at hr hp ⊢;obtain⟨vs,e,h1,hl⟩:=hr;exact⟨vs,e,h1,yU hst hrho cs vs hp hl⟩
 | .dg cs,x,hp,hr=>by
  simp only[R,AVal.tZ,AVal.ym]at hr hp ⊢;obtain⟨vs,e,hl⟩:=hr;exact⟨vs,e,yU hst hrho cs vs hp hl⟩
 | .ptr b' v' i o,x,hp,hr=>by
  grind [R,AVal.tZ,AVal.ym]
 | .bV cs o,x,_,hr=>by
  grind [R,AVal.ym,jQ]
 | .sl b' v' sz o n,x,hp,hr=>by
  grind [R,AVal.tZ,AVal.ym]
 | .aB rows,x,_,hr=>ko hst _ x rfl (by simpa only[AVal.ym]using hr)
 | .fn f c d,x,hp,hr=>by
  simp only[R,AVal.tZ,AVal.ym,Bool.and_eq_true]at hr hp ⊢;obtain⟨va,vb,e,h1,h2⟩:=hr;exact⟨va,vb,e,yU hst hrho c va hp.1 h1,yU hst hrho d vb hp.2 h2⟩
 | .fK t a,x,hp,hr=>by
  simp only[R,AVal.tZ,AVal.ym]at hr hp ⊢;obtain⟨y,e,h1⟩:=hr;exact⟨y,e,PN hst hrho a y hp h1⟩
 | .mp _,_,hp,_=>by simp[AVal.tZ]at hp
 | .jf _,_,hp,_=>by simp[AVal.tZ]at hp
 | .sa b' v' i o s n,x,hp,hr=>by
  grind [R,AVal.tZ,AVal.ym]
 | .gB i o,x,_,hr=>by simpa[R,AVal.ym]using hr
 | .emp,x,_,hr=>by simpa[R,AVal.ym]using hr
 | .nz _,x,_,hr=>by simpa[R,AVal.ym]using hr
 | .ak,x,_,_=>by simp[R]
theorem yU{b v:Nat}(hst:∀k o,g.st k o→g'.st k o)(hrho:∀x,g.ai b v=some x→g'.ai 0 0=some x):∀(a:List AVal) (x:List Value),AVal.mO a=true→RL g w (AVal.u6 b v a) x→RL g' w a x
 | [],x,_,hr=>by simpa[RL,AVal.u6]using hr
 |a::as,x,hp,hr=>by
  simp only[RL,AVal.mO,AVal.u6,Bool.and_eq_true]at hr hp ⊢;obtain⟨y,ys,e,h1,h2⟩:=hr;exact⟨y,ys,e,PN hst hrho a y hp.1 h1,yU hst hrho as ys hp.2 h2⟩
end
theorem yV{x:ah}(h:x.pS=true):∃sz rows,x=.row 0 sz rows∧rows.all AVal.bp=true:=by
 unfold ah.pS at h;grind
open Classical in
theorem cg.move{f:FuncId}{args:List AVal}{x x':ah}{r:aR}(h:cg P f args [x] r [x'])(ha:AVal.mO args=true)(hx:x.pS=true)(hx':x'.pS=true)(hr:r.Cf=true)
 (b v:Nat) (H:List ah) (hb:H[b]? =some (x.lU v)) (hd:∀b',b'≠b→∀y,H[b']? =some y→y=.dead):cg P f (AVal.u6 b v args) H (r.zS b v) (H.set b (x'.lU v)):=by
 obtain⟨sz,rows,rfl,hp⟩:=yV hx;obtain⟨sz',rows',rfl,hp'⟩:=yV hx';simp only[ah.lU]at hb ⊢;have hblt:b<H.length:=(List.getElem?_eq_some_iff.1 hb).1;refine⟨h.1,fun g w vs hi hl=>?_⟩
 let g':Gh:=⟨fun b' v'=>if b'=0∧v'=0 then g.ai b v else none,g.st⟩
 have h00:g'.ai 0 0=g.ai b v:=by simp[g']
 have hno:∀b' v',¬(b'=0∧v'=0)→g'.ai b' v'=none:=fun b' v' hc=>by simp[g',hc]
 have hst:∀k o,g.st k o→g'.st k o:=fun _ _ h=>h
 have hi':Inv g' [.row 0 sz rows] w:=by
  refine⟨fun b' y hy=>?_,fun b1 b2 y1 y2 v1 v2 k z z' e1 e2 _ _ _ _=>?_,fun b' v' hc=>?_,fun b' y v1 v2 hy hv hlt=>?_,fun b' y v1 k z o hy hv hk=>?_,hi.eN,fun i cs hc=>⟨(hi.dw i cs hc).1,jQ hst _ _ _ (hi.dw i cs hc).1 (hi.dw i cs hc).2⟩⟩
  ·cases b' with
   |zero=>
    simp only[List.getElem?_cons_zero,Option.some.injEq]at hy;subst hy;rcases hi.good b _ hb with⟨k,c,e,h1,h2,h3,h4,h5⟩ |⟨h1,h2,h3⟩
    ·exact .inl ⟨k,c,e,by rw[h00];exact h1,h2,tJ hst rows 0 hp h3,h4,h5⟩
    ·exact .inr ⟨h1,by rw[h00];exact h2,h3⟩
   |succ n=>simp at hy
  ·grind
  ·grind
  ·grind
  ·by_cases hc:b'=0∧v1=0
   ·obtain⟨rfl,rfl⟩:=hc;rw[h00]at hk;exact hi.free b _ v k z o hb rfl hk
   ·rw[hno _ _ hc]at hk;cases hk
 have hl':RL g' w args vs.toList:=yU hst (fun x hx=>by rw[h00];exact hx) _ _ ha hl
 refine(h.2 g' w vs hi' hl').mono fun e w' ⟨g1',hi1,hla,he⟩=>?_
 have hown:∀k,ga g' [.row 0 sz rows] k→ga g H k:=by
  rintro k ⟨b',y,v',z,hy,hv,hk⟩;by_cases hc:b'=0∧v'=0
  ·obtain⟨rfl,rfl⟩:=hc;rw[h00]at hk;exact⟨b,_,v,z,hb,rfl,hk⟩
  ·rw[hno _ _ hc]at hk;cases hk
 have hown':∀k,ga g H k→ga g' [.row 0 sz rows] k:=by
  rintro k ⟨b',y,v',z,hy,hv,hk⟩;by_cases hc:b'=b
  ·subst hc;rw[hb]at hy;cases hy;simp only[ah.live,Option.some.injEq]at hv;subst hv;exact⟨0,_,0,z,rfl,rfl,by rw[h00];exact hk⟩
  ·rw[hd b' hc y hy]at hv;cases hv
 let g1:Gh:=⟨fun b' v'=>if b'=b∧v'=v then g1'.ai 0 0 else g.ai b' v',g1'.st⟩
 have e00:g1.ai b v=g1'.ai 0 0:=by simp[g1]
 have eno:∀b' v',¬(b'=b∧v'=v)→g1.ai b' v'=g.ai b' v':=fun b' v' hc=>by simp[g1,hc]
 have hst1:∀k o,g1'.st k o→g1.st k o:=fun _ _ h=>h
 have hget:∀b',b'≠b→(H.set b (.row v sz' rows'))[b']? =H[b']? :=fun b' hc=>List.getElem?_set_ne (Ne.symm hc)
 have hself:(H.set b (.row v sz' rows'))[b]? =some (.row v sz' rows'):=List.getElem?_set_self hblt;have hinv1:Inv g1 (H.set b (.row v sz' rows')) w':=by
  refine⟨fun b' y hy=>?_,fun b1 b2 y1 y2 v1 v2 k z z' e1 e2 l1 l2 _ _=>?_,fun b' v' hc=>?_,fun b' y v1 v2 hy hv hlt=>?_,fun b' y v1 k z o hy hv hk=>?_,hi1.eN,fun i cs hc=>⟨(hi1.dw i cs hc).1,jQ hst1 _ _ _ (hi1.dw i cs hc).1 (hi1.dw i cs hc).2⟩⟩
  ·by_cases hc:b'=b
   ·subst hc;rw[hself]at hy;cases hy;rcases hi1.good 0 _ rfl with⟨k,c,e,h1,h2,h3,h4,h5⟩ |⟨h1,h2,h3⟩
    ·exact .inl ⟨k,c,e,by rw[e00];exact h1,h2,tJ hst1 rows' 0 hp' h3,h4,h5⟩
    ·exact .inr ⟨h1,by rw[e00];exact h2,h3⟩
   ·rw[hget b' hc]at hy;rw[hd b' hc y hy];trivial
  ·have key:∀(b':Nat) (y:ah) (v':Nat),(H.set b (.row v sz' rows'))[b']? =some y→y.live=some v'→b'=b:=by
    intro b' y v' hy hv;by_cases hc:b'=b
    ·exact hc
    ·rw[hget b' hc]at hy;rw[hd b' hc y hy]at hv;cases hv
   grind
  ·have hne:b'≠b:=by
    rintro rfl;rcases hc with hc |hc
    ·rw[hself]at hc;cases hc
    ·rw[List.length_set]at hc;omega
   rw[eno _ _ (fun hh=>hne hh.1)]
   refine hi.fresh b' v' ?_;grind
  ·by_cases hc:b'=b
   ·subst hc;rw[hself]at hy;cases hy;simp only[ah.live,Option.some.injEq]at hv;subst hv;rw[eno _ _ (by omega)]
    exact hi.next b' _ v v2 hb rfl hlt
   ·rw[hget b' hc]at hy;rw[hd b' hc y hy]at hv;cases hv
  ·by_cases hc:b'=b
   ·subst hc;rw[hself]at hy;cases hy;simp only[ah.live,Option.some.injEq]at hv;subst hv;rw[e00]at hk;exact hi1.free 0 _ 0 k z o rfl rfl hk
   ·rw[hget b' hc]at hy;rw[hd b' hc y hy]at hv;cases hv
 have hback:∀k,ga g1 (H.set b (.row v sz' rows')) k→ga g1' [.row 0 sz' rows'] k:=by
  rintro k ⟨b',y,v',z,hy,hv,hkz⟩;by_cases hc:b'=b
  ·subst hc;rw[hself]at hy;cases hy;simp only[ah.live,Option.some.injEq]at hv;subst hv;rw[e00]at hkz;exact⟨0,_,0,z,rfl,rfl,hkz⟩
  ·rw[hget b' hc]at hy;rw[hd b' hc y hy]at hv;cases hv
 refine⟨g1,hinv1,⟨⟨fun b' v' y hy=>?_,fun k o hk=>hla.ext.st k o hk,hla.ext.cell,hla.ext.shape⟩,hla.size,fun k hk ho=>hla.keep k hk fun hc=>ho (hown k hc),fun k hk ho=>?_,by grind,hla.os,hla.tape,hla.output,fun k o hk hs=>(hla.stk k o hk hs).imp_right fun h=>⟨hown k h.1,fun ho=>h.2 (hback k ho)⟩,fun b' hb'=>?_,fun b' v' k z hk=>?_⟩,?_⟩
 ·by_cases hc:b'=b∧v'=v
  ·obtain⟨rfl,rfl⟩:=hc;rw[e00];exact hla.ext.ai 0 0 y (by rw[h00];exact hy)
  ·rw[eno _ _ hc];exact hy
 ·refine hown k (hla.own k hk ?_);grind
 ·grind
 ·by_cases hc:b'=b∧v'=v
  ·obtain⟨rfl,rfl⟩:=hc;rw[e00]at hk;rcases hla.s9 0 0 k z hk with⟨v1,z1,h1⟩ |h1
   ·grind
   ·exact .inr h1
  grind
 ·cases r with
  |ret u=>
   obtain⟨y,rfl,hy⟩:=he;have hq:(∃sz o n,u=.sl 0 0 sz o n)∨(u.pure=true∧u.zS b v=u):=by
    cases u with
    |sl b1 v1 sz o n=>
     grind [aR.Cf]
    |_=>exact .inr ⟨hr,rfl⟩
   rcases hq with⟨sz,o,n,rfl⟩ |⟨hp2,he2⟩
   ·refine⟨y,rfl,?_⟩;grind [AVal.zS,R]
   ·refine⟨y,rfl,?_⟩;grind [ko]
  |bg u=>
   obtain⟨y,rfl,hy⟩:=he;exact⟨y,rfl,lT _ _ hr hy⟩
open Classical in
theorem cg.RO{f:FuncId}{args:List AVal}{x:ah}{r:aR}(h:cg P f args [x] r [.dead])(ha:AVal.mO args=true)(hx:x.pS=true)(hr:r.Cf=true)
 (b v:Nat) (H:List ah) (hb:H[b]? =some (x.lU v)) (hd:∀b',b'≠b→∀y,H[b']? =some y→y=.dead):cg P f (AVal.u6 b v args) H (r.zS b v) (H.set b .dead):=by
 obtain⟨sz,rows,rfl,hp⟩:=yV hx;simp only[ah.lU]at hb ⊢;have hblt:b<H.length:=(List.getElem?_eq_some_iff.1 hb).1;refine⟨h.1,fun g w vs hi hl=>?_⟩
 let g':Gh:=⟨fun b' v'=>if b'=0∧v'=0 then g.ai b v else none,g.st⟩
 have h00:g'.ai 0 0=g.ai b v:=by simp[g']
 have hno:∀b' v',¬(b'=0∧v'=0)→g'.ai b' v'=none:=fun b' v' hc=>by simp[g',hc]
 have hst:∀k o,g.st k o→g'.st k o:=fun _ _ h=>h
 have hi':Inv g' [.row 0 sz rows] w:=by
  refine⟨fun b' y hy=>?_,fun b1 b2 y1 y2 v1 v2 k z z' e1 e2 _ _ _ _=>?_,fun b' v' hc=>?_,fun b' y v1 v2 hy hv hlt=>?_,fun b' y v1 k z o hy hv hk=>?_,hi.eN,fun i cs hc=>⟨(hi.dw i cs hc).1,jQ hst _ _ _ (hi.dw i cs hc).1 (hi.dw i cs hc).2⟩⟩
  ·cases b' with
   |zero=>
    simp only[List.getElem?_cons_zero,Option.some.injEq]at hy;subst hy;rcases hi.good b _ hb with⟨k,c,e,h1,h2,h3,h4,h5⟩ |⟨h1,h2,h3⟩
    ·exact .inl ⟨k,c,e,by rw[h00];exact h1,h2,tJ hst rows 0 hp h3,h4,h5⟩
    ·exact .inr ⟨h1,by rw[h00];exact h2,h3⟩
   |succ n=>simp at hy
  ·grind
  ·grind
  ·grind
  ·by_cases hc:b'=0∧v1=0
   ·obtain⟨rfl,rfl⟩:=hc;rw[h00]at hk;exact hi.free b _ v k z o hb rfl hk
   ·rw[hno _ _ hc]at hk;cases hk
 have hl':RL g' w args vs.toList:=yU hst (fun x hx=>by rw[h00];exact hx) _ _ ha hl
 refine(h.2 g' w vs hi' hl').mono fun e w' ⟨g1',hi1,hla,he⟩=>?_
 have hown:∀k,ga g' [.row 0 sz rows] k→ga g H k:=by
  rintro k ⟨b',y,v',z,hy,hv,hk⟩;by_cases hc:b'=0∧v'=0
  ·obtain⟨rfl,rfl⟩:=hc;rw[h00]at hk;exact⟨b,_,v,z,hb,rfl,hk⟩
  ·rw[hno _ _ hc]at hk;cases hk
 have hown':∀k,ga g H k→ga g' [.row 0 sz rows] k:=by
  rintro k ⟨b',y,v',z,hy,hv,hk⟩;by_cases hc:b'=b
  ·subst hc;rw[hb]at hy;cases hy;simp only[ah.live,Option.some.injEq]at hv;subst hv;exact⟨0,_,0,z,rfl,rfl,by rw[h00];exact hk⟩
  ·rw[hd b' hc y hy]at hv;cases hv
 let g1:Gh:=⟨fun b' v'=>if b'=b∧v'=v then g1'.ai 0 0 else g.ai b' v',g1'.st⟩
 have e00:g1.ai b v=g1'.ai 0 0:=by simp[g1]
 have eno:∀b' v',¬(b'=b∧v'=v)→g1.ai b' v'=g.ai b' v':=fun b' v' hc=>by simp[g1,hc]
 have hst1:∀k o,g1'.st k o→g1.st k o:=fun _ _ h=>h
 have hget:∀b',b'≠b→(H.set b .dead)[b']? =H[b']? :=fun b' hc=>List.getElem?_set_ne (Ne.symm hc)
 have hself:(H.set b .dead)[b]? =some .dead:=List.getElem?_set_self hblt;have hinv1:Inv g1 (H.set b .dead) w':=by
  refine⟨fun b' y hy=>?_,fun b1 b2 y1 y2 v1 v2 k z z' e1 e2 l1 l2 _ _=>?_,fun b' v' hc=>?_,fun b' y v1 v2 hy hv hlt=>?_,fun b' y v1 k z o hy hv hk=>?_,hi1.eN,fun i cs hc=>⟨(hi1.dw i cs hc).1,jQ hst1 _ _ _ (hi1.dw i cs hc).1 (hi1.dw i cs hc).2⟩⟩
  ·by_cases hc:b'=b
   ·subst hc;rw[hself]at hy;cases hy
    trivial
   ·rw[hget b' hc]at hy;rw[hd b' hc y hy];trivial
  ·have key:∀(b':Nat) (y:ah) (v':Nat),(H.set b .dead)[b']? =some y→y.live=some v'→b'=b:=by
    intro b' y v' hy hv;by_cases hc:b'=b
    ·exact hc
    ·rw[hget b' hc]at hy;rw[hd b' hc y hy]at hv;cases hv
   grind
  ·have hne:b'≠b:=by
    rintro rfl;rcases hc with hc |hc
    ·rw[hself]at hc;cases hc
    ·rw[List.length_set]at hc;omega
   rw[eno _ _ (fun hh=>hne hh.1)]
   refine hi.fresh b' v' ?_;grind
  ·by_cases hc:b'=b
   ·subst hc;rw[hself]at hy;cases hy;cases hv
   ·rw[hget b' hc]at hy;rw[hd b' hc y hy]at hv;cases hv
  ·by_cases hc:b'=b
   ·subst hc;rw[hself]at hy;cases hy;cases hv
   ·rw[hget b' hc]at hy;rw[hd b' hc y hy]at hv;cases hv
 have hback:∀k,ga g1 (H.set b .dead) k→ga g1' [.dead] k:=by
  rintro k ⟨b',y,v',z,hy,hv,hkz⟩;by_cases hc:b'=b
  ·subst hc;rw[hself]at hy;cases hy;cases hv
  ·rw[hget b' hc]at hy;rw[hd b' hc y hy]at hv;cases hv
 refine⟨g1,hinv1,⟨⟨fun b' v' y hy=>?_,fun k o hk=>hla.ext.st k o hk,hla.ext.cell,hla.ext.shape⟩,hla.size,fun k hk ho=>hla.keep k hk fun hc=>ho (hown k hc),fun k hk ho=>?_,by grind,hla.os,hla.tape,hla.output,fun k o hk hs=>(hla.stk k o hk hs).imp_right fun h=>⟨hown k h.1,fun ho=>h.2 (hback k ho)⟩,fun b' hb'=>?_,fun b' v' k z hk=>?_⟩,?_⟩
 ·by_cases hc:b'=b∧v'=v
  ·obtain⟨rfl,rfl⟩:=hc;rw[e00];exact hla.ext.ai 0 0 y (by rw[h00];exact hy)
  ·rw[eno _ _ hc];exact hy
 ·refine hown k (hla.own k hk ?_);grind
 ·grind
 ·by_cases hc:b'=b∧v'=v
  ·obtain⟨rfl,rfl⟩:=hc;rw[e00]at hk;rcases hla.s9 0 0 k z hk with⟨v1,z1,h1⟩ |h1
   ·grind
   ·exact .inr h1
  grind
 ·cases r with
  |ret u=>
   obtain⟨y,rfl,hy⟩:=he;have hq:(∃sz o n,u=.sl 0 0 sz o n)∨(u.pure=true∧u.zS b v=u):=by
    cases u with
    |sl b1 v1 sz o n=>
     grind [aR.Cf]
    |_=>exact .inr ⟨hr,rfl⟩
   rcases hq with⟨sz,o,n,rfl⟩ |⟨hp2,he2⟩
   ·refine⟨y,rfl,?_⟩;grind [AVal.zS,R]
   ·refine⟨y,rfl,?_⟩;grind [ko]
  |bg u=>
   obtain⟨y,rfl,hy⟩:=he;exact⟨y,rfl,lT _ _ hr hy⟩
theorem cg.RP{f:FuncId}{args:List AVal}{x x':ah}{r:aR}(h:cg P f args [x] r [x'])(ha:AVal.mO args=true)(hx:x.pS=true)(hx':x'.pS=true∨x'=.dead)(hr:r.Cf=true)
 (b v:Nat) (H:List ah) (hb:H[b]? =some (x.lU v)) (hd:∀b',b'≠b→∀y,H[b']? =some y→y=.dead):cg P f (AVal.u6 b v args) H (r.zS b v) (H.set b (x'.lU v)):=by
 rcases hx' with hx' |rfl
 ·exact h.move ha hx hx' hr b v H hb hd
 ·exact h.RO ha hx hr b v H hb hd
theorem cg.frame{f:FuncId}{args:List AVal}{H:List ah}{r:aR}{b:Nat}{y:ah}(h:cg P f args (mask [b] H) r ((mask [b] H).set b y))(hb:b<H.length):cg P f args H r (H.set b y):=by
 refine⟨h.1,fun g w vs hi hl=>(h.2 g w vs (pP hi [b]) hl).mono fun e w' ⟨g1,hi1,hla,he⟩=>?_⟩
 have hlen:((mask [b] H).set b y).length=H.length:=by rw[List.length_set,qG]
 have:=Inv.merge hi hi1 hla (by omega)
 have e1:merged [b] H ((mask [b] H).set b y)=H.set b y:=by
  simp only[merged,List.foldl_cons,List.foldl_nil];rw[List.getD_eq_getElem?_getD,List.getElem?_set_self (by rw[qG];exact hb)];rfl
 have e2:((mask [b] H).set b y).drop H.length=[]:=List.drop_of_length_le (by omega)
 rw[e1,e2,List.append_nil]at this;exact⟨g1,this.1,this.2,he⟩
mutual
theorem wX(n:Nat):∀(v:AVal),v.pure=true→v.gq n=true
 | .sc _,_=>rfl
 | .agg cs,h=>by simp only[AVal.pure,AVal.gq]at h ⊢;exact kR n cs h
 | .dg cs,h=>by simp only[AVal.pure,AVal.gq]at h ⊢;exact kR n cs h
 | .ptr ..,h=>by simp[AVal.pure]at h
 | .bV ..,_=>rfl
 | .sl ..,h=>by simp[AVal.pure]at h
 | .aB _,_=>rfl
 | .fn f a b,h=>by
  simp only[AVal.pure,AVal.gq,Bool.and_eq_true]at h ⊢;exact⟨kR n a h.1,kR n b h.2⟩
 | .fK t v,h=>by simp only[AVal.pure,AVal.gq]at h ⊢;exact wX n v h
 | .mp _,h=>by simp[AVal.pure]at h
 | .jf _,h=>by simp[AVal.pure]at h
 | .sa ..,h=>by simp[AVal.pure]at h
 | .gB ..,_=>rfl
 | .emp,_=>rfl
 | .nz _,_=>rfl
 | .ak,_=>rfl
theorem kR(n:Nat):∀(l:List AVal),AVal.bp l=true→AVal.oM n l=true
 | [],_=>rfl
 |a::as,h=>by
  simp only[AVal.bp,AVal.oM,Bool.and_eq_true]at h ⊢;exact⟨wX n a h.1,kR n as h.2⟩
end
theorem cg.take{f:FuncId}{args:List AVal}{H H1:List ah}{a:aR}(h:cg P f args H a H1)(h0:0<H.length)(ha:a.Cf=true)(hb:∀x∈H1.take H.length,x.pS=true∨x=.dead):cg P f args H a (H1.take H.length):=by
 refine⟨h.1,fun g w vs hi hl=>(h.2 g w vs hi hl).mono fun e w' ⟨g1,hi1,hla,he⟩=>?_⟩
 have hlen:(H1.take H.length).length=H.length:=by rw[List.length_take];have:=hla.len;omega
 have hK:H1.take H.length++H1.drop H.length=H1:=List.take_append_drop _ _;obtain⟨i1,i2⟩:=Inv.drop (n:=H.length) (K:=H1.take H.length) (L:=H1.drop H.length) hi (by rw[hK];exact hi1) (by rw[hK];exact hla) hlen rfl fun b x hx=>.inl (by
  rcases hb x (List.mem_of_getElem? hx)with hb |rfl
  ·grind [yV,wS,kR]
  ·rfl)
 refine⟨g1.upto H.length,i1,i2,?_⟩;cases a with
 |ret v=>
  obtain⟨x,rfl,hx⟩:=he;refine⟨x,rfl,?_⟩;by_cases hp:v.pure=true
  ·exact ko (g:=g1) (g2:=g1.upto H.length) (fun _ _ h=>h) v x hp hx
  ·cases v<;>try exact absurd ha hp
   rename_i b aq sz o n;simp only[aR.Cf,Bool.and_eq_true,beq_iff_eq]at ha;obtain⟨rfl,rfl⟩:=ha;simp only[R]at hx ⊢;rcases hx with hx |⟨k,cap,e,s,h1,h2⟩
   ·exact .inl hx
   ·exact .inr ⟨k,cap,e,s,by simpa[Gh.upto,h0]using h1,h2⟩
 |bg v=>
  obtain⟨x,rfl,hx⟩:=he;exact⟨x,rfl,lT v x ha hx⟩
theorem EK{pr:List Nat}{n:Nat}:∀{L:List ah} {i:Nat},EJ pr n i L=true→∀(b:Nat) (x:ah),L[b]? =some x→pr.contains (i+b)=true∨wS n x=true
 | [],_,_,b,x,h=>by simp at h
 |y::ys,i,hl,0,x,h=>by
  grind [EJ]
 |y::ys,i,hl,b+1,x,h=>by
  simp only[EJ,Bool.and_eq_true]at hl;have:=EK hl.2 b x (by simpa using h)
  grind
theorem cg.trim{f:FuncId}{args:List AVal}{H H1:List ah}{a:aR}{pr:List Nat}(h:cg P f args H a H1)(hpan:∀v,a=.bg v→v.flat=true)(ha:a.gq H.length=true)(hl:EJ pr H.length 0 (H1.take H.length)=true)
 (hp:∀i,pr.contains i=true→∃x,H1[i]? =some x∧u9 x=true):cg P f args H a (H1.take H.length):=by
 refine⟨h.1,fun g w vs hi hl'=>(h.2 g w vs hi hl').mono fun e w' ⟨g1,hi1,hla,he⟩=>?_⟩
 have hlen:(H1.take H.length).length=H.length:=by rw[List.length_take];have:=hla.len;omega
 have hK:H1.take H.length++H1.drop H.length=H1:=List.take_append_drop _ _;obtain⟨i1,i2⟩:=Inv.drop (n:=H.length) (K:=H1.take H.length) (L:=H1.drop H.length) hi (by rw[hK];exact hi1) (by rw[hK];exact hla) hlen rfl fun b x hx=>.inl (by
  rcases EK hl b x hx with hc |hc
  ·grind [zT,wS,kR,wX]
  ·exact hc)
 refine⟨g1.upto H.length,i1,i2,?_⟩;cases a with
 |ret v=>
  obtain⟨x,rfl,hx⟩:=he;exact⟨x,rfl,nI (n:=H.length) (g:=g1) (g2:=g1.upto H.length) (fun _ _ h=>h) (fun b aq x hb he=>by grind [Gh.upto]) v x ha hx⟩
 |bg v=>
  obtain⟨x,rfl,hx⟩:=he;exact⟨x,rfl,lT v x (hpan v rfl) hx⟩
mutual
theorem PO{b:Nat}:∀(a:AVal) (x:Value),R g w a x→R g w (a.but b) x
 | .sc _,x,hr=>by simpa only[AVal.but]using hr
 | .agg cs,x,hr=>by
  simp only[R,AVal.but]at hr ⊢;obtain⟨vs,e,h1,hl⟩:=hr;exact⟨vs,e,h1,A0 cs vs hl⟩
 | .dg cs,x,hr=>by
  simp only[R,AVal.but]at hr ⊢;obtain⟨vs,e,hl⟩:=hr;exact⟨vs,e,A0 cs vs hl⟩
 | .ptr ..,x,hr=>by
  grind [AVal.but,R]
 | .bV ..,x,hr=>by simpa only[AVal.but]using hr
 | .sl ..,x,hr=>by
  grind [AVal.but,R]
 | .aB _,x,hr=>by simpa only[AVal.but]using hr
 | .fn f c d,x,hr=>by
  simp only[R,AVal.but]at hr ⊢;obtain⟨va,vb,e,h1,h2⟩:=hr;exact⟨va,vb,e,A0 c va h1,A0 d vb h2⟩
 | .fK t a,x,hr=>by
  simp only[R,AVal.but]at hr ⊢;obtain⟨y,e,h1⟩:=hr;exact⟨y,e,PO a y h1⟩
 | .mp _,_,_=>by simp[AVal.but,R]
 | .jf _,_,_=>by simp[AVal.but,R]
 | .sa ..,x,hr=>by
  grind [AVal.but,R]
 | .gB ..,x,hr=>by simpa only[AVal.but]using hr
 | .emp,x,hr=>by simpa only[AVal.but]using hr
 | .nz _,x,hr=>by simpa only[AVal.but]using hr
 | .ak,x,_=>by simp[AVal.but,R]
theorem A0{b:Nat}:∀(a:List AVal) (x:List Value),RL g w a x→RL g w (AVal.yS b a) x
 | [],x,hr=>by simpa[RL,AVal.yS]using hr
 |a::as,x,hr=>by
  simp only[RL,AVal.yS]at hr ⊢;obtain⟨y,ys,e,h1,h2⟩:=hr;exact⟨y,ys,e,PO a y h1,A0 as ys h2⟩
end
theorem cg.but{b:Nat}{f:FuncId}{args:List AVal}{H H1:List ah}{r:aR}(h:cg P f (AVal.yS b args) H r H1):cg P f args H r H1:=
 ⟨h.1,fun g w vs hi hl=>h.2 g w vs hi (A0 _ _ hl)⟩
end
end Go.AM
end
section
namespace Go.AM
section
variable [aH] {P:Program} {cfg:fF} {X:Env P}
theorem sK:gx P vZ:=⟨fun _ _ _ _ _ h=>by simp[vZ]at h,fun _ _ _ _ _ h=>by simp[vZ]at h⟩
open Classical in
noncomputable def qq(f:FuncId)(args:List AVal)(H:List ah)(r:aR)(H1:List ah):jI:=
 ⟨fun f' args' H'=>if f'=f∧args'=args∧H'=H then some (r,H1)else none,fun _ _ _=>none⟩
theorem zV{f:FuncId}{args:List AVal}{H H1:List ah}{r:aR}(h:cg P f args H r H1):gx P (qq f args H r H1):=by
 refine⟨fun f' args' H' r' H1' hr=>?_,fun _ _ _ _ _ h=>by simp[qq]at h⟩
 simp only[qq]at hr;split at hr
 ·rename_i hc;obtain⟨rfl,rfl,rfl⟩:=hc;simp only[Option.some.injEq,Prod.mk.injEq]at hr;obtain⟨rfl,rfl⟩:=hr;exact h
 ·cases hr
open Classical in
noncomputable def A2(f:FuncId)(args:List AVal)(r:aR):jI:=
 ⟨fun f' args' H=>if f'=f∧args'=args∧H=[]then some (r,[])else none,fun _ _ _=>none⟩
theorem LO{f:FuncId}{args:List AVal}{r:aR}(h:jX P f args r):gx P (A2 f args r):=by
 refine⟨fun f' args' H r' H1 hr=>?_,fun _ _ _ _ _ h=>by simp[A2]at h⟩
 simp only[A2]at hr;split at hr
 ·rename_i hc;obtain⟨rfl,rfl,rfl⟩:=hc;simp only[Option.some.injEq,Prod.mk.injEq]at hr;obtain⟨rfl,rfl⟩:=hr;exact h
 ·cases hr
def Fl(P:Program)[aH](b:Nat)(args:List AVal)(H:List ah)(r:aR)(H1:List ah):Prop:=
 ∀g w (vs:Array Value) k sz,Inv g H w→RL g w args vs.toList→g.ai b 0=some (k,sz)→
  ∃rec,w.heap[k]? =some (.loop rec)∧vs.size=rec.params.size∧RoundIn Fence.wide 0 P k rec.fn (mF rec vs) rec.assign rec.body w (eX g H w r H1)
open Classical in
noncomputable def CL(b:Nat)(args:List AVal)(H:List ah)(r:aR)(H1:List ah):jI:=
 ⟨fun _ _ _=>none,fun b' args' H'=>if b'=b∧args'=args∧H'=H then some (r,H1)else none⟩
theorem Nn{b:Nat}{args:List AVal}{H H1:List ah}{r:aR}(h:Fl P b args H r H1):gx P (CL b args H r H1):=by
 refine⟨fun _ _ _ _ _ h=>by simp[CL]at h,fun b' args' H' r' H1' hr=>?_⟩
 simp only[CL]at hr;split at hr
 ·rename_i hc;obtain⟨rfl,rfl,rfl⟩:=hc;simp only[Option.some.injEq,Prod.mk.injEq]at hr;obtain⟨rfl,rfl⟩:=hr;exact h
 ·cases hr
theorem Fl.wk{b:Nat}{args:List AVal}{H H1:List ah}{r:aR}(h:Fl P b (nM args) H r H1):Fl P b args H r H1:=
 fun g w vs k sz hi hl hk=>h g w vs k sz hi (xy _ _ hl) hk
structure o5(P:Program)[aH](N:Ar P):Prop where
 fn:∀{ρ:Type} {n:Nat} {f:FuncId} {args:List AVal} {H:List ah} {g:G P ρ} {k:G P ρ→aR→List ah→Prop} {r:ρ},N.fn f args H g k→g.run n=some r→
  ∃g' a H1,k g' a H1∧g'.run n=some r∧cg P f args H a H1
 Cd:∀{ρ:Type} {n:Nat} {b:Nat} {args:List AVal} {H:List ah} {g:G P ρ} {k:G P ρ→aR→List ah→Prop} {r:ρ},N.Cd b args H g k→g.run n=some r→
  ∃g' a H1,k g' a H1∧g'.run n=some r∧Fl P b args H a H1
 lp:∀{σ:Type} {sh:Sh} {n:Nat} {ro:Option Nat} {H0:List ah} {b:Code} {g:G P (σ⊕sh.El)} {E:σ→St} {s:St} {Y:sh.El→bx×St} {q:σ⊕sh.El},N.lp ro H0 b g E s Y→g.run n=some q→
  ∃(g':G P (σ⊕sh.El)) (o:bx) (s':St),oZ H0 E Y g' o s'∧g'.run n=some q∧∀fro g0 w0,Inv g0 H0 w0→om g0 ro fro→fe P fro g0 H0 w0 b s fun o1 s1=>o1=o∧s1=s'
variable {ops:Array Oper} {n0 nid:Nat} {o:Oper} {s:St}
theorem CM{orc orc':jI}(h:iN ops s.A o=some true→∀pre,(bQ P cfg nid (cQ s.A) o.op).run s.H=some pre→finish orc s.H pre=finish orc' s.H pre):
 fA P cfg orc ops n0 o nid s=fA P cfg orc' ops n0 o nid s:=by
 grind [fA]
theorem mg{n:Nat}{ρ:Type}{r:ρ}:∀{g:G P ρ} {s:St} {k:G P ρ→St→Prop},oH g s k→g.run n=some r→∃g',k g' s∧g'.run n=some r
 | .br d c t f,s,k,h,hr=>by
  simp only[oH,oR]at h;obtain⟨hd,h1,h2⟩:=h;have hset:s.A.set d (.sc (.bool c))=s.A:=by
   apply List.ext_getElem?;intro j;by_cases hj:d=j
   ·grind
   ·rw[List.getElem?_set_ne hj]
  cases c with
  |true=>
   rw[hset]at h1;simp only[G.run,if_true]at hr;exact mg h1 hr
  |false=>
   rw[hset]at h2;simp only[G.run,Bool.false_eq_true,if_false]at hr;exact mg h2 hr
 | .Ed d ik x c t f,s,k,h,hr=>by
  simp only[oH,oR]at h;obtain⟨hd,h1,h2⟩:=h;by_cases hx:x=c
  ·subst hx;have hset:s.A.set d (.sc (.int ik x))=s.A:=by
    apply List.ext_getElem?;intro j;by_cases hj:d=j
    ·grind
    ·rw[List.getElem?_set_ne hj]
   rw[hset]at h1;simp only[G.run,if_true]at hr;exact mg h1 hr
  ·simp only[G.run,hx,if_false]at hr;exact mg h2 hr
 | .sp c t f,s,k,h,hr=>by
  simp only[oH]at h;cases c with
  |true=>
   simp only[G.run,if_true]at hr;exact mg h.1 hr
  |false=>
   simp only[G.run,Bool.false_eq_true,if_false]at hr;exact mg h.2 hr
 | .fail,s,k,h,hr=>by simp[G.run]at hr
 | .stop,s,k,h,hr=>by simp[G.run]at hr
 | .done ..,s,k,h,hr=>⟨_,h,hr⟩
 | .skip ..,s,k,h,hr=>⟨_,h,hr⟩
 | .op ..,s,k,h,hr=>⟨_,h,hr⟩
 | .call ..,s,k,h,hr=>⟨_,h,hr⟩
 | .cR ..,s,k,h,hr=>⟨_,h,hr⟩
 | .cB ..,s,k,h,hr=>⟨_,h,hr⟩
 | .tidy ..,s,k,h,hr=>⟨_,h,hr⟩
 | .loop ..,s,k,h,hr=>⟨_,h,hr⟩
 | .nr ..,s,k,h,hr=>⟨_,h,hr⟩
 | .gm ..,s,k,h,hr=>⟨_,h,hr⟩
 | .wV ..,s,k,h,hr=>⟨_,h,hr⟩
 | .join ..,s,k,h,hr=>⟨_,h,hr⟩
 | .inl ..,s,k,h,hr=>⟨_,h,hr⟩
theorem J9{x:Option Pre}{f:FuncId}{args:List AVal}(h:I1 x=some (f,args)):∃args' own,x=some (.Ds f args' own)∧nM args'=args:=by
 unfold I1 at h;grind
theorem jX.wk{f:FuncId}{args:List AVal}{r:aR}(h:jX P f (nM args) r):jX P f args r:=
 ⟨h.1,fun g w vs hi hl=>h.2 g w vs hi (xy _ _ hl)⟩
theorem LP{H:List ah}{x:Option Pre}{f:FuncId}{args:List AVal}{H1:List ah}(h:LM H x=some (f,args,H1)):∃args' ids,x=some (.kK f args' ids)∧nM args'=args∧mask ids H=H1:=by
 unfold LM at h;grind
theorem yW{ids:List Nat}{H:List ah}(hp:∀i,ids.contains i=true→∃x,H[i]? =some x∧u9 x=true):
 ∀(n:Nat) (l seen:List Nat),Dy ids l=true→l.length≤n→(closure n l seen).run H=some (zU l seen)∧(closure n l seen).reads H=v7 l seen
 |_,[],_,_,_=>by simp[closure,Rd.run,Rd.reads,zU,v7]
 | 0,_::_,_,_,h=>by simp at h
 |n+1,c::cs,seen,h,hl=>by
  simp only[Dy,Bool.and_eq_true]at h;simp only[List.length_cons]at hl;simp only[closure,zU,v7];cases hc:seen.contains c with
  |true=>
   simp only[if_true];exact yW hp n cs seen h.2 (by omega)
  |false=>
   obtain⟨x,hb,hpb⟩:=hp c h.1;obtain⟨q1,q2⟩:=yW hp n cs (c::seen) h.2 (by omega)
   grind [zT,Rd.run,Rd.reads]
theorem CN{ids:List Nat}:∀(l seen:List Nat),Dy ids l=true→(∀i∈seen,ids.contains i=true)→∀i∈zU l seen,ids.contains i=true
 | [],_,_,hs,i,hi=>hs i hi
 |c::cs,seen,h,hs,i,hi=>by
  simp only[Dy,Bool.and_eq_true]at h;simp only[zU]at hi;cases hc:seen.contains c with
  |true=>rw[hc]at hi;exact CN cs seen h.2 hs i hi
  |false=>
   rw[hc]at hi;refine CN cs (c::seen) h.2 (fun j hj=>?_) i hi
   grind
theorem lG{α β:Type}{H:List ah}:∀{m:Rd α} {f:α→β} {x:α},m.run H=some x→(m.bind fun y=>.done (f y)).run H=some (f x)∧(m.bind fun y=>.done (f y)).reads H=m.reads H
 | .done a,f,x,h=>by grind [Rd.run,Rd.bind,Rd.reads]
 | .get b k,f,x,h=>by
  simp only[Rd.run]at h;split at h
  ·rename_i y hy;have:=lG (f:=f) h;simp[Rd.bind,Rd.run,Rd.reads,hy,this]
  ·cases h
theorem I2{ids:List Nat}{ai:Operand→AVal}{op:Op}{nid:Nat}{H:List ah}{f:FuncId}{args:List AVal}{js rs:List Nat}(h:sH P cfg ids ai op=some (f,args,js,rs))
 (hp:∀i,ids.contains i=true→∃x,H[i]? =some x∧u9 x=true):
 (bQ P cfg nid ai op).run H=some (.kK f args js)∧(bQ P cfg nid ai op).reads H=rs∧∀i∈js,ids.contains i=true:=by
 unfold sH at h;split at h
 ·rename_i g _ _ _;split at h
  ·rename_i n p q hg;split at h
   ·rename_i fn hfn;split at h
    ·rename_i hc;simp only[Bool.or_eq_false_iff]at hc;dsimp only at h;split at h
     ·rename_i ho;simp only[Option.some.injEq,Prod.mk.injEq]at h;simp only[Bool.and_eq_true]at ho;have ho2:=Nat.le_of_ble_eq_true ho.2;obtain⟨rfl,rfl,rfl,rfl⟩:=h;obtain⟨q1,q2⟩:=yW hp 1000 _ [] ho.1 (by omega)
      simp only[bQ,hg,hfn,hc.1.1,Bool.false_eq_true,if_false,qF,hc.1.2,hc.2];exact⟨(lG q1).1,(lG q1).2.trans q2,CN _ [] ho.1 (by simp)⟩
     ·cases h
    ·cases h
   ·cases h
  ·cases h
 ·cases h
theorem Np{H:List ah}{b:Nat}{x:Option (FuncId×List AVal×List Nat×List Nat)}{f:FuncId}{args:List AVal}{y:Option ah}(h:OP H b x=some (f,args,y)):∃args' ids rs,x=some (f,args',ids,rs)∧AVal.yS b (nM args')=args∧H[b]? =y∧ids.contains b=true:=by
 unfold OP at h;grind
theorem A3:∀{l:List PR} {H:List ah},KT l H→∀i,(l.map (·.b)).contains i=true→∃x,H[i]? =some x∧u9 x=true
 | [],_,_,i,h=>by simp at h
 |p::ps,H,hc,i,h=>by
  simp only[List.map_cons,List.contains_cons,Bool.or_eq_true,beq_iff_eq]at h;rcases h with rfl |h
  ·exact⟨_,hc.1,p.pf⟩
  ·exact A3 hc.2 i h
theorem cg.wk{f:FuncId}{args:List AVal}{H H1:List ah}{r:aR}(h:cg P f (nM args) H r H1):cg P f args H r H1:=
 ⟨h.1,fun g w vs hi hl=>h.2 g w vs hi (xy _ _ hl)⟩
theorem pT{pr:List Nat}{H:List ah}(hp:∀i,pr.contains i=true→∃x,H[i]? =some x∧u9 x=true):
 ∀(n:Nat) (l seen ids rs:List Nat),sI pr H n l seen=some (ids,rs)→(closure n l seen).run H=some ids∧(closure n l seen).reads H=rs
 |_,[],seen,ids,rs,h=>by
  grind [sI,closure,Rd.run,Rd.reads]
 | 0,_::_,_,_,_,h=>by simp[sI]at h
 |n+1,b::todo,seen,ids,rs,h=>by
  simp only[sI]at h;simp only[closure];cases hc:seen.contains b with
  |true=>
   rw[hc]at h;simp only[if_true];exact pT hp n todo seen ids rs h
  |false=>
   rw[hc]at h;simp only[Bool.false_eq_true,if_false];cases hpr:pr.contains b with
   |true=>
    rw[hpr]at h;simp only[Option.map_eq_some_iff,Prod.exists,Prod.mk.injEq]at h;obtain⟨ids',rs',h,rfl,rfl⟩:=h;obtain⟨x,hb,hpb⟩:=hp b hpr;obtain⟨q1,q2⟩:=pT hp n todo (b::seen) _ _ h;grind [zT,Rd.run,Rd.reads]
   |false=>
    rw[hpr]at h;simp only at h;split at h
    ·rename_i v sz rows hb;simp only[Option.map_eq_some_iff,Prod.exists,Prod.mk.injEq]at h;obtain⟨ids',rs',h,rfl,rfl⟩:=h;obtain⟨q1,q2⟩:=pT hp n _ (b::seen) _ _ h;grind [Rd.run,Rd.reads]
    ·rename_i hb;simp only[Option.map_eq_some_iff,Prod.exists,Prod.mk.injEq]at h;obtain⟨ids',rs',h,rfl,rfl⟩:=h;obtain⟨q1,q2⟩:=pT hp n _ (b::seen) _ _ h;grind [Rd.run,Rd.reads]
    ·rename_i hb;simp only[Option.map_eq_some_iff,Prod.exists,Prod.mk.injEq]at h;obtain⟨ids',rs',h,rfl,rfl⟩:=h;obtain⟨q1,q2⟩:=pT hp n _ (b::seen) _ _ h;grind [Rd.run,Rd.reads]
    ·rename_i x hx hl hit hb;simp only[Option.map_eq_some_iff,Prod.exists,Prod.mk.injEq]at h;obtain⟨ids',rs',h,rfl,rfl⟩:=h;obtain⟨q1,q2⟩:=pT hp n _ (b::seen) _ _ h;grind [Rd.run,Rd.reads]
    ·cases h
def I3:FuncId⊕Nat→List AVal→List Nat→Pre
 | .inl f,args,ids=>.kK f args ids
 | .inr b,args,ids=>.round b args ids
theorem KU{cfg:fF}{pr:List Nat}{ai:Operand→AVal}{op:Op}{H:List ah}{t:FuncId⊕Nat}{args:List AVal}{ids rs:List Nat}(hp:∀i,pr.contains i=true→∃x,H[i]? =some x∧u9 x=true)
 (h:EH P cfg pr ai op H=some (t,args,ids,rs)):(bQ P cfg nid ai op).run H=some (I3 t args ids)∧(bQ P cfg nid ai op).reads H=rs:=by
 unfold EH at h;split at h
 ·rename_i g _ _ _;split at h
  ·rename_i n p q hg;split at h
   ·rename_i fn hfn;split at h
    ·rename_i hc;simp only[Bool.or_eq_false_iff]at hc;split at h
     ·rename_i ids' rs' hcl;simp only[Option.some.injEq,Prod.mk.injEq]at h;obtain⟨rfl,rfl,rfl,rfl⟩:=h;obtain⟨q1,q2⟩:=pT hp _ _ _ _ _ hcl;simp only[bQ,hg,hfn,hc.1.1,Bool.false_eq_true,if_false,qF,hc.1.2,hc.2];exact⟨(lG q1).1,(lG q1).2.trans q2⟩
     ·cases h
    ·cases h
   ·cases h
  ·rename_i b hg;split at h
   ·rename_i ids' rs' hcl;simp only[Option.some.injEq,Prod.mk.injEq]at h;obtain⟨rfl,rfl,rfl,rfl⟩:=h;obtain⟨q1,q2⟩:=pT hp _ _ _ _ _ hcl;simp only[bQ,hg];exact⟨(lG q1).1,(lG q1).2.trans q2⟩
   ·cases h
  ·cases h
 ·cases h
theorem v8{ids:List Nat}{H H1:List ah}{a:aR}{k:dL→List Nat→Bool→Prop}{kp:AVal→Prop}(h:CJ ids H a H1 k kp):
 (∃e,fu H ids (some (a,H1))=some (.ok e)∧k e (e.ej.map (·.1)) (!e.news.isEmpty))∨(∃v,fu H ids (some (a,H1))=some (.bg v ids)∧kp v):=by
 unfold CJ at h;split at h
 ·rename_i v;split at h
  ·rename_i hl;have hl:=Nat.eq_of_beq_eq_true hl;refine .inl ⟨{val:=v,ej:=ids.map fun i=>(i,H1.getD i .dead)},?_,?_⟩
   ·grind [fu]
   ·simpa[List.map_map,Function.comp_def]using h
  grind [k9]
 grind [fu]
theorem kS(hNe:o5 P X.N){n:Nat}{ρ:Type}{r:ρ}{g:G P ρ}{draw:Bool}{H0:List ah}{k:G P ρ→eF→gw→Prop}(h:rF P X draw H0 ops n0 o nid g s k)(hr:g.run n=some r):
 ∃orc,gx P orc∧∃res f g',fA P X.cfg orc ops n0 o nid s=some (res,f)∧k g' res f∧g'.run n=some r:=by
 unfold rF at h;split at h
 ·rename_i m g';split at h
  ·rename_i res f hs;exact⟨vZ,sK,res,f,_,hs,h,by rw[G.IZ];simpa[G.run]using hr⟩
  ·exact nomatch h
 ·rename_i X t kk;obtain⟨hw,hc,hk⟩:=h;simp only[G.run]at hr;cases hx:t.run with
  |none=>rw[hx]at hr;cases hr
  |some x=>
   rw[hx]at hr;obtain⟨h1,h2⟩:=t.sound _ _ _ _ _ _ _ hc x hx;have hk:=hk x;simp only[k9,gE,eW]at hk;refine⟨vZ,sK,_,_,kk x,?_,hk,by simpa using hr⟩
   grind [fA,finish,k9,gE,eW]
 ·rename_i c x kk;obtain⟨hw,hc,hk⟩:=h;simp only[G.run]at hr;cases hx:c.S n x with
  |none=>rw[hx]at hr;cases hr
  |some q=>
   rw[hx]at hr;have hk:=(c.sh.cc _).1 hk q;obtain⟨args',own,hp,he⟩:=J9 hc;split at hk
   ·rename_i res f hs;refine⟨A2 c.f args' (c.out q),LO (jX.wk (by rw[he];exact c.ok n x q hx)),res,f,kk q,?_,hk,by simpa using hr⟩
    rw[← hs];refine CM fun _ pre hpre=>?_
    rw[hp]at hpre;simp only[Option.some.injEq]at hpre;subst hpre;simp[finish,fL,A2,LL]
   ·exact nomatch hk
 ·rename_i c x kk;obtain⟨hw,hc,hk⟩:=h;simp only[G.run]at hr;cases hx:c.S n x with
  |none=>rw[hx]at hr;cases hr
  |some q=>
   rw[hx]at hr;have hk:=(c.sh.cc _).1 hk q;obtain⟨args',ids,hp,he,hm⟩:=LP hc;split at hk
   ·rename_i res f hs;refine⟨qq c.f args' (c.heap x) (c.out q) (c.gM x q),zV (cg.wk (by rw[he];exact c.ok n x q hx)),res,f,kk q,?_,hk,by simpa using hr⟩
    rw[← hs];refine CM fun _ pre hpre=>?_
    rw[hp]at hpre;simp only[Option.some.injEq]at hpre;subst hpre;simp[finish,fL,dA,qq,LL,hm]
   ·exact nomatch hk
 ·rename_i c b v ex x kk;obtain⟨hw,hex,hc,hk⟩:=h;simp only[G.run]at hr;cases hx:c.S n x with
  |none=>rw[hx]at hr;cases hr
  |some q=>
   rw[hx]at hr;have hk:=(c.sh.cc _).1 hk q;obtain⟨args',ids,rs,hp,he,hb,hbi⟩:=Np hc;obtain⟨bsz,brows,hbx,hbp⟩:=yV (c.b0 x);have hpure:∀i,(b::ex.map (·.b)).contains i=true→∃x,s.H[i]? =some x∧u9 x=true:=by
    intro i hi;simp only[List.contains_cons,Bool.or_eq_true,beq_iff_eq]at hi;rcases hi with rfl |hi
    ·exact⟨.row v bsz brows,by rw[hb,hbx];rfl,hbp⟩
    ·exact A3 hex i hi
   have hcall:=hp;obtain⟨hp,hrd,hsub⟩:=I2 (nid:=nid) (H:=s.H) hp hpure;have hlt:∀i∈ids,i<s.H.length:=fun i hi=>by
    grind
   have hblt:b<s.H.length:=(List.getElem?_eq_some_iff.1 hb).1
   let H':=mask ids s.H
   have hl':H'.length=s.H.length:=qG _ _;have hmb:(mask [b] H')[b]? =some ((c.blk x).lU v):=by rw[AV (by simp),AV hbi];exact hb
   have hmd:∀b',b'≠b→∀y,(mask [b] H')[b']? =some y→y=.dead:=by
    intro b' hne y hy;rcases rD hy with⟨h1,_⟩ |⟨_,h2,_⟩
    ·grind
    ·exact h2
   have href:=cg.frame (cg.RP (c.ok n x q hx) (c.a0 x) (c.b0 x) (c.b1 x q) (c.r0 q) b v (mask [b] H') hmb hmd) (by omega)
   have horc:=zV (P:=P) (cg.wk (args:=args') (cg.but (b:=b) (by rw[he];exact href)))
   refine⟨_,horc,?_⟩;have hlen:(H'.set b ((c.uk x q).lU v)).length=s.H.length:=by rw[List.length_set,qG]
   have hdrop:(H'.set b ((c.uk x q).lU v)).drop s.H.length=[]:=List.drop_of_length_le (by rw[hlen];exact Nat.le_refl _)
   have hid:Dz (sH P X.cfg (b::ex.map (·.b)) (cQ s.A) o.op)=(ids,rs):=by rw[hcall];rfl
   cases ho:c.out q with
   |ret u=>
    rw[ho]at hk;simp only[gE,eW,hid]at hk;refine⟨_,_,kk q,?_,hk,by simpa using hr⟩
    have happ:∀val news,news=[]→dL.apply {val:=val,ej:=ids.map fun i=>(i,(H'.set b ((c.uk x q).lU v)).getD i .dead),news:=news} s.H=dL.apply {val:=u.zS b v,ej:=[(b,(c.uk x q).lU v)]} s.H:=by
     intro val news hn;subst hn;simp only[dL.apply,List.append_nil,List.foldl_cons,List.foldl_nil,List.foldl_map];apply List.ext_getElem?;intro j;rw[vW,List.getElem?_set];by_cases hj:b=j
     ·grind
     ·grind [AV]
    unfold fA;rw[hw];simp only[hp,hrd,finish,fL,dA,qq,and_self,if_true,aR.zS,fu,hlen,Nat.le_refl,hdrop,ite_self,k9,gE,eW,List.isEmpty_nil,Bool.not_true,H'];simp only[gT,xo];rw[happ _ _ rfl];simp_all
   |bg u=>
    rw[ho]at hk;have hfl:u.flat=true:=by have:=c.r0 q;rw[ho]at this;exact this
    simp only[hid]at hk;refine⟨_,_,kk q,?_,hk,by simpa using hr⟩
    unfold fA;rw[hw];simp only[hp,hrd,finish,fL,dA,qq,and_self,if_true,aR.zS,fu,hfl,H'];simp only[gT,xo]
 ·rename_i pr g';obtain⟨hw,hpr,hc⟩:=h;simp only[G.run]at hr;have hpure:=A3 hpr;split at hc
  ·rename_i f args ids rs hx;obtain⟨hp,hrd⟩:=KU (nid:=nid) hpure hx;simp only[I3]at hp;simp only[dA]at hc;obtain⟨g2,a,H1,hk,hr2,hfn⟩:=hNe.fn hc hr;refine⟨_,zV hfn,?_⟩;rcases v8 hk with⟨e,hm,hk⟩ |⟨v,hm,hk⟩
   ·simp only[gE,eW]at hk;refine⟨_,_,g2,?_,hk,hr2⟩;unfold fA;rw[hw];simp only[hp,hrd,finish,fL,dA,qq,and_self,if_true,hm,k9,gE,eW];simp only[gT,xo]
   ·refine⟨_,_,g2,?_,hk,hr2⟩;unfold fA;rw[hw];simp only[hp,hrd,finish,fL,dA,qq,and_self,if_true,hm];simp only[gT,xo]
  ·rename_i b args ids rs hx;obtain⟨hp,hrd⟩:=KU (nid:=nid) hpure hx;simp only[I3]at hp;simp only[dA]at hc;obtain⟨g2,a,H1,hk,hr2,hfn⟩:=hNe.Cd hc hr;refine⟨_,Nn hfn,?_⟩;rcases v8 hk with⟨e,hm,hk⟩ |⟨v,hm,hk⟩
   ·simp only[gE,eW]at hk;refine⟨_,_,g2,?_,hk,hr2⟩;unfold fA;rw[hw];simp only[hp,hrd,finish,fL,dA,CL,and_self,if_true,hm,k9,gE,eW];simp only[gT,xo]
   ·refine⟨_,_,g2,?_,hk,hr2⟩;unfold fA;rw[hw];simp only[hp,hrd,finish,fL,dA,CL,and_self,if_true,hm];simp only[gT,xo]
  ·exact nomatch hc
 ·simp[G.run]at hr
 ·simp[G.run]at hr
 ·simp[G.run]at hr
 ·exact nomatch h
 ·exact nomatch h
theorem yX{orc orc':Nat→jI}:∀(l:List (Oper×Nat)) (i:Nat) (s:St),(∀j,i≤j→orc j=orc' j)→kQ P X.cfg orc ops n0 i l s=kQ P X.cfg orc' ops n0 i l s
 | [],_,_,_=>rfl
 | (o,nid)::rest,i,s,h=>by
  simp only[kQ,h i (Nat.le_refl _)];split
  ·rw[yX rest (i+1) _ fun j hj=>h j (by omega)]
  ·rfl
  ·rfl
theorem Ka(hNe:o5 P X.N){n:Nat}{ρ:Type}{r:ρ}{g:G P ρ}{H0:List ah}{k:G P ρ→eF→gw→Prop}(h:yy P X true H0 ops n0 o nid g s k)(hr:g.run n=some r):
 ∃orc,gx P orc∧∃res f g',fA P X.cfg orc ops n0 o nid s=some (res,f)∧k g' res f∧g'.run n=some r:=by
 unfold yy at h;grind [kS]
theorem Fm(hNe:o5 P X.N){n:Nat}{ρ:Type}{r:ρ}{H0:List ah}:∀(l:List (Oper×Nat)) (i:Nat) (g:G P ρ) (s:St) (k:G P ρ→eF→List gw→Prop),As P X true H0 ops n0 l g s k→g.run n=some r→
 ∃orcs:Nat→jI,(∀j,gx P (orcs j))∧∃res fs g',kQ P X.cfg orcs ops n0 i l s=some (res,fs)∧k g' res fs∧g'.run n=some r
 | [],i,g,s,k,h,hr=>⟨fun _=>vZ,fun _=>sK,.ok s,[],g,rfl,h,hr⟩
 | (o,nid)::rest,i,g,s,k,h,hr=>by
  simp only[As]at h;obtain⟨g1,h,hr⟩:=mg h hr;obtain⟨orc,ho,res,f,g2,hs,h,hr⟩:=Ka hNe h hr;cases res with
  |ok s'=>
   obtain⟨A,H,D⟩:=s';simp only[dS]at h;obtain⟨orcs,hos,res,fs,g3,hrun,hk,hr⟩:=Fm hNe rest (i+1) g2 _ _ h hr;refine⟨fun j=>if j=i then orc else orcs j,fun j=>(by grind:gx P (if j=i then orc else orcs j)),res,f::fs,g3,?_,hk,hr⟩
   grind [kQ,yX]
  |bg v s'=>
   exact⟨fun _=>orc,fun _=>ho,.bg v s',[f],g2,by simp only[kQ,hs],h,hr⟩
theorem HO(hNe:o5 P X.N){n:Nat}{ρ:Type}{r:ρ}{H0:List ah}{g:G P ρ}{s:St}{k:G P ρ→eF→Prop}(h:sJ P X H0 ops true g s k)(hr:g.run n=some r):
 ∃orcs:Nat→jI,(∀j,gx P (orcs j))∧∃res g',uE P X.cfg orcs ops true s=some res∧k g' res∧g'.run n=some r:=by
 simp only[sJ,gD,rA]at h;obtain⟨orcs,ho,res,fs,g',hrun,hk,hr⟩:=Fm hNe _ 0 _ _ _ h hr;refine⟨orcs,ho,?_⟩;simp only[uE,gD,rA,hrun];grind
theorem G2(keep:List Nat):∀(A:List AVal) (i j:Nat),(wW keep i A)[j]? =(A[j]?).map fun a=>match keep.contains (i+j)with |true=>a |false=>.ak
 | [],_,_=>by simp[wW]
 |a::as,i,0=>rfl
 |a::as,i,j+1=>by
  simp only[wW,List.getElem?_cons_succ];rw[G2 keep as (i+1) j,show i+1+j=i+(j+1)by omega]
theorem Qj{g:Gh}{w:World}{keep:List Nat}{A:List AVal}{vs:List Value}(h:RL g w A vs):RL g w (wW keep 0 A) vs:=by
 obtain⟨h1,h2⟩:=dM _ _ h;have hlen:(wW keep 0 A).length=A.length:=by
  have:∀(A:List AVal) (i:Nat),(wW keep i A).length=A.length:=by
   intro A;induction A with
   |nil=>intro i;rfl
   |cons a as ih=>intro i;simp[wW,ih]
  exact this A 0
 grind [uN,G2,R]
theorem I4:∀{l:List PU} {H:List ah},KS l H→CI (l.map (·.b)) H
 | [],_,_=>fun _ h=>by simp at h
 |p::ps,H,h=>by
  intro b hb x hx;simp only[List.map_cons,List.mem_cons]at hb;rcases hb with rfl |hb
  ·rw[h.1]at hx;cases hx;exact p.pf
  ·exact I4 h.2 b hb x hx
theorem KV:∀(l:List AVal),(nM l).length=l.length
 | []=>rfl
 |_::l=>by simp[nM,KV l]
theorem Nq{g:Gh}{w:World}:∀(l:List (List AVal)) (k o sz:Nat),RR g w l k o sz→RR g w (l.map nM) k o sz
 | [],_,_,_,_=>by simp[RR]
 |r::rs,k,o,sz,h=>by
  simp only[RR,List.map_cons]at h ⊢;exact⟨⟨by rw[KV];exact h.1.1,uh _ h.1.2.1,IY _ _ _ h.1.2.2⟩,Nq rs k (o+sz) sz h.2⟩
theorem OT{g:Gh}{w:World}{rows:List (List AVal)}{x:Value}(h:R g w (.aB rows) x):R g w (.aB (rows.map nM)) x:=by
 simp only[R,List.length_map]at h ⊢;obtain⟨a,cap,e,h1,h2⟩:=h;refine⟨a,cap,e,h1,?_⟩;rcases h2 with h2 |⟨k,off,sz,ha,hr⟩
 ·exact .inl h2
 ·exact .inr ⟨k,off,sz,ha,Nq _ _ _ _ hr⟩
theorem dI{H0:List ah}:∀{ts:List TS} {s:St} {k:St→Prop},aN ts=true→jx H0 ts s k→∃s',gZ H0 s s'∧k s'
 | [],s,k,_,h=>⟨s,.refl _ _,h⟩
 | .keep l::ts,s,k,hok,h=>by
  simp only[jx,dS]at h;obtain⟨s',h1,h2⟩:=dI (by simpa only[aN]using hok) h
  exact⟨s',gZ.trans (s1:={s with A:=wW l 0 s.A}) (fun _ _ g a w _ hl hs=>⟨g,⟨hs.inv,Qj hs.tmps,hs.defs⟩,hl⟩) h1,h2⟩
 | .wk p::ts,s,k,hok,h=>by
  simp only[jx]at h;split at h
  ·rename_i s1 hw;obtain⟨s',h1,h2⟩:=dI (by simpa only[aN]using hok) h
   exact⟨s',(OL hw).trans h1,h2⟩
  ·exact h.elim
 | .own p sz::ts,s,k,hok,h=>by
  simp only[jx]at h;split at h
  ·rename_i s1 hw;obtain⟨s',h1,h2⟩:=dI (by simpa only[aN]using hok) h
   exact⟨s',(Ni hw).trans h1,h2⟩
  ·exact h.elim
 | .gu z::ts,s,k,hok,h=>by
  simp only[jx]at h;simp only[aN,Bool.and_eq_true,decide_eq_true_eq]at hok;obtain⟨q1,q2,h⟩:=h;split at h
  ·rename_i s1 hw;obtain⟨s',h1,h2⟩:=dI hok.2 h;exact⟨s',(Nj ⟨z.b,z.aq,z.sz,by rw[q1,hok.1],q2,z.pf⟩ hw).trans h1,h2⟩
  ·exact h.elim
 | .PJ z::ts,s,k,hok,h=>by
  simp only[jx]at h;obtain⟨q1,h⟩:=h;obtain⟨s',h1,h2⟩:=dI (by simpa only[aN]using hok) h
  refine⟨s',gZ.trans (s1:=BB s (.aB z.rows') z.p) (fun _ _ g a w _ hl hs=>?_) h1,h2⟩
  obtain⟨p1,p2⟩:=yx q1 hs (v':=.aB z.rows') fun x hx=>by rw[← z.pf];exact OT hx
  exact⟨g,p1,hl.trans p2⟩
 | .cut bl bump pu::ts,s,k,hok,h=>by
  simp only[jx,dS]at h;obtain⟨q1,h⟩:=h;split at h
  ·rename_i A H D hw;obtain⟨s',h1,h2⟩:=dI (by simpa only[aN]using hok) h
   exact⟨s',(OJ (I4 q1) hw).trans h1,h2⟩
  ·exact h.elim
theorem Kb(hNe:o5 P X.N){n:Nat}{ρ:Type}{r:ρ}{g:G P ρ}{H0:List ah}{k:G P ρ→eF→gw→Prop}(h:yy P X false H0 ops n0 o nid g s k)(hr:g.run n=some r):
 ∃s2,gZ H0 s s2∧∃orc,gx P orc∧∃res f g',fA P X.cfg orc ops n0 o nid s2=some (res,f)∧k g' res f∧g'.run n=some r:=by
 unfold yy at h;split at h
 ·grind [G.run,dI,kS]
 ·exact⟨s,.refl _ _,kS hNe h hr⟩
theorem Fo(hNe:o5 P X.N){n:Nat}{ρ:Type}{r:ρ}{H0:List ah}:∀(l:List (Oper×Nat)) (i:Nat) (g:G P ρ) (s:St) (k:G P ρ→eF→List gw→Prop),As P X false H0 ops n0 l g s k→g.run n=some r→
 (∀(j:Nat),(l[j]?).map (fun(p:Oper×Nat)=>p.1)=(ops.toList.drop i)[j]?)→∃g' res fs,k g' res fs∧g'.run n=some r∧
 ∀(fro:Option Nat),(∀(k:Nat) (o:Oper),ops[k]? =some o→Calm fro o)→∀(gg:Gh) (ww:World) (Q:Exit→Act→World→Prop),Inv gg H0 ww→∀(g1:Gh) (a:Act) (w:World),eH g1 s a w→aW gg H0 ww g1 s.H w→qH Q gg H0 ww res→wpOpsIn (Fr fro) 0 P ops Q (List.range' i l.length) a w
 | [],i,g,s,k,h,hr,_=>⟨g,.ok s,[],h,hr,fun _ _ _ _ _ _ g1 a w hs hl hp=>hp g1 a w hs hl⟩
 | (o,nid)::rest,i,g,s,k,h,hr,hj=>by
  have hi:ops[i]? =some o:=by
   have:=hj 0;simp at this;exact this.symm
  simp only[As]at h;obtain⟨g',h,hr⟩:=mg h hr;obtain⟨s2,hw2,orc,ho,res,f,g3,hst,h,hr⟩:=Kb hNe h hr;cases res with
  |ok s'=>
   obtain⟨A,H,D⟩:=s';simp only[dS]at h;obtain⟨g4,res4,fs4,hk4,hr4,hwp⟩:=Fo hNe rest (i+1) g3 ⟨A,H,D⟩ _ h hr (fun j=>by
    have:=hj (j+1);grind)
   refine⟨g4,res4,_,hk4,hr4,fun fro hcalm gg ww Q hi0 g1 a w hs hl hp=>?_⟩
   simp only[List.length_cons,List.range'_succ,wpOpsIn_cons];obtain⟨g2,hs2,hl2⟩:=hw2 gg ww g1 a w hi0 hl hs;exact pR ho hs2 hi (hcalm i o hi) hst fun g5 a' w' hs' hla=>hwp fro hcalm gg ww Q hi0 g5 a' w' hs' (hl2.trans hla) hp
  |bg v s'=>
   refine⟨g3,.bg v s',_,h,hr,fun fro hcalm gg ww Q hi0 g1 a w hs hl hp=>?_⟩
   simp only[List.length_cons,List.range'_succ,wpOpsIn_cons];obtain⟨g2,hs2,hl2⟩:=hw2 gg ww g1 a w hi0 hl hs;exact pR ho hs2 hi (hcalm i o hi) hst fun g' w' x hv hs' hla hx=>hp g' a w' x hv hs' (hl2.trans hla) hx
theorem HP(hNe:o5 P X.N){H0:List ah}{n:Nat}{ρ:Type}{r:ρ}{id:Nat}{g:G P ρ}{s:St}{k:G P ρ→eF→Prop}(h:sJ P X H0 ops false g s k)(hr:g.run n=some r):
 ∃g' res,k g' res∧g'.run n=some r∧∀(fro:Option Nat),(∀(k:Nat) (o:Oper),ops[k]? =some o→Calm fro o)→∀(gg:Gh) (ww:World),Inv gg H0 ww→fe P fro gg H0 ww (.region id ops false) s fun o s'=>o=(Dx res).1∧s'=(Dx res).2:=by
 simp only[sJ,gD,rA]at h;generalize (if mE ops.toList=0 then 0 else pN s.H)=t0 at h
 generalize mE ops.toList - t0=m0 at h;generalize s.H.length - t0=f0 at h;obtain⟨g',res,fs,hk,hr',hwp⟩:=Fo hNe _ 0 _ _ _ h hr (fun j=>by rw[rE];simp)
 simp only[Bool.not_false,if_true]at hk;refine⟨g',res,hk,hr',fun fro hcalm gg ww hi0 Q g1 a w hs hl hp=>?_⟩
 obtain⟨i1,i2⟩:=hs.inv.reserve m0;have hs0:eH g1 {s with H:=s.H++List.replicate m0 .bw} a w:=⟨i1,hs.tmps,hs.defs⟩;refine wpIn_region ?_;rw[List.range_eq_range'];have:=hwp fro hcalm gg ww Q hi0 g1 a w hs0 (hl.trans i2) (by
  have:=hp _ _ ⟨rfl,rfl⟩;cases res with
  |ok s'=>exact this
  |bg v s'=>exact this)
 grind [uY]
theorem BF{H0:List ah}{n:Nat}{ρ:Type}{r:ρ}{g:G P ρ}{s:St}{k:G P ρ→St→Prop}(h:EI H0 g s k)(hr:g.run n=some r):∃s' g',gZ H0 s s'∧k g' s'∧g'.run n=some r:=by
 unfold EI at h;split at h
 ·grind [G.run,dI]
 ·exact⟨s,g,.refl _ _,h,hr⟩
theorem G3{n:Nat}{σ:Type}{sh:Sh}{H0:List ah}{E:σ→St}{X:sh.El→bx×St}{g:G P (σ⊕sh.El)}{o:bx}{s:St}{q:σ⊕sh.El}(h:oZ H0 E X g o s)(hr:g.run n=some q):
 ∃s',gZ H0 s s'∧match q with | .inl a=>o=.normal∧s'=E a | .inr t=>o≠ .normal∧(o,s')=X t:=by
 unfold oZ at h;split at h
 ·grind [G.run,dI]
 ·grind [G.run,dI]
 ·simp[G.run]at hr
 ·exact nomatch h
def I5(P:Program)[aH](H0:List ah)(ro:Option Nat)(b:Code):Nat→St→bx→St→Prop
 | 0,_,_,_=>False
 |n+1,s,o,s'=>∃o1 s1,(∀fro g0 w0,Inv g0 H0 w0→om g0 ro fro→fe P fro g0 H0 w0 b s fun o2 s2=>o2=o1∧s2=s1)∧
  match o1 with
  | .normal=>I5 P H0 ro b n s1 o s'
  |o1=>o1=o∧s1=s'
theorem G4{ro:Option Nat}{H0:List ah}{b:Code}{n:Nat}{ρ:Type}{r:ρ}{k:G P ρ→bx→St→Prop}
 (ih:∀(g:G P ρ) (s:St) (k:G P ρ→bx→St→Prop),jo P X H0 b g s k→g.run n=some r→∃g' o s',k g' o s'∧g'.run n=some r∧∀fro g0 w0,Inv g0 H0 w0→om g0 ro fro→fe P fro g0 H0 w0 b s fun o1 s1=>o1=o∧s1=s'):
 ∀(m:Nat) (g:G P ρ) (s:St),DA (fun g s k=>jo P X H0 b g s k) m g s k→g.run n=some r→∃g' o s',k g' o s'∧g'.run n=some r∧o≠ .normal∧I5 P H0 ro b m s o s'
 | 0,_,_,h,_=>h.elim
 |m+1,g,s,h,hr=>by
  simp only[DA]at h;obtain⟨g1,o1,s1,hk,hr1,hd⟩:=ih g s _ h hr;cases o1 with
  |normal=>
   obtain⟨g',o,s',h1,h2,h3,h4⟩:=G4 ih m g1 s1 hk hr1;exact⟨g',o,s',h1,h2,h3,.normal,s1,hd,h4⟩
  |exit id=>exact⟨g1,_,s1,hk,hr1,(fun h=>(by cases h)),_,s1,hd,rfl,rfl⟩
  |ret=>exact⟨g1,_,s1,hk,hr1,(fun h=>(by cases h)),_,s1,hd,rfl,rfl⟩
  |bg v=>exact⟨g1,_,s1,hk,hr1,(fun h=>(by cases h)),_,s1,hd,rfl,rfl⟩
theorem we{ro fro:Option Nat}{g0:Gh}{ops:Array Oper}(hro:om g0 ro fro)(h:(ro.isSome&&ops.toList.any AR)=false):∀(k:Nat) (o:Oper),ops[k]? =some o→Calm fro o:=by
 intro k o hk;cases ro with
 |none=>
  cases fro with
  |none=>exact .inl rfl
  |some k=>exact hro.elim
 |some b=>
  right;grind
theorem fe.post{fro:Option Nat}{g0:Gh}{H0:List ah}{w0:World}(hi0:Inv g0 H0 w0){c:Code}{s s1 s2:St}{o:bx}(hw:gZ H0 s1 s2)(h:fe P fro g0 H0 w0 c s fun o1 s'=>o1=o∧s'=s1):
 fe P fro g0 H0 w0 c s fun o1 s'=>o1=o∧s'=s2:=
 fun Q g a w hs hl hk=>h Q g a w hs hl fun o' s' ⟨e1,e2⟩=>by grind [fc.weak]
theorem G5{H0:List ah}{sh:Sh}{Y:sh.El→bx×St}{n:Nat}{g:G P sh.El}{o:bx}{s:St}{t:sh.El}(h:DB H0 Y g o s)(hr:g.run n=some t):∃s',gZ H0 s s'∧(o,s')=Y t:=by
 unfold DB at h;split at h
 ·grind [G.run,dI]
 ·simp[G.run]at hr
 ·exact nomatch h
theorem KW{ρ:Type}{n:Nat}{f:FuncId}{args:List AVal}{H:List ah}{c:u7 P}{x:c.X}{kk:c.sh.El→G P ρ}{k:G P ρ→aR→List ah→Prop}{r:ρ}(h:LK P f args H c x kk k)(hr:(G.cR c x kk).run n=some r):
 ∃g' a H1,k g' a H1∧g'.run n=some r∧cg P f args H a H1:=by
 obtain⟨_,he,h⟩:=h;simp only[Option.some.injEq,Prod.mk.injEq]at he;obtain⟨rfl,ha,rfl⟩:=he;obtain⟨q,hq,hr⟩:=Option.bind_eq_some_iff.1 (show(c.S n x).bind (fun q=>(kk q).run n)=some r from hr)
 refine⟨kk q,c.out q,c.gM x q,(c.sh.cc _).1 h q,hr,cg.wk ?_⟩;rw[ha];exact c.ok n x q hq
theorem wg:o5 P (ua P):=by
 refine⟨fun h hr=>?_,fun h=>h.elim,fun h=>h.elim⟩
 simp only[ua]at h;split at h
 ·exact KW h hr
 ·exact h.elim
theorem RQ(hNe:o5 P X.N)(draw:Bool):o5 P (X.at draw).N:=by
 grind [Env.at,wg]
theorem Q5(draw:Bool):(X.at draw).cfg=X.cfg:=by unfold Env.at;split<;>rfl
theorem G6(hNe:o5 P X.N){H0:List ah}{n:Nat}{σ:Type}{sh:Sh}{b:Code}{E:σ→St}{s:St}{Y:sh.El→bx×St}{q:σ⊕sh.El}{f:G P (σ⊕sh.El)→Prop}
 (ih:∀g,f g→g.run n=some q→∃(g':G P (σ⊕sh.El)) (o:bx) (s':St),oZ H0 E Y g' o s'∧g'.run n=some q∧∀fro g0 w0,Inv g0 H0 w0→om g0 X.ro fro→fe P fro g0 H0 w0 b s fun o1 s1=>o1=o∧s1=s')
 {g:G P (σ⊕sh.El)} (h:DD X.N X.ro H0 b E s Y g f) (hr:g.run n=some q):
 ∃(g':G P (σ⊕sh.El)) (o:bx) (s':St),oZ H0 E Y g' o s'∧g'.run n=some q∧∀fro g0 w0,Inv g0 H0 w0→om g0 X.ro fro→fe P fro g0 H0 w0 b s fun o1 s1=>o1=o∧s1=s':=by
 unfold DD at h;split at h
 ·exact hNe.lp h (by simpa[G.run]using hr)
 ·exact ih _ h hr
theorem yI(hm:P.follows .mixedOrders=true)(hNe:o5 P X.N){H0:List ah}{n:Nat}:∀(c:Code) {ρ:Type} (r:ρ) (g:G P ρ) (s:St) (k:G P ρ→bx→St→Prop),jo P X H0 c g s k→g.run n=some r→
 ∃g' o s',k g' o s'∧g'.run n=some r∧∀fro g0 w0,Inv g0 H0 w0→om g0 X.ro fro→fe P fro g0 H0 w0 c s fun o1 s1=>o1=o∧s1=s':=by
 intro c;induction c with
 |skip=>intro ρ r g s k h hr;exact⟨g,.normal,s,h,hr,fun _ _ _ _ _=>.skip ⟨rfl,rfl⟩⟩
 |region id ops draw=>
  intro ρ r g s k h hr;simp only[jo]at h;split at h
  ·exact h.elim
  rename_i hoff;obtain⟨s1,g1,hw,h,hr⟩:=BF h hr;cases draw with
  |false=>
   obtain⟨g',res,hk,hr',hd⟩:=HP hNe (id:=id) h hr;cases res with
   |ok s'=>exact⟨g',.normal,s',hk,hr',fun fro g0 w0 hi hro=>.weak hi hw (hd fro (we hro hoff) g0 w0 hi)⟩
   |bg v s'=>exact⟨g',.bg v,s',hk,hr',fun fro g0 w0 hi hro=>.weak hi hw (hd fro (we hro hoff) g0 w0 hi)⟩
  |true=>
   obtain⟨orcs,ho,res,g',hreg,h,hr⟩:=HO (RQ hNe true) h hr;rw[Q5]at hreg;cases res with
   |ok s'=>exact⟨g',.normal,s',h,hr,fun fro g0 w0 hi hro=>.weak hi hw (.region hm ho (we hro hoff) hreg ⟨rfl,rfl⟩)⟩
   |bg v s'=>exact⟨g',.bg v,s',h,hr,fun fro g0 w0 hi hro=>.weak hi hw (.region hm ho (we hro hoff) hreg ⟨rfl,rfl⟩)⟩
 |seq a b iha ihb=>
  intro ρ r g s k h hr;simp only[jo]at h;obtain⟨g1,o1,s1,h1,hr1,d1⟩:=iha r g s _ h hr;cases o1 with
  |normal=>
   obtain⟨g2,o2,s2,h2,hr2,d2⟩:=ihb r g1 s1 k h1 hr1;refine⟨g2,o2,s2,h2,hr2,fun fro g0 w0 hi hro=>.seq ((d1 fro g0 w0 hi hro).mono fun o s' ⟨e1,e2⟩=>?_)⟩
   grind
  |exit id=>exact⟨g1,_,s1,h1,hr1,fun fro g0 w0 hi hro=>.seq ((d1 fro g0 w0 hi hro).mono fun o s' ⟨e1,e2⟩=>by grind)⟩
  |ret=>exact⟨g1,_,s1,h1,hr1,fun fro g0 w0 hi hro=>.seq ((d1 fro g0 w0 hi hro).mono fun o s' ⟨e1,e2⟩=>by grind)⟩
  |bg v=>exact⟨g1,_,s1,h1,hr1,fun fro g0 w0 hi hro=>.seq ((d1 fro g0 w0 hi hro).mono fun o s' ⟨e1,e2⟩=>by grind)⟩
 |cond c a b iha ihb=>
  have main:∀{ρ:Type} (r:ρ) (g:G P ρ) (s:St) (k:G P ρ→bx→St→Prop),DC P X H0 c a b (fun g s k=>jo P X H0 a g s k) (fun g s k=>jo P X H0 b g s k) g s k→g.run n=some r→
   ∃g' o s',k g' o s'∧g'.run n=some r∧∀fro g0 w0,Inv g0 H0 w0→om g0 X.ro fro→fe P fro g0 H0 w0 (.cond c a b) s fun o1 s1=>o1=o∧s1=s':=by
   intro ρ r g s k h hr;unfold DC at h;obtain⟨s1,g1,hw,h,hr⟩:=BF h hr;obtain⟨g1,h,hr⟩:=mg h hr;split at h
   ·rename_i m g2;have hr2:(G.less m g2).run n=some r:=by rw[G.IZ];simpa[G.run]using hr
    split at h
    ·rename_i hc;obtain⟨g',o,s',h1,h2,d⟩:=iha r _ _ k h hr2;exact⟨g',o,s',h1,h2,fun fro g0 w0 hi hro=>.weak hi hw (.cond true hc (d fro g0 w0 hi hro))⟩
    ·rename_i hc;obtain⟨g',o,s',h1,h2,d⟩:=ihb r _ _ k h hr2;exact⟨g',o,s',h1,h2,fun fro g0 w0 hi hro=>.weak hi hw (.cond false hc (d fro g0 w0 hi hro))⟩
    ·exact h.elim
   ·simp[G.run]at hr
   ·exact nomatch h
  intro ρ r g s k h hr;simp only[jo]at h;split at h
  ·rename_i sh Y g1 kk;obtain⟨t,ht,hr⟩:=Option.bind_eq_some_iff.1 (show(g1.run n).bind (fun t=>(kk t).run n)=some r from hr)
   obtain⟨g',o,s',h1,h2,d⟩:=main t g1 s _ h.1 ht;obtain⟨s'',hw,e⟩:=G5 h1 h2;have e1:o=(Y t).1:=congrArg Prod.fst e;have e2:s''=(Y t).2:=congrArg Prod.snd e;refine⟨kk t,(Y t).1,(Y t).2,(sh.cc _).1 h.2 t,hr,fun fro g0 w0 hi hro=>?_⟩
   rw[← e1,← e2];exact(d fro g0 w0 hi hro).post hi hw
  ·exact main r g s k h hr
 |block id b ih=>
  have main:∀{ρ:Type} (r:ρ) (g:G P ρ) (s:St) (k:G P ρ→bx→St→Prop),jo P X H0 b g s (AZ id k)→g.run n=some r→
   ∃g' o s',k g' o s'∧g'.run n=some r∧∀fro g0 w0,Inv g0 H0 w0→om g0 X.ro fro→fe P fro g0 H0 w0 (.block id b) s fun o1 s1=>o1=o∧s1=s':=by
   intro ρ r g s k h hr;obtain⟨g1,o1,s1,h1,hr1,d1⟩:=ih r g s _ h hr;refine⟨g1,behind id o1,s1,?_,hr1,fun fro g0 w0 hi hro=>.block ((d1 fro g0 w0 hi hro).mono fun o s' ⟨e1,e2⟩=>by grind)⟩
   unfold AZ at h1;cases o1 with
   |exit id'=>
    grind [behind]
   |normal=>exact h1
   |ret=>exact h1
   |bg v=>exact h1
  intro ρ r g s k h hr;simp only[jo]at h;split at h
  ·rename_i sh Y g1 kk;obtain⟨t,ht,hr⟩:=Option.bind_eq_some_iff.1 (show(g1.run n).bind (fun t=>(kk t).run n)=some r from hr)
   obtain⟨g',o,s',h1,h2,d⟩:=main t g1 s _ h.1 ht;obtain⟨s'',hw,e⟩:=G5 h1 h2;have e1:o=(Y t).1:=congrArg Prod.fst e;have e2:s''=(Y t).2:=congrArg Prod.snd e;refine⟨kk t,(Y t).1,(Y t).2,(sh.cc _).1 h.2 t,hr,fun fro g0 w0 hi hro=>?_⟩
   rw[← e1,← e2];exact(d fro g0 w0 hi hro).post hi hw
  ·exact main r g s k h hr
 |loop b ih=>
  intro ρ r g s k h hr;simp only[jo]at h;split at h
  ·rename_i m g1;simp only[G.run]at hr;obtain⟨g',o,s',h1,h2,hne,hrd⟩:=G4 (ro:=X.ro) (fun g s k h hr=>ih r g s k h hr) m g1 s h hr
   refine⟨g',o,s',h1,h2,fun fro g0 w0 hi hro=>.loop hi (n:=m) (s0:=s) (fun m s=>I5 P H0 X.ro b m s o s') (fun s h=>h.elim) (.refl _ _) hrd ?_⟩
   rintro m s1 ⟨o1,s2,hd,hx⟩;refine(hd fro g0 w0 hi hro).mono fun o3 s3 ⟨e1,e2⟩=>?_
   subst e1;subst e2;refine⟨s3,.refl _ _,?_⟩;grind
  ·rename_i σ sh hd E Y a0 body kk;obtain⟨h0,hb,hx⟩:=h;simp only[G.run,Option.ite_none_right_eq_some]at hr;obtain⟨hok,hr⟩:=hr;cases ht:dx (fun a=>(body a).run n) n a0 with
   |none=>rw[ht]at hr;cases hr
   |some t=>
    rw[ht]at hr;have hx:=(sh.cc _).1 hx t;obtain⟨_,h0,rfl⟩:=dI hok h0;refine⟨kk t,(Y t).1,(Y t).2,hx,by simpa using hr,fun fro g0 w0 hi hro=>.loop hi (n:=n) (s0:=E a0) (fun m s1=>∃a,s1=E a∧dx (fun a=>(body a).run n) m a=some t) (fun s ⟨a,_,h⟩=>by simp[dx]at h) h0 ⟨a0,rfl,ht⟩ ?_⟩
    rintro m s1 ⟨a,rfl,hit⟩;simp only[dx]at hit;cases hq:(body a).run n with
    |none=>rw[hq]at hit;cases hit
    |some q=>
     rw[hq]at hit;obtain⟨g',o',s',h',hr',d'⟩:=G6 hNe (fun g h hr=>ih q g (E a) _ h hr) (hb a) hq
     refine(d' fro g0 w0 hi hro).mono fun o2 s2 ⟨e1,e2⟩=>?_
     grind [G3]
  ·rename_i hsh sh hd E Y a0 body kk;obtain⟨h0,hb,hx⟩:=h;have hb:=(hsh.cc _).1 hb;simp only[G.run,Option.ite_none_right_eq_some]at hr;obtain⟨hok,hr⟩:=hr;cases ht:dx (fun a=>(body a).run n) n a0 with
   |none=>rw[ht]at hr;cases hr
   |some t=>
    rw[ht]at hr;have hx:=(sh.cc _).1 hx t;obtain⟨_,h0,rfl⟩:=dI hok h0;refine⟨kk t,(Y t).1,(Y t).2,hx,by simpa using hr,fun fro g0 w0 hi hro=>.loop hi (n:=n) (s0:=E a0) (fun m s1=>∃a,s1=E a∧dx (fun a=>(body a).run n) m a=some t) (fun s ⟨a,_,h⟩=>by simp[dx]at h) h0 ⟨a0,rfl,ht⟩ ?_⟩
    rintro m s1 ⟨a,rfl,hit⟩;simp only[dx]at hit;cases hq:(body a).run n with
    |none=>rw[hq]at hit;cases hit
    |some q=>
     rw[hq]at hit;obtain⟨g',o',s',h',hr',d'⟩:=G6 hNe (fun g h hr=>ih q g (E a) _ h hr) (hb a) hq
     refine(d' fro g0 w0 hi hro).mono fun o2 s2 ⟨e1,e2⟩=>?_
     grind [G3]
  ·simp[G.run]at hr
  ·exact nomatch h
 |exit id=>intro ρ r g s k h hr;exact⟨g,_,s,h,hr,fun _ _ _ _ _=>.exit ⟨rfl,rfl⟩⟩
 |ret=>intro ρ r g s k h hr;exact⟨g,_,s,h,hr,fun _ _ _ _ _=>.ret ⟨rfl,rfl⟩⟩
 |rangeFunc x ps as bd=>
  intro ρ r g s k h hr;simp only[jo]at h;obtain⟨s1,g1,hw,h,hr⟩:=BF h hr;split at h
  ·rename_i pr g2;obtain⟨_,h⟩:=h;simp only[G.run]at hr;split at h
   ·rename_i f p q hf;split at h
    ·rename_i l H1 D1 hen;rw[dS]at h;obtain⟨hpr,h⟩:=h;split at h
     ·rename_i ids rs hcl;simp only[dA]at h;obtain⟨hq,_⟩:=pT (A3 hpr) _ _ _ _ _ hcl;obtain⟨g3,a,H2,hk,hr3,hfn⟩:=hNe.fn h hr;have ho:=zV hfn;have hran:∀out s',AQ (qq f (p++[.jf l]++q) (mask ids H1) a H2) X.ro 0 (cQ s1.A x) ps as bd s1=some (out,s')→∀fro g0 w0,Inv g0 H0 w0→om g0 X.ro fro→fe P fro g0 H0 w0 (.rangeFunc x ps as bd) s fun o1 s1=>o1=out∧s1=s':=by
       intro out s' hra fro g0 w0 hi hro;refine .weak hi hw fun Q g a w hs hl hp=>?_
       exact D8 ho (hro.mono hl.ext) hra hs ((hp out s' ⟨rfl,rfl⟩).later hl)
      rcases v8 hk with⟨e,hm,hk⟩ |⟨v,hm,hk⟩
      ·simp only[eW]at hk;split at hk
       ·rename_i out s' hend;refine⟨g3,out,s',hk,hr3,hran out s' ?_⟩;simp only[AQ,hf,hen,dS,hq,finish,fL,dA,qq,and_self,if_true,hm,k9,eW,hend]
       ·exact hk.elim
      ·refine⟨g3,_,_,hk,hr3,hran _ _ ?_⟩;simp only[AQ,hf,hen,dS,hq,finish,fL,dA,qq,and_self,if_true,hm]
     ·exact h.elim
    ·exact h.elim
   ·exact h.elim
  ·simp[G.run]at hr
  ·exact nomatch h
 |_=>intro ρ r g s k h hr;exact h.elim
theorem kq{F:Fence}{fn:Func}{tmps:Array Value}{R R':Ending→World→Prop}(hR:∀e w,R e w→R' e w):∀{ds:List Deferred} {m:Nat} {u:FrameMode} {w:World},LeavesInM F m P fn tmps R ds u w→LeavesInM F m P fn tmps R' ds u w
 | [],m,u,w,h=>by
  cases u with
  |run=>exact h
  |returning=>obtain⟨v,h1,h2⟩:=h;exact⟨v,h1,hR _ _ h2⟩
  |panicking chain=>exact hR _ _ h
 |d::ds,m,u,w,h=>by
  obtain⟨hrun,h⟩:=h;refine⟨hrun,?_⟩;rcases h with⟨r,w',htar,htake,hrest⟩ |⟨hn,fv,cap,f,args,htar,hinv,hlead,hcall⟩
  ·exact .inl ⟨r,w',htar,htake,kq hR hrest⟩
  ·refine .inr ⟨hn,fv,cap,f,args,htar,hinv,hlead,hcall.mono fun e u' w' h=>?_⟩
   cases e with
   |returned v=>exact kq hR h
   |panicked chain=>exact kq hR h
   |outgrown=>exact hR _ _ h
theorem G7{L:Nat}{fn:Func}{m:Option AVal}{s:St}{r':aR}{H1:List ah}(h:yz P cfg L fn m s=some (r',H1)):
 ∃m' H' r,leave P cfg vZ L s.D m s.H=some (m',H')∧ending P fn s.A m' H'=some (r,H1)∧(∀v,r=.ret v→r'=.ret (jg v))∧(∀v,r=.bg v→r'=.bg v):=by
 grind [yz]
theorem cg.of(hm : P.follows .mixedOrders = true)(hN : ∀ (f : FuncId) (fn : Func), P.funcs[f]? = some fn → fn.name ≠ "runtime.NumGoroutine"){L : Nat}{f : FuncId}{fn : Func}{c : Code}{args : List AVal}{H0 H1 : List ah}{a : aR}{o : bx}{s s' : St}
 (hf:P.funcs[f]? =some fn) (hb:fn.body=some c) (hd:∀g0 w0,Inv g0 H0 w0→fe P none g0 H0 w0 c ⟨lS fn.ntmps args,H0,[]⟩ fun o1 s1=>o1=o∧s1=s) (hwk:gZ H0 s s') (hlo:rG P cfg L fn o s'=some (a,H1)):cg P f args H0 a H1:=by
 refine⟨⟨fn,c,hf,hb,hN f fn hf⟩,fun gh w vs hi hl=>callsIn_wide.1 (callsIn_of_wp_marks (F:=Fr none) (n:=0) hf hb trivial ?_)⟩
 have hsim:eH gh ⟨lS fn.ntmps args,H0,[]⟩ {tmps:=vs++Array.replicate (fn.ntmps - vs.size) undef,defers:=[]} w:=⟨hi,vY hl _,rfl⟩;refine hd gh w hi _ gh _ w hsim (aW.refl _ _ _) fun o1 s1 ⟨e1,e2⟩=>?_
 subst e1;subst e2;refine fc.weak hi hwk ?_;have key:∀(m:Option AVal) (u:FrameMode),yz P cfg L fn m s'=some (a,H1)→∀g' a' w',eH g' s' a' w'→aW gh H0 w g' s'.H w'→nK g' w' m u→
  LeavesInM (Fr none) 0 P fn a'.tmps (eX gh H0 w a H1) a'.defers u w':=by
  intro m u hla g' a' w' hs' hlat hmo;obtain⟨m',H',rr,h1,h2,h3,h4⟩:=G7 hla;refine kq ?_ (kL hm hN sK s'.D a'.defers m u s'.H g' w' m' H' hs'.defs hs'.inv hs'.tmps hmo h1 h2 hlat);rintro e w2 ⟨g2,hi2,hla2,he2⟩;refine⟨g2,hi2,hla2,?_⟩;cases rr with
  |ret v=>rw[h3 v rfl];obtain⟨x,rfl,hx⟩:=he2;exact⟨x,rfl,Dw _ _ hx⟩
  |bg v=>rw[h4 v rfl];exact he2
 cases o1 with
 |normal=>exact fun g' a' w' hs' hlat=>key none .returning hlo g' a' w' hs' hlat rfl
 |ret=>exact fun g' a' w' hs' hlat=>key none .returning hlo g' a' w' hs' hlat rfl
 |exit id=>simp[rG]at hlo
 |bg v=>exact fun g' a' w' x hv hs' hlat hrx=>key (some v) (.panicking [{v:=x,recovered:=false}]) hlo g' a' w' hs' hlat ⟨hv,x,rfl,hrx⟩
theorem BG{L:Nat}{fn:Func}{m:Option AVal}{s:St}{a:aR}{H1:List ah}(h:yz P cfg L fn m s=some (a,H1)):∀v,a=.bg v→v.flat=true:=by
 grind [yz]
theorem Ef{L:Nat}{fn:Func}{o:bx}{s:St}{a:aR}{H1:List ah}(h:rG P cfg L fn o s=some (a,H1)):∀v,a=.bg v→v.flat=true:=by
 cases o with
 |normal=>exact BG h
 |ret=>exact BG h
 |exit id=>simp[rG]at h
 |bg v=>exact BG h
theorem BH{nd : Bool}(hm : P.follows .mixedOrders = true)(hN : ∀ (f : FuncId) (fn : Func), P.funcs[f]? = some fn → fn.name ≠ "runtime.NumGoroutine") : ∀ d, o5 P (jY P cfg nd d)
 | 0=>⟨fun h=>h.elim,fun h=>h.elim,fun h=>h.elim⟩
 |d+1=>by
  have ih:=BH (nd:=nd) hm hN d;constructor
  ·intro ρ n f args H g k r h hr;simp only[jY,PM]at h;split at h
   ·exact KW h hr
   split at h
   ·rename_i fn hf;split at h
    ·rename_i c hb;obtain⟨g1,o,s1,h,hr,hd⟩:=yI (X:=⟨cfg,none,jY P cfg nd d,nd⟩) hm ih c r g _ _ h hr;unfold OQ at h;split at h
     ·rename_i ts pr g2;simp only[G.run,Option.ite_none_right_eq_some]at hr;obtain⟨s',hw,h⟩:=dI hr.1 h;split at h
      ·rename_i a H1 hla;have hfn:=cg.of hm hN hf hb (fun g0 w0 hi=>hd none g0 w0 hi trivial) hw hla
       obtain⟨_,hpr,h⟩:=h;grind [dS,cg.trim,Ef,A3]
      ·exact h.elim
     ·simp[G.run]at hr
     ·exact nomatch h
    ·exact h.elim
   ·exact h.elim
  ·intro ρ n b args H g k r h hr;simp only[jY,OS]at h;split at h
   ·rename_i st pend fid A ps assign body hb;split at h
    ·rename_i hlen;have hlen:=Nat.eq_of_beq_eq_true hlen;obtain⟨g1,o1,s1,h,hr,hd1⟩:=yI (X:=⟨cfg,some b,jY P cfg nd d,nd⟩) hm ih assign r g _ _ h hr;split at h
     ·split at h
      ·rename_i pend1 fid1 A1 ps1 as1 bd1 hb1;rw[dS]at h;obtain⟨g2,o2,s2,h,hr,hd2⟩:=yI (X:=⟨cfg,some b,jY P cfg nd d,nd⟩) hm ih body r g1 _ _ h hr;unfold OR at h;split at h
       ·rename_i j hj;split at h
        ·rename_i ts g3;simp only[G.run,Option.ite_none_right_eq_some]at hr;obtain⟨s3,hw,h⟩:=dI hr.1 h;split at h
         ·rename_i H2 hmk;refine⟨g3,_,H2,h,hr.2,fun gh w vs k sz hi hl hk=>?_⟩
          obtain⟨k0,tmps0,dk0,fn0,q1,q2,q3⟩:=hi.good b _ hb;rw[hk]at q1;simp only[Option.some.injEq,Prod.mk.injEq]at q1;obtain⟨rfl,rfl⟩:=q1;have hvs:=(dM _ _ hl).1;refine⟨_,q2,by grind,?_⟩
          rw[yP _ ps vs rfl];have hsim:eH gh ⟨tD A ps args,H,[]⟩ {tmps:=(ps.zip vs.toList).foldl (fun(tmps:Array Value) (p:Tmp×Value)=>tmps.setIfInBounds p.1 p.2) tmps0,defers:=[]} w:=
           ⟨hi,zR ps args A _ tmps0 q3 hl,rfl⟩
          refine roundIn_of_wpIn trivial ?_;refine hd1 (some k) gh w hi ⟨0,hk⟩ _ gh _ w hsim (aW.refl _ _ _) fun oo ss ⟨e1,e2⟩=>?_
          subst e1;subst e2;intro gg1 a1 w1 hs1 hla1;have hk1:=hla1.ext.ai _ _ _ hk;obtain⟨k1,tmps1,dk1,fn1,u1,u2,u3⟩:=hs1.inv.good b _ hb1;rw[hk1]at u1;simp only[Option.some.injEq,Prod.mk.injEq]at u1;obtain⟨rfl,-⟩:=u1;refine⟨_,run_beginRound u2 rfl,?_⟩;obtain⟨i2,l2⟩:=hs1.inv.put (y:=.loop .busy pend1 fid1 A1 ps1 as1 bd1)
           (ob:=.loop {state:=.busy,pending:=pend1,fn:=fn1,tmps:=tmps1,params:=ps1.toArray,assign:=as1,body:=bd1,defers:=dk1}) hb1 rfl hk1 rfl (tF u2)
           fun hext=>⟨_,tmps1,dk1,fn1,hk1,World.putObj_heap_same (Array.getElem?_eq_some_iff.1 u2).1,bU hext _ _ u3⟩
          have hsim2:eH gg1 {ss with H:=ss.H.set b (.loop .busy pend1 fid1 A1 ps1 as1 bd1)} a1 (w1.putObj k (.loop {state:=.busy,pending:=pend1,fn:=fn1,tmps:=tmps1,params:=ps1.toArray,assign:=as1,body:=bd1,defers:=dk1})):=
           ⟨i2,bU l2.ext _ _ hs1.tmps,ee l2.ext _ _ hs1.defs⟩
          refine hd2 (some k) gh w hi ⟨0,hk⟩ _ gg1 a1 _ hsim2 (hla1.trans l2) fun oo2 ss2 ⟨e1,e2⟩=>?_
          subst e1;subst e2;refine fc.weak hi hw ?_;have hend:∀g' a' w',eH g' s3 a' w'→aW gh H w g' s3.H w'→
           ∃v w'',(Instr.endRound k j).run P w'=.ok v w''∧eX gh H w (.ret (.sc (.bool j.isNone))) H2 (.returned v) w'':=by
           intro g' a' w' hs' hla';obtain⟨rr,e1,e2,e3⟩:=yQ hs'.inv (hla'.ext.ai _ _ _ hk) hmk;exact⟨_,_,run_endRound j e1,g',e2,hla'.trans e3,_,rfl,by simp[R]⟩
          cases oo2 with
          |normal=>
           simp only[rC,Option.some.injEq]at hj;subst hj;exact fun g' a' w' h1 h2=>hend g' a' w' h1 h2
          |ret=>
           simp only[rC,Option.some.injEq]at hj;subst hj;exact fun g' a' w' h1 h2=>hend g' a' w' h1 h2
          |exit id=>
           simp only[rC,Option.some.injEq]at hj;subst hj;exact fun g' a' w' h1 h2=>hend g' a' w' h1 h2
          |bg v=>cases hj
         ·exact h.elim
        ·simp[G.run]at hr
        ·exact nomatch h
       ·exact h.elim
      ·exact h.elim
     ·exact h.elim
    ·exact h.elim
   ·exact h.elim
  ·intro σ sh n ro H0 b g E s Y q h hr;obtain⟨h⟩:=h;exact yI (X:=⟨cfg,ro,jY P cfg nd d,nd⟩) hm ih b q g s _ h hr
end
end Go.AM
end
section
namespace Go.AM
section
variable [aH] {P:Program} {cfg:fF}
def BI(P:Program)[aH](cfg:fF)(L:Nat)(fn:Func)(m:Option AVal)(s:St):Option aR:=
 match leave P cfg vZ L s.D m s.H with
 |some (m',H')=>match ending P fn s.A m' H' with
  |some (.ret v,H1)=>match(snap oa v).run H1 with
   |some v'=>some (.ret (jg v'))
   |none=>none
  |some (.bg v,_)=>match v.flat with
   |true=>some (.bg v)
   |false=>none
  |none=>none
 |none=>none
def Fp(P:Program)[aH](cfg:fF)(L:Nat)(fn:Func)(o:bx)(s:St):Option aR:=
 match o with
 | .normal=>BI P cfg L fn none s
 | .ret=>BI P cfg L fn none s
 | .bg v=>BI P cfg L fn (some v) s
 | .exit _=>none
def Gm{ρ:Type}(P:Program)[aH](cfg:fF)(L:Nat)(fn:Func)(out:ρ→aR)(g:G P ρ)(o:bx)(s:St):Prop:=
 match g with
 | .done ts r=>jx [] ts s fun s=>Fp P cfg L fn o s=some (out r)
 | .fail=>True
 |_=>RN P fn o s out
def Q6{ρ:Type}(P:Program)[aH](cfg:fF)(L:Nat)(f:FuncId)(args:List AVal)(out:ρ→aR)(g:G P ρ):Prop:=
 match P.funcs[f]? with
 |some fn=>match fn.body with
  |some c=>jo P (LN P cfg) [] c g ⟨lS fn.ntmps args,[],[]⟩ fun g o s=>Gm P cfg L fn out g o s
  |none=>False
 |none=>False
def PS{ρ:Type}(out:ρ→aR)(r:ρ):Prop:=some (out r)=some (out r)
theorem OU{n L:Nat}{ρ:Type}{fn:Func}{out:ρ→aR}{g:G P ρ}{o:bx}{s:St}{r:ρ}(h:Gm P cfg L fn out g o s)(hr:g.run n=some r):∃s',gZ [] s s'∧Fp P cfg L fn o s'=some (out r):=by
 unfold Gm at h;split at h
 ·simp only[G.run,Option.ite_none_right_eq_some,Option.some.injEq]at hr;obtain⟨hok,rfl⟩:=hr;exact dI hok h
 ·simp[G.run]at hr
 ·exact nomatch h
theorem Fq{g g':Gh}{w w':World}{H1:List ah}{r r':aR}{e:Ending}(hi:Inv g [] w)(hi':Inv g' H1 w')(hla:aW g [] w g' H1 w')(hl:(∀v,r=.ret v→∃v',(snap oa v).run H1=some v'∧r'=.ret (jg v'))∧(∀v,r=.bg v→v.flat=true∧r'=.bg v))
 (he:PI g' w' r e):eX g [] w r' [] e w':=by
 refine⟨gu g' H1,hi'.gu,⟨⟨fun b aq x hx=>?_,fun k o hk=>.inl (hla.ext.st k o hk),hla.ext.cell,hla.ext.shape⟩,hla.size,hla.keep,fun k _ ho=>absurd ho fM,Nat.le_refl _,hla.os,hla.tape,hla.output,fun k o hk hst=>?_,fun b hb=>by simp at hb,fun b aq k z h=>by cases h⟩,?_⟩
 ·rw[hi.fresh b aq (.inr (by simp))]at hx;cases hx
 ·rcases hst with hst |hst
  ·exact(hla.stk k o hk hst).imp_right fun h=>absurd h.1 fM
  ·exact absurd (hla.own k hk hst) fM
 ·cases r with
  |ret v=>
   obtain⟨v',hs,rfl⟩:=hl.1 v rfl;obtain⟨x,rfl,hr⟩:=he;exact⟨x,rfl,Dw _ _ (pO hi' _ _ _ _ hs hr).1⟩
  |bg v=>
   obtain⟨hf,rfl⟩:=hl.2 v rfl;obtain⟨x,rfl,hr⟩:=he;exact⟨x,rfl,lT _ _ hf hr⟩
theorem G8{L:Nat}{fn:Func}{m:Option AVal}{s:St}{r':aR}(h:BI P cfg L fn m s=some r'):
 ∃m' H' r H1,leave P cfg vZ L s.D m s.H=some (m',H')∧ending P fn s.A m' H'=some (r,H1)∧(∀v,r=.ret v→∃v',(snap oa v).run H1=some v'∧r'=.ret (jg v'))∧(∀v,r=.bg v→v.flat=true∧r'=.bg v):=by
 unfold BI at h;split at h
 ·rename_i m' H' hl;split at h
  ·rename_i v H1 he;split at h
   ·rename_i v' hs;simp only[Option.some.injEq]at h;subst h;refine⟨m',H',_,H1,hl,he,?_,?_⟩
    ·intro u hu;cases hu;exact⟨v',hs,rfl⟩
    ·intro u hu;cases hu
   ·cases h
  ·rename_i v H1 he;split at h
   ·rename_i hf;simp only[Option.some.injEq]at h;subst h;refine⟨m',H',_,H1,hl,he,?_,?_⟩
    ·intro u hu;cases hu
    ·intro u hu;cases hu;exact⟨hf,rfl⟩
   ·cases h
  ·cases h
 ·cases h
theorem Nr(hm : P.follows .mixedOrders = true)(hN : ∀ (f : FuncId) (fn : Func), P.funcs[f]? = some fn → fn.name ≠ "runtime.NumGoroutine"){L : Nat}{f : FuncId}{args : List AVal}{ρ : Type}{out : ρ → aR}{g : G P ρ}
 (h:Q6 P cfg L f args out g) {n:Nat} {r:ρ} (hr:g.run n=some r):jX P f args (out r):=by
 unfold Q6 at h;split at h
 ·rename_i fn hf;split at h
  ·rename_i c hb;refine⟨⟨fn,c,hf,hb,hN f fn hf⟩,fun gh w vs hi hl=>callsIn_wide.1 (callsIn_of_wp_marks (F:=Fr none) (n:=0) hf hb trivial ?_)⟩
   have hsim:eH gh ⟨lS fn.ntmps args,[],[]⟩ {tmps:=vs++Array.replicate (fn.ntmps - vs.size) undef,defers:=[]} w:=⟨hi,vY hl _,rfl⟩;obtain⟨g',o,s1,h',hr',hd⟩:=yI (X:=LN P cfg) hm (BH hm hN 9) c r g _ _ h hr;obtain⟨s',hwk,hlo⟩:=OU h' hr';refine hd none gh w hi trivial _ gh _ w hsim (aW.refl _ _ _) fun o1 s1 ⟨e1,e2⟩=>?_
   subst e1;subst e2;refine fc.weak hi hwk ?_;have key:∀(m:Option AVal) (u:FrameMode),BI P cfg L fn m s'=some (out r)→∀g' a' w',eH g' s' a' w'→aW gh [] w g' s'.H w'→nK g' w' m u→
    LeavesInM (Fr none) 0 P fn a'.tmps (eX gh [] w (out r) []) a'.defers u w':=by
    intro m u hla g' a' w' hs' hlat hmo;obtain⟨m',H',rr,H1,h1,h2,h3⟩:=G8 hla;refine kq ?_ (kL hm hN sK s'.D a'.defers m u s'.H g' w' m' H' hs'.defs hs'.inv hs'.tmps hmo h1 h2 hlat);rintro e w2 ⟨g2,hi2,hla2,he2⟩;exact Fq hi hi2 hla2 h3 he2
   cases o1 with
   |normal=>exact fun g' a' w' hs' hlat=>key none .returning hlo g' a' w' hs' hlat rfl
   |ret=>exact fun g' a' w' hs' hlat=>key none .returning hlo g' a' w' hs' hlat rfl
   |exit id=>simp[Fp]at hlo
   |bg v=>exact fun g' a' w' x hv hs' hlat hrx=>key (some v) (.panicking [{v:=x,recovered:=false}]) hlo g' a' w' hs' hlat ⟨hv,x,rfl,hrx⟩
  ·exact h.elim
 ·exact h.elim
inductive Q7 (P:Program) [aH] {ρ:Type} (fn:Func) (o:bx) (s:St) (H0:List ah) (out:ρ→aR×List ah):Prop
def LQ(n:Nat):Option (aR×List ah)→Option (aR×List ah)
 |some (a,H)=>some (a,H.take n)
 |none=>none
def LR{ρ:Type}(P:Program)[aH](cfg:fF)(L:Nat)(fn:Func)(H0:List ah)(out:ρ→aR×List ah)(g:G P ρ)(o:bx)(s:St):Prop:=
 match g with
 | .done ts r=>jx H0 ts s fun s=>LQ H0.length (rG P cfg L fn o s)=some (out r)
 | .fail=>True
 |_=>Q7 P fn o s H0 out
def LS{ρ:Type}(P:Program)[aH](cfg:fF)(L:Nat)(f:FuncId)(args:List AVal)(H0:List ah)(out:ρ→aR×List ah)(g:G P ρ):Prop:=
 match P.funcs[f]? with
 |some fn=>match fn.body with
  |some c=>jo P (LN P cfg) H0 c g ⟨lS fn.ntmps args,H0,[]⟩ fun g o s=>LR P cfg L fn H0 out g o s
  |none=>False
 |none=>False
def Ib{ρ:Type}(out:ρ→aR×List ah)(r:ρ):Prop:=some (out r)=some (out r)
theorem Ns{n L:Nat}{ρ:Type}{fn:Func}{H0:List ah}{out:ρ→aR×List ah}{g:G P ρ}{o:bx}{s:St}{r:ρ}(h:LR P cfg L fn H0 out g o s)(hr:g.run n=some r):∃s',gZ H0 s s'∧LQ H0.length (rG P cfg L fn o s')=some (out r):=by
 unfold LR at h;split at h
 ·simp only[G.run,Option.ite_none_right_eq_some,Option.some.injEq]at hr;obtain⟨hok,rfl⟩:=hr;exact dI hok h
 ·simp[G.run]at hr
 ·exact nomatch h
theorem Fs(hm : P.follows .mixedOrders = true)(hN : ∀ (f : FuncId) (fn : Func), P.funcs[f]? = some fn → fn.name ≠ "runtime.NumGoroutine"){L : Nat}{f : FuncId}{args : List AVal}{H0 : List ah}{ρ : Type}{out : ρ → aR × List ah}{g : G P ρ}
 (h:LS P cfg L f args H0 out g) {n:Nat} {r:ρ} (hr:g.run n=some r) (h0:0<H0.length) (ha:(out r).1.Cf=true) (hrow:∀x∈(out r).2,x.pS=true∨x=.dead):cg P f args H0 (out r).1 (out r).2:=by
 unfold LS at h;split at h
 ·rename_i fn hf;split at h
  ·rename_i c hb;obtain⟨g',o,s1,h',hr',hd⟩:=yI (X:=LN P cfg) hm (BH hm hN 9) c r g _ _ h hr;obtain⟨s',hwk,hlo⟩:=Ns h' hr';cases hl:rG P cfg L fn o s' with
   |none=>rw[hl]at hlo;cases hlo
   |some p=>
    obtain⟨a,H1⟩:=p;rw[hl]at hlo;simp only[LQ,Option.some.injEq]at hlo;have:=cg.of hm hN hf hb (fun g0 w0 hi=>hd none g0 w0 hi trivial) hwk hl
    rw[← hlo]at ha hrow ⊢;exact cg.take this h0 ha hrow
  ·exact h.elim
 ·exact h.elim
class Plain (P:Program):Prop where
 mixed:P.follows .mixedOrders=true
 names : ∀ (f : FuncId) (fn : Func), P.funcs[f]? = some fn → fn.name ≠ "runtime.NumGoroutine"
def aK.of[hp:Plain P](cfg:fF)(L:Nat)(f:FuncId)(X:Type)(args:X→List AVal)(sh:Sh)(out:sh.El→aR)(g:X→G P sh.El)(h:∀x,Q6 P cfg L f (args x) out (g x)=(g x).fB (PS out)):aK P where
 f:=f
 X:=X
 args:=args
 sh:=sh
 out:=out
 S:=fun n x=>(g x).run n
 ok:=fun _ x _ hr=>Nr hp.mixed hp.names (by rw[h x];exact G.bY (fun _=>rfl) (g x)) hr
def gU.ofVar[hp:Plain P](cfg:fF)(L:Nat)(f:FuncId)(X:Type)(args:X→List AVal)(τ:Type)(sz:Nat)(enc:τ→List AVal)(b:X→τ)(sh:Sh)(out:sh.El→aR)(bo:sh.El→τ)(g:X→G P sh.El)
 (he:∀a,AVal.bp (enc a)=true) (ha:∀x,AVal.mO (args x)=true) (hr:sh.all fun r=>(out r).Cf=true)
 (h:∀x,LS P cfg L f (args x) [.row 0 sz [enc (b x)]] (fun r=>(out r,[.row 0 sz [enc (bo r)]])) (g x)=(g x).fB (Ib fun r=>(out r,[.row 0 sz [enc (bo r)]]))):gU P where
 f:=f
 X:=X
 args:=args
 blk:=fun x=>.row 0 sz [enc (b x)]
 sh:=sh
 out:=out
 uk:=fun _ r=>.row 0 sz [enc (bo r)]
 S:=fun n x=>(g x).run n
 a0:=ha
 b0:=fun x=>by simp[ah.pS,he]
 b1:=fun _ r=>.inl (by simp[ah.pS,he])
 r0:=fun r=>(sh.cc _).1 hr r
 ok:=fun _ x r hr'=>Fs hp.mixed hp.names (out:=fun r=>(out r,[.row 0 sz [enc (bo r)]])) (by rw[h x];exact G.bY (fun _=>rfl) (g x)) hr' (Nat.zero_lt_succ _) ((sh.cc _).1 hr r) fun y hy=>by
  simp only[List.mem_singleton]at hy;subst hy;exact .inl (by simp[ah.pS,he])
def gU.I6[hp:Plain P](cfg:fF)(L:Nat)(f:FuncId)(X:Type)(args:X→List AVal)(τ:Type)(sz:Nat)(enc:τ→List AVal)(b:X→List τ)(sh:Sh)(out:sh.El→aR)(bo:sh.El→List τ)(g:X→G P sh.El)
 (he:∀a,AVal.bp (enc a)=true) (ha:∀x,AVal.mO (args x)=true) (hr:sh.all fun r=>(out r).Cf=true)
 (h:∀x,LS P cfg L f (args x) [.row 0 sz ((b x).map enc)] (fun r=>(out r,[.row 0 sz ((bo r).map enc)])) (g x)=(g x).fB (Ib fun r=>(out r,[.row 0 sz ((bo r).map enc)]))):gU P where
 f:=f
 X:=X
 args:=args
 blk:=fun x=>.row 0 sz ((b x).map enc)
 sh:=sh
 out:=out
 uk:=fun _ r=>.row 0 sz ((bo r).map enc)
 S:=fun n x=>(g x).run n
 a0:=ha
 b0:=fun x=>by simp[ah.pS,he]
 b1:=fun _ r=>.inl (by simp[ah.pS,he])
 r0:=fun r=>(sh.cc _).1 hr r
 ok:=fun _ x r hr'=>Fs hp.mixed hp.names (out:=fun r=>(out r,[.row 0 sz ((bo r).map enc)])) (by rw[h x];exact G.bY (fun _=>rfl) (g x)) hr' (Nat.zero_lt_succ _) ((sh.cc _).1 hr r) fun y hy=>by
  simp only[List.mem_singleton]at hy;subst hy;exact .inl (by simp[ah.pS,he])
end
end Go.AM
end
section
namespace Go.AM
def qt(P:Program)(T:TypeId):Option Nat:=match P.underlying T with
 |some (.slice e)=>dG P e
 |_=>none
def intOf:AVal→Option Int
 | .sc (.int _ n)=>some n
 |_=>none
theorem hG{v:AVal}{n:Int}(h:intOf v=some n):∃k,v=.sc (.int k n):=by
 unfold intOf at h;grind
def fN{X:Type}(l:List X)(i:Int):Option X:=if 0≤i then l[i.toNat]? else none
theorem jD{P:Program}{T:TypeId}{n:Nat}(h:qt P T=some n):∃e,P.underlying T=some (.slice e)∧dG P e=some n:=by
 grind [qt]
section
def bt{X:Type}(l:List X)(enc:X→List AVal)(n:Nat)(i:Int):mP X where
 run:=fN l i
 bA x:={val:=.bV (enc x) 0}
 ids:=[]
 oD gl P cfg nid op ai H:=match op with
  | .indexAddr T a b=>ai a=.aB (l.map enc)∧intOf (ai b)=some i∧qt P T=some n∧∀x,(enc x).length=n
  |_=>False
 gP:=AVal.aB (l.map enc)=AVal.aB (l.map enc)∧some i=some i∧some n=some n∧∀_:X,n=n
 holds:=⟨rfl,rfl,rfl,fun _=>rfl⟩
 sound gl P cfg nid op ai H h x hx:=by
  cases op<;>try exact h.elim
  rename_i T a b;obtain⟨h1,h2,h3,h4⟩:=h;obtain⟨k,h2⟩:=hG h2;obtain⟨e,e1,e2⟩:=jD h3;unfold fN at hx;split at hx
  ·rename_i h0;simp[bQ,di,cG,h2,h1,nE,e1,e2,h0,hx,h4,yields,Rd.bind,Rd.run,Rd.reads]
  ·cases hx
def bB{X:Type}(l:List X)(enc:X→List AVal):mP Unit where
 run:=some ()
 bA _:={val:=.sc (.int .i64 l.length)}
 ids:=[]
 oD gl P cfg nid op ai H:=match op with
  | .call {callee:=.builtin .len,args,argTypes}=>match argTypes[0]?,args[0]? with
   |some T,some x=> @Eq Bool (qt P T).isSome true∧ai x=.aB (l.map enc)
   |_,_=>False
  |_=>False
 gP:=(@Eq Bool true true)∧AVal.aB (l.map enc)=AVal.aB (l.map enc)
 holds:=⟨by rfl,by rfl⟩
 sound gl P cfg nid op ai H h x hx:=by
  split at h
  ·split at h
   ·rename_i args argTypes _ _ T x hT ha;obtain⟨h1,h2⟩:=h;obtain⟨n,hn⟩:=Option.isSome_iff_exists.1 h1;obtain⟨e,e1,e2⟩:=jD hn;grind [bQ,di,cG,rq,Rd.bind,Rd.run,Rd.reads]
   ·exact h.elim
  ·exact h.elim
def Nt(P:Program)(T:TypeId):Option (Nat×Nat×Bool):=match P.info? T with
 |some i=>some (i.size,i.bytes,nZ i)
 |none=>none
def yY(P:Program)(T:TypeId):Option (Nat×Nat×Bool):=match P.underlying T with
 |some (.slice e)=>Nt P e
 |_=>none
theorem xO{P:Program}{T:TypeId}{n by_:Nat}{z:Bool}(h:yY P T=some (n,by_,z)):∃e i,P.underlying T=some (.slice e)∧P.info? e=some i∧i.size=n∧i.bytes=by_∧nZ i=z:=by
 grind [yY,Nt]
theorem run_bind'{α β:Type}{H:List ah}{m:Rd α}{f:α→Rd β}{x:α}(h:m.run H=some x):(m.bind f).run H=(f x).run H:=by
 induction m with
 |fail=>simp[Rd.run]at h
 |done a=>simp[Rd.run]at h;subst h;rfl
 |get b k ih=>
  grind [Rd.run,Rd.bind]
def vc{X:Type}(len:Nat)(l m:List X)(enc:X→List AVal)(n by_ b aq nid0:Nat)(eids:List Nat):mP Unit where
 run:=if len=l.length∧roomy (l.length+m.length) by_=true then some ()else none
 bA _:={val:=.sl b (aq+1) n 0 (l++m).length,ej:=[(b,.row (aq+1) n ((l++m).map enc))]}
 ids:=nid0::(eids++[b])
 oD gl P cfg nid op ai H:=match op with
  | .call {callee:=.builtin .append,args,argTypes}=>match argTypes[0]?,argTypes[1]?,args[0]?,args[1]? with
   |some ST,some XT,some s,some x=>nid=nid0∧H[nid]? =some .bw∧decide (args.size=2)=true∧yY P ST=some (n,by_,true)∧(qt P XT).isSome=true∧decide (0<n)=true∧ai s=.sl b aq n 0 len∧H[b]? =some (.row aq n (l.map enc))∧
    (elems (ai x)).run H=some (m.map enc)∧(elems (ai x)).reads H=eids∧∀x,(enc x).length=n
   |_,_,_,_=>False
  |_=>False
 gP:=nid0=nid0∧some ah.bw=some ah.bw∧ @Eq Bool true true∧some (n,by_,true)=some (n,by_,true)∧ @Eq Bool true true∧ @Eq Bool true true∧AVal.sl b aq n 0 len=AVal.sl b aq n 0 len∧some (ah.row aq n (l.map enc))=some (ah.row aq n (l.map enc))∧
  some (m.map enc)=some (m.map enc)∧eids=eids∧∀_:X,n=n
 holds:=by simp
 sound gl P cfg nid op ai H h x hx:=by
  split at h
  ·split at h
   ·rename_i args argTypes _ _ _ _ ST XT sx x hT hX hs hxx;obtain⟨rfl,hunb,h0,h1,h2,h3,h4,h5,h6,h6',h7⟩:=h;obtain⟨e,i,e1,e2,e3,e4,e5⟩:=xO h1;obtain⟨n2,hn2⟩:=Option.isSome_iff_exists.1 h2;obtain⟨e',e6,_⟩:=jD hn2;simp only[decide_eq_true_eq]at h0 h3;split at hx
    ·rename_i hroom;obtain⟨rfl,hroom⟩:=hroom;have hz:i.size≠0:=by omega
     have hall:(m.map enc).all (fun r=>r.length==i.size)=true:=by
      simp only[List.all_map,List.all_eq_true];intro y _;simp[h7,e3]
     have hop:bQ P cfg nid ai (.call {callee:=.builtin .append,args:=args,argTypes:=argTypes})=.get nid fun
      | .bw=>(yF P nid ST XT (ai sx) (ai x)).bind fun e=>.done (.bA e)
      |_=>.fail:=by
      simp only[bQ,di,if_true,cG,hT,hX,hs,hxx,h0];congr 1
     have hap:yF P nid ST XT (ai sx) (ai x)=(elems (ai x)).bind fun new=>.get b fun
      | .row v sz rows=>if v=aq then(if 0=0∧l.length≤rows.length∧sz=i.size∧roomy (l.length+new.length) i.bytes=true∧new.all (fun r=>r.length==i.size)=true∧nZ i=true then
       .done {val:=.sl b (aq+1) sz 0 (l.length+new.length),ej:=[(b,.row (aq+1) sz (Lh l.length rows++new))]}else .fail)else .fail
      |_=>.fail:=by
      rw[h4];unfold yF;rw[e1,e6];simp only[e2,hz,if_false];congr 1
      funext new
      simp only[Rd.bind,rowOf];congr 1
      funext y
      cases y with
      |row v sz rows=>grind [Rd.bind]
      |_=>rfl
     rw[hop,hap];simp only[Rd.run,Rd.reads,hunb];have hb:∀{β:Type} (f:dL→Rd β) (g:List (List AVal)→Rd dL),(((elems (ai x)).bind g).bind f)=(elems (ai x)).bind fun n=>(g n).bind f:=by
      intro β f g;generalize elems (ai x)=q;induction q with
      |fail=>rfl
      |done a=>rfl
      |get b k ih=>simp only[Rd.bind,ih]
     grind [run_bind',Bw,Rd.bind,Rd.run,Rd.reads,KG]
    ·cases hx
   ·exact h.elim
  ·exact h.elim
def bare:AVal→Bool
 | .sc (.slice none 0 0)=>true
 | .emp=>true
 |_=>false
def hU(m n b aq:Nat)(i:Int):mP Unit where
 run:=if 0≤i∧i<m then some ()else none
 bA _:={val:=.ptr b aq i.toNat 0}
 ids:=[]
 oD gl P cfg nid op ai H:=match op with
  | .indexAddr T a c=>ai a=.sl b aq n 0 m∧intOf (ai c)=some i∧qt P T=some n
  |_=>False
 gP:=AVal.sl b aq n 0 m=AVal.sl b aq n 0 m∧some i=some i∧some n=some n
 holds:=⟨rfl,rfl,rfl⟩
 sound gl P cfg nid op ai H h x hx:=by
  cases op<;>try exact h.elim
  rename_i T a c;obtain⟨h1,h2,h3⟩:=h;obtain⟨k,h2⟩:=hG h2;obtain⟨e,e1,e2⟩:=jD h3;split at hx
  ·rename_i h0;simp[bQ,di,cG,h2,h1,nE,e1,e2,h0.1,h0.2,yields,Rd.bind,Rd.run,Rd.reads]
  ·cases hx
def s6{X:Type}(l:List X)(enc:X→List AVal)(n b aq i o:Nat)(val:X→AVal):mP X where
 run:=l[i]?
 bA x:={val:=val x}
 ids:=[b]
 oD gl P cfg nid op ai H:=match op with
  | .load T a=>ai a=.ptr b aq i o∧H[b]? =some (.row aq n (l.map enc))∧∀x,nD P T (enc x) o=some (val x)
  |_=>False
 gP:=AVal.ptr b aq i o=AVal.ptr b aq i o∧some (ah.row aq n (l.map enc))=some (ah.row aq n (l.map enc))∧∀x,some (val x)=some (val x)
 holds:=⟨rfl,rfl,fun _=>rfl⟩
 sound gl P cfg nid op ai H h x hx:=by
  cases op<;>try exact h.elim
  rename_i T a;obtain⟨h1,h2,h3⟩:=h;simp[bQ,di,cG,h1,Bm,rowOf,h2,hx,h3,yields,Rd.bind,Rd.run,Rd.reads]
def zW{X:Type}(l:List X)(enc:X→List AVal)(n b aq i o:Nat)(y:X→X):mP X where
 run:=l[i]?
 bA x:={val:=nothing,ej:=[(b,.row aq n ((l.set i (y x)).map enc))]}
 ids:=[b]
 oD gl P cfg nid op ai H:=match op with
  | .store T a v=>ai a=.ptr b aq i o∧H[b]? =some (.row aq n (l.map enc))∧∀x,(vP P T (ai v)).bind (Dl (enc x) o)=some (enc (y x))
  |_=>False
 gP:=AVal.ptr b aq i o=AVal.ptr b aq i o∧some (ah.row aq n (l.map enc))=some (ah.row aq n (l.map enc))∧∀x,some (enc (y x))=some (enc (y x))
 holds:=⟨rfl,rfl,fun _=>rfl⟩
 sound gl P cfg nid op ai H h x hx:=by
  cases op<;>try exact h.elim
  rename_i T a v;obtain⟨h1,h2,h3⟩:=h;obtain⟨vs,h4,h5⟩:=Option.bind_eq_some_iff.1 (h3 x);simp[bQ,di,cG,h1,Cm,rowOf,h2,hx,h4,h5,Rd.bind,Rd.run,Rd.reads,List.map_set]
def Au{X:Type}(d:X)(enc:X→List AVal)(n by_ nid0:Nat)(k:Int):mP Unit where
 run:=if 0≤k∧roomy k.toNat by_=true then some ()else none
 bA _:={val:=.sl nid0 0 n 0 (List.replicate k.toNat d).length,ej:=[(nid0,.row 0 n ((List.replicate k.toNat d).map enc))]}
 ids:=[nid0]
 oD gl P cfg nid op ai H:=match op with
  | .makeSlice T a c=>nid=nid0∧H[nid]? =some .bw∧intOf (ai a)=some k∧intOf (ai c)=some k∧yY P T=some (n,by_,true)∧(match P.underlying T with |some (.slice e)=>iX P e |_=>none)=some (enc d)∧(enc d).length=n∧decide (0<n)=true
  |_=>False
 gP:=nid0=nid0∧some ah.bw=some ah.bw∧some k=some k∧some k=some k∧some (n,by_,true)=some (n,by_,true)∧some (enc d)=some (enc d)∧n=n∧ @Eq Bool true true
 holds:=by simp
 sound gl P cfg nid op ai H h x hx:=by
  cases op<;>try exact h.elim
  rename_i T a c;obtain⟨rfl,hunb,h1,h2,h3,h4,h5,h6⟩:=h;obtain⟨k1,h1⟩:=hG h1;obtain⟨k2,h2⟩:=hG h2;obtain⟨e,i,e1,e2,e3,e4,e5⟩:=xO h3;rw[e1]at h4;simp only at h4;simp only[decide_eq_true_eq]at h6;split at hx
  ·rename_i h0;have hop:pL P nid T (ai a) (ai c)=some {val:=.sl nid 0 i.size 0 k.toNat,ej:=[(nid,.row 0 i.size (List.replicate k.toNat (enc d)))]}:=by
    rw[h1,h2];simp only[pL,e1,e2,h4];rw[if_pos ⟨h0.1,Int.le_refl _,by rw[e4];exact h0.2,by rw[h5,e3],by omega⟩]
   simp[bQ,di,cG,hop,uL,Rd.bind,Rd.run,Rd.reads,hunb,e3]
  ·cases hx
def yZ(d m:Nat):Option Int→Option Nat
 |none=>some d
 |some i=>if 0≤i∧i≤m then some i.toNat else none
def OV{X:Type}(l:List X)(enc:X→List AVal)(n:Nat)(lo hi:Option Int):mP (Nat×Nat) where
 run:=(yZ l.length l.length hi).bind fun h=>(yZ 0 h lo).map fun k=>(k,h)
 bA x:={val:=.aB (((l.take x.2).drop x.1).map enc)}
 ids:=[]
 oD gl P cfg nid op ai H:=match op with
  | .slice T a lo' hi' none=>ai a=.aB (l.map enc)∧(lo'.map fun x=>intOf (ai x))=lo.map some∧(hi'.map fun x=>intOf (ai x))=hi.map some∧qt P T=some n∧∀x,(enc x).length=n
  |_=>False
 gP:=AVal.aB (l.map enc)=AVal.aB (l.map enc)∧lo.map some=lo.map some∧hi.map some=hi.map some∧some n=some n∧∀_:X,n=n
 holds:=⟨rfl,rfl,rfl,rfl,fun _=>rfl⟩
 sound gl P cfg nid op ai H h x hx:=by
  cases op<;>try exact h.elim
  rename_i T a lo' hi' mx;cases mx with
  |some _=>exact h.elim
  |none=>
   obtain⟨h1,h2,h3,h4,h5⟩:=h;obtain⟨e,e1,e2⟩:=jD h4;have hb:∀(d m:Nat) (x':Option Operand) (x:Option Int),(x'.map fun x=>intOf (ai x))=x.map some→jF d m (x'.map ai)=yZ d m x:=by
    intro d m x' x hx;cases x'<;>cases x<;>simp at hx
    ·rfl
    ·grind [hG,jF,yZ]
   obtain⟨hh,q1,q2⟩:=Option.bind_eq_some_iff.1 hx;obtain⟨k,q3,rfl⟩:=Option.map_eq_some_iff.1 q2;have hall:(l.map enc).all (fun r=>dG P e==some r.length)=true:=by
    simp only[List.all_map,List.all_eq_true];intro y _;simp[h5,e2]
   have hop:oO P T (ai a) (lo'.map ai) (hi'.map ai)=some (.aB (((l.map enc).take hh).drop k)):=by
    unfold oO;rw[h1];simp only[e1,rq];rw[hb _ _ _ _ h3,List.length_map,q1];simp only[Option.bind_some];rw[hb _ _ _ _ h2,q3];rw[Option.bind_some,if_pos (by rw[hall,e2];rfl)]
   simp[bQ,di,cG,hop,yields,Rd.bind,Rd.run,Rd.reads,List.map_take,List.map_drop]
def BJ(m n b aq o:Nat)(hi:Int):mP Nat where
 run:=if 0≤hi∧hi≤m then some hi.toNat else none
 bA x:={val:=.sl b aq n o x}
 ids:=[]
 oD gl P cfg nid op ai H:=match op with
  | .slice T a none (some h) none=>ai a=.sl b aq n o m∧intOf (ai h)=some hi∧qt P T=some n
  |_=>False
 gP:=AVal.sl b aq n o m=AVal.sl b aq n o m∧some hi=some hi∧some n=some n
 holds:=⟨rfl,rfl,rfl⟩
 sound gl P cfg nid op ai H h x hx:=by
  split at h
  ·rename_i T a c;obtain⟨h1,h2,h3⟩:=h;obtain⟨k,h2⟩:=hG h2;obtain⟨e,e1,e2⟩:=jD h3;split at hx
   ·rename_i h0;simp only[Option.some.injEq]at hx;subst hx;have hop:oO P T (ai a) none (some (ai c))=some (.sl b aq n o hi.toNat):=by
     unfold oO;rw[h1,h2,e1];simp only[rq,jF,h0,and_self,if_true,Option.bind_some,e2]
    simp[bQ,di,cG,hop,yields,Rd.bind,Rd.run,Rd.reads]
   ·cases hx
  ·exact h.elim
def LU(m n b aq o:Nat)(lo:Int):mP Nat where
 run:=if 0<lo∧lo<m then some lo.toNat else none
 bA x:={val:=.sl b aq n (o+x) (m - x)}
 ids:=[]
 oD gl P cfg nid op ai H:=match op with
  | .slice T a (some l) none none=>ai a=.sl b aq n o m∧intOf (ai l)=some lo∧qt P T=some n
  |_=>False
 gP:=AVal.sl b aq n o m=AVal.sl b aq n o m∧some lo=some lo∧some n=some n
 holds:=⟨rfl,rfl,rfl⟩
 sound gl P cfg nid op ai H h x hx:=by
  split at h
  ·rename_i T a c;obtain⟨h1,h2,h3⟩:=h;obtain⟨k,h2⟩:=hG h2;obtain⟨e,e1,e2⟩:=jD h3;split at hx
   ·rename_i h0;simp only[Option.some.injEq]at hx;subst hx;have hop:oO P T (ai a) (some (ai c)) none=some (.sl b aq n (o+lo.toNat) (m - lo.toNat)):=by
     unfold oO;rw[h1,h2,e1];have hb:0≤lo∧lo≤(m:Int):=⟨by omega,by omega⟩
     have hz:lo.toNat≠0:=by omega
     have hl:lo.toNat<m:=by omega
     simp only[rq,jF,hb,and_self,if_true,Option.bind_some,e2,if_neg hz,if_pos hl]
    simp[bQ,di,cG,hop,yields,Rd.bind,Rd.run,Rd.reads]
   ·cases hx
  ·exact h.elim
def PT(i:Int):Bool:=decide (i=0)
def PV(i:Int)(m:Nat):Bool:=decide (i<m)
def LV(m n b aq o:Nat)(lo:Int):mP Unit where
 run:=if lo=0 then some ()else none
 bA _:={val:=.sl b aq n o m}
 ids:=[]
 oD gl P cfg nid op ai H:=match op with
  | .slice T a (some l) none none=>ai a=.sl b aq n o m∧intOf (ai l)=some lo∧qt P T=some n
  |_=>False
 gP:=AVal.sl b aq n o m=AVal.sl b aq n o m∧some lo=some lo∧some n=some n
 holds:=⟨rfl,rfl,rfl⟩
 sound gl P cfg nid op ai H h x hx:=by
  split at h
  ·rename_i T a c;obtain⟨h1,h2,h3⟩:=h;obtain⟨k,h2⟩:=hG h2;obtain⟨e,e1,e2⟩:=jD h3;split at hx
   ·rename_i h0;subst h0;have hop:oO P T (ai a) (some (ai c)) none=some (.sl b aq n o m):=by
     unfold oO;rw[h1,h2,e1];have hb:(0:Int)≤0∧(0:Int)≤(m:Int):=⟨by omega,by omega⟩
     simp only[rq,jF,hb,and_self,if_true,Option.bind_some,e2,Int.toNat_zero]
    simp[bQ,di,cG,hop,yields,Rd.bind,Rd.run,Rd.reads]
   ·cases hx
  ·exact h.elim
def LW(m n b aq o:Nat)(lo:Int):mP Unit where
 run:=if lo=m∧0<m then some ()else none
 bA _:={val:=.aB []}
 ids:=[]
 oD gl P cfg nid op ai H:=match op with
  | .slice T a (some l) none none=>ai a=.sl b aq n o m∧intOf (ai l)=some lo∧qt P T=some n
  |_=>False
 gP:=AVal.sl b aq n o m=AVal.sl b aq n o m∧some lo=some lo∧some n=some n
 holds:=⟨rfl,rfl,rfl⟩
 sound gl P cfg nid op ai H h x hx:=by
  split at h
  ·rename_i T a c;obtain⟨h1,h2,h3⟩:=h;obtain⟨k,h2⟩:=hG h2;obtain⟨e,e1,e2⟩:=jD h3;split at hx
   ·rename_i h0;obtain⟨rfl,h0⟩:=h0;have hop:oO P T (ai a) (some (ai c)) none=some (.aB []):=by
     unfold oO;rw[h1,h2,e1];have hb:(0:Int)≤(m:Int)∧(m:Int)≤(m:Int):=⟨by omega,by omega⟩
     have hz:((m:Int)).toNat≠0:=by omega
     have hl:¬((m:Int)).toNat<m:=by omega
     simp only[rq,jF,hb,and_self,if_true,Option.bind_some,e2,if_neg hz,if_neg hl]
    simp[bQ,di,cG,hop,yields,Rd.bind,Rd.run,Rd.reads]
   ·cases hx
  ·exact h.elim
def OW(m n b aq o:Nat)(i:Int):mP Unit where
 run:=if 0≤i∧i<m then some ()else none
 bA _:={val:=.ptr b aq (o+i.toNat) 0}
 ids:=[]
 oD gl P cfg nid op ai H:=match op with
  | .indexAddr T a c=>ai a=.sl b aq n o m∧intOf (ai c)=some i∧qt P T=some n
  |_=>False
 gP:=AVal.sl b aq n o m=AVal.sl b aq n o m∧some i=some i∧some n=some n
 holds:=⟨rfl,rfl,rfl⟩
 sound gl P cfg nid op ai H h x hx:=by
  cases op<;>try exact h.elim
  rename_i T a c;obtain⟨h1,h2,h3⟩:=h;obtain⟨k,h2⟩:=hG h2;obtain⟨e,e1,e2⟩:=jD h3;split at hx
  ·rename_i h0;simp[bQ,di,cG,h2,h1,nE,e1,e2,h0.1,h0.2,yields,Rd.bind,Rd.run,Rd.reads]
  ·cases hx
def Gn{X:Type}(l:List X)(d:X)(enc:X→List AVal)(m n b aq o:Nat):mP Unit where
 run:=if o+m≤l.length then some ()else none
 bA _:={val:=nothing,ej:=[(b,.row aq n ((l.take o++List.replicate m d++l.drop (o+m)).map enc))]}
 ids:=[b]
 oD gl P cfg nid op ai H:=match op with
  | .call {callee:=.builtin .clear,args,argTypes}=>match argTypes[0]?,args[0]? with
   |some T,some s=>ai s=.sl b aq n o m∧H[b]? =some (.row aq n (l.map enc))∧decide (args.size=1)=true∧(match P.underlying T with |some (.slice e)=>iX P e |_=>none)=some (enc d)∧(enc d).length=n
   |_,_=>False
  |_=>False
 gP:=AVal.sl b aq n o m=AVal.sl b aq n o m∧some (ah.row aq n (l.map enc))=some (ah.row aq n (l.map enc))∧ @Eq Bool true true∧some (enc d)=some (enc d)∧n=n
 holds:=⟨rfl,rfl,rfl,rfl,rfl⟩
 sound gl P cfg nid op ai H h x hx:=by
  split at h
  ·split at h
   ·rename_i args argTypes _ _ T s hT hs;obtain⟨h1,h2,h3,h4,h5⟩:=h;simp only[decide_eq_true_eq]at h3;split at h4
    ·rename_i e he;split at hx
     ·rename_i hle;have hop:bQ P cfg nid ai (.call {callee:=.builtin .clear,args:=args,argTypes:=argTypes})=(Cn P T (ai s)).bind fun e=>.done (.bA e):=by
       simp only[bQ,di,cG,hT,hs,h3,if_true,if_false,Bool.false_eq_true]
      rw[hop,h1];unfold Cn;rw[he];simp only[h4,rowOf,Rd.bind,Rd.run,Rd.reads,h2,if_true,List.length_map];rw[if_pos ⟨trivial,hle,h5⟩];simp[Rd.bind,Rd.run,Rd.reads,List.map_take,List.map_drop]
     ·cases hx
    ·cases h4
   ·exact h.elim
  ·exact h.elim
def I7(op:BinOp)(k k':IntKind)(a b:Int)(ok:Bool)(v:AVal)(h:ok=true→∀(P:Program) (T:TypeId),Eu P op T (.sc (.int k a)) (.sc (.int k' b))=some v):mP Unit where
 run:=if ok then some ()else none
 bA _:={val:=v}
 ids:=[]
 oD gl P cfg nid o ai H:=match o with
  | .binOp op' T x y _=>op'=op∧ai x=.sc (.int k a)∧ai y=.sc (.int k' b)∧(match y with | .const (.int _ _)=>true | .tmp _=>true |_=>false)=true
  |_=>False
 gP:=op=op∧AVal.sc (.int k a)=AVal.sc (.int k a)∧AVal.sc (.int k' b)=AVal.sc (.int k' b)∧ @Eq Bool true true
 holds:=⟨rfl,rfl,rfl,rfl⟩
 sound gl P cfg nid o ai H h' x hx:=by
  cases o<;>try exact h'.elim
  rename_i op' T x y yT;obtain⟨rfl,h1,h2,h3⟩:=h';cases ok with
  |false=>cases hx
  |true=>
   have hb:=h rfl P T;rw[← h1,← h2]at hb;split at h3
   ·simp[bQ,di,cG,vQ,hb,yields,Rd.bind,Rd.run,Rd.reads]
   ·simp[bQ,di,cG,vQ,hb,yields,Rd.bind,Rd.run,Rd.reads]
   ·cases h3
def BK(k:IntKind)(a b:Int):mP Unit:=I7 .rem k k a b (decide (b≠0)) (.sc (.int k (a.tmod b))) fun h P T=>by
 grind [Eu,Dm]
def Gp(k k':IntKind)(a b:Int):mP Unit:=I7 .shl k k' a b (decide (0≤b)) (.sc (.int k (k.wrap (a*2 ^ (min b.toNat k.bits))))) fun h P T=>by
 grind [Eu]
def KX(P:Program)(T:TypeId):Option (Nat×Nat):=match P.underlying T with
 |some (.array n e)=>(dG P e).map fun s=>(n,s)
 |_=>none
def LX(b aq j o n s:Nat)(i:Int):mP Unit where
 run:=if 0≤i∧i<n then some ()else none
 bA _:={val:=.ptr b aq j (o+i.toNat*s)}
 ids:=[]
 oD gl P cfg nid op ai H:=match op with
  | .indexAddr T a c=>ai a=.ptr b aq j o∧intOf (ai c)=some i∧KX P T=some (n,s)
  |_=>False
 gP:=AVal.ptr b aq j o=AVal.ptr b aq j o∧some i=some i∧some (n,s)=some (n,s)
 holds:=⟨rfl,rfl,rfl⟩
 sound gl P cfg nid op ai H h x hx:=by
  cases op<;>try exact h.elim
  rename_i T a c;obtain⟨h1,h2,h3⟩:=h;obtain⟨k,h2⟩:=hG h2;unfold KX at h3;split at h3
  ·rename_i n' e hu;obtain⟨s',hs,he⟩:=Option.map_eq_some_iff.1 h3;simp only[Prod.mk.injEq]at he;obtain⟨rfl,rfl⟩:=he;split at hx
   ·rename_i h0;have hop:nE P T (ai a) i=some (.ptr b aq j (o+i.toNat*s')):=by
     rw[h1];unfold nE;rw[hu];simp only[if_pos h0,hs,Option.bind_some,yE]
    simp[bQ,di,cG,h2,hop,yields,Rd.bind,Rd.run,Rd.reads]
   ·cases hx
  ·cases h3
def Q8{X:Type}(l:List X)(c:X→AVal)(b aq sz o:Nat):mP X where
 run:=l[o]?
 bA x:={val:=c x}
 ids:=[b]
 oD gl P cfg nid op ai H:=match op with
  | .load T a=>ai a=.ptr b aq 0 o∧H[b]? =some (.row aq sz [l.map c])∧gj P T=false∧(P.underlying T).isSome=true
  |_=>False
 gP:=AVal.ptr b aq 0 o=AVal.ptr b aq 0 o∧some (ah.row aq sz [l.map c])=some (ah.row aq sz [l.map c])∧ @Eq Bool false false∧ @Eq Bool true true
 holds:=⟨rfl,rfl,rfl,rfl⟩
 sound gl P cfg nid op ai H h x hx:=by
  cases op<;>try exact h.elim
  rename_i T a;obtain⟨h1,h2,h3,h4⟩:=h;simp[bQ,di,cG,h1,Bm,rowOf,h2,nD,h3,h4,hx,yields,Rd.bind,Rd.run,Rd.reads]
def R5{X:Type}(l:List X)(c:X→AVal)(b aq sz o:Nat)(y:X):mP Unit where
 run:=if o<l.length then some ()else none
 bA _:={val:=nothing,ej:=[(b,.row aq sz [(l.set o y).map c])]}
 ids:=[b]
 oD gl P cfg nid op ai H:=match op with
  | .store T a v=>ai a=.ptr b aq 0 o∧H[b]? =some (.row aq sz [l.map c])∧vP P T (ai v)=some [c y]
  |_=>False
 gP:=AVal.ptr b aq 0 o=AVal.ptr b aq 0 o∧some (ah.row aq sz [l.map c])=some (ah.row aq sz [l.map c])∧some [c y]=some [c y]
 holds:=⟨rfl,rfl,rfl⟩
 sound gl P cfg nid op ai H h x hx:=by
  cases op<;>try exact h.elim
  rename_i T a v;obtain⟨h1,h2,h3⟩:=h;split at hx
  ·rename_i h0;have hle:o+1≤l.length:=h0;simp[bQ,di,cG,h1,Cm,rowOf,h2,h3,Dl,hle,putAt,Rd.bind,Rd.run,Rd.reads,List.map_set]
  ·cases hx
section
variable {K V:Type}
def aF(ek:K→AVal)(ev:V→AVal):Nat→List (K×V)→List (AVal×AVal×Nat)
 |_,[]=>[]
 |n,p::ps=>(ek p.1,ev p.2,n)::aF ek ev (n+1) ps
def aY(eq:K→K→Bool)(k:K):List (K×V)→Nat→Option (Nat×V)
 | [],_=>none
 |p::ps,i=>if eq k p.1 then some (i,p.2)else aY eq k ps (i+1)
def bN(eq:K→K→Bool)(k:K)(v:V)(m:List (K×V)):List (K×V):=match aY eq k m 0 with
 |some (i,_)=>m.set i (k,v)
 |none=>m++[(k,v)]
theorem ve{ks:List Kd}{ag:Bool}{ek:K→AVal}{ev:V→AVal}{eq:K→K→Bool}(hag:∀k,nF (ek k)=ag)(heq:∀k k',dB ks (ek k).cells (ek k').cells=some (eq k k'))(k:K):
 ∀(m:List (K×V)) (n i:Nat),tU ks ag (ek k) (aF ek ev n m) i=some ((aY eq k m i).map fun p=>(p.1,ev p.2,n+(p.1 - i)))
 | [],n,i=>rfl
 |p::ps,n,i=>by
  simp only[aF,tU,hag,if_true,heq,aY];cases h:eq k p.1 with
  |true=>simp
  |false=>
   simp only[Bool.false_eq_true,if_false];rw[ve hag heq k ps (n+1) (i+1)];congr 1;have hge:∀(m:List (K×V)) (i:Nat) (q:Nat×V),aY eq k m i=some q→i≤q.1:=by
    intro m;induction m with
    |nil=>intro i q h;simp[aY]at h
    |cons p ps ih=>
     grind [aY]
   cases hf:aY eq k ps (i+1)with
   |none=>rfl
   |some q=>
    grind
theorem wY(ek:K→AVal)(ev:V→AVal):∀(m:List (K×V)) (n:Nat),(aF ek ev n m).length=m.length
 | [],_=>rfl
 |_::ps,n=>by simp[aF,wY ek ev ps]
theorem Eg(ek:K→AVal)(ev:V→AVal):∀(m m':List (K×V)) (n:Nat),aF ek ev n (m++m')=aF ek ev n m++aF ek ev (n+m.length) m'
 | [],m',n=>by simp[aF]
 |p::ps,m',n=>by simp[aF,Eg ek ev ps,Nat.add_assoc,Nat.add_comm 1]
theorem I8(ek:K→AVal)(ev:V→AVal):∀(m:List (K×V)) (n i:Nat) (p:K×V),aF ek ev n (m.set i p)=(aF ek ev n m).set i (ek p.1,ev p.2,n+i)
 | [],n,i,p=>rfl
 |q::ps,n,0,p=>by simp[aF]
 |q::ps,n,i+1,p=>by simp[aF,I8 ek ev ps,Nat.add_assoc,Nat.add_comm 1]
def zX(P:Program)(T:TypeId):Option (Option (List Kd)×Bool×Option AVal):=match P.underlying T with
 |some (.map K E)=>some (dV P 9 K,gj P K,Bn P E)
 |_=>none
def mh(m:List (K×V))(k:K)(ek:K→AVal)(ev:V→AVal)(eq:K→K→Bool)(d:V)(ks:List Kd)(ag ok:Bool)(b:Nat):mP Unit where
 run:=some ()
 bA _:={val:=match ok with
  |true=>.dg [ev (((aY eq k m 0).map (·.2)).getD d),.sc (.bool (aY eq k m 0).isSome)]
  |false=>ev (((aY eq k m 0).map (·.2)).getD d)}
 ids:=[b]
 oD gl P cfg nid op ai H:=match op with
  | .lookup T x i ok'=>ok'=ok∧ai x=.mp b∧ai i=ek k∧H[b]? =some (.map m.length (aF ek ev 0 m))∧zX P T=some (some ks,ag,some (ev d))∧(∀k,nF (ek k)=ag)∧∀k k',dB ks (ek k).cells (ek k').cells=some (eq k k')
  |_=>False
 gP:=ok=ok∧AVal.mp b=AVal.mp b∧ek k=ek k∧some (ah.map m.length (aF ek ev 0 m))=some (ah.map m.length (aF ek ev 0 m))∧some (some ks,ag,some (ev d))=some (some ks,ag,some (ev d))∧(∀_:K,ag=ag)∧∀k k',some (eq k k')=some (eq k k')
 holds:=⟨rfl,rfl,rfl,rfl,rfl,fun _=>rfl,fun _ _=>rfl⟩
 sound gl P cfg nid op ai H h x hx:=by
  cases op<;>try exact h.elim
  rename_i T a i ok';obtain⟨rfl,h1,h2,h3,h4,h5,h6⟩:=h;unfold zX at h4;split at h4
  ·rename_i TK TE hu;simp only[Option.some.injEq,Prod.mk.injEq]at h4;obtain⟨t1,t2,t3⟩:=h4;have hk:lD P TK (ek k)=some ks:=by simp[lD,t1,h5,t2]
   have hf:=ve (ev:=ev) (eq:=eq) h5 h6 k m 0 0;simp only[bQ,di,cG,yG,hu,h2,hk,h1,mapOf,Rd.bind,Rd.run,Rd.reads,h3,h6,t2,hf,t3,if_false,Bool.false_eq_true];cases hfm:aY eq k m 0 with
   |none=>grind
   |some q=>grind
  ·cases h4
def lg(m:List (K×V))(k:K)(v:V)(ek:K→AVal)(ev:V→AVal)(eq:K→K→Bool)(ks:List Kd)(ag:Bool)(b:Nat):mP Unit where
 run:=some ()
 bA _:={val:=nothing,ej:=[(b,.map (bN eq k v m).length (aF ek ev 0 (bN eq k v m)))]}
 ids:=[b]
 oD gl P cfg nid op ai H:=match op with
  | .mapUpdate T x i y=>ai x=.mp b∧ai i=ek k∧ai y=ev v∧H[b]? =some (.map m.length (aF ek ev 0 m))∧(zX P T).map (fun t=>(t.1,t.2.1))=some (some ks,ag)∧(∀k,nF (ek k)=ag)∧∀k k',dB ks (ek k).cells (ek k').cells=some (eq k k')
  |_=>False
 gP:=AVal.mp b=AVal.mp b∧ek k=ek k∧ev v=ev v∧some (ah.map m.length (aF ek ev 0 m))=some (ah.map m.length (aF ek ev 0 m))∧some (some ks,ag)=some (some ks,ag)∧(∀_:K,ag=ag)∧∀k k',some (eq k k')=some (eq k k')
 holds:=⟨rfl,rfl,rfl,rfl,rfl,fun _=>rfl,fun _ _=>rfl⟩
 sound gl P cfg nid op ai H h x hx:=by
  cases op<;>try exact h.elim
  rename_i T a i y;obtain⟨h1,h2,hy,h3,h4,h5,h6⟩:=h;obtain⟨t,h4,ht⟩:=Option.map_eq_some_iff.1 h4;unfold zX at h4;split at h4
  ·rename_i TK TE hu;simp only[Option.some.injEq]at h4;subst h4;simp only[Prod.mk.injEq]at ht;obtain⟨t1,t2⟩:=ht;have hk:lD P TK (ek k)=some ks:=by simp[lD,t1,h5,t2]
   have hf:=ve (ev:=ev) (eq:=eq) h5 h6 k m 0 0;simp only[bQ,di,cG,uK,hu,h2,hk,h1,mapOf,Rd.bind,Rd.run,Rd.reads,h3,h6,t2,hf,hy,if_false,Bool.false_eq_true];cases hfm:aY eq k m 0 with
   |none=>simp[Rd.bind,Rd.run,Rd.reads,bN,hfm,Eg,aF]
   |some q=>simp[Rd.bind,Rd.run,Rd.reads,bN,hfm,I8,wY]
  ·cases h4
end
end
def cI(k:IntKind)(n:Int):AVal:=.sc (.int k n)
def cL{α:Type}(enc:α→List AVal)(l:List α):AVal:=.aB (l.map enc)
def eI(k:IntKind)(n:Int):List AVal:=[.sc (.int k n)]
def eB(b:Bool):List AVal:=[.sc (.bool b)]
def eS(s:ByteArray):List AVal:=[.sc (.string s)]
def eL{α:Type}(enc:α→List AVal)(l:List α):List AVal:=[.aB (l.map enc)]
structure V2(α:Type) where
 (a0 a1:α)
def I9{α:Type}(c:α→AVal)(x:V2 α):List AVal:=[c x.a0,c x.a1]
structure V8(α:Type) where
 (a0 a1 a2 a3 a4 a5 a6 a7:α)
def tK{α:Type}(c:α→AVal)(x:V8 α):List AVal:=[c x.a0,c x.a1,c x.a2,c x.a3,c x.a4,c x.a5,c x.a6,c x.a7]
structure cF(α:Type) where
 (a0 a1 a2 a3 a4 a5 a6 a7 a8 a9:α)
def EL{α:Type}(c:α→AVal)(x:cF α):List AVal:=[c x.a0,c x.a1,c x.a2,c x.a3,c x.a4,c x.a5,c x.a6,c x.a7,c x.a8,c x.a9]
theorem Gq{X:Type}(l:List X)(enc:X→List AVal)(h:∀x,AVal.bp (enc x)=true):(l.map enc).all AVal.bp=true:=by
 grind
def cC{X:Type}(b aq sz:Nat)(l:List X)(enc:X→List AVal)(h:∀x,AVal.bp (enc x)=true):PU:=⟨b,.row aq sz (l.map enc),Gq l enc h⟩
theorem Gr{K V:Type}(ek:K→AVal)(ev:V→AVal)(h:∀k,(ek k).pure=true)(h':∀v,(ev v).pure=true):∀(m:List (K×V)) (n:Nat),(aF ek ev n m).all (fun p=>p.1.pure&&p.2.1.pure)=true
 | [],_=>rfl
 |p::ps,n=>by simp[aF,h,h',Gr ek ev h h' ps (n+1)]
def gy{K V:Type}(b:Nat)(m:List (K×V))(ek:K→AVal)(ev:V→AVal)(h:∀k,(ek k).pure=true)(h':∀v,(ev v).pure=true):PU:=⟨b,.map m.length (aF ek ev 0 m),Gr ek ev h h' m 0⟩
def fC{X:Type}(p:Pl)(b aq sz n:Nat)(l:List X)(enc:X→List AVal)(h:∀x,AVal.bp (enc x)=true):FZ:=⟨p,b,aq,sz,n,l.map enc,Gq l enc h⟩
def yA{X:Type}(b aq sz:Nat)(l:List X)(c:X→AVal)(h:∀x,(c x).pure=true):PU:=⟨b,.row aq sz [l.map c],by
 have:∀l:List X,AVal.bp (l.map c)=true:=by
  intro l;induction l with
  |nil=>rfl
  |cons x xs ih=>grind [AVal.bp]
 simp[qI,this]⟩
def vf{X:Type}(b aq sz:Nat)(l:List X)(enc:X→List AVal)(h:∀x,AVal.bp (enc x)=true):PR:=PR.ofRow b aq sz (l.map enc) (Gq l enc h)
def pU{K V:Type}(b:Nat)(m:List (K×V))(ek:K→AVal)(ev:V→AVal)(h:∀k,(ek k).pure=true)(h':∀v,(ev v).pure=true):PR:=⟨b,.map m.length (aF ek ev 0 m),Gr ek ev h h' m 0⟩
end Go.AM
end
