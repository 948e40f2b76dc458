/- Parts put together. No conditions. -/
import Derived.Test.YtdbkafoghoenoaaGreatDoorAb
import Derived.ProofKit
import Derived.OpenShut
import Derived.JoinedCond
import Derived.LaidLaws
set_option linter.unusedSectionVars false
set_option linter.unusedSimpArgs false
section
namespace Go.AM
open Go.ChangeShapes Go.WideShapes Go.ChangeAt Go.RowKit
def Gh.bare(w:World):Gh:={rho:=fun _ _=>none,st:=fun k _=>k<w.heap.size}
section
variable [Globs]
theorem Gh.bare_inv(w:World)(hg:GlobsOk (Gh.bare w) w):Inv (Gh.bare w) [] w:=
 ⟨fun b x h=>by simp at h,fun b b' x x' v v' k z z' h=>by simp at h,fun b ver _=>rfl,fun b x v ver' h=>by simp at h,fun b x v k z o h=>by simp at h,fun _ _ h=>h,hg⟩
theorem later_below{w w':World}{g':Gh}{H':List ABlk}(h:Later (Gh.bare w) [] w g' H' w'):Below w.heap.size w w':=
 ⟨h.os,h.tape.1,h.output,h.size,fun k hk=>h.keep k hk not_owned_nil⟩
end
section
variable {H:Type} {enc:TypeId×Value→H} {P:Program}
theorem post_of_below{f:Func}{s:ChangeSpec}{apart fresh handsOn again:Bool}{W W':World}{args:Array Value}{v:Value}{ds gs:List (DataW H)}{before pa pv:List MemPlace}
 (hW:DataW.Whole enc P f.params.toList s.vars apart W args.toList ds gs before)
 (hres:∀(b:Nat) (sp:Nat→Bool) (hd:Bool),DataW.TrodAll enc P W' b sp hd f.resultTypes.toList (v.resultList f.resultTypes.size) (s.fn H (ds++gs)).results [])
 (hargs:∀sp:Nat→Bool,(∀p∈before,sp p.block=true)→DataW.TrodAll enc P W' 0 sp true f.params.toList args.toList (s.fn H (ds++gs)).args pa)
 (hvars:∀sp:Nat→Bool,(∀p∈before,sp p.block=true)→DataW.TrodVars enc P W' sp s.vars (s.fn H (ds++gs)).vars pv)
 (hps:before=pa++pv) (hb:Below W.heap.size W W')
 (hok:∀(j:Nat) (t:TypeId) (r:Value),f.resultTypes[j]? =some t→(v.resultList f.resultTypes.size)[j]? =some r→Value.okWide P W' .any 0 t r):
 s.post enc P f apart fresh handsOn again W args v W':=by
 have hold:∀p∈before,(fun b=>decide (b<W.heap.size)) p.block=true:=fun p hp=>by simpa using hW.lt p hp
 have hlt:=hW.lt;refine⟨ds,gs,before,[],pa,pv,hW,hres _ _ _,hargs _ hold,hvars _ hold,World.keptBut_mono (fun p hp=>⟨hp,?_⟩) (hb.frame (· ∈before)),fun _=>?_⟩
 ·rw[hps,List.mem_append]at hp;exact Or.inr hp
 ·obtain⟨_,_,_,_,_,hz,hn⟩:=hW;refine⟨hok,_,_,([]++pa)++pv,⟨[]++pa,pv,trodAll_append (hargs _ (fun _ _=>rfl)) (hres _ _ _),hvars _ (fun _ _=>rfl),rfl,?_,?_⟩,?_⟩
  ·intro b off hp;have hm:MemPlace.cell b off∈before:=by rw[hps];simpa using hp
   rw[hb.frozen (hlt _ hm)];exact hz b off hm
  ·intro ha;have:=hn ha;rw[hps]at this;simpa using this
  ·intro p hp _;rw[hps];simpa using hp
end
end Go.AM
end
section
namespace Go.AM
structure Entry where
 f:FuncId
 args:List AVal
 res:AVal
section
variable [Globs] {P:Program} {cfg:Cfg}
def EntryOk(P:Program)(e:Entry):Prop:=
 (∃ fn c, P.funcs[e.f]? = some fn ∧ fn.body = some c ∧ fn.name ≠ "runtime.NumGoroutine") ∧
 ∀g w (vs:Array Value),Inv g [] w→RL g w e.args vs.toList→Calls P e.f vs w (Comes1 g [] w (.ret e.res) [])
def TblOk(P:Program)(tbl:List Entry):Prop:=∀e∈tbl,EntryOk P e
theorem TblOk.nil:TblOk P []:=fun _ h=>by cases h
theorem TblOk.cons{e:Entry}{tbl:List Entry}(h:EntryOk P e)(h':TblOk P tbl):TblOk P (e::tbl):=fun x hx=>by
 rcases List.mem_cons.1 hx with rfl |hx
 ·exact h
 ·exact h' x hx
end
end Go.AM
end
section
namespace Go.AM
def litVal:Lit→Option Value
 | .bool b=>some (.bool b)
 | .int k n=>some (.int k n)
 | .string l=>some (.string ⟨l.toArray⟩)
 |_=>none
mutual
def flatD{H:Type}:DataW H→Option (List Value)
 | .lit l=>(litVal l).map fun v=>[v]
 | .agg ds=>flatDs ds
 |_=>none
def flatDs{H:Type}:List (DataW H)→Option (List Value)
 | []=>some []
 |d::ds=>match flatD d,flatDs ds with
  |some a,some b=>some (a++b)
  |_,_=>none
end
section
variable {H:Type} {enc:TypeId×Value→H} {P:Program} {w:World} {base:Nat} {sp:Nat→Bool} {held:Bool}
theorem cellsOf_size{t n:Nat}(h:sizeT P t=some n):P.cellsOf t=n:=by
 unfold sizeT at h;simp[Program.cellsOf,h]
theorem flat_rows{s:Nat}{cs:List Value}{F:List Value→Option (DataW H×List MemPlace)}(hF:∀c x v,F c=some x→flatD x.1=some v→c=v):∀(xs:List (DataW H×List MemPlace)) (off:Nat) (vs:List Value),
 (∀i,i<xs.length→F ((cs.drop (off+i*s)).take s)=xs[i]?)→flatDs (xs.map (·.1))=some vs→(cs.drop off).take (xs.length*s)=vs
 | [],off,vs,_,h=>by simp[flatDs]at h;simp[h]
 |x::xs,off,vs,hx,h=>by
  simp only[List.map_cons,flatDs]at h;split at h
  ·rename_i a b ha hb;simp only[Option.some.injEq]at h;subst h;have h0:=hx 0 (by simp)
   simp only[Nat.zero_mul,Nat.add_zero,List.getElem?_cons_zero]at h0;have e0:=hF _ _ _ h0 ha;have e1:=flat_rows hF xs (off+s) b (fun i hi=>by
    have:=hx (i+1) (by simpa using hi)
    rw[List.getElem?_cons_succ]at this;rw[← this,Nat.add_mul,Nat.one_mul];congr 3;omega) hb
   rw[List.length_cons,Nat.add_mul,Nat.one_mul,Nat.add_comm,List.take_add,e0,List.drop_drop,e1]
  ·cases h
theorem flat_fields{K:TypeId→Option (List Kd)}{cs:List Value}{F:TypeId→List Value→Option (DataW H×List MemPlace)}(hF:∀t ks c x v,K t=some ks→F t c=some x→flatD x.1=some v→c=v):
 ∀(fl:List Field) (off:Nat) (ks:List Kd) (xs:List (DataW H×List MemPlace)) (vs:List Value),kindsOf.kindsFields P K fl off=some ks→xs.length=fl.length→
  (∀(i:Nat) (f:Field),fl[i]? =some f→F f.type ((cs.drop f.offset).take (P.cellsOf f.type))=xs[i]?)→flatDs (xs.map (·.1))=some vs→(cs.drop off).take ks.length=vs
 | [],off,ks,xs,vs,hk,hl,_,h=>by
  grind [kindsOf.kindsFields,flatDs]
 |f::fl,off,ks,[],vs,_,hl,_,_=>by simp at hl
 |f::fl,off,ks,x::xs,vs,hk,hl,hx,h=>by
  simp only[kindsOf.kindsFields]at hk;split at hk
  ·rename_i hc;split at hk
   ·rename_i k1 hk1;split at hk
    ·rename_i hsz;obtain⟨k2,hk2,rfl⟩:=Option.map_eq_some_iff.1 hk;simp only[beq_iff_eq]at hsz;simp only[List.map_cons,flatDs]at h;split at h
     ·rename_i a b ha hb;simp only[Option.some.injEq]at h;subst h;have h0:=hx 0 f (by simp)
      simp only[List.getElem?_cons_zero]at h0;have e0:=hF _ _ _ _ _ hk1 h0 ha;rw[hc.2,cellsOf_size hsz]at e0;have e1:=flat_fields hF fl (off+k1.length) k2 xs b hk2 (by simpa using hl) (fun i f' hf=>by
       have:=hx (i+1) f' (by simpa using hf)
       simpa using this) hb
      rw[List.length_append,List.take_add,e0,List.drop_drop,e1]
     ·cases h
    ·cases hk
   ·cases hk
  ·cases hk
theorem flat_trod:∀(d t:Nat) (ks:List Kd) (fuel:Nat) (cs:List Value) (x:DataW H×List MemPlace) (vs:List Value),kindsOf P d t=some ks→DataW.trod enc P w base sp held fuel t cs=some x→flatD x.1=some vs→cs=vs
 | 0,_,_,_,_,_,_,hk,_,_=>by simp[kindsOf]at hk
 |d+1,t,ks,fuel,cs,x,vs,hk,h,hv=>by
  have ih:=flat_trod d;simp only[kindsOf]at hk;split at hk
  ·rename_i hu;have:∃b,cs=[.bool b]∧x=(.lit (.bool b),[]):=by
    cases fuel with
    |zero=>simp[DataW.trod]at h
    |succ n=>
     unfold DataW.trod at h;grind
   grind [flatD,litVal]
  ·rename_i k hu;obtain⟨n,rfl,rfl,_⟩:=DataW.trod_int hu h;simpa[flatD,litVal]using hv
  ·rename_i hu;obtain⟨s,rfl,rfl,_⟩:=DataW.trod_string hu h;simpa[flatD,litVal]using hv
  ·rename_i fs hu;split at hk
   ·cases hk
   ·split at hk
    ·rename_i ks' hks;split at hk
     ·rename_i hsz;simp only[Option.some.injEq]at hk;subst hk;simp only[beq_iff_eq]at hsz;obtain⟨xs,n,rfl,rfl,hl,hxl,hget⟩:=DataW.trod_struct hu h;simp only[flatD]at hv;have:=flat_fields (P:=P) (cs:=cs) (K:=kindsOf P d) (F:=fun t c=>DataW.trod enc P w base sp held n t c) (fun t ks c x v hk hf hv=>ih t ks n c x v hk hf hv) fs.toList 0 ks' xs vs hks (by simpa using hxl) (fun i f hf=>hget i f (by simpa using hf)) hv
      grind [cellsOf_size]
     ·cases hk
    ·cases hk
  ·rename_i n e hu;split at hk
   ·rename_i ks' hks;split at hk
    ·rename_i hsz;simp only[Bool.and_eq_true,beq_iff_eq]at hsz;obtain⟨xs,m,rfl,rfl,hl,hxl,hget⟩:=DataW.trod_array hu h;simp only[flatD]at hv;rw[cellsOf_size hsz.1]at hget;have:=flat_rows (s:=ks'.length) (cs:=cs) (F:=fun c=>DataW.trod enc P w base sp held m e c) (fun c x v hf hv=>ih e ks' m c x v hks hf hv) xs 0 vs (fun i hi=>by
      grind) hv
     grind [cellsOf_size]
    ·cases hk
   ·cases hk
  ·cases hk
theorem laid_cells{name:String}{d:DataW Unit}{rest:List (String×DataW Unit)}{g t:Nat}{ks:List Kd}{vs:List Value}(hg:P.globalNamed name=some g)(hty:(P.globals[g]?).map (·.type)=some t)(hk:kindsOf P 9 t=some ks)(hv:flatD d=some vs)
 (h:laidMet P ((name,d)::rest) w):w.var? P name=some vs.toArray:=by
 obtain⟨ps,⟨g',t',cs,fuel,p,q,hg',ht',hvar,hd,_,_⟩,_⟩:=h;obtain rfl:=Option.some.inj (hg.symm.trans hg');obtain rfl:=Option.some.inj (hty.symm.trans ht');have:=flat_trod _ _ _ _ _ _ _ hk hd hv;rw[hvar,← this]
theorem globs_one[gl:Globs]{name:String}{g:Nat}{vs:List Value}(hg:P.globalNamed name=some g)(hvar:w.var? P name=some vs.toArray)(h1:vs.all (·.oneCell')=true)(hgl:∀i cs,gl.default.cells i=some cs→i=g∧cs=vs.map .sc):GlobsOk (Gh.bare w) w:=by
 intro i cs hi;obtain⟨rfl,rfl⟩:=hgl i cs hi;refine⟨?_,RC_of fun j x hx=>?_⟩
 ·exact pureL_mem.2 fun x hx=>by
   obtain⟨v,_,rfl⟩:=List.mem_map.1 hx;rfl
 ·rw[List.getElem?_map]at hx;obtain⟨v,hv,rfl⟩:=Option.map_eq_some_iff.1 hx;have hc:=World.var?_cell hg hvar j;rw[List.getElem?_toArray,hv]at hc;have hlt:i<w.heap.size:=by
   apply Decidable.byContradiction;intro hn;simp[World.cell?,Array.getElem?_eq_none (Nat.le_of_not_lt hn)]at hc
  rw[Nat.zero_add];exact⟨hlt,v,hc,List.all_eq_true.1 h1 v (List.mem_of_getElem? hv),by simp[R]⟩
end
end Go.AM
end
section
namespace Go.AM
abbrev Ren:=Nat→Nat→Option (Nat×Nat)
namespace AVal
mutual
def ren(f:Ren):AVal→AVal
 | .sc v=>.sc v
 | .agg cs=>.agg (renL f cs)
 | .tup cs=>.tup (renL f cs)
 | .ptr b ver i o=>match f b ver with
  |some (b',ver')=>.ptr b' ver' i o
  |none=>.junk
 | .cptr cs o=>.cptr cs o
 | .sl b ver sz o n=>match f b ver with
  |some (b',ver')=>.sl b' ver' sz o n
  |none=>.junk
 | .lst rows=>.lst rows
 | .fn g a b=>.fn g (renL f a) (renL f b)
 | .ifc t v=>.ifc t (ren f v)
 | .mp b=>match f b 0 with
  |some (b',0)=>.mp b'
  |_=>.junk
 | .yld b=>match f b 0 with
  |some (b',0)=>.yld b'
  |_=>.junk
 | .sa b ver i o s n=>match f b ver with
  |some (b',ver')=>.sa b' ver' i o s n
  |none=>.junk
 | .glob i o=>.glob i o
 | .emp=>.emp
 | .nz b=>.nz b
 | .junk=>.junk
def renL(f:Ren):List AVal→List AVal
 | []=>[]
 |a::as=>ren f a::renL f as
end
theorem renL_length(f:Ren):∀(l:List AVal),(renL f l).length=l.length
 | []=>rfl
 |_::as=>by simp[renL,renL_length f as]
end AVal
section
variable [Globs] {g g':Gh} {w:World} {f:Ren}
mutual
theorem R_ren(hst:∀k o,g.st k o→g'.st k o)(hf:∀b v b' v' x,f b v=some (b',v')→g.rho b v=some x→g'.rho b' v'=some x):∀(v:AVal) (x:Value),R g w v x→R g' w (v.ren f) x
 | .sc _,x,hr=>by simpa[R,AVal.ren]using hr
 | .agg cs,x,hr=>by
  simp only[R,AVal.ren]at hr ⊢;obtain⟨vs,e,h1,hl⟩:=hr;exact⟨vs,e,h1,RL_ren hst hf cs vs hl⟩
 | .tup cs,x,hr=>by
  simp only[R,AVal.ren]at hr ⊢;obtain⟨vs,e,hl⟩:=hr;exact⟨vs,e,RL_ren hst hf cs vs hl⟩
 | .ptr b ver i o,x,hr=>by
  grind [R,AVal.ren]
 | .cptr cs o,x,hr=>by
  grind [R,AVal.ren,RC_pure]
 | .sl b ver sz o n,x,hr=>by
  grind [R,AVal.ren]
 | .lst rows,x,hr=>by
  simp only[R,AVal.ren]at hr ⊢;obtain⟨a,cap,e,hle,hr⟩:=hr;refine⟨a,cap,e,hle,?_⟩;rcases hr with h0 |⟨k,off,sz,ha,hc⟩
  ·exact .inl h0
  ·exact .inr ⟨k,off,sz,ha,RR_pure hst rows k off sz hc⟩
 | .fn _ a b,x,hr=>by
  simp only[R,AVal.ren]at hr ⊢;obtain⟨va,vb,e,h1,h2⟩:=hr;exact⟨va,vb,e,RL_ren hst hf a va h1,RL_ren hst hf b vb h2⟩
 | .ifc t v,x,hr=>by
  simp only[R,AVal.ren]at hr ⊢;obtain⟨y,e,h1⟩:=hr;exact⟨y,e,R_ren hst hf v y h1⟩
 | .mp b,x,hr=>by
  grind [R,AVal.ren]
 | .yld b,x,hr=>by
  grind [R,AVal.ren]
 | .sa b ver i o s n,x,hr=>by
  grind [R,AVal.ren]
 | .glob i o,x,hr=>by simpa[R,AVal.ren]using hr
 | .emp,x,hr=>by simpa[R,AVal.ren]using hr
 | .nz _,x,hr=>by simpa[R,AVal.ren]using hr
 | .junk,x,_=>by simp[R,AVal.ren]
theorem RL_ren(hst:∀k o,g.st k o→g'.st k o)(hf:∀b v b' v' x,f b v=some (b',v')→g.rho b v=some x→g'.rho b' v'=some x):∀(v:List AVal) (x:List Value),RL g w v x→RL g' w (AVal.renL f v) x
 | [],x,hr=>by simpa[RL,AVal.renL]using hr
 |a::as,x,hr=>by
  simp only[RL,AVal.renL]at hr ⊢;obtain⟨y,ys,e,h1,h2⟩:=hr;exact⟨y,ys,e,R_ren hst hf a y h1,RL_ren hst hf as ys h2⟩
end
def RenB(f:Ren):ABlk→ABlk→Prop
 | .row _ sz rows,.row _ sz' rows'=>sz'=sz∧((rows'=rows∧rows.all AVal.pureL=true)∨rows'=rows.map (AVal.renL f))
 | .map c es,.map c' es'=>c'=c∧((es'=es∧es.all (fun p=>p.1.pure&&p.2.1.pure)=true)∨es'=es.map fun p=>(p.1.ren f,p.2.1.ren f,p.2.2))
 | .loop st pend fid A ps as bd,.loop st' pend' fid' A' ps' as' bd'=>st'=st∧pend'=pend∧fid'=fid∧ps'=ps∧as'=as∧bd'=bd∧A'=AVal.renL f A
 | .defs,.defs=>True
 | .iter m since seen stepped,.iter m' since' seen' stepped'=>since'=since∧seen'=seen∧stepped'=stepped∧m'=m.ren f
 |_,_=>False
structure RenOk(g g':Gh)(H H':List ABlk)(f:Ren):Prop where
 st:g'.st=g.st
 rho:∀b v b' v' x,f b v=some (b',v')→g.rho b v=some x→g'.rho b' v'=some x
 blk:∀(b':Nat) (x':ABlk),H'[b']? =some x'→x'.live=none∨∃b x v v',H[b]? =some x∧x.live=some v∧x'.live=some v'∧f b v=some (b',v')∧g'.rho b' v'=g.rho b v∧RenB f x x'
 fresh:∀b' v,(H'[b']? =some .unborn∨H'.length≤b')→g'.rho b' v=none
 next:∀(b':Nat) (x':ABlk) v v',H'[b']? =some x'→x'.live=some v→v<v'→g'.rho b' v'=none
theorem Good_ren{H H':List ABlk}(h:RenOk g g' H H' f){b b' v v':Nat}{x x':ABlk}(hg:Good g w b x)(hv:x.live=some v)(hv':x'.live=some v')(hr:g'.rho b' v'=g.rho b v)(hb:RenB f x x'):Good g' w b' x':=by
 have hst:∀k o,g.st k o→g'.st k o:=fun k o h'=>by rw[h.st];exact h'
 cases x<;>cases x'<;>simp only[RenB]at hb<;>try exact hb.elim
 case row.row ver sz rows ver' sz' rows'=>
  simp only[ABlk.live,Option.some.injEq]at hv hv';subst hv;subst hv';obtain⟨rfl,hb⟩:=hb;rcases hg with⟨k,c,e,h1,h2,h3,h4,h5⟩ |⟨rfl,h2,h3⟩
  ·rcases hb with⟨rfl,hp⟩ |rfl
   ·refine .inl ⟨k,c,e,hr.trans h1,h2,RowsAt_of _ _ fun j r hj=>?_,h4,h5⟩
    obtain⟨r1,r2⟩:=RowsAt_get _ _ _ _ h3 hj;obtain⟨vs,v1,v2,v3,v4⟩:=RL_of_CellsAt r2;exact⟨r1,CellsAt_of_RL (RL_pure hst _ _ (List.all_eq_true.1 hp r (List.mem_of_getElem? hj)) v3) v2 v4⟩
   ·refine .inl ⟨k,c,e,hr.trans h1,h2,RowsAt_of _ _ fun j r hj=>?_,by simpa using h4,h5⟩
    rw[List.getElem?_map]at hj;obtain⟨r0,hj0,rfl⟩:=Option.map_eq_some_iff.1 hj;obtain⟨r1,r2⟩:=RowsAt_get _ _ _ _ h3 hj0;obtain⟨vs,v1,v2,v3,v4⟩:=RL_of_CellsAt r2;exact⟨by rw[AVal.renL_length,r1],CellsAt_of_RL (RL_ren hst h.rho _ _ v3) v2 v4⟩
  ·rcases hb with⟨rfl,_⟩ |rfl
   ·exact .inr ⟨rfl,hr.trans h2,h3⟩
   ·exact .inr ⟨rfl,hr.trans h2,h3⟩
 case map.map c es c' es'=>
  simp only[ABlk.live,Option.some.injEq]at hv hv';subst hv;subst hv';obtain⟨rfl,hb⟩:=hb;obtain⟨k,ents,h1,h2,h3⟩:=hg;refine⟨k,ents,hr.trans h1,h2,?_⟩;grind [EntsAt_get,EntsAt_of,R_pure,R_ren,h.rho]
 case loop.loop=>
  simp only[ABlk.live,Option.some.injEq]at hv hv';subst hv;subst hv';obtain⟨rfl,rfl,rfl,rfl,rfl,rfl,rfl⟩:=hb;obtain⟨k,tmps,dk,fn,h1,h2,h3⟩:=hg;exact⟨k,tmps,dk,fn,hr.trans h1,h2,RL_ren hst h.rho _ _ h3⟩
 case iter.iter=>
  simp only[ABlk.live,Option.some.injEq]at hv hv';subst hv;subst hv';obtain⟨rfl,rfl,rfl,rfl⟩:=hb;obtain⟨k,mo,h1,h2,h3⟩:=hg;exact⟨k,mo,hr.trans h1,h2,R_ren hst h.rho _ _ h3⟩
 case defs.defs=>
  simp only[ABlk.live,Option.some.injEq]at hv hv';subst hv;subst hv';obtain⟨k,h1,h2⟩:=hg;exact⟨k,hr.trans h1,h2⟩
theorem Inv.ren{H H':List ABlk}(hi:Inv g H w)(h:RenOk g g' H H' f):Inv g' H' w:=by
 have hst:∀k o,g.st k o→g'.st k o:=fun k o h'=>by rw[h.st];exact h'
 refine⟨?_,?_,h.fresh,h.next,?_,?_,hi.globs.st hst⟩
 ·intro b' x' hb';rcases h.blk b' x' hb' with hl |⟨b,x,v,v',h1,h2,h3,h4,h5,h6⟩
  ·cases x'<;>simp[ABlk.live]at hl<;>trivial
  ·exact Good_ren h (hi.good b x h1) h2 h3 h5 h6
 ·intro b1 b2 x1 x2 v1 v2 k z1 z2 hb1 hb2 l1 l2 k1 k2;rcases h.blk b1 x1 hb1 with hl |⟨c1,y1,u1,u1',p1,p2,p3,p4,p5,p6⟩
  ·rw[l1]at hl;cases hl
  ·rcases h.blk b2 x2 hb2 with hl |⟨c2,y2,u2,u2',q1,q2,q3,q4,q5,q6⟩
   ·rw[l2]at hl;cases hl
   ·rw[l1]at p3;cases p3;rw[l2]at q3;cases q3;rw[p5]at k1;rw[q5]at k2;have:=hi.inj c1 c2 y1 y2 u1 u2 k z1 z2 p1 q1 p2 q2 k1 k2;grind
 ·intro b' x' v k z o hb' hl hk hs;rcases h.blk b' x' hb' with hl' |⟨b,x,u,u',p1,p2,p3,p4,p5,p6⟩
  ·rw[hl]at hl';cases hl'
  ·rw[hl]at p3;cases p3;rw[p5]at hk;rw[h.st]at hs;exact hi.free b x u k z o p1 p2 hk hs
 ·intro k o hs;rw[h.st]at hs;exact hi.stold k o hs
end
def Weak[Globs](H0:List ABlk)(s s':St):Prop:=
 ∀(g0:Gh) (w0:World) (g:Gh) (a:Act) (w:World),Inv g0 H0 w0→Later g0 H0 w0 g s.H w→Sim g s a w→∃g',Sim g' s' a w∧Later g0 H0 w0 g' s'.H w
theorem Weak.refl[Globs](H0:List ABlk)(s:St):Weak H0 s s:=fun _ _ g _ _ _ hl hs=>⟨g,hs,hl⟩
theorem Weak.trans[Globs]{H0:List ABlk}{s s1 s2:St}(h:Weak H0 s s1)(h':Weak H0 s1 s2):Weak H0 s s2:=fun g0 w0 g a w hi hl hs=>
 let⟨g1,hs1,hl1⟩:=h g0 w0 g a w hi hl hs
 h' g0 w0 g1 a w hi hl1 hs1
def ABlk.rowVer:ABlk→Option Nat
 | .row v _ _=>some v
 |_=>none
def pureBlk:ABlk→Bool
 | .row _ _ rows=>rows.all AVal.pureL
 | .map _ es=>es.all fun p=>p.1.pure&&p.2.1.pure
 |_=>true
def PuOk(pu:List Nat)(H:List ABlk):Prop:=∀b∈pu,∀x,H[b]? =some x→pureBlk x=true
def idxIn(b:Nat):List Nat→Nat→Option Nat
 | [],_=>none
 |c::cs,j=>match c==b with
  |true=>some j
  |false=>idxIn b cs (j+1)
def nodupB:List Nat→Bool
 | []=>true
 |c::cs=> !cs.contains c&&nodupB cs
def bumpOf(bump:List Nat)(H0 H:List ABlk)(b:Nat):Option (Nat×Nat):=
 match bump.contains b with
 |true=>match(H0[b]?).bind ABlk.rowVer,(H[b]?).bind ABlk.rowVer with
  |some v0,some v1=>some (v0,v1)
  |_,_=>none
 |false=>none
def oldB(H0:List ABlk)(b:Nat):Bool:=match H0[b]? with
 |some .unborn=>false
 |some _=>true
 |none=>false
theorem oldB_lt{H0:List ABlk}{b:Nat}(h:oldB H0 b=true):b<H0.length:=by
 grind [oldB]
theorem oldB_fresh{H0:List ABlk}{b:Nat}(h:oldB H0 b=false):H0[b]? =some .unborn∨H0.length≤b:=by
 grind [oldB]
def cutR(bl bump:List Nat)(H0 H:List ABlk):Ren:=fun b v=>
 match oldB H0 b with
 |true=>match bumpOf bump H0 H b with
  |some (v0,v1)=>if v=v1 then some (b,v0+1)else none
  |none=>some (b,v)
 |false=>match idxIn b bl 0 with
  |some j=>if(H[b]?).bind ABlk.live=some v then some (H0.length+j,0)else none
  |none=>none
def renBlk(f:Ren)(p:Bool)(v':Option Nat):ABlk→ABlk
 | .row v sz rows=>.row (v'.getD v) sz (match p with |true=>rows |false=>rows.map (AVal.renL f))
 | .map c es=>.map c (match p with |true=>es |false=>es.map fun p=>(p.1.ren f,p.2.1.ren f,p.2.2))
 | .loop st pend fid A ps as bd=>.loop st pend fid (AVal.renL f A) ps as bd
 | .iter m since seen stepped=>.iter (m.ren f) since seen stepped
 |x=>x
def renBlks(f:Ren)(pu bump:List Nat)(H0 H:List ABlk):Nat→List ABlk→List ABlk
 |_,[]=>[]
 |b,x::xs=>(match oldB H0 b with |true=>renBlk f (pu.contains b) ((bumpOf bump H0 H b).map (·.1+1)) x |false=>.unborn)::renBlks f pu bump H0 H (b+1) xs
def renD(f:Ren):List DefA→Option (List DefA)
 | []=>some []
 | .call h args::ds=>(renD f ds).map (.call h (AVal.renL f args):: ·)
 | .mark b::ds=>if f b 0=some (b,0)then(renD f ds).map (.mark b:: ·)else none
def cutS(bl bump pu:List Nat)(H0:List ABlk)(s:St):Option St:=
 match nodupB bl&&bl.all (fun b=> !oldB H0 b&&decide (b<s.H.length))with
 |true=>match renD (cutR bl bump H0 s.H) s.D with
  |some D=>some ⟨AVal.renL (cutR bl bump H0 s.H) s.A,renBlks (cutR bl bump H0 s.H) pu bump H0 s.H 0 (s.H.take H0.length)++bl.map (fun b=>renBlk (cutR bl bump H0 s.H) (pu.contains b) (some 0) (s.H.getD b .dead)),D⟩
  |none=>none
 |false=>none
theorem idxIn_get:∀{bl:List Nat} {b i j:Nat},idxIn b bl i=some j→i≤j∧bl[j - i]? =some b
 | [],b,i,j,h=>by simp[idxIn]at h
 |c::cs,b,i,j,h=>by
  simp only[idxIn]at h;split at h
  ·grind
  ·obtain⟨h1,h2⟩:=idxIn_get h;grind
theorem idxIn_nodup:∀{bl:List Nat} {b j:Nat} (i:Nat),nodupB bl=true→bl[j]? =some b→idxIn b bl i=some (i+j)
 | [],b,j,i,_,h=>by simp at h
 |c::cs,b,0,i,_,h=>by simp at h;subst h;simp[idxIn]
 |c::cs,b,j+1,i,hn,h=>by
  simp only[nodupB,Bool.and_eq_true,Bool.not_eq_true']at hn;simp only[List.getElem?_cons_succ]at h;have hne:(c==b)=false:=by
   apply beq_false_of_ne;rintro rfl;have:=List.mem_of_getElem? h;simp[this]at hn
  simp only[idxIn,hne];rw[idxIn_nodup (i+1) hn.2 h,show i+1+j=i+(j+1)by omega]
theorem renBlks_get(f:Ren)(pu bump:List Nat)(H0 H:List ABlk):∀(l:List ABlk) (b j:Nat),(renBlks f pu bump H0 H b l)[j]? =(l[j]?).map fun x=>match oldB H0 (b+j)with |true=>renBlk f (pu.contains (b+j)) ((bumpOf bump H0 H (b+j)).map (·.1+1)) x |false=>.unborn
 | [],b,j=>by simp[renBlks]
 |x::xs,b,0=>by simp[renBlks]
 |x::xs,b,j+1=>by
  simp only[renBlks,List.getElem?_cons_succ];rw[renBlks_get f pu bump H0 H xs (b+1) j,show b+1+j=b+(j+1)by omega]
theorem renBlk_live(f:Ren)(p:Bool)(v':Option Nat)(x:ABlk):(renBlk f p v' x).live=match x with | .row v _ _=>some (v'.getD v) |x=>x.live:=by cases x<;>rfl
theorem renBlk_ren(f:Ren)(p:Bool)(v':Option Nat){x:ABlk}(hp:p=true→pureBlk x=true)(hl:x.live≠none):RenB f x (renBlk f p v' x):=by
 cases x with
 |row v sz rows=>
  refine⟨rfl,?_⟩;cases p with
  |true=>exact .inl ⟨rfl,hp rfl⟩
  |false=>exact .inr rfl
 |map c es=>
  refine⟨rfl,?_⟩;cases p with
  |true=>exact .inl ⟨rfl,hp rfl⟩
  |false=>exact .inr rfl
 |loop=>exact⟨rfl,rfl,rfl,rfl,rfl,rfl,rfl⟩
 |defs=>trivial
 |iter=>exact⟨rfl,rfl,rfl,rfl⟩
 |unborn=>exact absurd rfl hl
 |dead=>exact absurd rfl hl
def cutG(bl bump:List Nat)(H0 H:List ABlk)(g:Gh):Gh:=
 {rho:=fun b v=>match decide (b<H0.length)with
  |true=>match oldB H0 b with
   |true=>match bumpOf bump H0 H b with
    |some (v0,v1)=>if v≤v0 then g.rho b v else if v=v0+1 then g.rho b v1 else none
    |none=>g.rho b v
   |false=>none
  |false=>match bl[b - H0.length]? with
   |some c=>if v=0 then(match(H[c]?).bind ABlk.live with |some u=>g.rho c u |none=>none)else none
   |none=>none
  st:=g.st}
theorem rowVer_live{x:ABlk}{v:Nat}(h:x.rowVer=some v):x.live=some v:=by cases x<;>simp[ABlk.rowVer]at h<;>simp[ABlk.live,h]
theorem bumpOf_some{bump:List Nat}{H0 H:List ABlk}{b v0 v1:Nat}(h:bumpOf bump H0 H b=some (v0,v1)):(∃x0,H0[b]? =some x0∧x0.rowVer=some v0)∧∃x1,H[b]? =some x1∧x1.rowVer=some v1:=by
 grind [bumpOf]
theorem cut_weak[Globs]{bl bump pu:List Nat}{H0:List ABlk}{s s':St}(hpu:PuOk pu s.H)(h:cutS bl bump pu H0 s=some s'):Weak H0 s s':=by
 intro g0 w0 g a w hi0 hl hs;unfold cutS at h;split at h
 ·rename_i hc;simp only[Bool.and_eq_true,List.all_eq_true,decide_eq_true_eq,Bool.not_eq_true']at hc;obtain⟨hnd,hbl⟩:=hc;split at h
  ·rename_i D hD;simp only[Option.some.injEq]at h;subst h;have hlen:H0.length≤s.H.length:=hl.len;have htl:(s.H.take H0.length).length=H0.length:=by simp;omega
   have hrl:(renBlks (cutR bl bump H0 s.H) pu bump H0 s.H 0 (s.H.take H0.length)).length=H0.length:=by
    have:∀(l:List ABlk) (b:Nat),(renBlks (cutR bl bump H0 s.H) pu bump H0 s.H b l).length=l.length:=by
     intro l;induction l with
     |nil=>intro b;rfl
     |cons x xs ih=>intro b;simp[renBlks,ih]
    rw[this,htl]
   have side:∀(b':Nat) (x':ABlk),(renBlks (cutR bl bump H0 s.H) pu bump H0 s.H 0 (s.H.take H0.length)++bl.map (fun b=>renBlk (cutR bl bump H0 s.H) (pu.contains b) (some 0) (s.H.getD b .dead)))[b']? =some x'→
    (b'<H0.length∧oldB H0 b'=true∧∃x,s.H[b']? =some x∧x'=renBlk (cutR bl bump H0 s.H) (pu.contains b') ((bumpOf bump H0 s.H b').map (·.1+1)) x)∨
    (b'<H0.length∧oldB H0 b'=false∧x'=.unborn)∨
    (H0.length≤b'∧∃b x,bl[b' - H0.length]? =some b∧s.H[b]? =some x∧x'=renBlk (cutR bl bump H0 s.H) (pu.contains b) (some 0) x):=by
    intro b' x' hx;by_cases hb:b'<H0.length
    ·grind [renBlks_get,oldB]
    ·grind
   have hpure:∀b x,s.H[b]? =some x→pu.contains b=true→pureBlk x=true:=fun b x hx hc=>hpu b (by simpa using hc) x hx
   have ok:RenOk g (cutG bl bump H0 s.H g) s.H (renBlks (cutR bl bump H0 s.H) pu bump H0 s.H 0 (s.H.take H0.length)++bl.map (fun b=>renBlk (cutR bl bump H0 s.H) (pu.contains b) (some 0) (s.H.getD b .dead))) (cutR bl bump H0 s.H):=by
    refine⟨rfl,?_,?_,?_,?_⟩
    ·intro b v b' v' x hf hr;unfold cutR at hf;split at hf
     ·grind [oldB_lt,cutG]
     ·rename_i hlt;split at hf
      ·rename_i j hj;split at hf
       ·rename_i hv;simp only[Option.some.injEq,Prod.mk.injEq]at hf;obtain⟨rfl,rfl⟩:=hf;obtain⟨_,hj⟩:=idxIn_get hj;have h1:decide (H0.length+j<H0.length)=false:=by simp
        simp only[cutG,h1,Nat.add_sub_cancel_left];grind
       ·cases hf
      ·cases hf
    ·intro b' x' hx;rcases side b' x' hx with⟨hlt,hold,x,h1,rfl⟩ |⟨_,_,rfl⟩ |⟨hge,b,x,h1,h2,rfl⟩
     ·by_cases hlv:x.live=none
      ·grind [renBlk_live,ABlk.live]
      ·right;obtain⟨v,hv⟩:=Option.ne_none_iff_exists'.1 hlv;have hlt':decide (b'<H0.length)=true:=by simpa using hlt
       cases hbu:bumpOf bump H0 s.H b' with
       |none=>
        refine⟨b',x,v,v,h1,hv,?_,by simp only[cutR,hold,hbu],by simp only[cutG,hlt',hold,hbu],renBlk_ren _ _ _ (hpure _ _ h1) hlv⟩
        grind [renBlk_live,ABlk.live]
       |some p=>
        obtain⟨v0,v1⟩:=p;obtain⟨_,x1,q1,q2⟩:=bumpOf_some hbu;rw[h1]at q1;cases q1;have:v=v1:=by rw[rowVer_live q2]at hv;cases hv;rfl
        subst this;refine⟨b',x,v,v0+1,h1,hv,?_,by simp only[cutR,hold,hbu,if_true],?_,renBlk_ren _ _ _ (hpure _ _ h1) hlv⟩
        ·grind [renBlk_live,ABlk.rowVer]
        grind [cutG]
     ·exact .inl rfl
     ·by_cases hlv:x.live=none
      ·grind [renBlk_live,ABlk.live]
      ·right;obtain⟨v,hv⟩:=Option.ne_none_iff_exists'.1 hlv;have hbge:=(hbl b (List.mem_of_getElem? h1)).1;have hlt2:decide (b'<H0.length)=false:=by simp;omega
       refine⟨b,x,v,0,h2,hv,?_,?_,?_,renBlk_ren _ _ _ (hpure _ _ h2) hlv⟩
       ·rw[renBlk_live];cases x<;>simp[ABlk.live]at hv ⊢
       ·simp only[cutR,hbge,idxIn_nodup 0 hnd h1,Nat.zero_add];grind
       grind [cutG]
    ·intro b' v hb;rcases hb with hb |hb
     ·rcases side b' _ hb with⟨hlt,hold,x,h1,hx⟩ |⟨hlt,hold,_⟩ |⟨hge,b,x,h1,h2,hx⟩
      ·have hx':x=.unborn:=by cases x<;>simp[renBlk]at hx;rfl
       subst hx';have hlt':decide (b'<H0.length)=true:=by simpa using hlt
       have hbu:bumpOf bump H0 s.H b'=none:=by
        cases hbu:bumpOf bump H0 s.H b' with
        |none=>rfl
        |some p=>
         grind [bumpOf_some,ABlk.rowVer]
       simp only[cutG,hlt',hold,hbu];exact hs.inv.fresh b' v (.inl h1)
      ·grind [cutG]
      ·have hx':x=.unborn:=by cases x<;>simp[renBlk]at hx;rfl
       grind [cutG,ABlk.live]
     grind [cutG]
    ·intro b' x' v v' hx hv hlt;rcases side b' x' hx with⟨hlb,hold,x,h1,rfl⟩ |⟨_,_,rfl⟩ |⟨hge,b,x,h1,h2,rfl⟩
     ·have hlt':decide (b'<H0.length)=true:=by simpa using hlb
      rw[renBlk_live]at hv;cases hbu:bumpOf bump H0 s.H b' with
      |none=>
       simp only[cutG,hlt',hold,hbu];rw[hbu]at hv;refine hs.inv.next b' x v v' h1 ?_ hlt;grind [ABlk.live]
      |some p=>
       grind [bumpOf_some,cutG,ABlk.rowVer]
     ·cases hv
     grind [cutG]
   refine⟨cutG bl bump H0 s.H g,⟨hs.inv.ren ok,RL_ren (g:=g) (g':=cutG bl bump H0 s.H g) (fun _ _ h=>h) ok.rho _ _ hs.tmps,?_⟩,?_⟩
   ·have key:∀(l l':List DefA) (ds:List Deferred),renD (cutR bl bump H0 s.H) l=some l'→RD g w l ds→RD (cutG bl bump H0 s.H g) w l' ds:=by
     intro l;induction l with
     |nil=>intro l' ds h hd;simp[renD]at h;subst h;exact hd
     |cons d l ih=>
      intro l' ds h hd;obtain⟨d',ds',rfl,h1,h2⟩:=hd;cases d with
      |call f args=>
       simp only[renD,Option.map_eq_some_iff]at h;obtain⟨l2,h,rfl⟩:=h;obtain⟨cap,t1,t2⟩:=h1;exact⟨d',ds',rfl,⟨cap,t1,RL_ren (g:=g) (g':=cutG bl bump H0 s.H g) (fun _ _ h=>h) ok.rho _ _ t2⟩,ih _ _ h h2⟩
      |mark b=>
       simp only[renD]at h;split at h
       ·rename_i hb;obtain⟨l2,h0,rfl⟩:=Option.map_eq_some_iff.1 h;obtain⟨k,sz,t1,t2⟩:=h1;exact⟨d',ds',rfl,⟨k,sz,ok.rho _ _ _ _ _ hb t1,t2⟩,ih _ _ h0 h2⟩
       ·cases h
    exact key _ _ _ hD hs.defs
   ·refine⟨⟨?_,hl.ext.st,hl.ext.cell,hl.ext.shape⟩,hl.size,hl.keep,?_,by simp[hrl],hl.os,hl.tape,hl.output,fun k o hk hs=>?_,?_,?_⟩
    ·intro b v x hx;have hold:oldB H0 b=true:=by
      cases ho:oldB H0 b with
      |true=>rfl
      |false=>rw[hi0.fresh b v (oldB_fresh ho)]at hx;cases hx
     have hlt':decide (b<H0.length)=true:=by simpa using oldB_lt hold
     cases hbu:bumpOf bump H0 s.H b with
     |none=>simp only[cutG,hlt',hold,hbu];exact hl.ext.rho b v x hx
     |some p=>
      obtain⟨v0,v1⟩:=p;obtain⟨⟨x0,q1,q2⟩,_⟩:=bumpOf_some hbu;simp only[cutG,hlt',hold,hbu];have:v≤v0:=by
       apply Decidable.byContradiction;intro hn;rw[hi0.next b x0 v0 v q1 (rowVer_live q2) (by omega)]at hx;cases hx
      rw[if_pos this];exact hl.ext.rho b v x hx
    ·rintro k hk ⟨b',x',v',z,h1,h2,h3⟩;rcases ok.blk b' x' h1 with hn |⟨b,x,v,v2,p1,p2,p3,p4,p5,p6⟩
     ·rw[h2]at hn;cases hn
     ·rw[h2]at p3;cases p3;rw[p5]at h3;exact hl.own k hk ⟨b,x,v,z,p1,p2,h3⟩
    ·rcases hl.stk k o hk hs with h1 |⟨h1,h2⟩
     ·exact .inl h1
     ·refine .inr ⟨h1,?_⟩;rintro⟨b',x',v',z,q1,q2,q3⟩;rcases ok.blk b' x' q1 with hn |⟨b,x,v,v2,p1,p2,p3,p4,p5,p6⟩
      ·rw[q2]at hn;cases hn
      ·rw[q2]at p3;cases p3;rw[p5]at q3;exact h2 ⟨b,x,v,z,p1,p2,q3⟩
    ·intro b hb;have hlt:b<H0.length:=(List.getElem?_eq_some_iff.1 hb).1;have hlt':decide (b<H0.length)=true:=by simpa using hlt
     obtain⟨d1,d2⟩:=hl.deadk b hb;have hbu:bumpOf bump H0 s.H b=none:=by
      cases hbu:bumpOf bump H0 s.H b with
      |none=>rfl
      |some p=>
       grind [bumpOf_some,ABlk.rowVer]
     have hold:oldB H0 b=true:=by simp[oldB,hb]
     refine⟨?_,fun ver=>by grind [cutG]⟩
     rw[List.getElem?_append_left (by omega),renBlks_get,Nat.zero_add,List.getElem?_take,if_pos hlt,d1]
     simp only[Option.map_some,hold];rfl
    ·intro b' v' k z hr;simp only[cutG]at hr;split at hr
     ·split at hr
      ·split at hr
       ·split at hr
        ·exact hl.newk b' _ k z hr
        ·split at hr
         ·exact hl.newk b' _ k z hr
         ·cases hr
       ·exact hl.newk b' _ k z hr
      ·cases hr
     ·split at hr
      ·rename_i c hcb;split at hr
       ·split at hr
        ·rcases hl.newk c _ k z hr with⟨u,z',hu⟩ |hn
         ·have:=(hbl c (List.mem_of_getElem? hcb)).1;rw[hi0.fresh c u (oldB_fresh this)]at hu;cases hu
         ·exact .inr hn
        ·cases hr
       ·cases hr
      ·cases hr
  ·cases h
 ·cases h
def wkV:AVal→AVal
 | .sc (.slice none 0 0)=>.lst []
 | .emp=>.lst []
 | .nz _=>.lst []
 |v=>v
mutual
def wkD:AVal→AVal
 | .sc v=>wkV (.sc v)
 | .emp=>.lst []
 | .nz _=>.lst []
 | .agg cs=>.agg (wkL cs)
 | .tup cs=>.tup (wkL cs)
 | .fn f a b=>.fn f (wkL a) (wkL b)
 | .ifc t v=>.ifc t v
 | .cptr cs o=>.cptr (wkL cs) o
 |v=>v
def wkL:List AVal→List AVal
 | []=>[]
 |a::as=>wkD a::wkL as
end
section
variable [Globs] {g:Gh} {w:World}
theorem R_wkV{v:AVal}{x:Value}(h:R g w v x):R g w (wkV v) x:=by
 unfold wkV;grind [R_sc,R]
mutual
theorem wkD_pure:∀(v:AVal),v.pure=true→(wkD v).pure=true
 | .sc v,h=>by
  simp only[wkD,wkV];split<;>simp_all [AVal.pure]
 | .emp,_=>by simp[wkD,AVal.pure]
 | .nz _,_=>by simp[wkD,AVal.pure]
 | .agg cs,h=>by simp only[AVal.pure]at h;simp only[wkD,AVal.pure,wkL_pure cs h]
 | .tup cs,h=>by simp only[AVal.pure]at h;simp only[wkD,AVal.pure,wkL_pure cs h]
 | .fn f a b,h=>by simp only[AVal.pure,Bool.and_eq_true]at h;simp only[wkD,AVal.pure,wkL_pure a h.1,wkL_pure b h.2,Bool.and_self]
 | .ifc t v,h=>by simpa only[wkD]using h
 | .cptr cs o,_=>by simp[wkD,AVal.pure]
 | .ptr ..,h=>by simpa only[wkD]using h
 | .sl ..,h=>by simpa only[wkD]using h
 | .lst _,h=>by simpa only[wkD]using h
 | .mp _,h=>by simpa only[wkD]using h
 | .yld _,h=>by simpa only[wkD]using h
 | .sa ..,h=>by simpa only[wkD]using h
 | .glob ..,h=>by simpa only[wkD]using h
 | .junk,h=>by simpa only[wkD]using h
theorem wkL_pure:∀(l:List AVal),AVal.pureL l=true→AVal.pureL (wkL l)=true
 | [],_=>rfl
 |a::as,h=>by simp only[AVal.pureL,Bool.and_eq_true]at h;simp only[wkL,AVal.pureL,wkD_pure a h.1,wkL_pure as h.2,Bool.and_self]
end
mutual
theorem R_wkD:∀(v:AVal) (x:Value),R g w v x→R g w (wkD v) x
 | .sc v,x,h=>by simp only[wkD];exact R_wkV h
 | .emp,x,h=>by simp only[wkD];exact R_wkV (v:=.emp) h
 | .nz b,x,h=>by simp only[wkD];exact R_wkV (v:=.nz b) h
 | .agg cs,x,h=>by
  simp only[wkD,R]at h ⊢;obtain⟨vs,e,h1,hl⟩:=h;exact⟨vs,e,h1,RL_wkL cs vs hl⟩
 | .tup cs,x,h=>by
  simp only[wkD,R]at h ⊢;obtain⟨vs,e,hl⟩:=h;exact⟨vs,e,RL_wkL cs vs hl⟩
 | .fn f a b,x,h=>by
  simp only[wkD,R]at h ⊢;obtain⟨va,vb,e,h1,h2⟩:=h;exact⟨va,vb,e,RL_wkL a va h1,RL_wkL b vb h2⟩
 | .ifc t v,x,h=>by simpa only[wkD]using h
 | .cptr cs o,x,h=>by
  simp only[wkD,R]at h ⊢;obtain⟨k,off,e,hp,hc⟩:=h;exact⟨k,off,e,wkL_pure cs hp,RC_wkL cs k off hc⟩
 | .ptr ..,x,h=>by simpa only[wkD]using h
 | .sl ..,x,h=>by simpa only[wkD]using h
 | .lst _,x,h=>by simpa only[wkD]using h
 | .mp _,x,h=>by simpa only[wkD]using h
 | .yld _,x,h=>by simpa only[wkD]using h
 | .sa ..,x,h=>by simpa only[wkD]using h
 | .glob ..,x,h=>by simpa only[wkD]using h
 | .junk,x,h=>by simpa only[wkD]using h
theorem RL_wkL:∀(l:List AVal) (vs:List Value),RL g w l vs→RL g w (wkL l) vs
 | [],vs,h=>by simpa only[wkL]using h
 |a::as,vs,h=>by
  simp only[wkL,RL]at h ⊢;obtain⟨y,ys,e,h1,h2⟩:=h;exact⟨y,ys,e,R_wkD a y h1,RL_wkL as ys h2⟩
theorem RC_wkL:∀(l:List AVal) (k o:Nat),RC g w l k o→RC g w (wkL l) k o
 | [],k,o,h=>by simpa only[wkL]using h
 |a::as,k,o,h=>by
  simp only[wkL,RC]at h ⊢;obtain⟨⟨hs,y,hy,ho,hr⟩,h2⟩:=h;exact⟨⟨hs,y,hy,ho,R_wkD a y hr⟩,RC_wkL as k (o+1) h2⟩
end
theorem RL_set1{A:List AVal}{vs:List Value}{d:Nat}{v v':AVal}(h:RL g w A vs)(hd:A[d]? =some v)(hv:∀x,R g w v x→R g w v' x):RL g w (A.set d v') vs:=by
 grind [RL_get,RL_of]
theorem Inv.recell{H:List ABlk}(hi:Inv g H w){b ver sz i j:Nat}{rows:List (List AVal)}{cs:List AVal}{v v':AVal}(hb:H[b]? =some (.row ver sz rows))(hcs:rows[i]? =some cs)(hj:cs[j]? =some v)(hv:∀x,R g w v x→R g w v' x):
 Inv g (H.set b (.row ver sz (rows.set i (cs.set j v')))) w∧Later g H w g (H.set b (.row ver sz (rows.set i (cs.set j v')))) w:=by
 have hlt:b<H.length:=(List.getElem?_eq_some_iff.1 hb).1;have f:∀(b':Nat) (x':ABlk) (v1:Nat),(H.set b (.row ver sz (rows.set i (cs.set j v'))))[b']? =some x'→x'.live=some v1→∃x1,H[b']? =some x1∧x1.live=some v1:=by
  intro b' x' v1 h hl;rcases getElem?_setB h with⟨rfl,he,_⟩ |⟨_,h⟩
  ·subst he;exact⟨_,hb,hl⟩
  ·exact⟨x',h,hl⟩
 refine⟨⟨?_,?_,?_,?_,?_,hi.stold,hi.globs⟩,⟨Ext.refl g w,Nat.le_refl _,fun _ _ _=>rfl,?_,by simp,rfl,⟨rfl,Nat.le_refl _⟩,rfl,fun _ _ _ h=>.inl h,?_,fun _ ver _ z h=>.inl ⟨ver,z,h⟩⟩⟩
 ·intro b' x h;rcases getElem?_setB h with⟨rfl,he,_⟩ |⟨hne,h⟩
  ·subst he;rcases hi.good _ _ hb with⟨k,c,e,h1,h2,h3,h4,h5⟩ |⟨h1,_⟩
   ·refine .inl ⟨k,c,e,h1,h2,RowsAt_of _ _ fun i' r hi'=>?_,by simpa using h4,h5⟩
    by_cases hii:i=i'
    ·subst hii;have hil:i<rows.length:=(List.getElem?_eq_some_iff.1 hcs).1;rw[List.getElem?_set_self hil]at hi';cases hi';obtain⟨r1,r2⟩:=RowsAt_get _ _ _ _ h3 hcs;obtain⟨vs,v1,v2,v3,v4⟩:=RL_of_CellsAt r2;exact⟨by simpa using r1,CellsAt_of_RL (RL_set1 v3 hj hv) v2 v4⟩
    ·rw[List.getElem?_set_ne hii]at hi';exact RowsAt_get _ _ _ _ h3 hi'
   ·subst h1;simp at hcs
  ·exact hi.good b' x h
 ·intro b1 b2 x1 x2 v1 v2 k z1 z2 h1 h2 l1 l2 k1 k2;obtain⟨y1,p1,p2⟩:=f _ _ _ h1 l1;obtain⟨y2,q1,q2⟩:=f _ _ _ h2 l2;exact hi.inj b1 b2 y1 y2 v1 v2 k z1 z2 p1 q1 p2 q2 k1 k2
 ·intro b' v h;rcases h with h |h
  ·rcases getElem?_setB h with⟨rfl,he,_⟩ |⟨_,h⟩
   ·cases he
   ·exact hi.fresh b' v (.inl h)
  ·exact hi.fresh b' v (.inr (by simpa using h))
 ·intro b' x v v' h hl hv;obtain⟨y1,p1,p2⟩:=f _ _ _ h hl;exact hi.next b' y1 v v' p1 p2 hv
 ·intro b' x v k z o h hl hk;obtain⟨y1,p1,p2⟩:=f _ _ _ h hl;exact hi.free b' y1 v k z o p1 p2 hk
 ·rintro k _ ⟨b',x,v,z,h,hl,hz⟩;obtain⟨y1,p1,p2⟩:=f _ _ _ h hl;exact⟨b',y1,v,z,p1,p2,hz⟩
 grind
end
inductive Pl where
 |s (d:Nat)
 |c (d j:Nat)
 |b (b j:Nat)
def getP(s:St):Pl→Option AVal
 | .s d=>s.A[d]?
 | .c d j=>match s.A[d]? with
  |some (.ptr b ver i o)=>match s.H[b]? with
   |some (.row v _ rows)=>match decide (v=ver)with
    |true=>(rows[i]?).bind fun cs=>cs[o+j]?
    |false=>none
   |_=>none
  |_=>none
 | .b b j=>match s.H[b]? with
  |some (.row _ _ rows)=>(rows[0]?).bind fun cs=>cs[j]?
  |_=>none
def setP(s:St)(v':AVal):Pl→St
 | .s d=>{s with A:=s.A.set d v'}
 | .c d j=>match s.A[d]? with
  |some (.ptr b _ i o)=>match s.H[b]? with
   |some (.row v sz rows)=>{s with H:=s.H.set b (.row v sz (rows.set i ((rows.getD i []).set (o+j) v')))}
   |_=>s
  |_=>s
 | .b b j=>match s.H[b]? with
  |some (.row v sz rows)=>{s with H:=s.H.set b (.row v sz (rows.set 0 ((rows.getD 0 []).set j v')))}
  |_=>s
theorem setP_sound[Globs]{s:St}{p:Pl}{v v':AVal}(hp:getP s p=some v){g:Gh}{a:Act}{w:World}(hs:Sim g s a w)(hv:∀x,R g w v x→R g w v' x):Sim g (setP s v' p) a w∧Later g s.H w g (setP s v' p).H w:=by
 cases p with
 |s d=>exact⟨⟨hs.inv,RL_set1 hs.tmps hp hv,hs.defs⟩,Later.refl _ _ _⟩
 |c d j=>
  simp only[getP]at hp;split at hp
  ·rename_i b ver i o hd;split at hp
   ·rename_i v0 sz rows hb;split at hp
    ·obtain⟨cs,h1,h2⟩:=Option.bind_eq_some_iff.1 hp;obtain⟨i1,i2⟩:=hs.inv.recell hb h1 h2 hv;have hgd:rows.getD i []=cs:=by rw[List.getD_eq_getElem?_getD,h1];rfl
     simp only[setP,hd,hb,hgd];exact⟨⟨i1,RL_mono i2.ext _ _ hs.tmps,RD_mono i2.ext _ _ hs.defs⟩,i2⟩
    ·cases hp
   ·cases hp
  ·cases hp
 |b b j=>
  simp only[getP]at hp;split at hp
  ·rename_i v0 sz rows hb;obtain⟨cs,h1,h2⟩:=Option.bind_eq_some_iff.1 hp;obtain⟨i1,i2⟩:=hs.inv.recell hb h1 h2 hv;have hgd:rows.getD 0 []=cs:=by rw[List.getD_eq_getElem?_getD,h1];rfl
   simp only[setP,hb,hgd];exact⟨⟨i1,RL_mono i2.ext _ _ hs.tmps,RD_mono i2.ext _ _ hs.defs⟩,i2⟩
  ·cases hp
def wkS(s:St)(p:Pl):Option St:=match getP s p with
 |some v=>some (setP s (wkV v) p)
 |none=>none
theorem wkS_weak[Globs]{H0:List ABlk}{s s':St}{p:Pl}(h:wkS s p=some s'):Weak H0 s s':=by
 unfold wkS at h;split at h
 ·rename_i v hv;simp only[Option.some.injEq]at h;subst h;intro g0 w0 g a w _ hl hs;obtain⟨h1,h2⟩:=setP_sound hv hs fun _=>R_wkV
  exact⟨g,h1,hl.trans h2⟩
 ·cases h
def ownS(s:St)(p:Pl)(sz:Nat):Option St:=match getP s p,decide (0<sz)with
 |some (.sc (.slice none 0 0)),true=>some (setP {s with H:=s.H++[.row 0 sz []]} (.sl s.H.length 0 sz 0 0) p)
 |some _,_=>some s
 |none,_=>none
theorem ownS_weak[Globs]{H0:List ABlk}{s s':St}{p:Pl}{sz:Nat}(h:ownS s p sz=some s'):Weak H0 s s':=by
 unfold ownS at h;split at h
 ·rename_i hv hz;simp only[Option.some.injEq]at h;subst h;intro g0 w0 g a w _ hl hs;obtain⟨i1,i2⟩:=hs.inv.virt (sz:=sz) (by simpa using hz)
  have hs1:Sim g {s with H:=s.H++[.row 0 sz []]} a w:=⟨i1,RL_mono i2.ext _ _ hs.tmps,RD_mono i2.ext _ _ hs.defs⟩;have hv1:getP {s with H:=s.H++[.row 0 sz []]} p=some (.sc (.slice none 0 0)):=by
   cases p with
   |s d=>exact hv
   |c d j=>
    grind [getP]
   |b b j=>
    grind [getP]
  obtain⟨h1,h2⟩:=setP_sound hv1 hs1 (v':=.sl s.H.length 0 sz 0 0) fun x hx=>by
   have:=R_sc hx;subst this;simp[R]
  exact⟨g,h1,(hl.trans i2).trans h2⟩
 ·grind [Weak.refl]
 ·cases h
set_option linter.unusedVariables false in
theorem frz1[Globs]{g:Gh}{H:List ABlk}{w:World}{g0:Gh}{H0:List ABlk}{w0:World}(hi0:Inv g0 H0 w0)(hi:Inv g H w)(hl:Later g0 H0 w0 g H w){b ver sz:Nat}{rows:List (List AVal)}(hb:H[b]? =some (.row ver sz rows)):
 Inv {rho:=g.rho,st:=fun k o=>g.st k o∨∃z,g.rho b ver=some (k,z)} (H.set b .dead) w∧Later g0 H0 w0 {rho:=g.rho,st:=fun k o=>g.st k o∨∃z,g.rho b ver=some (k,z)} (H.set b .dead) w∧
 Ext g w {rho:=g.rho,st:=fun k o=>g.st k o∨∃z,g.rho b ver=some (k,z)} w:=by
 have hext:Ext g w {rho:=g.rho,st:=fun k o=>g.st k o∨∃z,g.rho b ver=some (k,z)} w:=⟨fun _ _ _ h=>h,fun _ _ h=>.inl h,fun _ _ _=>rfl,fun _ _ h=>h⟩
 have f:∀(b':Nat) (x':ABlk),(H.set b ABlk.dead)[b']? =some x'→x'=.dead∨(b'≠b∧H[b']? =some x'):=by
  intro b' x' h;rcases getElem?_setB h with⟨rfl,he,_⟩ |⟨h1,h⟩
  ·exact .inl he
  ·exact .inr ⟨h1,h⟩
 refine⟨⟨?_,?_,?_,?_,?_,?_,hi.globs.mono hext⟩,⟨⟨hl.ext.rho,fun k o h=>.inl (hl.ext.st k o h),hl.ext.cell,hl.ext.shape⟩,hl.size,hl.keep,?_,by simpa using hl.len,hl.os,hl.tape,hl.output,?_,?_,hl.newk⟩,hext⟩
 ·intro b' x' h;rcases f _ _ h with rfl |⟨hne,h⟩
  ·trivial
  ·exact Good_mono hext (hi.good b' x' h) (fun _ _ _ _ _=>rfl) fun _ _ h=>h
 ·intro b1 b2 x1 x2 v1 v2 k z1 z2 h1 h2 l1 l2;rcases f _ _ h1 with rfl |⟨_,h1⟩
  ·cases l1
  ·rcases f _ _ h2 with rfl |⟨_,h2⟩
   ·cases l2
   ·exact hi.inj b1 b2 x1 x2 v1 v2 k z1 z2 h1 h2 l1 l2
 ·grind [hi.fresh]
 ·intro b' x' v v' h hlv;rcases f _ _ h with rfl |⟨_,h⟩
  ·cases hlv
  ·exact hi.next b' x' v v' h hlv
 ·intro b' x' v k z o h hlv hk hs;rcases f _ _ h with rfl |⟨hne,h⟩
  ·cases hlv
  ·rcases hs with hs |⟨z',hz⟩
   ·exact hi.free b' x' v k z o h hlv hk hs
   ·exact hne (hi.inj b' b x' _ v ver k z z' h hb hlv rfl hk hz)
 ·intro k o hs;rcases hs with hs |⟨z,hz⟩
  ·exact hi.stold k o hs
  ·exact hi.lies hb rfl hz
 ·rintro k hk ⟨b',x',v,z,h,hlv,hz⟩;rcases f _ _ h with rfl |⟨_,h⟩
  ·cases hlv
  ·exact hl.own k hk ⟨b',x',v,z,h,hlv,hz⟩
 ·rintro k o hk (hs |⟨z,hz⟩)
  ·rcases hl.stk k o hk hs with h1 |⟨h1,h2⟩
   ·exact .inl h1
   ·refine .inr ⟨h1,?_⟩;rintro⟨b',x',v,z,h,hlv,hz⟩;rcases f _ _ h with rfl |⟨_,h⟩
    ·cases hlv
    ·exact h2 ⟨b',x',v,z,h,hlv,hz⟩
  ·refine .inr ⟨hl.own k hk ⟨b,_,ver,z,hb,rfl,hz⟩,?_⟩;rintro⟨b',x',v,z',h,hlv,hz'⟩;rcases f _ _ h with rfl |⟨hne,h⟩
   ·cases hlv
   ·exact hne (hi.inj b' b x' _ v ver k z' z h hb hlv rfl hz' hz)
 ·intro b1 hb1;obtain⟨d1,d2⟩:=hl.deadk b1 hb1;grind
def frzS(_H0:List ABlk)(s:St)(p:Pl)(rows:List (List AVal)):Option St:=match getP s p with
 |some (.sl b ver sz 0 _)=>match s.H[b]? with
  |some (.row ver' sz' _)=>match decide (ver'=ver∧sz'=sz)with
   |true=>some (setP {s with H:=s.H.set b .dead} (.lst rows) p)
   |false=>none
  |_=>none
 |_=>none
def FrzOk(s:St)(p:Pl)(rows:List (List AVal)):Prop:=∃b ver sz,getP s p=some (.sl b ver sz 0 rows.length)∧s.H[b]? =some (.row ver sz rows)∧rows.all AVal.pureL=true
theorem frzS_weak[Globs]{H0:List ABlk}{s s':St}{p:Pl}{rows:List (List AVal)}(hok:FrzOk s p rows)(h:frzS H0 s p rows=some s'):Weak H0 s s':=by
 obtain⟨b,ver,sz,h1,h2,h3⟩:=hok;unfold frzS at h;rw[h1]at h;simp only at h;split at h
 ·rename_i ver' sz' rows' hb;rw[h2]at hb;simp only[Option.some.injEq,ABlk.row.injEq]at hb;obtain⟨rfl,rfl,rfl⟩:=hb;split at h
  ·simp only[Option.some.injEq]at h;subst h;intro g0 w0 g a w hi0 hl hs;obtain⟨i1,i2,i3⟩:=frz1 hi0 hs.inv hl h2;have hs1:Sim {rho:=g.rho,st:=fun k o=>g.st k o∨∃z,g.rho b ver=some (k,z)} {s with H:=s.H.set b .dead} a w:=⟨i1,RL_mono i3 _ _ hs.tmps,RD_mono i3 _ _ hs.defs⟩
   have key0:∀(l:List AVal) (j:Nat) (y:AVal),AVal.pureL l=true→l[j]? =some y→y.pure=true:=by
    intro l;induction l with
    |nil=>intro j y _ h;simp at h
    |cons c cs ih3=>
     grind [AVal.pureL]
   have hgp:getP {s with H:=s.H.set b .dead} p=some (.sl b ver sz 0 rows.length):=by
    cases p with
    |s d=>exact h1
    |c d j=>
     simp only[getP]at h1 ⊢;split at h1
     ·grind [ABlk.row.injEq,AVal.pure]
     ·cases h1
    |b b2 j=>
     grind [getP,ABlk.row.injEq,AVal.pure]
   obtain⟨q1,q2⟩:=setP_sound hgp hs1 (v':=.lst rows) fun x hx=>by
    simp only[R]at hx ⊢;rcases hx with⟨hn,rfl⟩ |⟨k,cap,e',sz2,hk,rfl,hsh,hcs,hm,hmax⟩
    ·simp_all
    ·obtain⟨k',c,e,r1,r2,r3,r4,r5,r6⟩:=hs.inv.row b ver _ _ h2 hk;rw[hk]at r1;simp at r1;subst r1;refine⟨_,cap,rfl,by omega,.inr ⟨k,0*sz,sz,rfl,RR_of fun i r hr=>?_⟩⟩
     obtain⟨t1,t2⟩:=RowsAt_get _ _ _ _ r3 hr;grind [RC_of,CellsAt_get,R_mono,cell?_cells]
   exact⟨_,q1,i2.trans q2⟩
  ·cases h
 ·cases h
def frpS(_H0:List ABlk)(s:St)(p:Pl)(cs:List AVal):Option St:=match getP s p with
 |some (.ptr b ver 0 0)=>match s.H[b]? with
  |some (.row ver' _ _)=>match decide (ver'=ver)with
   |true=>some (setP {s with H:=s.H.set b .dead} (.cptr cs 0) p)
   |false=>none
  |_=>none
 |_=>none
def FrpOk(s:St)(p:Pl)(cs:List AVal):Prop:=∃b ver sz,getP s p=some (.ptr b ver 0 0)∧s.H[b]? =some (.row ver sz [cs])∧AVal.pureL cs=true
theorem frpS_weak[Globs]{H0:List ABlk}{s s':St}{p:Pl}{cs:List AVal}(hok:FrpOk s p cs)(h:frpS H0 s p cs=some s'):Weak H0 s s':=by
 obtain⟨b,ver,sz,h1,h2,h3⟩:=hok;unfold frpS at h;rw[h1]at h;simp only at h;split at h
 ·rename_i ver' sz' rows' hb;rw[h2]at hb;simp only[Option.some.injEq,ABlk.row.injEq]at hb;obtain⟨rfl,rfl,rfl⟩:=hb;split at h
  ·simp only[Option.some.injEq]at h;subst h;intro g0 w0 g a w hi0 hl hs;obtain⟨i1,i2,i3⟩:=frz1 hi0 hs.inv hl h2;have hs1:Sim {rho:=g.rho,st:=fun k o=>g.st k o∨∃z,g.rho b ver=some (k,z)} {s with H:=s.H.set b .dead} a w:=⟨i1,RL_mono i3 _ _ hs.tmps,RD_mono i3 _ _ hs.defs⟩
   have key0:∀(l:List AVal) (j:Nat) (y:AVal),AVal.pureL l=true→l[j]? =some y→y.pure=true:=by
    intro l;induction l with
    |nil=>intro j y _ h;simp at h
    |cons c cs ih3=>
     grind [AVal.pureL]
   have hgp:getP {s with H:=s.H.set b .dead} p=some (.ptr b ver 0 0):=by
    cases p with
    |s d=>exact h1
    |c d j=>
     simp only[getP]at h1 ⊢;split at h1
     ·grind [ABlk.row.injEq,AVal.pure]
     ·cases h1
    |b b2 j=>
     grind [getP,ABlk.row.injEq,AVal.pure]
   obtain⟨q1,q2⟩:=setP_sound hgp hs1 (v':=.cptr cs 0) fun x hx=>by
    simp only[R]at hx ⊢;obtain⟨k,sz2,hk,rfl⟩:=hx;obtain⟨k',c,e,r1,r2,r3,r4,r5,r6⟩:=hs.inv.row b ver _ _ h2 hk;rw[hk]at r1;simp at r1;obtain⟨rfl,rfl⟩:=r1;refine⟨k,0,by simp,h3,RC_of fun j a hj=>?_⟩
    obtain⟨t1,t2⟩:=RowsAt_get [cs] 0 0 cs r3 rfl;obtain⟨y,y1,y2,y3⟩:=CellsAt_get _ _ j a t2 hj;exact⟨.inr ⟨_,hk⟩,y,by rw[cell?_cells r2];simpa using y1,y2,R_mono i3 _ _ y3⟩
   exact⟨_,q1,i2.trans q2⟩
  ·cases h
 ·cases h
end Go.AM
end
section
namespace Go.AM
def jl(n:Nat):List AVal:=List.replicate n .junk
def ap(a b:List AVal):List AVal:=a++b
section
variable [Globs] {P:Program} {cfg:Cfg} {g:Gh} {H:List ABlk} {w:World} {fro:Option Nat}
def Does(P:Program)(fro:Option Nat)(g0:Gh)(H0:List ABlk)(w0:World)[Globs](c:Code)(s:St)(Φ:AOut→St→Prop):Prop:=
 ∀(Q:Exit→Act→World→Prop) (g:Gh) (a:Act) (w:World),Sim g s a w→Later g0 H0 w0 g s.H w→(∀o s',Φ o s'→OutPost Q g0 H0 w0 s' o)→c.wpIn (Fr fro) 0 P Q a w
variable {g0:Gh} {H0:List ABlk} {w0:World}
theorem Does.mono{c:Code}{s:St}{Φ Ψ:AOut→St→Prop}(h:Does P fro g0 H0 w0 c s Φ)(hp:∀o s',Φ o s'→Ψ o s'):Does P fro g0 H0 w0 c s Ψ:=
 fun Q g a w hs hl hk=>h Q g a w hs hl fun o s' hf=>hk o s' (hp o s' hf)
theorem Does.skip{s:St}{Φ:AOut→St→Prop}(h:Φ .normal s):Does P fro g0 H0 w0 .skip s Φ:=
 fun _ g a w hs hl hp=>wpIn_skip (hp _ _ h g a w hs hl)
theorem Does.exit{s:St}{Φ:AOut→St→Prop}{id:Nat}(h:Φ (.exit id) s):Does P fro g0 H0 w0 (.exit id) s Φ:=
 fun _ g a w hs hl hp=>wpIn_exit (hp _ _ h g a w hs hl)
theorem Does.ret{s:St}{Φ:AOut→St→Prop}(h:Φ .ret s):Does P fro g0 H0 w0 .ret s Φ:=
 fun _ g a w hs hl hp=>wpIn_ret (hp _ _ h g a w hs hl)
def outOf:OpRes→AOut×St
 | .ok s=>(.normal,s)
 | .pan v s=>(.pan v,s)
theorem Does.region(hm:P.follows .mixedOrders=true){orcs:Nat→Orc}(ho:∀k,OrcOk P (orcs k)){id:Nat}{ops:Array Oper}{draw:Bool}{s:St}{r:OpRes}{Φ:AOut→St→Prop}(hcalm:∀(k:Nat) (o:Oper),ops[k]? =some o→Calm fro o)
 (h:regionI P cfg orcs ops draw s=some r) (hr:Φ (outOf r).1 (outOf r).2):Does P fro g0 H0 w0 (.region id ops draw) s Φ:=by
 intro Q g a w hs hl hp;cases r with
 |ok s'=>exact region_sound hm ho hcalm h hs (RegPost.later (r:=.ok s') (hp _ _ hr) hl)
 |pan v s'=>exact region_sound hm ho hcalm h hs (RegPost.later (r:=.pan v s') (hp _ _ hr) hl)
theorem Does.seq{a b:Code}{s:St}{Φ:AOut→St→Prop}(h:Does P fro g0 H0 w0 a s fun o s'=>match o with | .normal=>Does P fro g0 H0 w0 b s' Φ |o=>Φ o s'):Does P fro g0 H0 w0 (.seq a b) s Φ:=by
 intro Q g x w hs hl hp;refine wpIn_seq (h _ g x w hs hl fun o s' hf=>?_)
 cases o with
 |normal=>exact fun g' a' w' hs' hla=>hf Q g' a' w' hs' hla hp
 |exit id=>exact hp _ _ hf
 |ret=>exact hp _ _ hf
 |pan v=>exact hp _ _ hf
theorem Does.cond{c:Operand}{a b:Code}{s:St}{Φ:AOut→St→Prop}(z:Bool)(hc:evalA s.A c=.sc (.bool z))(h:Does P fro g0 H0 w0 (if z then a else b) s Φ):Does P fro g0 H0 w0 (.cond c a b) s Φ:=by
 intro Q g x w hs hl hp;have hev:=hs.eval c;rw[hc]at hev;simp only[R]at hev;cases z with
 |true=>exact wpIn_cond_true hev (h Q g x w hs hl hp)
 |false=>exact wpIn_cond_false hev (h Q g x w hs hl hp)
def behind(id:Nat):AOut→AOut
 | .exit id'=>if id'=id then .normal else .exit id'
 |o=>o
theorem Does.block{id:Nat}{b:Code}{s:St}{Φ:AOut→St→Prop}(h:Does P fro g0 H0 w0 b s fun o s'=>Φ (behind id o) s'):Does P fro g0 H0 w0 (.block id b) s Φ:=by
 intro Q g x w hs hl hp;refine wpIn_block (h _ g x w hs hl fun o s' hf=>?_)
 cases o with
 |normal=>exact fun g' a' w' hs' hla=>hp _ _ hf g' a' w' hs' hla
 |exit id'=>
  intro g' a' w' hs' hla;by_cases he:id'=id
  ·simp only[behind,he,if_true]at hf;simp only[Exit.inBlock,he,if_true];exact hp _ _ hf g' a' w' hs' hla
  ·simp only[behind,he,if_false]at hf;simp only[Exit.inBlock,he,if_false];exact hp _ _ hf g' a' w' hs' hla
 |ret=>exact fun g' a' w' hs' hla=>hp _ _ hf g' a' w' hs' hla
 |pan v=>exact fun g' a' w' x hv hs' hla hr=>hp _ _ hf g' a' w' x hv hs' hla hr
theorem OutPost.weak{Q:Exit→Act→World→Prop}{g0:Gh}{H0:List ABlk}{w0:World}(hi0:Inv g0 H0 w0){s' s'':St}{o:AOut}(hw:Weak H0 s' s'')(h:OutPost Q g0 H0 w0 s'' o):OutPost Q g0 H0 w0 s' o:=by
 cases o with
 |normal=>exact fun g' a' w' hs hl'=>let⟨g2,h1,h2⟩:=hw g0 w0 g' a' w' hi0 hl' hs;h g2 a' w' h1 h2
 |exit id=>exact fun g' a' w' hs hl'=>let⟨g2,h1,h2⟩:=hw g0 w0 g' a' w' hi0 hl' hs;h g2 a' w' h1 h2
 |ret=>exact fun g' a' w' hs hl'=>let⟨g2,h1,h2⟩:=hw g0 w0 g' a' w' hi0 hl' hs;h g2 a' w' h1 h2
 |pan v=>exact fun g' a' w' x hv hs hl' hr=>let⟨g2,h1,h2⟩:=hw g0 w0 g' a' w' hi0 hl' hs;h g2 a' w' x hv h1 h2 (R_flat _ _ hv hr)
theorem Does.weak(hi0:Inv g0 H0 w0){c:Code}{s s1:St}{Φ:AOut→St→Prop}(hw:Weak H0 s s1)(h:Does P fro g0 H0 w0 c s1 Φ):Does P fro g0 H0 w0 c s Φ:=by
 intro Q g a w hs hl hp;obtain⟨g2,h1,h2⟩:=hw g0 w0 g a w hi0 hl hs;exact h Q g2 a w h1 h2 hp
theorem Does.loop(hi0:Inv g0 H0 w0){b:Code}{s s0:St}{n:Nat}{Φ:AOut→St→Prop}(J:Nat→St→Prop)(h0:∀s,¬J 0 s)(hs0:Weak H0 s s0)(hJ:J n s0)
 (hb:∀n s1,J (n+1) s1→Does P fro g0 H0 w0 b s1 fun o s2=>∃s3,Weak H0 s2 s3∧match o with | .normal=>J n s3 |o=>Φ o s3):Does P fro g0 H0 w0 (.loop b) s Φ:=by
 intro Q gs a0 ws hs hl hp;have key:∀(n:Nat) (s1:St) (g:Gh) (a:Act) (w:World),J n s1→Sim g s1 a w→Later g0 H0 w0 g s1.H w→
  ∀(fr:Frame) (k:List Item) (cs:List Frame),fr.roundOf=(Fr fro).round→∃e a' w',Q e a' w'∧ArrivesIn (Machine.fenced P (Fr fro)) P (lone (fr.atR a (.code b:: .inLoop b::k)) cs w) fr k cs e a' w':=by
  intro n;induction n with
  |zero=>grind
  |succ n ih=>
   intro s1 g a w hj hsim hla fr k cs hfr;have hstep:b.wpIn (Fr fro) 0 P (Exit.then (fun a' w'=>∀(fr:Frame) (k:List Item) (cs:List Frame),fr.roundOf=(Fr fro).round→∃e a2 w2,Q e a2 w2∧ArrivesIn (Machine.fenced P (Fr fro)) P (lone (fr.atR a' (.code b:: .inLoop b::k)) cs w') fr k cs e a2 w2) Q) a w:=by
    refine hb n s1 hj _ g a w hsim hla fun o s2 ⟨s3,hw,hf⟩=>?_
    cases o with
    |normal=>
     intro g' a' w' hs' hla';obtain⟨g2,h1,h2⟩:=hw g0 w0 g' a' w' hi0 hla' hs';exact ih s3 g2 a' w' hf h1 h2
    |exit id=>exact OutPost.weak hi0 (o:=.exit id) hw (hp _ _ hf)
    |ret=>exact OutPost.weak hi0 (o:=.ret) hw (hp _ _ hf)
    |pan v=>exact OutPost.weak hi0 (o:=.pan v) hw (hp _ _ hf)
   obtain⟨e,a₁,w₁,hq,harr⟩:=hstep fr (.inLoop b::k) cs hfr trivial (room_Fr _ _);cases e with
   |normal=>
    obtain⟨e₂,a₂,w₂,hq₂,harr₂⟩:=hq fr k cs hfr;exact⟨e₂,a₂,w₂,hq₂,.of_steps (StepsIn.trans harr (.one (fenced_calm (n:=0) trivial (room_Fr _ _) rfl) stepR_inLoop)) harr₂⟩
   |exit id=>exact⟨_,a₁,w₁,hq,.pass (x:=.inLoop b) rfl (fun _ _=>.inl (by simp)) harr⟩
   |goto l=>exact⟨_,a₁,w₁,hq,.pass (x:=.inLoop b) rfl (fun _ _=>.inl (by simp)) harr⟩
   |ret=>exact⟨_,a₁,w₁,hq,.pass (x:=.inLoop b) rfl (fun _ _=>.inl (by simp)) harr⟩
   |panic ch=>exact⟨_,a₁,w₁,hq,.pass (x:=.inLoop b) rfl (fun _ _=>.inl (by simp)) harr⟩
   |outgrown=>exact⟨_,a₁,w₁,hq,.pass (x:=.inLoop b) rfl (fun _ _=>.inl (by simp)) harr⟩
 obtain⟨g1,h1,h2⟩:=hs0 g0 w0 gs a0 ws hi0 hl hs;intro fr k cs hfr _ hroom;obtain⟨e,a',w',hq,harr⟩:=key n s0 g1 a0 ws hJ h1 h2 fr k cs hfr;exact⟨e,a',w',hq,.of_steps (.one (fenced_calm trivial hroom rfl) stepR_loop) harr⟩
end
inductive Sh:Type 1 where
 |one (τ:Type)
 |two (a b:Sh)
def Sh.El:Sh→Type
 | .one τ=>τ
 | .two a b=>a.El⊕b.El
def Sh.all:(s:Sh)→(s.El→Prop)→Prop
 | .one _,p=>∀x,p x
 | .two a b,p=>a.all (fun x=>p (.inl x))∧b.all (fun x=>p (.inr x))
theorem Sh.all_iff:∀(s:Sh) (p:s.El→Prop),s.all p↔∀x,p x
 | .one _,p=>Iff.rfl
 | .two a b,p=>by
  simp only[Sh.all,Sh.all_iff a,Sh.all_iff b];exact⟨fun h x=>match x with | .inl y=>h.1 y | .inr y=>h.2 y,fun h=>⟨fun y=>h (.inl y),fun y=>h (.inr y)⟩⟩
namespace AVal
mutual
def at0(b v:Nat):AVal→AVal
 | .sc x=>.sc x
 | .agg cs=>.agg (at0L b v cs)
 | .tup cs=>.tup (at0L b v cs)
 | .ptr _ _ i o=>.ptr b v i o
 | .cptr cs o=>.cptr cs o
 | .sl _ _ sz o n=>.sl b v sz o n
 | .lst rows=>.lst rows
 | .fn f c d=>.fn f (at0L b v c) (at0L b v d)
 | .ifc t a=>.ifc t (at0 b v a)
 | .mp x=>.mp x
 | .yld x=>.yld x
 | .sa _ _ i o s n=>.sa b v i o s n
 | .glob i o=>.glob i o
 | .emp=>.emp
 | .nz x=>.nz x
 | .junk=>.junk
def at0L(b v:Nat):List AVal→List AVal
 | []=>[]
 |a::as=>at0 b v a::at0L b v as
end
mutual
def only0:AVal→Bool
 | .sc _=>true
 | .agg cs=>only0L cs
 | .tup cs=>only0L cs
 | .ptr b v .. =>b==0&&v==0
 | .cptr .. =>true
 | .sl b v .. =>b==0&&v==0
 | .lst _=>true
 | .fn _ c d=>only0L c&&only0L d
 | .ifc _ a=>only0 a
 | .mp _=>false
 | .yld _=>false
 | .sa b v .. =>b==0&&v==0
 | .glob _ _=>true
 | .emp=>true
 | .nz _=>true
 | .junk=>true
def only0L:List AVal→Bool
 | []=>true
 |a::as=>only0 a&&only0L as
end
mutual
def but(b:Nat):AVal→AVal
 | .sc x=>.sc x
 | .agg cs=>.agg (butL b cs)
 | .tup cs=>.tup (butL b cs)
 | .ptr c v i o=>match Nat.beq c b with
  |true=>.ptr c v i o
  |false=>.junk
 | .cptr cs o=>.cptr cs o
 | .sl c v sz o n=>match Nat.beq c b with
  |true=>.sl c v sz o n
  |false=>.junk
 | .lst rows=>.lst rows
 | .fn f c d=>.fn f (butL b c) (butL b d)
 | .ifc t a=>.ifc t (but b a)
 | .mp _=>.junk
 | .yld _=>.junk
 | .sa c v i o s n=>match Nat.beq c b with
  |true=>.sa c v i o s n
  |false=>.junk
 | .glob i o=>.glob i o
 | .emp=>.emp
 | .nz x=>.nz x
 | .junk=>.junk
def butL(b:Nat):List AVal→List AVal
 | []=>[]
 |a::as=>but b a::butL b as
end
end AVal
def ABlk.row0:ABlk→Bool
 | .row ver _ rows=>ver==0&&rows.all AVal.pureL
 |_=>false
def ABlk.setVer(v:Nat):ABlk→ABlk
 | .row _ sz rows=>.row v sz rows
 |x=>x
def ARes.pureR:ARes→Bool
 | .ret v=>v.pure
 | .pan v=>v.flat
def AVal.at1(b v:Nat):AVal→AVal
 | .sl _ _ sz o n=>.sl b v sz o n
 |u=>u
def ARes.at1(b v:Nat):ARes→ARes
 | .ret u=>.ret (u.at1 b v)
 | .pan u=>.pan u
def ARes.okR:ARes→Bool
 | .ret (.sl b v _ _ _)=>b==0&&v==0
 | .ret u=>u.pure
 | .pan u=>u.flat
theorem ARes.okR_of{r:ARes}(h:r.pureR=true):r.okR=true:=by
 cases r with
 |ret u=>cases u<;>first |exact h |cases h
 |pan u=>exact h
def FnVal(P:Program)[Globs](f:FuncId)(args:List AVal)(r:ARes):Prop:=
 (∃ fn c, P.funcs[f]? = some fn ∧ fn.body = some c ∧ fn.name ≠ "runtime.NumGoroutine") ∧
 ∀g w (vs:Array Value),Inv g [] w→RL g w args vs.toList→Calls P f vs w (Comes1 g [] w r [])
def FnRef(P:Program)[Globs](f:FuncId)(args:List AVal)(H:List ABlk)(r:ARes)(H1:List ABlk):Prop:=
 (∃ fn c, P.funcs[f]? = some fn ∧ fn.body = some c ∧ fn.name ≠ "runtime.NumGoroutine") ∧
 ∀g w (vs:Array Value),Inv g H w→RL g w args vs.toList→Calls P f vs w (Comes1 g H w r H1)
structure CtrR(P:Program)[Globs]:Type 1 where
 f:FuncId
 X:Type
 args:X→List AVal
 heap:X→List ABlk
 sh:Sh
 out:sh.El→ARes
 outH:X→sh.El→List ABlk
 S:Nat→X→Option sh.El
 ok:∀n x r,S n x=some r→FnRef P f (args x) (heap x) (out r) (outH x r)
structure Ctr(P:Program)[Globs]:Type 1 where
 f:FuncId
 X:Type
 args:X→List AVal
 sh:Sh
 out:sh.El→ARes
 S:Nat→X→Option sh.El
 ok:∀n x r,S n x=some r→FnVal P f (args x) (out r)
structure Ctr1(P:Program)[Globs]:Type 1 where
 f:FuncId
 X:Type
 args:X→List AVal
 blk:X→ABlk
 sh:Sh
 out:sh.El→ARes
 outB:X→sh.El→ABlk
 S:Nat→X→Option sh.El
 a0:∀x,AVal.only0L (args x)=true
 b0:∀x,(blk x).row0=true
 b1:∀x r,(outB x r).row0=true∨outB x r=.dead
 r0:∀r,(out r).okR=true
 ok:∀n x r,S n x=some r→FnRef P f (args x) [blk x] (out r) [outB x r]
structure OpT(X:Type) where
 run:Option X
 eff:X→Eff
 ids:List Nat
 chk:Globs→Program→Cfg→Nat→Op→(Operand→AVal)→List ABlk→Prop
 claim:Prop
 holds:claim
 sound:∀(gl:Globs) (P:Program) (cfg:Cfg) (nid:Nat) (op:Op) (rho:Operand→AVal) (H:List ABlk),chk gl P cfg nid op rho H→∀x,run=some x→
  (opPre P cfg nid rho op).run H=some (.eff (eff x))∧(opPre P cfg nid rho op).reads H=ids
def knownC:List (Nat×ABlk)→List ABlk→Prop
 | [],_=>True
 |p::ps,H=>H[p.1]? =some p.2∧knownC ps H
def knownClaims:List (Nat×ABlk)→Prop
 | []=>True
 |p::ps=>some p.2=some p.2∧knownClaims ps
theorem knownClaims_hold:∀l,knownClaims l
 | []=>trivial
 |_::ps=>⟨rfl,knownClaims_hold ps⟩
structure SN where
 bs:List (Nat×ABlk)
 ain:List AVal
 aout:List AVal
 rs:List Nat
 pf:∀H,knownC bs H→(mapRd (snap snapFuel) ain).run H=some aout∧(mapRd (snap snapFuel) ain).reads H=rs
structure PU where
 b:Nat
 blk:ABlk
 pf:pureBlk blk=true
def prBlk:ABlk→Bool
 | .row _ _ rows=>rows.all AVal.pureL
 | .map _ es=>es.all fun p=>p.1.pure&&p.2.1.pure
 |_=>false
theorem prBlk_inv{x:ABlk}(h:prBlk x=true):(∃v sz rows,x=.row v sz rows∧rows.all AVal.pureL=true)∨∃c es,x=.map c es∧(es.all fun p=>p.1.pure&&p.2.1.pure)=true:=by
 unfold prBlk at h;grind
structure PR where
 b:Nat
 blk:ABlk
 pf:prBlk blk=true
def PR.ofRow(b ver sz:Nat)(rows:List (List AVal))(pf:rows.all AVal.pureL=true):PR:=⟨b,.row ver sz rows,pf⟩
structure FZ where
 p:Pl
 b:Nat
 ver:Nat
 sz:Nat
 n:Nat
 rows:List (List AVal)
 pf:rows.all AVal.pureL=true
structure FP where
 p:Pl
 b:Nat
 ver:Nat
 sz:Nat
 cs:List AVal
 pf:AVal.pureL cs=true
structure PK where
 b:Nat
 mb:Nat
 n:Nat
 es:List (AVal×AVal×Nat)
 pf:es.length=n∧∀(i:Nat) p,es[i]? =some p→p.2.2=i
structure GK where
 {X:Type}
 l:List X
 m:List X
 enc:X→List AVal
 n:Nat
 bytes:Nat
 b:Nat
 ver:Nat
 len:Nat
def GK.ok(z:GK):Bool:=decide (z.len=z.l.length)&&roomy (z.l.length+z.m.length) z.bytes
def growT(P:Program)(ST XT:TypeId):Option (Nat×Nat):=
 match P.underlying ST,P.underlying XT with
 |some (.slice e),some (.slice _)=>match P.info? e with
  |some i=>if decide (0<i.size)&&zeroFits i then some (i.size,i.bytes)else none
  |none=>none
 |_,_=>none
structure RW where
 p:Pl
 rows:List (List AVal)
 rows':List (List AVal)
 pf:rows.map wkL=rows'
inductive TS where
 |keep (l:List Nat)
 |wk (p:Pl)
 |own (p:Pl) (sz:Nat)
 |frz (z:FZ)
 |frp (z:FP)
 |rew (z:RW)
 |cut (bl bump:List Nat) (pu:List PU)
inductive G (P:Program) [Globs]:Type→Type 1 where
 |stop {ρ:Type}:G P ρ
 |done {ρ:Type} (ts:List TS) (r:ρ):G P ρ
 |fail {ρ:Type}:G P ρ
 |skip {ρ:Type} (n:Nat) (g:G P ρ):G P ρ
 |br {ρ:Type} (d:Tmp) (c:Bool) (t f:G P ρ):G P ρ
 |eqi {ρ:Type} (d:Tmp) (k:IntKind) (x c:Int) (t f:G P ρ):G P ρ
 |sp {ρ:Type} (c:Bool) (t f:G P ρ):G P ρ
 |op {ρ X:Type} (t:OpT X) (k:X→G P ρ):G P ρ
 |call {ρ:Type} (c:Ctr P) (x:c.X) (k:c.sh.El→G P ρ):G P ρ
 |callS {ρ:Type} (z:SN) (c:Ctr P) (x:c.X) (k:c.sh.El→G P ρ):G P ρ
 |callR {ρ:Type} (c:CtrR P) (x:c.X) (k:c.sh.El→G P ρ):G P ρ
 |call1 {ρ:Type} (c:Ctr1 P) (b v:Nat) (ex:List PR) (x:c.X) (k:c.sh.El→G P ρ):G P ρ
 |tidy {ρ:Type} (l:List TS) (g:G P ρ):G P ρ
 |loop {ρ σ:Type} (sh:Sh) (hd:List TS) (E:σ→St) (X:sh.El→AOut×St) (a0:σ) (body:σ→G P (σ⊕sh.El)) (k:sh.El→G P ρ):G P ρ
 |loopS {ρ:Type} (hs sh:Sh) (hd:List TS) (E:hs.El→St) (X:sh.El→AOut×St) (a0:hs.El) (body:hs.El→G P (hs.El⊕sh.El)) (k:sh.El→G P ρ):G P ρ
 |unroll {ρ:Type} (n:Nat) (g:G P ρ):G P ρ
 |shutG {ρ:Type} (Q:Prop) (h:Q) (g:G P ρ):G P ρ
 |join {ρ:Type} (sh:Sh) (Y:sh.El→AOut×St) (g:G P sh.El) (k:sh.El→G P ρ):G P ρ
 |pick {ρ:Type} (z:PK) (seen:List Nat) (k:Option Nat→G P ρ):G P ρ
 |grow {ρ:Type} (z:GK) (k:Bool→G P ρ):G P ρ
 |inl {ρ:Type} (pr:List PR) (g:G P ρ):G P ρ
def tsOk:List TS→Bool
 | []=>true
 | .frz z::ts=>decide (z.n=z.rows.length)&&tsOk ts
 |_::ts=>tsOk ts
def iterO{σ τ:Type}(f:σ→Option (σ⊕τ)):Nat→σ→Option τ
 | 0,_=>none
 |n+1,a=>match f a with
  |some (.inl a')=>iterO f n a'
  |some (.inr t)=>some t
  |none=>none
section
variable {P:Program} [Globs]
def G.run(n:Nat):{ρ:Type}→G P ρ→Option ρ
 |_,.stop=>none
 |_,.done ts r=>if tsOk ts then some r else none
 |_,.fail=>none
 |_,.skip _ g=>g.run n
 |_,.br _ c t f=>if c then t.run n else f.run n
 |_,.eqi _ _ x c t f=>if x=c then t.run n else f.run n
 |_,.sp c t f=>if c then t.run n else f.run n
 |_,.op t k=>t.run.bind fun x=>(k x).run n
 |_,.call c x k=>(c.S n x).bind fun r=>(k r).run n
 |_,.callS _ c x k=>(c.S n x).bind fun r=>(k r).run n
 |_,.callR c x k=>(c.S n x).bind fun r=>(k r).run n
 |_,.call1 c _ _ _ x k=>(c.S n x).bind fun r=>(k r).run n
 |_,.tidy l g=>if tsOk l then g.run n else none
 |_,.loop _ hd _ _ a0 body k=>if tsOk hd then(iterO (fun a=>(body a).run n) n a0).bind fun t=>(k t).run n else none
 |_,.loopS _ _ hd _ _ a0 body k=>if tsOk hd then(iterO (fun a=>(body a).run n) n a0).bind fun t=>(k t).run n else none
 |_,.unroll _ g=>g.run n
 |_,.shutG _ _ g=>g.run n
 |_,.join _ _ g k=>(g.run n).bind fun t=>(k t).run n
 |_,.pick _ _ _=>none
 |_,.grow _ _=>none
 |_,.inl _ g=>g.run n
def leafL{σ:Type}{sh:Sh}(E:σ→St)(X:sh.El→AOut×St):σ⊕sh.El→Prop
 | .inl a=>(AOut.normal,E a)=(AOut.normal,E a)
 | .inr t=>X t=X t
def leafJ{sh:Sh}(Y:sh.El→AOut×St)(t:sh.El):Prop:=Y t=Y t
def puClaims:List PU→Prop
 | []=>True
 |p::ps=>some p.blk=some p.blk∧puClaims ps
def prClaims:List PR→Prop
 | []=>True
 |p::ps=>some p.blk=some p.blk∧prClaims ps
def tsClaims:List TS→Prop→Prop
 | [],q=>q
 | .keep _::ts,q=>tsClaims ts q
 | .wk _::ts,q=>tsClaims ts q
 | .own _ _::ts,q=>tsClaims ts q
 | .frz z::ts,q=>some (AVal.sl z.b z.ver z.sz 0 z.n)=some (AVal.sl z.b z.ver z.sz 0 z.n)∧some (ABlk.row z.ver z.sz z.rows)=some (ABlk.row z.ver z.sz z.rows)∧tsClaims ts q
 | .frp z::ts,q=>some (AVal.ptr z.b z.ver 0 0)=some (AVal.ptr z.b z.ver 0 0)∧some (ABlk.row z.ver z.sz [z.cs])=some (ABlk.row z.ver z.sz [z.cs])∧tsClaims ts q
 | .cut _ _ pu::ts,q=>puClaims pu∧tsClaims ts q
 | .rew z::ts,q=>some (AVal.lst z.rows)=some (AVal.lst z.rows)∧tsClaims ts q
omit [Globs] in
theorem puClaims_hold:∀(l:List PU),puClaims l
 | []=>trivial
 |_::ps=>⟨rfl,puClaims_hold ps⟩
omit [Globs] in
theorem prClaims_hold:∀(l:List PR),prClaims l
 | []=>trivial
 |_::ps=>⟨rfl,prClaims_hold ps⟩
omit [Globs] in
theorem tsClaims_hold{q:Prop}(h:q):∀(l:List TS),tsClaims l q
 | []=>h
 | .keep _::ts=>tsClaims_hold h ts
 | .wk _::ts=>tsClaims_hold h ts
 | .own _ _::ts=>tsClaims_hold h ts
 | .frz _::ts=>⟨rfl,rfl,tsClaims_hold h ts⟩
 | .frp _::ts=>⟨rfl,rfl,tsClaims_hold h ts⟩
 | .cut _ _ pu::ts=>⟨puClaims_hold pu,tsClaims_hold h ts⟩
 | .rew _::ts=>⟨rfl,tsClaims_hold h ts⟩
def G.claims:{ρ:Type}→(ρ→Prop)→G P ρ→Prop
 |_,_,.stop=>True
 |_,leaf,.done ts r=>tsClaims ts (leaf r)
 |_,_,.fail=>True
 |_,leaf,.skip _ g=>g.claims leaf
 |_,leaf,.br _ c t f=>some (AVal.sc (.bool c))=some (AVal.sc (.bool c))∧t.claims leaf∧f.claims leaf
 |_,leaf,.eqi _ k x _ t f=>some (AVal.sc (.int k x))=some (AVal.sc (.int k x))∧t.claims leaf∧f.claims leaf
 |_,leaf,.sp _ t f=>t.claims leaf∧f.claims leaf
 |_,leaf,.op t k=>some true=some true∧t.claim∧∀x,(k x).claims leaf
 |_,leaf,.call c x k=>some true=some true∧some (c.f,c.args x)=some (c.f,c.args x)∧c.sh.all fun r=>(k r).claims leaf
 |_,leaf,.callS z c x k=>some true=some true∧knownClaims z.bs∧some (c.f,z.ain)=some (c.f,z.ain)∧some (c.args x)=some (c.args x)∧c.sh.all fun r=>(k r).claims leaf
 |_,leaf,.callR c x k=>some true=some true∧some (c.f,c.args x,c.heap x)=some (c.f,c.args x,c.heap x)∧c.sh.all fun r=>(k r).claims leaf
 |_,leaf,.call1 c b v ex x k=>some true=some true∧prClaims ex∧some (c.f,AVal.at0L b v (c.args x),some ((c.blk x).setVer v))=some (c.f,AVal.at0L b v (c.args x),some ((c.blk x).setVer v))∧c.sh.all fun r=>(k r).claims leaf
 |_,leaf,.tidy l g=>tsClaims l (g.claims leaf)
 |_,leaf,.loop sh hd E X a0 body k=>tsClaims hd (E a0=E a0)∧(∀a,(body a).claims (leafL E X))∧sh.all fun t=>(k t).claims leaf
 |_,leaf,.loopS hs sh hd E X a0 body k=>tsClaims hd (E a0=E a0)∧(hs.all fun a=>(body a).claims (leafL E X))∧sh.all fun t=>(k t).claims leaf
 |_,leaf,.unroll _ g=>g.claims leaf
 |_,_,.shutG Q _ _=>Q
 |_,leaf,.join sh Y g k=>g.claims (leafJ Y)∧sh.all fun t=>(k t).claims leaf
 |_,leaf,.pick z seen k=>some true=some true∧AVal.ptr z.b 0 0 0=AVal.ptr z.b 0 0 0∧some (ABlk.iter (.mp z.mb) z.n seen z.n)=some (ABlk.iter (.mp z.mb) z.n seen z.n)∧some (ABlk.map z.n z.es)=some (ABlk.map z.n z.es)∧(k none).claims leaf∧∀i,(k (some i)).claims leaf
 |_,leaf,.grow z k=>some true=some true∧some ABlk.unborn=some ABlk.unborn∧ @Eq Bool true true∧some (z.n,z.bytes)=some (z.n,z.bytes)∧AVal.sl z.b z.ver z.n 0 z.len=AVal.sl z.b z.ver z.n 0 z.len∧some (ABlk.row z.ver z.n (z.l.map z.enc))=some (ABlk.row z.ver z.n (z.l.map z.enc))∧some (z.m.map z.enc)=some (z.m.map z.enc)∧(∀_:z.X,z.n=z.n)∧ @Eq Bool false false∧(k true).claims leaf∧(k false).claims leaf
 |_,leaf,.inl pr g=>some true=some true∧prClaims pr∧g.claims leaf
omit [Globs] in
theorem leafL_holds{σ:Type}{sh:Sh}(E:σ→St)(X:sh.El→AOut×St):∀r,leafL E X r
 | .inl _=>rfl
 | .inr _=>rfl
theorem G.claims_hold:∀{ρ:Type} {leaf:ρ→Prop} (_:∀r,leaf r) (g:G P ρ),g.claims leaf
 |_,_,_,.stop=>trivial
 |_,_,h,.done ts r=>tsClaims_hold (h r) ts
 |_,_,_,.fail=>trivial
 |_,_,h,.skip _ g=>G.claims_hold h g
 |_,_,h,.br _ _ t f=>⟨rfl,G.claims_hold h t,G.claims_hold h f⟩
 |_,_,h,.eqi _ _ _ _ t f=>⟨rfl,G.claims_hold h t,G.claims_hold h f⟩
 |_,_,h,.sp _ t f=>⟨G.claims_hold h t,G.claims_hold h f⟩
 |_,_,h,.op t k=>⟨rfl,t.holds,fun x=>G.claims_hold h (k x)⟩
 |_,_,h,.call c _ k=>⟨rfl,rfl,(c.sh.all_iff _).2 fun r=>G.claims_hold h (k r)⟩
 |_,_,h,.callS _ c _ k=>⟨rfl,knownClaims_hold _,rfl,rfl,(c.sh.all_iff _).2 fun r=>G.claims_hold h (k r)⟩
 |_,_,h,.callR c _ k=>⟨rfl,rfl,(c.sh.all_iff _).2 fun r=>G.claims_hold h (k r)⟩
 |_,_,h,.call1 c _ _ ex _ k=>⟨rfl,prClaims_hold ex,rfl,(c.sh.all_iff _).2 fun r=>G.claims_hold h (k r)⟩
 |_,_,h,.tidy l g=>tsClaims_hold (G.claims_hold h g) l
 |_,_,h,.loop sh hd E X _ body k=>⟨tsClaims_hold rfl hd,fun a=>G.claims_hold (leafL_holds E X) (body a),(sh.all_iff _).2 fun t=>G.claims_hold h (k t)⟩
 |_,_,h,.loopS hs sh hd E X _ body k=>⟨tsClaims_hold rfl hd,(hs.all_iff _).2 fun a=>G.claims_hold (leafL_holds E X) (body a),(sh.all_iff _).2 fun t=>G.claims_hold h (k t)⟩
 |_,_,h,.unroll _ g=>G.claims_hold h g
 |_,_,_,.shutG _ q _=>q
 |_,_,h,.join sh _ g k=>⟨G.claims_hold (fun _=>rfl) g,(sh.all_iff _).2 fun t=>G.claims_hold h (k t)⟩
 |_,_,h,.pick _ _ k=>⟨rfl,rfl,rfl,rfl,G.claims_hold h (k none),fun i=>G.claims_hold h (k (some i))⟩
 |_,_,h,.grow _ k=>⟨rfl,rfl,rfl,rfl,rfl,rfl,rfl,fun _=>rfl,rfl,G.claims_hold h (k true),G.claims_hold h (k false)⟩
 |_,_,h,.inl pr g=>⟨rfl,prClaims_hold pr,G.claims_hold h g⟩
def G.less{ρ:Type}:Nat→G P ρ→G P ρ
 | 0,g=>g
 |n+1,g=>.skip (n+1) g
theorem G.less_run{ρ:Type}(n m:Nat)(g:G P ρ):(G.less m g).run n=g.run n:=by cases m<;>simp[G.less,G.run]
end
structure Nest(P:Program)[Globs] where
 fn:{ρ:Type}→FuncId→List AVal→List ABlk→G P ρ→(G P ρ→ARes→List ABlk→Prop)→Prop
 rnd:{ρ:Type}→Nat→List AVal→List ABlk→G P ρ→(G P ρ→ARes→List ABlk→Prop)→Prop
 lp:{σ:Type}→{sh:Sh}→Option Nat→List ABlk→Code→G P (σ⊕sh.El)→(σ→St)→St→(sh.El→AOut×St)→Prop
structure Env(P:Program)[Globs] where
 cfg:Cfg
 ro:Option Nat
 N:Nest P
 nd:Bool
def nest0(P:Program)[Globs]:Nest P:=⟨fun _ _ _ _ _=>False,fun _ _ _ _ _=>False,fun _ _ _ _ _ _ _=>False⟩
def conK(P:Program)[Globs]{ρ:Type}(f:FuncId)(args:List AVal)(H:List ABlk)(c:CtrR P)(x:c.X)(kk:c.sh.El→G P ρ)(k:G P ρ→ARes→List ABlk→Prop):Prop:=
 some true=some true∧some (f,wkL args,H)=some (c.f,c.args x,c.heap x)∧c.sh.all fun r=>k (kk r) (c.out r) (c.outH x r)
def nestK(P:Program)[Globs]:Nest P:=⟨fun f args H g k=>match g with
 | .callR c x kk=>conK P f args H c x kk k
 |_=>False,fun _ _ _ _ _=>False,fun _ _ _ _ _ _ _=>False⟩
def Env.at{P:Program}[Globs](X:Env P)(draw:Bool):Env P:=match draw&&X.nd with
 |true=>{X with N:=nestK P}
 |false=>X
inductive AtOp (P:Program) [Globs] {ρ:Type} (X:Env P) (ops:Array Oper) (n0:Nat) (o:Oper) (nid:Nat) (s:St) (k:G P ρ→OpRes→Foot→Prop) (draw:Bool) (H0:List ABlk):Prop
inductive AtCond (P:Program) [Globs] {ρ:Type} (X:Env P) (c:Operand) (a b:Code) (s:St) (k:G P ρ→AOut→St→Prop) (H0:List ABlk):Prop
inductive AtLoop (P:Program) [Globs] {ρ:Type} (X:Env P) (b:Code) (s:St) (k:G P ρ→AOut→St→Prop) (H0:List ABlk):Prop
inductive AtRange (P:Program) [Globs] {ρ:Type} (X:Env P) (f:Operand) (ps:Array Tmp) (assign body:Code) (s:St) (k:G P ρ→AOut→St→Prop) (H0:List ABlk):Prop
inductive AtEnd (P:Program) [Globs] {ρ:Type} (fn:Func) (o:AOut) (s:St) (out:ρ→ARes):Prop
inductive AtEndN (P:Program) [Globs] {ρ:Type} (fn:Func) (o:AOut) (s:St) (H0:List ABlk) (k:G P ρ→List PR→AOut→St→Prop):Prop
inductive AtEndB (P:Program) [Globs] {ρ:Type} (b:Nat) (o:AOut) (s:St) (H0:List ABlk) (k:G P ρ→St→Prop):Prop
inductive AtJoin (P:Program) [Globs] {sh:Sh} (H0:List ABlk) (o:AOut) (s:St) (Y:sh.El→AOut×St):Prop
inductive AtRound (P:Program) [Globs] {σ:Type} {sh:Sh} (H0:List ABlk) (o:AOut) (s:St) (E:σ→St) (X:sh.El→AOut×St):Prop
inductive Stuck (P:Program) [Globs] {ρ:Type} (ops:Array Oper) (o:Oper) (s:St) (g:G P ρ):Prop
def keepA(keep:List Nat):Nat→List AVal→List AVal
 |_,[]=>[]
 |i,a::as=>(match keep.contains i with |true=>a |false=>.junk)::keepA keep (i+1) as
def puC:List PU→List ABlk→Prop
 | [],_=>True
 |p::ps,H=>H[p.b]? =some p.blk∧puC ps H
def prC:List PR→List ABlk→Prop
 | [],_=>True
 |p::ps,H=>H[p.b]? =some p.blk∧prC ps H
def tidyC(H0:List ABlk):List TS→St→(St→Prop)→Prop
 | [],s,k=>k s
 | .keep l::ts,s,k=>spineF (keepA l 0 s.A) fun A=>tidyC H0 ts {s with A:=A} k
 | .wk p::ts,s,k=>match wkS s p with
  |some s=>tidyC H0 ts s k
  |none=>False
 | .own p sz::ts,s,k=>match ownS s p sz with
  |some s=>tidyC H0 ts s k
  |none=>False
 | .frz z::ts,s,k=>getP s z.p=some (.sl z.b z.ver z.sz 0 z.n)∧s.H[z.b]? =some (.row z.ver z.sz z.rows)∧match frzS H0 s z.p z.rows with
  |some s=>tidyC H0 ts s k
  |none=>False
 | .frp z::ts,s,k=>getP s z.p=some (.ptr z.b z.ver 0 0)∧s.H[z.b]? =some (.row z.ver z.sz [z.cs])∧match frpS H0 s z.p z.cs with
  |some s=>tidyC H0 ts s k
  |none=>False
 | .rew z::ts,s,k=>getP s z.p=some (.lst z.rows)∧tidyC H0 ts (setP s (.lst z.rows') z.p) k
 | .cut bl bump pu::ts,s,k=>puC pu s.H∧match cutS bl bump (pu.map (·.b)) H0 s with
  |some ⟨A,H,D⟩=>spineF A fun A=>spineF H fun H=>tidyC H0 ts ⟨A,H,D⟩ k
  |none=>False
section
variable {P:Program} [Globs]
def tickC{ρ:Type}:G P ρ→St→(G P ρ→St→Prop)→Prop
 | .br d c t f,s,k=>s.A[d]? =some (.sc (.bool c))∧(setF s.A d (.sc (.bool true)) fun A=>tickC t {s with A:=A} k)∧(setF s.A d (.sc (.bool false)) fun A=>tickC f {s with A:=A} k)
 | .eqi d ik x c t f,s,k=>s.A[d]? =some (.sc (.int ik x))∧(setF s.A d (.sc (.int ik c)) fun A=>tickC t {s with A:=A} k)∧tickC f s k
 | .sp _ t f,s,k=>tickC t s k∧tickC f s k
 | .fail,_,_=>True
 |g,s,k=>k g s
def orc0:Orc:=⟨fun _ _ _=>none,fun _ _ _=>none⟩
def orcC(r:Option (ARes×List ABlk)):Orc:=⟨fun _ _ _=>r,fun _ _ _=>none⟩
def refOf(H:List ABlk):Option Pre→Option (FuncId×List AVal×List ABlk)
 |some (.byRef f args ids)=>some (f,wkL args,mask ids H)
 |_=>none
def onlyB(ids:List Nat):List Nat→Bool
 | []=>true
 |c::cs=>ids.contains c&&onlyB ids cs
def closP:List Nat→List Nat→List Nat
 | [],seen=>seen
 |b::todo,seen=>match seen.contains b with
  |true=>closP todo seen
  |false=>closP todo (b::seen)
def fstVisit:List Nat→List Nat→List Nat
 | [],_=>[]
 |b::todo,seen=>match seen.contains b with
  |true=>fstVisit todo seen
  |false=>b::fstVisit todo (b::seen)
def call1Of(P:Program)[Globs](cfg:Cfg)(ids:List Nat)(rho:Operand→AVal):Op→Option (FuncId×List AVal×List Nat×List Nat)
 | .call {callee:=.value f,args:=args,.. }=>match rho f with
  | .fn (.func n) p q=>match P.funcs[n]? with
   |some fn=>match fn.body.isNone||cfg.val n||cfg.fz n with
    |false=>
     let l:=AVal.refsL (p++args.toList.map rho++q)
     match onlyB ids l&&Nat.ble l.length 900 with
     |true=>some (n,p++args.toList.map rho++q,closP l [],fstVisit l [])
     |false=>none
    |true=>none
   |none=>none
  |_=>none
 |_=>none
def ref1(H:List ABlk)(b:Nat):Option (FuncId×List AVal×List Nat×List Nat)→Option (FuncId×List AVal×Option ABlk)
 |some (f,args,ids,_)=>match ids.contains b with
  |true=>some (f,AVal.butL b (wkL args),H[b]?)
  |false=>none
 |none=>none
def idsOf:Option (FuncId×List AVal×List Nat×List Nat)→List Nat×List Nat
 |some (_,_,ids,rs)=>(ids,rs)
 |none=>([],[])
def callOf:Option Pre→Option (FuncId×List AVal)
 |some (.byVal f args _)=>some (f,wkL args)
 |_=>none
def closX(pr:List Nat)(H:List ABlk):Nat→List Nat→List Nat→Option (List Nat×List Nat)
 |_,[],seen=>some (seen,[])
 | 0,_::_,_=>none
 |n+1,b::todo,seen=>match seen.contains b with
  |true=>closX pr H n todo seen
  |false=>match pr.contains b with
   |true=>(closX pr H n todo (b::seen)).map fun p=>(p.1,b::p.2)
   |false=>match H[b]? with
    |some (.row _ _ rows)=>(closX pr H n ((if rows.all AVal.pureL then[]else AVal.refsL rows.flatten)++todo) (b::seen)).map fun p=>(p.1,b::p.2)
    |some (.loop _ _ _ A _ _ _)=>(closX pr H n (AVal.refsL A++todo) (b::seen)).map fun p=>(p.1,b::p.2)
    |some (.iter m _ _ _)=>(closX pr H n (AVal.refs m++todo) (b::seen)).map fun p=>(p.1,b::p.2)
    |some _=>(closX pr H n todo (b::seen)).map fun p=>(p.1,b::p.2)
    |none=>none
def preX(P:Program)[Globs](cfg:Cfg)(pr:List Nat)(rho:Operand→AVal)(op:Op)(H:List ABlk):Option ((FuncId⊕Nat)×List AVal×List Nat×List Nat):=
 match op with
 | .call {callee:=.value f,args:=args,.. }=>match rho f with
  | .fn (.func n) p q=>match P.funcs[n]? with
   |some fn=>match fn.body.isNone||cfg.val n||cfg.fz n with
    |false=>match closX pr H 1000 (AVal.refsL (p++args.toList.map rho++q)) []with
     |some (ids,rs)=>some (.inl n,p++args.toList.map rho++q,ids,rs)
     |none=>none
    |true=>none
   |none=>none
  | .yld b=>match closX pr H 1000 (b::AVal.refsL (args.toList.map rho)) []with
   |some (ids,rs)=>some (.inr b,args.toList.map rho,ids,rs)
   |none=>none
  |_=>none
 |_=>none
def finC(ids:List Nat)(H:List ABlk)(a:ARes)(H1:List ABlk)(k:Eff→List Nat→Bool→Prop)(kp:AVal→Prop):Prop:=
 match a with
 | .ret v=>match Nat.beq H1.length H.length with
  |true=>k {val:=v,upd:=ids.map fun i=>(i,H1.getD i .dead)} ids false
  |false=>match mergeFin H ids (some (.ret v,H1))with
   |some (.ok e)=>effF e fun e=>k e (e.upd.map (·.1)) (!e.news.isEmpty)
   |_=>False
 | .pan v=>match v.flat with
  |true=>kp v
  |false=>False
def snCall(P:Program)[Globs](cfg:Cfg)(rho:Operand→AVal)(op:Op):Option (FuncId×List AVal):=
 match op with
 | .call {callee:=.value f,args:=args,.. }=>match rho f with
  | .fn (.func n) p q=>match P.funcs[n]? with
   |some fn=>match fn.body.isNone|| !cfg.val n with
    |false=>some (n,p++args.toList.map rho++q)
    |true=>none
   |none=>none
  |_=>none
 |_=>none
def stepC1{ρ:Type}(P:Program)[gl:Globs](X:Env P)(draw:Bool)(H0:List ABlk)(ops:Array Oper)(n0:Nat)(o:Oper)(nid:Nat)(g:G P ρ)(s:St)(k:G P ρ→OpRes→Foot→Prop):Prop:=
 match g with
 | .skip (n+1) g'=>match stepOp P X.cfg orc0 ops n0 o nid s with
  |some (r,f)=>k (G.less n g') r f
  |none=>Stuck P ops o s g'
 | .op t kk=>wantedA ops s.A o=some true∧t.chk gl P X.cfg nid o.op (evalA s.A) s.H∧∀x,effF (t.eff x) fun e=>putF s.A o.dst e.val fun A=>applyF e s.H fun H=>
  k (kk x) (.ok {s with A:=A,H:=H}) (footOf n0 t.ids (.eff e) (e.upd.map (·.1)) (!e.news.isEmpty))
 | .call c x kk=>wantedA ops s.A o=some true∧callOf ((opPre P X.cfg nid (evalA s.A) o.op).run s.H)=some (c.f,c.args x)∧
  c.sh.all fun r=>match stepOp P X.cfg (orcC (some (c.out r,[]))) ops n0 o nid s with
   |some (r',f)=>k (kk r) r' f
   |none=>Stuck P ops o s (kk r)
 | .callS z c x kk=>wantedA ops s.A o=some true∧knownC z.bs s.H∧snCall P X.cfg (evalA s.A) o.op=some (c.f,z.ain)∧some (wkL z.aout)=some (c.args x)∧
  c.sh.all fun r=>match c.out r with
   | .ret u=>match u.flat with
    |true=>putF s.A o.dst u fun A=>k (kk r) (.ok {s with A:=A}) (footOf n0 z.rs (.byVal 0 [] false) [] false)
    |false=>False
   | .pan u=>match u.flat with
    |true=>k (kk r) (.pan u s) (footOf n0 z.rs (.byVal 0 [] false) [] false)
    |false=>False
 | .callR c x kk=>wantedA ops s.A o=some true∧refOf s.H ((opPre P X.cfg nid (evalA s.A) o.op).run s.H)=some (c.f,c.args x,c.heap x)∧
  c.sh.all fun r=>match stepOp P X.cfg (orcC (some (c.out r,c.outH x r))) ops n0 o nid s with
   |some (r',f)=>k (kk r) r' f
   |none=>Stuck P ops o s (kk r)
 | .call1 c b v ex x kk=>wantedA ops s.A o=some true∧prC ex s.H∧ref1 s.H b (call1Of P X.cfg (b::ex.map (·.b)) (evalA s.A) o.op)=some (c.f,AVal.at0L b v (c.args x),some ((c.blk x).setVer v))∧
  c.sh.all fun r=>match c.out r with
   | .ret u=>putF s.A o.dst (u.at1 b v) fun A=>applyF {val:=u.at1 b v,upd:=[(b,(c.outB x r).setVer v)]} s.H fun H=>k (kk r) (.ok {s with A:=A,H:=H})
    (footOf n0 (idsOf (call1Of P X.cfg (b::ex.map (·.b)) (evalA s.A) o.op)).2 (.byRef 0 [] []) (idsOf (call1Of P X.cfg (b::ex.map (·.b)) (evalA s.A) o.op)).1 false)
   | .pan u=>k (kk r) (.pan u {s with H:=(idsOf (call1Of P X.cfg (b::ex.map (·.b)) (evalA s.A) o.op)).1.foldl (fun H i=>H.set i .dead) s.H})
    (footOf n0 (idsOf (call1Of P X.cfg (b::ex.map (·.b)) (evalA s.A) o.op)).2 (.byRef 0 [] []) (idsOf (call1Of P X.cfg (b::ex.map (·.b)) (evalA s.A) o.op)).1 false)
 | .inl pr g'=>wantedA ops s.A o=some true∧prC pr s.H∧match preX P X.cfg (pr.map (·.b)) (evalA s.A) o.op s.H with
  |some (.inl f,args,ids,rs)=>headsF (mask ids s.H) fun Hm=>X.N.fn f args Hm g' fun g2 a H1=>finC ids s.H a H1 (fun e ws nw=>putF s.A o.dst e.val fun A=>applyF e s.H fun H=>k g2 (.ok {s with A:=A,H:=H}) (footOf n0 rs (.byRef 0 [] []) ws nw))
   (fun v=>k g2 (.pan v {s with H:=ids.foldl (fun H i=>H.set i .dead) s.H}) (footOf n0 rs (.byRef 0 [] []) ids false))
  |some (.inr b,args,ids,rs)=>headsF (mask ids s.H) fun Hm=>X.N.rnd b args Hm g' fun g2 a H1=>finC ids s.H a H1 (fun e ws nw=>putF s.A o.dst e.val fun A=>applyF e s.H fun H=>k g2 (.ok {s with A:=A,H:=H}) (footOf n0 rs (.byRef 0 [] []) ws nw))
   (fun v=>k g2 (.pan v {s with H:=ids.foldl (fun H i=>H.set i .dead) s.H}) (footOf n0 rs (.byRef 0 [] []) ids false))
  |none=>Stuck P ops o s g'
 | .pick z seen kk=>match draw with
  |true=>False
  |false=>(match o.op with
   | .next it false=>wantedA ops s.A o=some true∧(evalA s.A it=.ptr z.b 0 0 0∧s.H[z.b]? =some (.iter (.mp z.mb) z.n seen z.n)∧s.H[z.mb]? =some (.map z.n z.es)∧
    (putF s.A o.dst (.tup [.sc (.bool false)]) fun A=>k (kk none) (.ok {s with A:=A}) ⟨[],[]⟩)∧
    ∀i,putF s.A o.dst (.tup [.sc (.bool true),.junk,.junk]) fun A=>applyF {val:=nothing,upd:=[(z.b,.iter (.mp z.mb) z.n (seen++[i]) z.n)]} s.H fun H=>k (kk (some i)) (.ok {s with A:=A,H:=H}) ⟨[],[]⟩)
   |_=>False)
 | .grow z kk=>match draw with
  |true=>False
  |false=>(match o.op with
   | .call {callee:=.builtin .append,args:=args,argTypes:=ats}=>match ats[0]?,ats[1]?,args[0]?,args[1]? with
    |some ST,some XT,some sx,some x=>wantedA ops s.A o=some true∧s.H[nid]? =some .unborn∧decide (args.size=2)=true∧growT P ST XT=some (z.n,z.bytes)∧evalA s.A sx=.sl z.b z.ver z.n 0 z.len∧s.H[z.b]? =some (.row z.ver z.n (z.l.map z.enc))∧
     (elems (evalA s.A x)).run s.H=some (z.m.map z.enc)∧(∀x,(z.enc x).length=z.n)∧z.m.isEmpty=false∧
     (putF s.A o.dst (.sl z.b z.ver z.n 0 (z.l++z.m).length) fun A=>applyF {val:=nothing,upd:=[(z.b,.row z.ver z.n ((z.l++z.m).map z.enc))]} s.H fun H=>k (kk true) (.ok {s with A:=A,H:=H}) ⟨[],[]⟩)∧
     (putF s.A o.dst (.sl nid 0 z.n 0 (z.l++z.m).length) fun A=>applyF {val:=nothing,upd:=[(nid,.row 0 z.n ((z.l++z.m).map z.enc))]} s.H fun H=>k (kk false) (.ok {s with A:=A,H:=H}) ⟨[],[]⟩)
    |_,_,_,_=>False
   |_=>False)
 | .fail=>True
 | .stop=>AtOp P X ops n0 o nid s k draw H0
 |g=>Stuck P ops o s g
def stepC{ρ:Type}(P:Program)[gl:Globs](X:Env P)(draw:Bool)(H0:List ABlk)(ops:Array Oper)(n0:Nat)(o:Oper)(nid:Nat)(g:G P ρ)(s:St)(k:G P ρ→OpRes→Foot→Prop):Prop:=
 match g with
 | .tidy l g'=>match draw with
  |true=>False
  |false=>tidyC H0 l s fun s'=>stepC1 P X draw H0 ops n0 o nid g' s' k
 |g=>stepC1 P X draw H0 ops n0 o nid g s k
def runC{ρ:Type}(P:Program)[Globs](X:Env P)(draw:Bool)(H0:List ABlk)(ops:Array Oper)(n0:Nat):List (Oper×Nat)→G P ρ→St→(G P ρ→OpRes→List Foot→Prop)→Prop
 | [],g,s,k=>k g (.ok s) []
 | (o,nid)::rest,g,s,k=>tickC g s fun g s=>stepC P X draw H0 ops n0 o nid g s fun g r f=>match r with
  | .ok ⟨A,H,D⟩=>spineF A fun A=>spineF H fun H=>spineF D fun D=>runC P X draw H0 ops n0 rest g ⟨A,H,D⟩ fun g r fs=>k g r (f::fs)
  | .pan v s'=>k g (.pan v s') [f]
def regionC{ρ:Type}(P:Program)[Globs](X:Env P)(H0:List ABlk)(ops:Array Oper)(draw:Bool)(g:G P ρ)(s:St)(k:G P ρ→OpRes→Prop):Prop:=
 natF (countAllocs ops.toList) fun c=>natF (if c=0 then 0 else tailFree s.H) fun t=>natF (c - t) fun m=>
 newsF s.H (List.replicate m .unborn) fun H1=>
 natF H1.length fun n0=>runC P X draw H0 ops n0 (numbered (s.H.length - t) ops.toList) g {s with H:=H1} fun g r feet=>
  if !draw then k g r else
  if drawable ops&&feet.length==ops.size&&indep ops (CheckFast.beforeF ops) feet then
   match r with
   | .ok s'=>k g (.ok s')
   | .pan v s'=>if feet.all (fun f=>f.writes.isEmpty)then k g (.pan v {s' with A:=ops.toList.foldl (fun A o=>putA A o.dst .junk) s'.A})else False
  else False
def preC{ρ:Type}(H0:List ABlk)(g:G P ρ)(s:St)(k:G P ρ→St→Prop):Prop:=match g with
 | .tidy l g'=>tidyC H0 l s fun s'=>k g' s'
 |g=>k g s
def iterC{ρ:Type}(f:G P ρ→St→(G P ρ→AOut→St→Prop)→Prop):Nat→G P ρ→St→(G P ρ→AOut→St→Prop)→Prop
 | 0,_,_,_=>False
 |n+1,g,s,k=>f g s fun g o s'=>match o with
  | .normal=>iterC f n g s' k
  |o=>k g o s'
def roundC{σ:Type}{sh:Sh}(H0:List ABlk)(E:σ→St)(X:sh.El→AOut×St)(g:G P (σ⊕sh.El))(o:AOut)(s:St):Prop:=
 match g with
 | .done ts (.inl a)=>tidyC H0 ts s fun s'=>(o,s')=(AOut.normal,E a)
 | .done ts (.inr t)=>match o with
  | .normal=>False
  |o=>tidyC H0 ts s fun s'=>(o,s')=X t
 | .fail=>True
 |_=>AtRound P H0 o s E X
def joinC{sh:Sh}(H0:List ABlk)(Y:sh.El→AOut×St)(g:G P sh.El)(o:AOut)(s:St):Prop:=
 match g with
 | .done ts t=>tidyC H0 ts s fun s'=>(o,s')=Y t
 | .fail=>True
 |_=>AtJoin P H0 o s Y
def condC{ρ:Type}(P:Program)[Globs](X:Env P)(H0:List ABlk)(c:Operand)(a b:Code)(wa wb:G P ρ→St→(G P ρ→AOut→St→Prop)→Prop)(g:G P ρ)(s:St)(k:G P ρ→AOut→St→Prop):Prop:=
 preC H0 g s fun g s=>tickC g s fun g s=>match g with
  | .skip (n+1) g=>match evalA s.A c with
   | .sc (.bool true)=>wa (G.less n g) s k
   | .sc (.bool false)=>wb (G.less n g) s k
   |_=>False
  | .fail=>True
  |_=>AtCond P X c a b s k H0
def blockC{ρ:Type}(id:Nat)(k:G P ρ→AOut→St→Prop)(g:G P ρ)(o:AOut)(s':St):Prop:=match o with
 | .exit id'=>if id'=id then k g .normal s' else k g (.exit id') s'
 |o=>k g o s'
def landR(P:Program)[Globs](cfg:Cfg)(L:Nat)(fn:Func)(m:Option AVal)(s:St):Option (ARes×List ABlk):=
 match leave P cfg orc0 L s.D m s.H with
 |some (m',H')=>match ending P fn s.A m' H' with
  |some (.ret v,H1)=>some (.ret (wkD v),H1)
  |some (.pan v,H1)=>match v.flat with
   |true=>some (.pan v,H1)
   |false=>none
  |none=>none
 |none=>none
def landRO(P:Program)[Globs](cfg:Cfg)(L:Nat)(fn:Func)(o:AOut)(s:St):Option (ARes×List ABlk):=
 match o with
 | .normal=>landR P cfg L fn none s
 | .ret=>landR P cfg L fn none s
 | .pan v=>landR P cfg L fn (some v) s
 | .exit _=>none
def sealC{σ:Type}{sh:Sh}(N:Nest P)(ro:Option Nat)(H0:List ABlk)(b:Code)(E:σ→St)(s:St)(Y:sh.El→AOut×St)(g:G P (σ⊕sh.El))(f:G P (σ⊕sh.El)→Prop):Prop:=
 match g with
 | .shutG _ _ g=>N.lp ro H0 b g E s Y
 |g=>f g
def gxC(P:Program)[Globs](X:Env P)(H0:List ABlk):Code→{ρ:Type}→G P ρ→St→(G P ρ→AOut→St→Prop)→Prop
 | .skip,_,g,s,k=>k g .normal s
 | .region _ ops draw,_,g,s,k=>match X.ro.isSome&&ops.toList.any putsOff with
  |true=>False
  |false=>preC H0 g s fun g s=>regionC P (X.at draw) H0 ops draw g s fun g r=>match r with
   | .ok s'=>k g .normal s'
   | .pan v s'=>k g (.pan v) s'
 | .seq a b,_,g,s,k=>gxC P X H0 a g s fun g o s'=>match o with
  | .normal=>gxC P X H0 b g s' k
  |o=>k g o s'
 | .cond c a b,_,g,s,k=>match g with
  | .join sh Y g1 kk=>condC P X H0 c a b (fun g s k=>gxC P X H0 a g s k) (fun g s k=>gxC P X H0 b g s k) g1 s (joinC H0 Y)∧sh.all fun t=>k (kk t) (Y t).1 (Y t).2
  |g=>condC P X H0 c a b (fun g s k=>gxC P X H0 a g s k) (fun g s k=>gxC P X H0 b g s k) g s k
 | .block id b,_,g,s,k=>match g with
  | .join sh Y g1 kk=>gxC P X H0 b g1 s (blockC id (joinC H0 Y))∧sh.all fun t=>k (kk t) (Y t).1 (Y t).2
  |g=>gxC P X H0 b g s (blockC id k)
 | .loop b,_,g,s,k=>match g with
  | .unroll n g=>iterC (fun g s k=>gxC P X H0 b g s k) n g s k
  | .loop sh hd E Y a0 body kk=>(tidyC H0 hd s fun s'=>s'=E a0)∧(∀a,sealC X.N X.ro H0 b E (E a) Y (body a) fun g=>gxC P X H0 b g (E a) (roundC H0 E Y))∧sh.all fun t=>k (kk t) (Y t).1 (Y t).2
  | .loopS hs sh hd E Y a0 body kk=>(tidyC H0 hd s fun s'=>s'=E a0)∧(hs.all fun a=>sealC X.N X.ro H0 b E (E a) Y (body a) fun g=>gxC P X H0 b g (E a) (roundC H0 E Y))∧sh.all fun t=>k (kk t) (Y t).1 (Y t).2
  | .fail=>True
  |_=>AtLoop P X b s k H0
 | .exit id,_,g,s,k=>k g (.exit id) s
 | .ret,_,g,s,k=>k g .ret s
 | .rangeFunc f ps assign body,_,g,s,k=>preC H0 g s fun g s=>match g with
  | .inl pr g=>(some true=some true)∧match evalA s.A f with
   | .fn (.func n) p q=>match enterA X.ro 0 ps assign body s with
    |some (l,H1,D1)=>spineF H1 fun H1=>prC pr H1∧match closX (pr.map (·.b)) H1 1000 (AVal.refsL (p++[.yld l]++q)) []with
     |some (ids,_)=>headsF (mask ids H1) fun Hm=>X.N.fn n (p++[.yld l]++q) Hm g fun g2 a H2=>finC ids H1 a H2
      (fun e _ _=>applyF e H1 fun H3=>match endA l D1 s H3 with
       |some (out,s')=>k g2 out s'
       |none=>False)
      (fun v=>k g2 (.pan v) {s with H:=ids.foldl (fun H i=>H.set i .dead) H1,D:=D1})
     |none=>False
    |none=>False
   |_=>False
  | .fail=>True
  |_=>AtRange P X f ps assign body s k H0
 |_,_,_,_,_=>False
def lowB(pr:List Nat)(n:Nat):Nat→List ABlk→Bool
 |_,[]=>true
 |i,x::xs=>(match pr.contains i with
  |true=>true
  |false=>blkLt n x)&&lowB pr n (i+1) xs
def ARes.refsLt(n:Nat):ARes→Bool
 | .ret v=>v.refsLt n
 | .pan _=>true
def trimC(pr:List PR)(n:Nat)(a:ARes)(H1:List ABlk)(k:ARes→List ABlk→Prop):Prop:=
 prC pr H1∧match a.refsLt n&&lowB (pr.map (·.b)) n 0 (H1.take n)with
  |true=>spineF (H1.take n) fun H=>k a H
  |false=>k a H1
def endN{ρ:Type}(P:Program)[Globs](cfg:Cfg)(fn:Func)(H0:List ABlk)(g:G P ρ)(o:AOut)(s:St)(k:G P ρ→ARes→List ABlk→Prop):Prop:=
 match g with
 | .tidy ts (.inl pr g)=>tidyC H0 ts s fun s=>match landRO P cfg 10 fn o s with
  |some (a,H1)=>(some true=some true)∧trimC pr H0.length a H1 (k g)
  |none=>False
 | .fail=>True
 |_=>AtEndN P fn o s H0 fun g pr o s=>match landRO P cfg 10 fn o s with
  |some (a,H1)=>trimC pr H0.length a H1 (k g)
  |none=>False
def fnN(P:Program)[Globs](cfg:Cfg)(nd:Bool)(N:Nest P){ρ:Type}(f:FuncId)(args:List AVal)(H:List ABlk)(g:G P ρ)(k:G P ρ→ARes→List ABlk→Prop):Prop:=
 match g with
 | .callR c x kk=>conK P f args H c x kk k
 |g=>match P.funcs[f]? with
  |some fn=>match fn.body with
   |some c=>gxC P ⟨cfg,none,N,nd⟩ H c g ⟨frameA fn.ntmps args,H,[]⟩ fun g o s=>endN P cfg fn H g o s k
   |none=>False
  |none=>False
def endB{ρ:Type}(P:Program)[Globs](b:Nat)(H0:List ABlk)(g:G P ρ)(o:AOut)(s:St)(k:G P ρ→ARes→List ABlk→Prop):Prop:=
 match jumpOf o with
 |some j=>match g with
  | .tidy ts g=>tidyC H0 ts s fun s=>match marked b (if j.isNone then .ready else .done) j s.H with
   |some H2=>k g (.ret (.sc (.bool j.isNone))) H2
   |none=>False
  | .fail=>True
  |_=>AtEndB P b o s H0 fun g s=>match marked b (if j.isNone then .ready else .done) j s.H with
   |some H2=>k g (.ret (.sc (.bool j.isNone))) H2
   |none=>False
 |none=>False
def rndN(P:Program)[Globs](cfg:Cfg)(nd:Bool)(N:Nest P){ρ:Type}(b:Nat)(args:List AVal)(H:List ABlk)(g:G P ρ)(k:G P ρ→ARes→List ABlk→Prop):Prop:=
 match H[b]? with
 |some (.loop _ _ _ A ps assign body)=>match Nat.beq ps.length args.length with
  |true=>gxC P ⟨cfg,some b,N,nd⟩ H assign g ⟨setAll A ps args,H,[]⟩ fun g o s1=>match o with
   | .normal=>match s1.H[b]? with
    |some (.loop .ready pend1 fid1 A1 ps1 as1 bd1)=>spineF (s1.H.set b (.loop .busy pend1 fid1 A1 ps1 as1 bd1)) fun H1=>
     gxC P ⟨cfg,some b,N,nd⟩ H body g {s1 with H:=H1} fun g o s2=>endB P b H g o s2 k
    |_=>False
   |_=>False
  |false=>False
 |_=>False
inductive Sealed (P:Program) [Globs] (cfg:Cfg) (nd:Bool) (N:Nest P) (ro:Option Nat) (H0:List ABlk) (b:Code) {σ:Type} {sh:Sh} (g:G P (σ⊕sh.El)) (E:σ→St) (s:St) (Y:sh.El→AOut×St):Prop
 |mk (h:gxC P ⟨cfg,ro,N,nd⟩ H0 b g s (roundC H0 E Y)):Sealed P cfg nd N ro H0 b g E s Y
def nestN(P:Program)[Globs](cfg:Cfg)(nd:Bool):Nat→Nest P
 | 0=>nest0 P
 |n+1=>⟨fnN P cfg nd (nestN P cfg nd n),rndN P cfg nd (nestN P cfg nd n),fun ro H0 b g E s Y=>Sealed P cfg nd (nestN P cfg nd n) ro H0 b g E s Y⟩
def env0(P:Program)[Globs](cfg:Cfg):Env P:=⟨cfg,none,nestN P cfg false 9,false⟩
def envN(P:Program)[Globs](cfg:Cfg):Env P:=⟨cfg,none,nestN P cfg true 9,true⟩
end
end Go.AM
end
section
namespace Go.AM
section
variable [Globs] {P:Program} {g g':Gh} {w:World}
theorem CellsAt_pure(hst:∀k o,g.st k o→g'.st k o){c:Array Value}:∀(l:List AVal) (o:Nat),AVal.pureL l=true→CellsAt g w c l o→CellsAt g' w c l o
 | [],_,_,_=>trivial
 |a::as,o,hp,h=>by
  simp only[AVal.pureL,Bool.and_eq_true]at hp;obtain⟨⟨y,h1,h2,h3⟩,h4⟩:=h;exact⟨⟨y,h1,h2,R_pure hst a y hp.1 h3⟩,CellsAt_pure hst as (o+1) hp.2 h4⟩
theorem RowsAt_pure(hst:∀k o,g.st k o→g'.st k o){c:Array Value}{sz:Nat}:∀(l:List (List AVal)) (o:Nat),l.all AVal.pureL=true→RowsAt g w c sz l o→RowsAt g' w c sz l o
 | [],_,_,_=>trivial
 |r::rs,o,hp,h=>by
  simp only[List.all_cons,Bool.and_eq_true]at hp;exact⟨⟨h.1.1,CellsAt_pure hst r o hp.1 h.1.2⟩,RowsAt_pure hst rs (o+sz) hp.2 h.2⟩
mutual
theorem R_at0{b v:Nat}(hst:∀k o,g.st k o→g'.st k o)(hrho:∀x,g.rho b v=some x→g'.rho 0 0=some x):∀(a:AVal) (x:Value),a.only0=true→R g w (a.at0 b v) x→R g' w a x
 | .sc _,x,_,hr=>by simpa[R,AVal.at0]using hr
 | .agg cs,x,hp,hr=>by
  simp only[R,AVal.only0,AVal.at0]at hr hp ⊢;obtain⟨vs,e,h1,hl⟩:=hr;exact⟨vs,e,h1,RL_at0 hst hrho cs vs hp hl⟩
 | .tup cs,x,hp,hr=>by
  simp only[R,AVal.only0,AVal.at0]at hr hp ⊢;obtain⟨vs,e,hl⟩:=hr;exact⟨vs,e,RL_at0 hst hrho cs vs hp hl⟩
 | .ptr b' v' i o,x,hp,hr=>by
  grind [R,AVal.only0,AVal.at0]
 | .cptr cs o,x,_,hr=>by
  grind [R,AVal.at0,RC_pure]
 | .sl b' v' sz o n,x,hp,hr=>by
  grind [R,AVal.only0,AVal.at0]
 | .lst rows,x,_,hr=>R_pure hst _ x rfl (by simpa only[AVal.at0]using hr)
 | .fn f c d,x,hp,hr=>by
  simp only[R,AVal.only0,AVal.at0,Bool.and_eq_true]at hr hp ⊢;obtain⟨va,vb,e,h1,h2⟩:=hr;exact⟨va,vb,e,RL_at0 hst hrho c va hp.1 h1,RL_at0 hst hrho d vb hp.2 h2⟩
 | .ifc t a,x,hp,hr=>by
  simp only[R,AVal.only0,AVal.at0]at hr hp ⊢;obtain⟨y,e,h1⟩:=hr;exact⟨y,e,R_at0 hst hrho a y hp h1⟩
 | .mp _,_,hp,_=>by simp[AVal.only0]at hp
 | .yld _,_,hp,_=>by simp[AVal.only0]at hp
 | .sa b' v' i o s n,x,hp,hr=>by
  grind [R,AVal.only0,AVal.at0]
 | .glob i o,x,_,hr=>by simpa[R,AVal.at0]using hr
 | .emp,x,_,hr=>by simpa[R,AVal.at0]using hr
 | .nz _,x,_,hr=>by simpa[R,AVal.at0]using hr
 | .junk,x,_,_=>by simp[R]
theorem RL_at0{b v:Nat}(hst:∀k o,g.st k o→g'.st k o)(hrho:∀x,g.rho b v=some x→g'.rho 0 0=some x):∀(a:List AVal) (x:List Value),AVal.only0L a=true→RL g w (AVal.at0L b v a) x→RL g' w a x
 | [],x,_,hr=>by simpa[RL,AVal.at0L]using hr
 |a::as,x,hp,hr=>by
  simp only[RL,AVal.only0L,AVal.at0L,Bool.and_eq_true]at hr hp ⊢;obtain⟨y,ys,e,h1,h2⟩:=hr;exact⟨y,ys,e,R_at0 hst hrho a y hp.1 h1,RL_at0 hst hrho as ys hp.2 h2⟩
end
theorem row0_inv{x:ABlk}(h:x.row0=true):∃sz rows,x=.row 0 sz rows∧rows.all AVal.pureL=true:=by
 unfold ABlk.row0 at h;grind
open Classical in
theorem FnRef.move{f:FuncId}{args:List AVal}{x x':ABlk}{r:ARes}(h:FnRef P f args [x] r [x'])(ha:AVal.only0L args=true)(hx:x.row0=true)(hx':x'.row0=true)(hr:r.okR=true)
 (b v:Nat) (H:List ABlk) (hb:H[b]? =some (x.setVer v)) (hd:∀b',b'≠b→∀y,H[b']? =some y→y=.dead):FnRef P f (AVal.at0L b v args) H (r.at1 b v) (H.set b (x'.setVer v)):=by
 obtain⟨sz,rows,rfl,hp⟩:=row0_inv hx;obtain⟨sz',rows',rfl,hp'⟩:=row0_inv hx';simp only[ABlk.setVer]at hb ⊢;have hblt:b<H.length:=(List.getElem?_eq_some_iff.1 hb).1;refine⟨h.1,fun g w vs hi hl=>?_⟩
 let g':Gh:=⟨fun b' v'=>if b'=0∧v'=0 then g.rho b v else none,g.st⟩
 have h00:g'.rho 0 0=g.rho b v:=by simp[g']
 have hno:∀b' v',¬(b'=0∧v'=0)→g'.rho b' v'=none:=fun b' v' hc=>by simp[g',hc]
 have hst:∀k o,g.st k o→g'.st k o:=fun _ _ h=>h
 have hi':Inv g' [.row 0 sz rows] w:=by
  refine⟨fun b' y hy=>?_,fun b1 b2 y1 y2 v1 v2 k z z' e1 e2 _ _ _ _=>?_,fun b' v' hc=>?_,fun b' y v1 v2 hy hv hlt=>?_,fun b' y v1 k z o hy hv hk=>?_,hi.stold,fun i cs hc=>⟨(hi.globs i cs hc).1,RC_pure hst _ _ _ (hi.globs i cs hc).1 (hi.globs i cs hc).2⟩⟩
  ·cases b' with
   |zero=>
    simp only[List.getElem?_cons_zero,Option.some.injEq]at hy;subst hy;rcases hi.good b _ hb with⟨k,c,e,h1,h2,h3,h4,h5⟩ |⟨h1,h2,h3⟩
    ·exact .inl ⟨k,c,e,by rw[h00];exact h1,h2,RowsAt_pure hst rows 0 hp h3,h4,h5⟩
    ·exact .inr ⟨h1,by rw[h00];exact h2,h3⟩
   |succ n=>simp at hy
  ·grind
  ·grind
  ·grind
  ·by_cases hc:b'=0∧v1=0
   ·obtain⟨rfl,rfl⟩:=hc;rw[h00]at hk;exact hi.free b _ v k z o hb rfl hk
   ·rw[hno _ _ hc]at hk;cases hk
 have hl':RL g' w args vs.toList:=RL_at0 hst (fun x hx=>by rw[h00];exact hx) _ _ ha hl
 refine(h.2 g' w vs hi' hl').mono fun e w' ⟨g1',hi1,hla,he⟩=>?_
 have hown:∀k,Owned g' [.row 0 sz rows] k→Owned g H k:=by
  rintro k ⟨b',y,v',z,hy,hv,hk⟩;by_cases hc:b'=0∧v'=0
  ·obtain⟨rfl,rfl⟩:=hc;rw[h00]at hk;exact⟨b,_,v,z,hb,rfl,hk⟩
  ·rw[hno _ _ hc]at hk;cases hk
 have hown':∀k,Owned g H k→Owned g' [.row 0 sz rows] k:=by
  rintro k ⟨b',y,v',z,hy,hv,hk⟩;by_cases hc:b'=b
  ·subst hc;rw[hb]at hy;cases hy;simp only[ABlk.live,Option.some.injEq]at hv;subst hv;exact⟨0,_,0,z,rfl,rfl,by rw[h00];exact hk⟩
  ·rw[hd b' hc y hy]at hv;cases hv
 let g1:Gh:=⟨fun b' v'=>if b'=b∧v'=v then g1'.rho 0 0 else g.rho b' v',g1'.st⟩
 have e00:g1.rho b v=g1'.rho 0 0:=by simp[g1]
 have eno:∀b' v',¬(b'=b∧v'=v)→g1.rho b' v'=g.rho b' v':=fun b' v' hc=>by simp[g1,hc]
 have hst1:∀k o,g1'.st k o→g1.st k o:=fun _ _ h=>h
 have hget:∀b',b'≠b→(H.set b (.row v sz' rows'))[b']? =H[b']? :=fun b' hc=>List.getElem?_set_ne (Ne.symm hc)
 have hself:(H.set b (.row v sz' rows'))[b]? =some (.row v sz' rows'):=List.getElem?_set_self hblt;have hinv1:Inv g1 (H.set b (.row v sz' rows')) w':=by
  refine⟨fun b' y hy=>?_,fun b1 b2 y1 y2 v1 v2 k z z' e1 e2 l1 l2 _ _=>?_,fun b' v' hc=>?_,fun b' y v1 v2 hy hv hlt=>?_,fun b' y v1 k z o hy hv hk=>?_,hi1.stold,fun i cs hc=>⟨(hi1.globs i cs hc).1,RC_pure hst1 _ _ _ (hi1.globs i cs hc).1 (hi1.globs i cs hc).2⟩⟩
  ·by_cases hc:b'=b
   ·subst hc;rw[hself]at hy;cases hy;rcases hi1.good 0 _ rfl with⟨k,c,e,h1,h2,h3,h4,h5⟩ |⟨h1,h2,h3⟩
    ·exact .inl ⟨k,c,e,by rw[e00];exact h1,h2,RowsAt_pure hst1 rows' 0 hp' h3,h4,h5⟩
    ·exact .inr ⟨h1,by rw[e00];exact h2,h3⟩
   ·rw[hget b' hc]at hy;rw[hd b' hc y hy];trivial
  ·have key:∀(b':Nat) (y:ABlk) (v':Nat),(H.set b (.row v sz' rows'))[b']? =some y→y.live=some v'→b'=b:=by
    intro b' y v' hy hv;by_cases hc:b'=b
    ·exact hc
    ·rw[hget b' hc]at hy;rw[hd b' hc y hy]at hv;cases hv
   grind
  ·have hne:b'≠b:=by
    rintro rfl;rcases hc with hc |hc
    ·rw[hself]at hc;cases hc
    ·rw[List.length_set]at hc;omega
   rw[eno _ _ (fun hh=>hne hh.1)]
   refine hi.fresh b' v' ?_;grind
  ·by_cases hc:b'=b
   ·subst hc;rw[hself]at hy;cases hy;simp only[ABlk.live,Option.some.injEq]at hv;subst hv;rw[eno _ _ (by omega)]
    exact hi.next b' _ v v2 hb rfl hlt
   ·rw[hget b' hc]at hy;rw[hd b' hc y hy]at hv;cases hv
  ·by_cases hc:b'=b
   ·subst hc;rw[hself]at hy;cases hy;simp only[ABlk.live,Option.some.injEq]at hv;subst hv;rw[e00]at hk;exact hi1.free 0 _ 0 k z o rfl rfl hk
   ·rw[hget b' hc]at hy;rw[hd b' hc y hy]at hv;cases hv
 have hback:∀k,Owned g1 (H.set b (.row v sz' rows')) k→Owned g1' [.row 0 sz' rows'] k:=by
  rintro k ⟨b',y,v',z,hy,hv,hkz⟩;by_cases hc:b'=b
  ·subst hc;rw[hself]at hy;cases hy;simp only[ABlk.live,Option.some.injEq]at hv;subst hv;rw[e00]at hkz;exact⟨0,_,0,z,rfl,rfl,hkz⟩
  ·rw[hget b' hc]at hy;rw[hd b' hc y hy]at hv;cases hv
 refine⟨g1,hinv1,⟨⟨fun b' v' y hy=>?_,fun k o hk=>hla.ext.st k o hk,hla.ext.cell,hla.ext.shape⟩,hla.size,fun k hk ho=>hla.keep k hk fun hc=>ho (hown k hc),fun k hk ho=>?_,by grind,hla.os,hla.tape,hla.output,fun k o hk hs=>(hla.stk k o hk hs).imp_right fun h=>⟨hown k h.1,fun ho=>h.2 (hback k ho)⟩,fun b' hb'=>?_,fun b' v' k z hk=>?_⟩,?_⟩
 ·by_cases hc:b'=b∧v'=v
  ·obtain⟨rfl,rfl⟩:=hc;rw[e00];exact hla.ext.rho 0 0 y (by rw[h00];exact hy)
  ·rw[eno _ _ hc];exact hy
 ·refine hown k (hla.own k hk ?_);grind
 ·grind
 ·by_cases hc:b'=b∧v'=v
  ·obtain⟨rfl,rfl⟩:=hc;rw[e00]at hk;rcases hla.newk 0 0 k z hk with⟨v1,z1,h1⟩ |h1
   ·grind
   ·exact .inr h1
  grind
 ·cases r with
  |ret u=>
   obtain⟨y,rfl,hy⟩:=he;have hq:(∃sz o n,u=.sl 0 0 sz o n)∨(u.pure=true∧u.at1 b v=u):=by
    cases u with
    |sl b1 v1 sz o n=>
     grind [ARes.okR]
    |_=>exact .inr ⟨hr,rfl⟩
   rcases hq with⟨sz,o,n,rfl⟩ |⟨hp2,he2⟩
   ·refine⟨y,rfl,?_⟩;grind [AVal.at1,R]
   ·refine⟨y,rfl,?_⟩;grind [R_pure]
  |pan u=>
   obtain⟨y,rfl,hy⟩:=he;exact⟨y,rfl,R_flat _ _ hr hy⟩
open Classical in
theorem FnRef.moveD{f:FuncId}{args:List AVal}{x:ABlk}{r:ARes}(h:FnRef P f args [x] r [.dead])(ha:AVal.only0L args=true)(hx:x.row0=true)(hr:r.okR=true)
 (b v:Nat) (H:List ABlk) (hb:H[b]? =some (x.setVer v)) (hd:∀b',b'≠b→∀y,H[b']? =some y→y=.dead):FnRef P f (AVal.at0L b v args) H (r.at1 b v) (H.set b .dead):=by
 obtain⟨sz,rows,rfl,hp⟩:=row0_inv hx;simp only[ABlk.setVer]at hb ⊢;have hblt:b<H.length:=(List.getElem?_eq_some_iff.1 hb).1;refine⟨h.1,fun g w vs hi hl=>?_⟩
 let g':Gh:=⟨fun b' v'=>if b'=0∧v'=0 then g.rho b v else none,g.st⟩
 have h00:g'.rho 0 0=g.rho b v:=by simp[g']
 have hno:∀b' v',¬(b'=0∧v'=0)→g'.rho b' v'=none:=fun b' v' hc=>by simp[g',hc]
 have hst:∀k o,g.st k o→g'.st k o:=fun _ _ h=>h
 have hi':Inv g' [.row 0 sz rows] w:=by
  refine⟨fun b' y hy=>?_,fun b1 b2 y1 y2 v1 v2 k z z' e1 e2 _ _ _ _=>?_,fun b' v' hc=>?_,fun b' y v1 v2 hy hv hlt=>?_,fun b' y v1 k z o hy hv hk=>?_,hi.stold,fun i cs hc=>⟨(hi.globs i cs hc).1,RC_pure hst _ _ _ (hi.globs i cs hc).1 (hi.globs i cs hc).2⟩⟩
  ·cases b' with
   |zero=>
    simp only[List.getElem?_cons_zero,Option.some.injEq]at hy;subst hy;rcases hi.good b _ hb with⟨k,c,e,h1,h2,h3,h4,h5⟩ |⟨h1,h2,h3⟩
    ·exact .inl ⟨k,c,e,by rw[h00];exact h1,h2,RowsAt_pure hst rows 0 hp h3,h4,h5⟩
    ·exact .inr ⟨h1,by rw[h00];exact h2,h3⟩
   |succ n=>simp at hy
  ·grind
  ·grind
  ·grind
  ·by_cases hc:b'=0∧v1=0
   ·obtain⟨rfl,rfl⟩:=hc;rw[h00]at hk;exact hi.free b _ v k z o hb rfl hk
   ·rw[hno _ _ hc]at hk;cases hk
 have hl':RL g' w args vs.toList:=RL_at0 hst (fun x hx=>by rw[h00];exact hx) _ _ ha hl
 refine(h.2 g' w vs hi' hl').mono fun e w' ⟨g1',hi1,hla,he⟩=>?_
 have hown:∀k,Owned g' [.row 0 sz rows] k→Owned g H k:=by
  rintro k ⟨b',y,v',z,hy,hv,hk⟩;by_cases hc:b'=0∧v'=0
  ·obtain⟨rfl,rfl⟩:=hc;rw[h00]at hk;exact⟨b,_,v,z,hb,rfl,hk⟩
  ·rw[hno _ _ hc]at hk;cases hk
 have hown':∀k,Owned g H k→Owned g' [.row 0 sz rows] k:=by
  rintro k ⟨b',y,v',z,hy,hv,hk⟩;by_cases hc:b'=b
  ·subst hc;rw[hb]at hy;cases hy;simp only[ABlk.live,Option.some.injEq]at hv;subst hv;exact⟨0,_,0,z,rfl,rfl,by rw[h00];exact hk⟩
  ·rw[hd b' hc y hy]at hv;cases hv
 let g1:Gh:=⟨fun b' v'=>if b'=b∧v'=v then g1'.rho 0 0 else g.rho b' v',g1'.st⟩
 have e00:g1.rho b v=g1'.rho 0 0:=by simp[g1]
 have eno:∀b' v',¬(b'=b∧v'=v)→g1.rho b' v'=g.rho b' v':=fun b' v' hc=>by simp[g1,hc]
 have hst1:∀k o,g1'.st k o→g1.st k o:=fun _ _ h=>h
 have hget:∀b',b'≠b→(H.set b .dead)[b']? =H[b']? :=fun b' hc=>List.getElem?_set_ne (Ne.symm hc)
 have hself:(H.set b .dead)[b]? =some .dead:=List.getElem?_set_self hblt;have hinv1:Inv g1 (H.set b .dead) w':=by
  refine⟨fun b' y hy=>?_,fun b1 b2 y1 y2 v1 v2 k z z' e1 e2 l1 l2 _ _=>?_,fun b' v' hc=>?_,fun b' y v1 v2 hy hv hlt=>?_,fun b' y v1 k z o hy hv hk=>?_,hi1.stold,fun i cs hc=>⟨(hi1.globs i cs hc).1,RC_pure hst1 _ _ _ (hi1.globs i cs hc).1 (hi1.globs i cs hc).2⟩⟩
  ·by_cases hc:b'=b
   ·subst hc;rw[hself]at hy;cases hy
    trivial
   ·rw[hget b' hc]at hy;rw[hd b' hc y hy];trivial
  ·have key:∀(b':Nat) (y:ABlk) (v':Nat),(H.set b .dead)[b']? =some y→y.live=some v'→b'=b:=by
    intro b' y v' hy hv;by_cases hc:b'=b
    ·exact hc
    ·rw[hget b' hc]at hy;rw[hd b' hc y hy]at hv;cases hv
   grind
  ·have hne:b'≠b:=by
    rintro rfl;rcases hc with hc |hc
    ·rw[hself]at hc;cases hc
    ·rw[List.length_set]at hc;omega
   rw[eno _ _ (fun hh=>hne hh.1)]
   refine hi.fresh b' v' ?_;grind
  ·by_cases hc:b'=b
   ·subst hc;rw[hself]at hy;cases hy;cases hv
   ·rw[hget b' hc]at hy;rw[hd b' hc y hy]at hv;cases hv
  ·by_cases hc:b'=b
   ·subst hc;rw[hself]at hy;cases hy;cases hv
   ·rw[hget b' hc]at hy;rw[hd b' hc y hy]at hv;cases hv
 have hback:∀k,Owned g1 (H.set b .dead) k→Owned g1' [.dead] k:=by
  rintro k ⟨b',y,v',z,hy,hv,hkz⟩;by_cases hc:b'=b
  ·subst hc;rw[hself]at hy;cases hy;cases hv
  ·rw[hget b' hc]at hy;rw[hd b' hc y hy]at hv;cases hv
 refine⟨g1,hinv1,⟨⟨fun b' v' y hy=>?_,fun k o hk=>hla.ext.st k o hk,hla.ext.cell,hla.ext.shape⟩,hla.size,fun k hk ho=>hla.keep k hk fun hc=>ho (hown k hc),fun k hk ho=>?_,by grind,hla.os,hla.tape,hla.output,fun k o hk hs=>(hla.stk k o hk hs).imp_right fun h=>⟨hown k h.1,fun ho=>h.2 (hback k ho)⟩,fun b' hb'=>?_,fun b' v' k z hk=>?_⟩,?_⟩
 ·by_cases hc:b'=b∧v'=v
  ·obtain⟨rfl,rfl⟩:=hc;rw[e00];exact hla.ext.rho 0 0 y (by rw[h00];exact hy)
  ·rw[eno _ _ hc];exact hy
 ·refine hown k (hla.own k hk ?_);grind
 ·grind
 ·by_cases hc:b'=b∧v'=v
  ·obtain⟨rfl,rfl⟩:=hc;rw[e00]at hk;rcases hla.newk 0 0 k z hk with⟨v1,z1,h1⟩ |h1
   ·grind
   ·exact .inr h1
  grind
 ·cases r with
  |ret u=>
   obtain⟨y,rfl,hy⟩:=he;have hq:(∃sz o n,u=.sl 0 0 sz o n)∨(u.pure=true∧u.at1 b v=u):=by
    cases u with
    |sl b1 v1 sz o n=>
     grind [ARes.okR]
    |_=>exact .inr ⟨hr,rfl⟩
   rcases hq with⟨sz,o,n,rfl⟩ |⟨hp2,he2⟩
   ·refine⟨y,rfl,?_⟩;grind [AVal.at1,R]
   ·refine⟨y,rfl,?_⟩;grind [R_pure]
  |pan u=>
   obtain⟨y,rfl,hy⟩:=he;exact⟨y,rfl,R_flat _ _ hr hy⟩
theorem FnRef.moveE{f:FuncId}{args:List AVal}{x x':ABlk}{r:ARes}(h:FnRef P f args [x] r [x'])(ha:AVal.only0L args=true)(hx:x.row0=true)(hx':x'.row0=true∨x'=.dead)(hr:r.okR=true)
 (b v:Nat) (H:List ABlk) (hb:H[b]? =some (x.setVer v)) (hd:∀b',b'≠b→∀y,H[b']? =some y→y=.dead):FnRef P f (AVal.at0L b v args) H (r.at1 b v) (H.set b (x'.setVer v)):=by
 rcases hx' with hx' |rfl
 ·exact h.move ha hx hx' hr b v H hb hd
 ·exact h.moveD ha hx hr b v H hb hd
theorem FnRef.frame{f:FuncId}{args:List AVal}{H:List ABlk}{r:ARes}{b:Nat}{y:ABlk}(h:FnRef P f args (mask [b] H) r ((mask [b] H).set b y))(hb:b<H.length):FnRef P f args H r (H.set b y):=by
 refine⟨h.1,fun g w vs hi hl=>(h.2 g w vs (inv_mask hi [b]) hl).mono fun e w' ⟨g1,hi1,hla,he⟩=>?_⟩
 have hlen:((mask [b] H).set b y).length=H.length:=by rw[List.length_set,mask_length]
 have:=Inv.merge hi hi1 hla (by omega)
 have e1:merged [b] H ((mask [b] H).set b y)=H.set b y:=by
  simp only[merged,List.foldl_cons,List.foldl_nil];rw[List.getD_eq_getElem?_getD,List.getElem?_set_self (by rw[mask_length];exact hb)];rfl
 have e2:((mask [b] H).set b y).drop H.length=[]:=List.drop_of_length_le (by omega)
 rw[e1,e2,List.append_nil]at this;exact⟨g1,this.1,this.2,he⟩
mutual
theorem refsLt_pure(n:Nat):∀(v:AVal),v.pure=true→v.refsLt n=true
 | .sc _,_=>rfl
 | .agg cs,h=>by simp only[AVal.pure,AVal.refsLt]at h ⊢;exact refsLtL_pure n cs h
 | .tup cs,h=>by simp only[AVal.pure,AVal.refsLt]at h ⊢;exact refsLtL_pure n cs h
 | .ptr ..,h=>by simp[AVal.pure]at h
 | .cptr ..,_=>rfl
 | .sl ..,h=>by simp[AVal.pure]at h
 | .lst _,_=>rfl
 | .fn f a b,h=>by
  simp only[AVal.pure,AVal.refsLt,Bool.and_eq_true]at h ⊢;exact⟨refsLtL_pure n a h.1,refsLtL_pure n b h.2⟩
 | .ifc t v,h=>by simp only[AVal.pure,AVal.refsLt]at h ⊢;exact refsLt_pure n v h
 | .mp _,h=>by simp[AVal.pure]at h
 | .yld _,h=>by simp[AVal.pure]at h
 | .sa ..,h=>by simp[AVal.pure]at h
 | .glob ..,_=>rfl
 | .emp,_=>rfl
 | .nz _,_=>rfl
 | .junk,_=>rfl
theorem refsLtL_pure(n:Nat):∀(l:List AVal),AVal.pureL l=true→AVal.refsLtL n l=true
 | [],_=>rfl
 |a::as,h=>by
  simp only[AVal.pureL,AVal.refsLtL,Bool.and_eq_true]at h ⊢;exact⟨refsLt_pure n a h.1,refsLtL_pure n as h.2⟩
end
theorem FnRef.take{f:FuncId}{args:List AVal}{H H1:List ABlk}{a:ARes}(h:FnRef P f args H a H1)(h0:0<H.length)(ha:a.okR=true)(hb:∀x∈H1.take H.length,x.row0=true∨x=.dead):FnRef P f args H a (H1.take H.length):=by
 refine⟨h.1,fun g w vs hi hl=>(h.2 g w vs hi hl).mono fun e w' ⟨g1,hi1,hla,he⟩=>?_⟩
 have hlen:(H1.take H.length).length=H.length:=by rw[List.length_take];have:=hla.len;omega
 have hK:H1.take H.length++H1.drop H.length=H1:=List.take_append_drop _ _;obtain⟨i1,i2⟩:=Inv.drop (n:=H.length) (K:=H1.take H.length) (L:=H1.drop H.length) hi (by rw[hK];exact hi1) (by rw[hK];exact hla) hlen rfl fun b x hx=>.inl (by
  rcases hb x (List.mem_of_getElem? hx)with hb |rfl
  ·grind [row0_inv,blkLt,refsLtL_pure]
  ·rfl)
 refine⟨g1.upto H.length,i1,i2,?_⟩;cases a with
 |ret v=>
  obtain⟨x,rfl,hx⟩:=he;refine⟨x,rfl,?_⟩;by_cases hp:v.pure=true
  ·exact R_pure (g:=g1) (g2:=g1.upto H.length) (fun _ _ h=>h) v x hp hx
  ·cases v<;>try exact absurd ha hp
   rename_i b ver sz o n;simp only[ARes.okR,Bool.and_eq_true,beq_iff_eq]at ha;obtain⟨rfl,rfl⟩:=ha;simp only[R]at hx ⊢;rcases hx with hx |⟨k,cap,e,s,h1,h2⟩
   ·exact .inl hx
   ·exact .inr ⟨k,cap,e,s,by simpa[Gh.upto,h0]using h1,h2⟩
 |pan v=>
  obtain⟨x,rfl,hx⟩:=he;exact⟨x,rfl,R_flat v x ha hx⟩
theorem lowB_get{pr:List Nat}{n:Nat}:∀{L:List ABlk} {i:Nat},lowB pr n i L=true→∀(b:Nat) (x:ABlk),L[b]? =some x→pr.contains (i+b)=true∨blkLt n x=true
 | [],_,_,b,x,h=>by simp at h
 |y::ys,i,hl,0,x,h=>by
  grind [lowB]
 |y::ys,i,hl,b+1,x,h=>by
  simp only[lowB,Bool.and_eq_true]at hl;have:=lowB_get hl.2 b x (by simpa using h)
  grind
theorem FnRef.trim{f:FuncId}{args:List AVal}{H H1:List ABlk}{a:ARes}{pr:List Nat}(h:FnRef P f args H a H1)(hpan:∀v,a=.pan v→v.flat=true)(ha:a.refsLt H.length=true)(hl:lowB pr H.length 0 (H1.take H.length)=true)
 (hp:∀i,pr.contains i=true→∃x,H1[i]? =some x∧prBlk x=true):FnRef P f args H a (H1.take H.length):=by
 refine⟨h.1,fun g w vs hi hl'=>(h.2 g w vs hi hl').mono fun e w' ⟨g1,hi1,hla,he⟩=>?_⟩
 have hlen:(H1.take H.length).length=H.length:=by rw[List.length_take];have:=hla.len;omega
 have hK:H1.take H.length++H1.drop H.length=H1:=List.take_append_drop _ _;obtain⟨i1,i2⟩:=Inv.drop (n:=H.length) (K:=H1.take H.length) (L:=H1.drop H.length) hi (by rw[hK];exact hi1) (by rw[hK];exact hla) hlen rfl fun b x hx=>.inl (by
  rcases lowB_get hl b x hx with hc |hc
  ·grind [prBlk_inv,blkLt,refsLtL_pure,refsLt_pure]
  ·exact hc)
 refine⟨g1.upto H.length,i1,i2,?_⟩;cases a with
 |ret v=>
  obtain⟨x,rfl,hx⟩:=he;exact⟨x,rfl,R_restrict (n:=H.length) (g:=g1) (g2:=g1.upto H.length) (fun _ _ h=>h) (fun b ver x hb he=>by grind [Gh.upto]) v x ha hx⟩
 |pan v=>
  obtain⟨x,rfl,hx⟩:=he;exact⟨x,rfl,R_flat v x (hpan v rfl) hx⟩
mutual
theorem R_but{b:Nat}:∀(a:AVal) (x:Value),R g w a x→R g w (a.but b) x
 | .sc _,x,hr=>by simpa only[AVal.but]using hr
 | .agg cs,x,hr=>by
  simp only[R,AVal.but]at hr ⊢;obtain⟨vs,e,h1,hl⟩:=hr;exact⟨vs,e,h1,RL_but cs vs hl⟩
 | .tup cs,x,hr=>by
  simp only[R,AVal.but]at hr ⊢;obtain⟨vs,e,hl⟩:=hr;exact⟨vs,e,RL_but cs vs hl⟩
 | .ptr ..,x,hr=>by
  grind [AVal.but,R]
 | .cptr ..,x,hr=>by simpa only[AVal.but]using hr
 | .sl ..,x,hr=>by
  grind [AVal.but,R]
 | .lst _,x,hr=>by simpa only[AVal.but]using hr
 | .fn f c d,x,hr=>by
  simp only[R,AVal.but]at hr ⊢;obtain⟨va,vb,e,h1,h2⟩:=hr;exact⟨va,vb,e,RL_but c va h1,RL_but d vb h2⟩
 | .ifc t a,x,hr=>by
  simp only[R,AVal.but]at hr ⊢;obtain⟨y,e,h1⟩:=hr;exact⟨y,e,R_but a y h1⟩
 | .mp _,_,_=>by simp[AVal.but,R]
 | .yld _,_,_=>by simp[AVal.but,R]
 | .sa ..,x,hr=>by
  grind [AVal.but,R]
 | .glob ..,x,hr=>by simpa only[AVal.but]using hr
 | .emp,x,hr=>by simpa only[AVal.but]using hr
 | .nz _,x,hr=>by simpa only[AVal.but]using hr
 | .junk,x,_=>by simp[AVal.but,R]
theorem RL_but{b:Nat}:∀(a:List AVal) (x:List Value),RL g w a x→RL g w (AVal.butL b a) x
 | [],x,hr=>by simpa[RL,AVal.butL]using hr
 |a::as,x,hr=>by
  simp only[RL,AVal.butL]at hr ⊢;obtain⟨y,ys,e,h1,h2⟩:=hr;exact⟨y,ys,e,R_but a y h1,RL_but as ys h2⟩
end
theorem FnRef.but{b:Nat}{f:FuncId}{args:List AVal}{H H1:List ABlk}{r:ARes}(h:FnRef P f (AVal.butL b args) H r H1):FnRef P f args H r H1:=
 ⟨h.1,fun g w vs hi hl=>h.2 g w vs hi (RL_but _ _ hl)⟩
theorem FnRef.shrink{f:FuncId}{args:List AVal}{x:ABlk}{sz:Nat}{rows:List (List AVal)}{r:ARes}(n:Nat)(h:FnRef P f args [x] r [.row 0 sz rows]):FnRef P f args [x] r [.row 0 sz (rows.take n)]:=by
 refine⟨h.1,fun g w vs hi hl=>(h.2 g w vs hi hl).mono fun e w' ⟨g',hi',hla,he⟩=>⟨g',?_,?_,he⟩⟩
 ·have one:∀{b:Nat} {y y':ABlk},[y][b]? =some y'→b=0∧y'=y:=by
   intro b y y' hy;cases b with
   |zero=>simp at hy;exact⟨rfl,hy.symm⟩
   |succ b=>simp at hy
  refine⟨fun b y hy=>?_,fun b b' y y' v v' k z z' h1 h2 _ _ _ _=>(one h1).1.trans (one h2).1.symm,fun b ver hc=>hi'.fresh b ver ?_,fun b y v ver' hy hv hlt=>?_,fun b y v k z o hy hv hk=>?_,hi'.stold,hi'.globs⟩
  ·obtain⟨rfl,rfl⟩:=one hy;rcases hi'.good 0 _ rfl with⟨k,c,e,h1,h2,h3,h4,h5⟩ |⟨h1,h2⟩
   ·refine .inl ⟨k,c,e,h1,h2,RowsAt_of _ _ fun j r hr=>?_,Nat.le_trans (Nat.mul_le_mul_right _ (by rw[List.length_take];omega)) h4,h5⟩
    rw[List.getElem?_take]at hr;split at hr
    ·exact RowsAt_get _ _ _ _ h3 hr
    ·cases hr
   ·exact .inr ⟨by rw[h1];simp,h2⟩
  ·grind
  ·obtain⟨rfl,rfl⟩:=one hy;exact hi'.next 0 (.row 0 sz rows) v ver' rfl hv hlt
  ·obtain⟨rfl,rfl⟩:=one hy;exact hi'.free 0 (.row 0 sz rows) v k z o rfl hv hk
 ·refine⟨hla.ext,hla.size,hla.keep,fun k hk ho=>hla.own k hk ?_,hla.len,hla.os,hla.tape,hla.output,fun k o hk hs=>?_,fun b hb=>?_,hla.newk⟩
  ·obtain⟨b,y,v,z,hy,hv,hz⟩:=ho;cases b with
   |zero=>
    simp only[List.getElem?_cons_zero,Option.some.injEq]at hy;subst hy;exact⟨0,.row 0 sz rows,v,z,rfl,hv,hz⟩
   |succ b=>simp at hy
  ·refine(hla.stk k o hk hs).imp_right fun h=>⟨h.1,?_⟩
   rintro⟨b,y,v,z,hy,hv,hz⟩;cases b with
   |zero=>
    simp only[List.getElem?_cons_zero,Option.some.injEq]at hy;subst hy;exact h.2 ⟨0,.row 0 sz rows,v,z,rfl,hv,hz⟩
   |succ b=>simp at hy
  ·have:=(hla.deadk b hb).1;grind
end
end Go.AM
end
section
namespace Go.AM
section
variable [Globs] {P:Program} {cfg:Cfg} {X:Env P}
theorem orc0_ok:OrcOk P orc0:=⟨fun _ _ _ _ _ h=>by simp[orc0]at h,fun _ _ _ _ _ h=>by simp[orc0]at h⟩
open Classical in
noncomputable def oneRef(f:FuncId)(args:List AVal)(H:List ABlk)(r:ARes)(H1:List ABlk):Orc:=
 ⟨fun f' args' H'=>if f'=f∧args'=args∧H'=H then some (r,H1)else none,fun _ _ _=>none⟩
theorem oneRef_ok{f:FuncId}{args:List AVal}{H H1:List ABlk}{r:ARes}(h:FnRef P f args H r H1):OrcOk P (oneRef f args H r H1):=by
 refine⟨fun f' args' H' r' H1' hr=>?_,fun _ _ _ _ _ h=>by simp[oneRef]at h⟩
 simp only[oneRef]at hr;split at hr
 ·rename_i hc;obtain⟨rfl,rfl,rfl⟩:=hc;simp only[Option.some.injEq,Prod.mk.injEq]at hr;obtain⟨rfl,rfl⟩:=hr;exact h
 ·cases hr
open Classical in
noncomputable def oneCall(f:FuncId)(args:List AVal)(r:ARes):Orc:=
 ⟨fun f' args' H=>if f'=f∧args'=args∧H=[]then some (r,[])else none,fun _ _ _=>none⟩
theorem oneCall_ok{f:FuncId}{args:List AVal}{r:ARes}(h:FnVal P f args r):OrcOk P (oneCall f args r):=by
 refine⟨fun f' args' H r' H1 hr=>?_,fun _ _ _ _ _ h=>by simp[oneCall]at h⟩
 simp only[oneCall]at hr;split at hr
 ·rename_i hc;obtain⟨rfl,rfl,rfl⟩:=hc;simp only[Option.some.injEq,Prod.mk.injEq]at hr;obtain⟨rfl,rfl⟩:=hr;exact h
 ·cases hr
def RndOk(P:Program)[Globs](b:Nat)(args:List AVal)(H:List ABlk)(r:ARes)(H1:List ABlk):Prop:=
 ∀g w (vs:Array Value) k sz,Inv g H w→RL g w args vs.toList→g.rho b 0=some (k,sz)→
  ∃rec,w.heap[k]? =some (.loop rec)∧vs.size=rec.params.size∧RoundIn Fence.wide 0 P k rec.fn (roundTmps rec vs) rec.assign rec.body w (Comes1 g H w r H1)
open Classical in
noncomputable def oneRnd(b:Nat)(args:List AVal)(H:List ABlk)(r:ARes)(H1:List ABlk):Orc:=
 ⟨fun _ _ _=>none,fun b' args' H'=>if b'=b∧args'=args∧H'=H then some (r,H1)else none⟩
theorem oneRnd_ok{b:Nat}{args:List AVal}{H H1:List ABlk}{r:ARes}(h:RndOk P b args H r H1):OrcOk P (oneRnd b args H r H1):=by
 refine⟨fun _ _ _ _ _ h=>by simp[oneRnd]at h,fun b' args' H' r' H1' hr=>?_⟩
 simp only[oneRnd]at hr;split at hr
 ·rename_i hc;obtain⟨rfl,rfl,rfl⟩:=hc;simp only[Option.some.injEq,Prod.mk.injEq]at hr;obtain⟨rfl,rfl⟩:=hr;exact h
 ·cases hr
theorem RndOk.wk{b:Nat}{args:List AVal}{H H1:List ABlk}{r:ARes}(h:RndOk P b (wkL args) H r H1):RndOk P b args H r H1:=
 fun g w vs k sz hi hl hk=>h g w vs k sz hi (RL_wkL _ _ hl) hk
structure NestOk(P:Program)[Globs](N:Nest P):Prop where
 fn:∀{ρ:Type} {n:Nat} {f:FuncId} {args:List AVal} {H:List ABlk} {g:G P ρ} {k:G P ρ→ARes→List ABlk→Prop} {r:ρ},N.fn f args H g k→g.run n=some r→
  ∃g' a H1,k g' a H1∧g'.run n=some r∧FnRef P f args H a H1
 rnd:∀{ρ:Type} {n:Nat} {b:Nat} {args:List AVal} {H:List ABlk} {g:G P ρ} {k:G P ρ→ARes→List ABlk→Prop} {r:ρ},N.rnd b args H g k→g.run n=some r→
  ∃g' a H1,k g' a H1∧g'.run n=some r∧RndOk P b args H a H1
 lp:∀{σ:Type} {sh:Sh} {n:Nat} {ro:Option Nat} {H0:List ABlk} {b:Code} {g:G P (σ⊕sh.El)} {E:σ→St} {s:St} {Y:sh.El→AOut×St} {q:σ⊕sh.El},N.lp ro H0 b g E s Y→g.run n=some q→
  ∃(g':G P (σ⊕sh.El)) (o:AOut) (s':St),roundC H0 E Y g' o s'∧g'.run n=some q∧∀fro g0 w0,Inv g0 H0 w0→RoOk g0 ro fro→Does P fro g0 H0 w0 b s fun o1 s1=>o1=o∧s1=s'
variable {ops:Array Oper} {n0 nid:Nat} {o:Oper} {s:St}
theorem stepOp_congr{orc orc':Orc}(h:wantedA ops s.A o=some true→∀pre,(opPre P cfg nid (evalA s.A) o.op).run s.H=some pre→finish orc s.H pre=finish orc' s.H pre):
 stepOp P cfg orc ops n0 o nid s=stepOp P cfg orc' ops n0 o nid s:=by
 grind [stepOp]
theorem tick_sound{n:Nat}{ρ:Type}{r:ρ}:∀{g:G P ρ} {s:St} {k:G P ρ→St→Prop},tickC g s k→g.run n=some r→∃g',k g' s∧g'.run n=some r
 | .br d c t f,s,k,h,hr=>by
  simp only[tickC,setF_eq]at h;obtain⟨hd,h1,h2⟩:=h;have hset:s.A.set d (.sc (.bool c))=s.A:=by
   apply List.ext_getElem?;intro j;by_cases hj:d=j
   ·grind
   ·rw[List.getElem?_set_ne hj]
  cases c with
  |true=>
   rw[hset]at h1;simp only[G.run,if_true]at hr;exact tick_sound h1 hr
  |false=>
   rw[hset]at h2;simp only[G.run,Bool.false_eq_true,if_false]at hr;exact tick_sound h2 hr
 | .eqi d ik x c t f,s,k,h,hr=>by
  simp only[tickC,setF_eq]at h;obtain⟨hd,h1,h2⟩:=h;by_cases hx:x=c
  ·subst hx;have hset:s.A.set d (.sc (.int ik x))=s.A:=by
    apply List.ext_getElem?;intro j;by_cases hj:d=j
    ·grind
    ·rw[List.getElem?_set_ne hj]
   rw[hset]at h1;simp only[G.run,if_true]at hr;exact tick_sound h1 hr
  ·simp only[G.run,hx,if_false]at hr;exact tick_sound h2 hr
 | .sp c t f,s,k,h,hr=>by
  simp only[tickC]at h;cases c with
  |true=>
   simp only[G.run,if_true]at hr;exact tick_sound h.1 hr
  |false=>
   simp only[G.run,Bool.false_eq_true,if_false]at hr;exact tick_sound h.2 hr
 | .fail,s,k,h,hr=>by simp[G.run]at hr
 | .stop,s,k,h,hr=>by simp[G.run]at hr
 | .done ..,s,k,h,hr=>⟨_,h,hr⟩
 | .skip ..,s,k,h,hr=>⟨_,h,hr⟩
 | .op ..,s,k,h,hr=>⟨_,h,hr⟩
 | .call ..,s,k,h,hr=>⟨_,h,hr⟩
 | .callR ..,s,k,h,hr=>⟨_,h,hr⟩
 | .callS ..,s,k,h,hr=>⟨_,h,hr⟩
 | .call1 ..,s,k,h,hr=>⟨_,h,hr⟩
 | .tidy ..,s,k,h,hr=>⟨_,h,hr⟩
 | .loop ..,s,k,h,hr=>⟨_,h,hr⟩
 | .loopS ..,s,k,h,hr=>⟨_,h,hr⟩
 | .unroll ..,s,k,h,hr=>⟨_,h,hr⟩
 | .shutG ..,s,k,h,hr=>⟨_,h,hr⟩
 | .join ..,s,k,h,hr=>⟨_,h,hr⟩
 | .inl ..,s,k,h,hr=>⟨_,h,hr⟩
theorem callOf_some{x:Option Pre}{f:FuncId}{args:List AVal}(h:callOf x=some (f,args)):∃args' own,x=some (.byVal f args' own)∧wkL args'=args:=by
 unfold callOf at h;grind
theorem FnVal.wk{f:FuncId}{args:List AVal}{r:ARes}(h:FnVal P f (wkL args) r):FnVal P f args r:=
 ⟨h.1,fun g w vs hi hl=>h.2 g w vs hi (RL_wkL _ _ hl)⟩
theorem refOf_some{H:List ABlk}{x:Option Pre}{f:FuncId}{args:List AVal}{H1:List ABlk}(h:refOf H x=some (f,args,H1)):∃args' ids,x=some (.byRef f args' ids)∧wkL args'=args∧mask ids H=H1:=by
 unfold refOf at h;grind
theorem closure_pure{ids:List Nat}{H:List ABlk}(hp:∀i,ids.contains i=true→∃x,H[i]? =some x∧prBlk x=true):
 ∀(n:Nat) (l seen:List Nat),onlyB ids l=true→l.length≤n→(closure n l seen).run H=some (closP l seen)∧(closure n l seen).reads H=fstVisit l seen
 |_,[],_,_,_=>by simp[closure,Rd.run,Rd.reads,closP,fstVisit]
 | 0,_::_,_,_,h=>by simp at h
 |n+1,c::cs,seen,h,hl=>by
  simp only[onlyB,Bool.and_eq_true]at h;simp only[List.length_cons]at hl;simp only[closure,closP,fstVisit];cases hc:seen.contains c with
  |true=>
   simp only[if_true];exact closure_pure hp n cs seen h.2 (by omega)
  |false=>
   obtain⟨x,hb,hpb⟩:=hp c h.1;obtain⟨q1,q2⟩:=closure_pure hp n cs (c::seen) h.2 (by omega)
   grind [prBlk_inv,Rd.run,Rd.reads]
theorem closP_sub{ids:List Nat}:∀(l seen:List Nat),onlyB ids l=true→(∀i∈seen,ids.contains i=true)→∀i∈closP l seen,ids.contains i=true
 | [],_,_,hs,i,hi=>hs i hi
 |c::cs,seen,h,hs,i,hi=>by
  simp only[onlyB,Bool.and_eq_true]at h;simp only[closP]at hi;cases hc:seen.contains c with
  |true=>rw[hc]at hi;exact closP_sub cs seen h.2 hs i hi
  |false=>
   rw[hc]at hi;refine closP_sub cs (c::seen) h.2 (fun j hj=>?_) i hi
   grind
theorem run_bind_done{α β:Type}{H:List ABlk}:∀{m:Rd α} {f:α→β} {x:α},m.run H=some x→(m.bind fun y=>.done (f y)).run H=some (f x)∧(m.bind fun y=>.done (f y)).reads H=m.reads H
 | .done a,f,x,h=>by grind [Rd.run,Rd.bind,Rd.reads]
 | .get b k,f,x,h=>by
  simp only[Rd.run]at h;split at h
  ·rename_i y hy;have:=run_bind_done (f:=f) h;simp[Rd.bind,Rd.run,Rd.reads,hy,this]
  ·cases h
theorem call1Of_some{ids:List Nat}{rho:Operand→AVal}{op:Op}{nid:Nat}{H:List ABlk}{f:FuncId}{args:List AVal}{js rs:List Nat}(h:call1Of P cfg ids rho op=some (f,args,js,rs))
 (hp:∀i,ids.contains i=true→∃x,H[i]? =some x∧prBlk x=true):
 (opPre P cfg nid rho op).run H=some (.byRef f args js)∧(opPre P cfg nid rho op).reads H=rs∧∀i∈js,ids.contains i=true:=by
 unfold call1Of at h;split at h
 ·rename_i g _ _ _;split at h
  ·rename_i n p q hg;split at h
   ·rename_i fn hfn;split at h
    ·rename_i hc;simp only[Bool.or_eq_false_iff]at hc;dsimp only at h;split at h
     ·rename_i ho;simp only[Option.some.injEq,Prod.mk.injEq]at h;simp only[Bool.and_eq_true]at ho;have ho2:=Nat.le_of_ble_eq_true ho.2;obtain⟨rfl,rfl,rfl,rfl⟩:=h;obtain⟨q1,q2⟩:=closure_pure hp 1000 _ [] ho.1 (by omega)
      simp only[opPre,hg,hfn,hc.1.1,Bool.false_eq_true,if_false,callPre,hc.1.2,hc.2];exact⟨(run_bind_done q1).1,(run_bind_done q1).2.trans q2,closP_sub _ [] ho.1 (by simp)⟩
     ·cases h
    ·cases h
   ·cases h
  ·cases h
 ·cases h
theorem ref1_some{H:List ABlk}{b:Nat}{x:Option (FuncId×List AVal×List Nat×List Nat)}{f:FuncId}{args:List AVal}{y:Option ABlk}(h:ref1 H b x=some (f,args,y)):∃args' ids rs,x=some (f,args',ids,rs)∧AVal.butL b (wkL args')=args∧H[b]? =y∧ids.contains b=true:=by
 unfold ref1 at h;grind
theorem prC_ok:∀{l:List PR} {H:List ABlk},prC l H→∀i,(l.map (·.b)).contains i=true→∃x,H[i]? =some x∧prBlk x=true
 | [],_,_,i,h=>by simp at h
 |p::ps,H,hc,i,h=>by
  simp only[List.map_cons,List.contains_cons,Bool.or_eq_true,beq_iff_eq]at h;rcases h with rfl |h
  ·exact⟨_,hc.1,p.pf⟩
  ·exact prC_ok hc.2 i h
theorem FnRef.wk{f:FuncId}{args:List AVal}{H H1:List ABlk}{r:ARes}(h:FnRef P f (wkL args) H r H1):FnRef P f args H r H1:=
 ⟨h.1,fun g w vs hi hl=>h.2 g w vs hi (RL_wkL _ _ hl)⟩
theorem closX_ok{pr:List Nat}{H:List ABlk}(hp:∀i,pr.contains i=true→∃x,H[i]? =some x∧prBlk x=true):
 ∀(n:Nat) (l seen ids rs:List Nat),closX pr H n l seen=some (ids,rs)→(closure n l seen).run H=some ids∧(closure n l seen).reads H=rs
 |_,[],seen,ids,rs,h=>by
  grind [closX,closure,Rd.run,Rd.reads]
 | 0,_::_,_,_,_,h=>by simp[closX]at h
 |n+1,b::todo,seen,ids,rs,h=>by
  simp only[closX]at h;simp only[closure];cases hc:seen.contains b with
  |true=>
   rw[hc]at h;simp only[if_true];exact closX_ok hp n todo seen ids rs h
  |false=>
   rw[hc]at h;simp only[Bool.false_eq_true,if_false];cases hpr:pr.contains b with
   |true=>
    rw[hpr]at h;simp only[Option.map_eq_some_iff,Prod.exists,Prod.mk.injEq]at h;obtain⟨ids',rs',h,rfl,rfl⟩:=h;obtain⟨x,hb,hpb⟩:=hp b hpr;obtain⟨q1,q2⟩:=closX_ok hp n todo (b::seen) _ _ h;grind [prBlk_inv,Rd.run,Rd.reads]
   |false=>
    rw[hpr]at h;simp only at h;split at h
    ·rename_i v sz rows hb;simp only[Option.map_eq_some_iff,Prod.exists,Prod.mk.injEq]at h;obtain⟨ids',rs',h,rfl,rfl⟩:=h;obtain⟨q1,q2⟩:=closX_ok hp n _ (b::seen) _ _ h;grind [Rd.run,Rd.reads]
    ·rename_i hb;simp only[Option.map_eq_some_iff,Prod.exists,Prod.mk.injEq]at h;obtain⟨ids',rs',h,rfl,rfl⟩:=h;obtain⟨q1,q2⟩:=closX_ok hp n _ (b::seen) _ _ h;grind [Rd.run,Rd.reads]
    ·rename_i hb;simp only[Option.map_eq_some_iff,Prod.exists,Prod.mk.injEq]at h;obtain⟨ids',rs',h,rfl,rfl⟩:=h;obtain⟨q1,q2⟩:=closX_ok hp n _ (b::seen) _ _ h;grind [Rd.run,Rd.reads]
    ·rename_i x hx hl hit hb;simp only[Option.map_eq_some_iff,Prod.exists,Prod.mk.injEq]at h;obtain⟨ids',rs',h,rfl,rfl⟩:=h;obtain⟨q1,q2⟩:=closX_ok hp n _ (b::seen) _ _ h;grind [Rd.run,Rd.reads]
    ·cases h
def preOfX:FuncId⊕Nat→List AVal→List Nat→Pre
 | .inl f,args,ids=>.byRef f args ids
 | .inr b,args,ids=>.round b args ids
theorem preX_ok{cfg:Cfg}{pr:List Nat}{rho:Operand→AVal}{op:Op}{H:List ABlk}{t:FuncId⊕Nat}{args:List AVal}{ids rs:List Nat}(hp:∀i,pr.contains i=true→∃x,H[i]? =some x∧prBlk x=true)
 (h:preX P cfg pr rho op H=some (t,args,ids,rs)):(opPre P cfg nid rho op).run H=some (preOfX t args ids)∧(opPre P cfg nid rho op).reads H=rs:=by
 unfold preX at h;split at h
 ·rename_i g _ _ _;split at h
  ·rename_i n p q hg;split at h
   ·rename_i fn hfn;split at h
    ·rename_i hc;simp only[Bool.or_eq_false_iff]at hc;split at h
     ·rename_i ids' rs' hcl;simp only[Option.some.injEq,Prod.mk.injEq]at h;obtain⟨rfl,rfl,rfl,rfl⟩:=h;obtain⟨q1,q2⟩:=closX_ok hp _ _ _ _ _ hcl;simp only[opPre,hg,hfn,hc.1.1,Bool.false_eq_true,if_false,callPre,hc.1.2,hc.2];exact⟨(run_bind_done q1).1,(run_bind_done q1).2.trans q2⟩
     ·cases h
    ·cases h
   ·cases h
  ·rename_i b hg;split at h
   ·rename_i ids' rs' hcl;simp only[Option.some.injEq,Prod.mk.injEq]at h;obtain⟨rfl,rfl,rfl,rfl⟩:=h;obtain⟨q1,q2⟩:=closX_ok hp _ _ _ _ _ hcl;simp only[opPre,hg];exact⟨(run_bind_done q1).1,(run_bind_done q1).2.trans q2⟩
   ·cases h
  ·cases h
 ·cases h
theorem finC_inv{ids:List Nat}{H H1:List ABlk}{a:ARes}{k:Eff→List Nat→Bool→Prop}{kp:AVal→Prop}(h:finC ids H a H1 k kp):
 (∃e,mergeFin H ids (some (a,H1))=some (.ok e)∧k e (e.upd.map (·.1)) (!e.news.isEmpty))∨(∃v,mergeFin H ids (some (a,H1))=some (.pan v ids)∧kp v):=by
 unfold finC at h;split at h
 ·rename_i v;split at h
  ·rename_i hl;have hl:=Nat.eq_of_beq_eq_true hl;refine .inl ⟨{val:=v,upd:=ids.map fun i=>(i,H1.getD i .dead)},?_,?_⟩
   ·grind [mergeFin]
   ·simpa[List.map_map,Function.comp_def]using h
  grind [effF_eq]
 grind [mergeFin]
mutual
theorem AVal.flat_pure:∀(u:AVal),u.flat=true→u.pure=true
 | .sc _,_=>rfl
 | .agg cs,h=>AVal.flat_pureL cs h
 | .tup cs,h=>AVal.flat_pureL cs h
 | .fn _ a b,h=>by
  simp only[AVal.flat,Bool.and_eq_true]at h;simp only[AVal.pure,AVal.flat_pureL a h.1,AVal.flat_pureL b h.2,Bool.and_self]
 | .ifc _ v,h=>AVal.flat_pure v h
 | .glob _ _,_=>rfl
 | .emp,_=>rfl
 | .nz _,_=>rfl
 | .junk,_=>rfl
theorem AVal.flat_pureL:∀(l:List AVal),AVal.flatL l=true→AVal.pureL l=true
 | [],_=>rfl
 |a::l,h=>by
  simp only[AVal.flatL,Bool.and_eq_true]at h;simp only[AVal.pureL,AVal.flat_pure a h.1,AVal.flat_pureL l h.2,Bool.and_self]
end
theorem run_bindS{α β:Type}(H:List ABlk):∀(r:Rd α) (k:α→Rd β),(r.bind k).run H=(r.run H).bind fun x=>(k x).run H
 | .fail,_=>rfl
 | .done _,_=>rfl
 | .get b f,k=>by
  simp only[Rd.bind,Rd.run];cases H[b]? with
  |none=>rfl
  |some x=>exact run_bindS H (f x) k
theorem reads_bindS{α β:Type}(H:List ABlk):∀(r:Rd α) (k:α→Rd β) (a:α),r.run H=some a→(r.bind k).reads H=r.reads H++(k a).reads H
 | .fail,_,_,h=>by cases h
 | .done _,_,_,h=>by obtain rfl:=Option.some.inj h;rfl
 | .get b f,k,a,h=>by
  simp only[Rd.bind,Rd.reads,Rd.run]at h ⊢;cases hb:H[b]? with
  |none=>rw[hb]at h;cases h
  |some x=>rw[hb]at h;simp only[reads_bindS H (f x) k a h,List.cons_append]
theorem snCall_some{rho:Operand→AVal}{op:Op}{f:FuncId}{ain:List AVal}{nid:Nat}{H:List ABlk}{aout:List AVal}{rs:List Nat}(h:snCall P cfg rho op=some (f,ain))
 (h1:(mapRd (snap snapFuel) ain).run H=some aout) (h2:(mapRd (snap snapFuel) ain).reads H=rs):
 (opPre P cfg nid rho op).run H=some (.byVal f aout (AVal.pureL ain))∧(opPre P cfg nid rho op).reads H=rs:=by
 unfold snCall at h;split at h
 ·rename_i g args _;split at h
  ·rename_i n p q hf;split at h
   ·rename_i fn hfn;split at h
    ·rename_i hb;simp only[Option.some.injEq,Prod.mk.injEq]at h;obtain⟨rfl,rfl⟩:=h;simp only[Bool.or_eq_false_iff,Bool.not_eq_false']at hb;simp only[opPre,hf,hfn,hb.1,Bool.false_eq_true,if_false,callPre,hb.2,if_true];exact⟨by rw[run_bindS,h1];rfl,by rw[reads_bindS H _ _ _ h1,h2];simp[Rd.reads]⟩
    ·cases h
   ·cases h
  ·cases h
 ·cases h
theorem stepC1_sound(hNe:NestOk P X.N){n:Nat}{ρ:Type}{r:ρ}{g:G P ρ}{draw:Bool}{H0:List ABlk}{k:G P ρ→OpRes→Foot→Prop}(h:stepC1 P X draw H0 ops n0 o nid g s k)(hr:g.run n=some r):
 ∃orc,OrcOk P orc∧∃res f g',stepOp P X.cfg orc ops n0 o nid s=some (res,f)∧k g' res f∧g'.run n=some r:=by
 unfold stepC1 at h;split at h
 ·rename_i m g';split at h
  ·rename_i res f hs;exact⟨orc0,orc0_ok,res,f,_,hs,h,by rw[G.less_run];simpa[G.run]using hr⟩
  ·exact nomatch h
 ·rename_i X t kk;obtain⟨hw,hc,hk⟩:=h;simp only[G.run]at hr;cases hx:t.run with
  |none=>rw[hx]at hr;cases hr
  |some x=>
   rw[hx]at hr;obtain⟨h1,h2⟩:=t.sound _ _ _ _ _ _ _ hc x hx;have hk:=hk x;simp only[effF_eq,putF_eq,applyF_eq]at hk;refine⟨orc0,orc0_ok,_,_,kk x,?_,hk,by simpa using hr⟩
   grind [stepOp,finish,effF_eq,putF_eq,applyF_eq]
 ·rename_i c x kk;obtain⟨hw,hc,hk⟩:=h;simp only[G.run]at hr;cases hx:c.S n x with
  |none=>rw[hx]at hr;cases hr
  |some q=>
   rw[hx]at hr;have hk:=(c.sh.all_iff _).1 hk q;obtain⟨args',own,hp,he⟩:=callOf_some hc;split at hk
   ·rename_i res f hs;refine⟨oneCall c.f args' (c.out q),oneCall_ok (FnVal.wk (by rw[he];exact c.ok n x q hx)),res,f,kk q,?_,hk,by simpa using hr⟩
    rw[← hs];refine stepOp_congr fun _ pre hpre=>?_
    rw[hp]at hpre;simp only[Option.some.injEq]at hpre;subst hpre;simp[finish,avsF_eq,oneCall,orcC]
   ·exact nomatch hk
 ·rename_i z c x kk;obtain⟨hw,hz,hc,ha,hk⟩:=h;simp only[G.run]at hr;cases hx:c.S n x with
  |none=>rw[hx]at hr;cases hr
  |some q=>
   rw[hx]at hr;have hk:=(c.sh.all_iff _).1 hk q;obtain⟨z1,z2⟩:=z.pf _ hz;obtain⟨hp,hrd⟩:=snCall_some (nid:=nid) hc z1 z2;have ha:=Option.some.inj ha;have horc:=oneCall_ok (P:=P) (FnVal.wk (args:=z.aout) (by rw[ha];exact c.ok n x q hx))
   split at hk
   ·rename_i u hu;split at hk
    ·rename_i hfl;simp only[putF_eq]at hk;refine⟨_,horc,_,_,kk q,?_,hk,by simpa using hr⟩
     have hsn:(snap snapFuel u).run []=some u:=by
      rw[show snapFuel=8+1 from rfl];simp only[snap,AVal.flat_pure u hfl,if_true,Rd.run]
     unfold stepOp;rw[hw];simp only[hp,hrd,finish,avsF_eq,oneCall,and_self,if_true,hu,hsn,hfl,Bool.or_true,effF_eq,putF_eq,applyF_eq,Eff.apply,List.foldl_nil,List.append_nil,List.map_nil,List.isEmpty_nil,Bool.not_true,footOf,byRefs];rfl
    ·exact hk.elim
   ·rename_i u hu;split at hk
    ·rename_i hfl;refine⟨_,horc,_,_,kk q,?_,hk,by simpa using hr⟩
     unfold stepOp;rw[hw];simp only[hp,hrd,finish,avsF_eq,oneCall,and_self,if_true,hu,hfl,List.foldl_nil,footOf,byRefs];rfl
    ·exact hk.elim
 ·rename_i c x kk;obtain⟨hw,hc,hk⟩:=h;simp only[G.run]at hr;cases hx:c.S n x with
  |none=>rw[hx]at hr;cases hr
  |some q=>
   rw[hx]at hr;have hk:=(c.sh.all_iff _).1 hk q;obtain⟨args',ids,hp,he,hm⟩:=refOf_some hc;split at hk
   ·rename_i res f hs;refine⟨oneRef c.f args' (c.heap x) (c.out q) (c.outH x q),oneRef_ok (FnRef.wk (by rw[he];exact c.ok n x q hx)),res,f,kk q,?_,hk,by simpa using hr⟩
    rw[← hs];refine stepOp_congr fun _ pre hpre=>?_
    rw[hp]at hpre;simp only[Option.some.injEq]at hpre;subst hpre;simp[finish,avsF_eq,headsF_eq,oneRef,orcC,hm]
   ·exact nomatch hk
 ·rename_i c b v ex x kk;obtain⟨hw,hex,hc,hk⟩:=h;simp only[G.run]at hr;cases hx:c.S n x with
  |none=>rw[hx]at hr;cases hr
  |some q=>
   rw[hx]at hr;have hk:=(c.sh.all_iff _).1 hk q;obtain⟨args',ids,rs,hp,he,hb,hbi⟩:=ref1_some hc;obtain⟨bsz,brows,hbx,hbp⟩:=row0_inv (c.b0 x);have hpure:∀i,(b::ex.map (·.b)).contains i=true→∃x,s.H[i]? =some x∧prBlk x=true:=by
    intro i hi;simp only[List.contains_cons,Bool.or_eq_true,beq_iff_eq]at hi;rcases hi with rfl |hi
    ·exact⟨.row v bsz brows,by rw[hb,hbx];rfl,hbp⟩
    ·exact prC_ok hex i hi
   have hcall:=hp;obtain⟨hp,hrd,hsub⟩:=call1Of_some (nid:=nid) (H:=s.H) hp hpure;have hlt:∀i∈ids,i<s.H.length:=fun i hi=>by
    grind
   have hblt:b<s.H.length:=(List.getElem?_eq_some_iff.1 hb).1
   let H':=mask ids s.H
   have hl':H'.length=s.H.length:=mask_length _ _;have hmb:(mask [b] H')[b]? =some ((c.blk x).setVer v):=by rw[mask_in (by simp),mask_in hbi];exact hb
   have hmd:∀b',b'≠b→∀y,(mask [b] H')[b']? =some y→y=.dead:=by
    intro b' hne y hy;rcases mask_get hy with⟨h1,_⟩ |⟨_,h2,_⟩
    ·grind
    ·exact h2
   have href:=FnRef.frame (FnRef.moveE (c.ok n x q hx) (c.a0 x) (c.b0 x) (c.b1 x q) (c.r0 q) b v (mask [b] H') hmb hmd) (by omega)
   have horc:=oneRef_ok (P:=P) (FnRef.wk (args:=args') (FnRef.but (b:=b) (by rw[he];exact href)))
   refine⟨_,horc,?_⟩;have hlen:(H'.set b ((c.outB x q).setVer v)).length=s.H.length:=by rw[List.length_set,mask_length]
   have hdrop:(H'.set b ((c.outB x q).setVer v)).drop s.H.length=[]:=List.drop_of_length_le (by rw[hlen];exact Nat.le_refl _)
   have hid:idsOf (call1Of P X.cfg (b::ex.map (·.b)) (evalA s.A) o.op)=(ids,rs):=by rw[hcall];rfl
   cases ho:c.out q with
   |ret u=>
    rw[ho]at hk;simp only[putF_eq,applyF_eq,hid]at hk;refine⟨_,_,kk q,?_,hk,by simpa using hr⟩
    have happ:∀val news,news=[]→Eff.apply {val:=val,upd:=ids.map fun i=>(i,(H'.set b ((c.outB x q).setVer v)).getD i .dead),news:=news} s.H=Eff.apply {val:=u.at1 b v,upd:=[(b,(c.outB x q).setVer v)]} s.H:=by
     intro val news hn;subst hn;simp only[Eff.apply,List.append_nil,List.foldl_cons,List.foldl_nil,List.foldl_map];apply List.ext_getElem?;intro j;rw[fold_set,List.getElem?_set];by_cases hj:b=j
     ·grind
     ·grind [mask_in]
    unfold stepOp;rw[hw];simp only[hp,hrd,finish,avsF_eq,headsF_eq,oneRef,and_self,if_true,ARes.at1,mergeFin,hlen,Nat.le_refl,hdrop,ite_self,effF_eq,putF_eq,applyF_eq,List.isEmpty_nil,Bool.not_true,H'];simp only[footOf,byRefs];rw[happ _ _ rfl];simp_all
   |pan u=>
    rw[ho]at hk;have hfl:u.flat=true:=by have:=c.r0 q;rw[ho]at this;exact this
    simp only[hid]at hk;refine⟨_,_,kk q,?_,hk,by simpa using hr⟩
    unfold stepOp;rw[hw];simp only[hp,hrd,finish,avsF_eq,headsF_eq,oneRef,and_self,if_true,ARes.at1,mergeFin,hfl,H'];simp only[footOf,byRefs]
 ·rename_i pr g';obtain⟨hw,hpr,hc⟩:=h;simp only[G.run]at hr;have hpure:=prC_ok hpr;split at hc
  ·rename_i f args ids rs hx;obtain⟨hp,hrd⟩:=preX_ok (nid:=nid) hpure hx;simp only[preOfX]at hp;simp only[headsF_eq]at hc;obtain⟨g2,a,H1,hk,hr2,hfn⟩:=hNe.fn hc hr;refine⟨_,oneRef_ok hfn,?_⟩;rcases finC_inv hk with⟨e,hm,hk⟩ |⟨v,hm,hk⟩
   ·simp only[putF_eq,applyF_eq]at hk;refine⟨_,_,g2,?_,hk,hr2⟩;unfold stepOp;rw[hw];simp only[hp,hrd,finish,avsF_eq,headsF_eq,oneRef,and_self,if_true,hm,effF_eq,putF_eq,applyF_eq];simp only[footOf,byRefs]
   ·refine⟨_,_,g2,?_,hk,hr2⟩;unfold stepOp;rw[hw];simp only[hp,hrd,finish,avsF_eq,headsF_eq,oneRef,and_self,if_true,hm];simp only[footOf,byRefs]
  ·rename_i b args ids rs hx;obtain⟨hp,hrd⟩:=preX_ok (nid:=nid) hpure hx;simp only[preOfX]at hp;simp only[headsF_eq]at hc;obtain⟨g2,a,H1,hk,hr2,hfn⟩:=hNe.rnd hc hr;refine⟨_,oneRnd_ok hfn,?_⟩;rcases finC_inv hk with⟨e,hm,hk⟩ |⟨v,hm,hk⟩
   ·simp only[putF_eq,applyF_eq]at hk;refine⟨_,_,g2,?_,hk,hr2⟩;unfold stepOp;rw[hw];simp only[hp,hrd,finish,avsF_eq,headsF_eq,oneRnd,and_self,if_true,hm,effF_eq,putF_eq,applyF_eq];simp only[footOf,byRefs]
   ·refine⟨_,_,g2,?_,hk,hr2⟩;unfold stepOp;rw[hw];simp only[hp,hrd,finish,avsF_eq,headsF_eq,oneRnd,and_self,if_true,hm];simp only[footOf,byRefs]
  ·exact nomatch hc
 ·simp[G.run]at hr
 ·simp[G.run]at hr
 ·simp[G.run]at hr
 ·exact nomatch h
 ·exact nomatch h
theorem runOps_congr{orc orc':Nat→Orc}:∀(l:List (Oper×Nat)) (i:Nat) (s:St),(∀j,i≤j→orc j=orc' j)→runOps P X.cfg orc ops n0 i l s=runOps P X.cfg orc' ops n0 i l s
 | [],_,_,_=>rfl
 | (o,nid)::rest,i,s,h=>by
  simp only[runOps,h i (Nat.le_refl _)];split
  ·rw[runOps_congr rest (i+1) _ fun j hj=>h j (by omega)]
  ·rfl
  ·rfl
theorem stepC_sound(hNe:NestOk P X.N){n:Nat}{ρ:Type}{r:ρ}{g:G P ρ}{H0:List ABlk}{k:G P ρ→OpRes→Foot→Prop}(h:stepC P X true H0 ops n0 o nid g s k)(hr:g.run n=some r):
 ∃orc,OrcOk P orc∧∃res f g',stepOp P X.cfg orc ops n0 o nid s=some (res,f)∧k g' res f∧g'.run n=some r:=by
 unfold stepC at h;grind [stepC1_sound]
theorem runC_sound(hNe:NestOk P X.N){n:Nat}{ρ:Type}{r:ρ}{H0:List ABlk}:∀(l:List (Oper×Nat)) (i:Nat) (g:G P ρ) (s:St) (k:G P ρ→OpRes→List Foot→Prop),runC P X true H0 ops n0 l g s k→g.run n=some r→
 ∃orcs:Nat→Orc,(∀j,OrcOk P (orcs j))∧∃res fs g',runOps P X.cfg orcs ops n0 i l s=some (res,fs)∧k g' res fs∧g'.run n=some r
 | [],i,g,s,k,h,hr=>⟨fun _=>orc0,fun _=>orc0_ok,.ok s,[],g,rfl,h,hr⟩
 | (o,nid)::rest,i,g,s,k,h,hr=>by
  simp only[runC]at h;obtain⟨g1,h,hr⟩:=tick_sound h hr;obtain⟨orc,ho,res,f,g2,hs,h,hr⟩:=stepC_sound hNe h hr;cases res with
  |ok s'=>
   obtain⟨A,H,D⟩:=s';simp only[spineF_eq]at h;obtain⟨orcs,hos,res,fs,g3,hrun,hk,hr⟩:=runC_sound hNe rest (i+1) g2 _ _ h hr;refine⟨fun j=>if j=i then orc else orcs j,fun j=>(by grind:OrcOk P (if j=i then orc else orcs j)),res,f::fs,g3,?_,hk,hr⟩
   grind [runOps,runOps_congr]
  |pan v s'=>
   exact⟨fun _=>orc,fun _=>ho,.pan v s',[f],g2,by simp only[runOps,hs],h,hr⟩
theorem regionC_sound(hNe:NestOk P X.N){n:Nat}{ρ:Type}{r:ρ}{H0:List ABlk}{g:G P ρ}{s:St}{k:G P ρ→OpRes→Prop}(h:regionC P X H0 ops true g s k)(hr:g.run n=some r):
 ∃orcs:Nat→Orc,(∀j,OrcOk P (orcs j))∧∃res g',regionI P X.cfg orcs ops true s=some res∧k g' res∧g'.run n=some r:=by
 simp only[regionC,natF_eq,newsF_eq]at h;obtain⟨orcs,ho,res,fs,g',hrun,hk,hr⟩:=runC_sound hNe _ 0 _ _ _ h hr;refine⟨orcs,ho,?_⟩;simp only[regionI,natF_eq,newsF_eq,hrun];grind
theorem keepA_get(keep:List Nat):∀(A:List AVal) (i j:Nat),(keepA keep i A)[j]? =(A[j]?).map fun a=>match keep.contains (i+j)with |true=>a |false=>.junk
 | [],_,_=>by simp[keepA]
 |a::as,i,0=>rfl
 |a::as,i,j+1=>by
  simp only[keepA,List.getElem?_cons_succ];rw[keepA_get keep as (i+1) j,show i+1+j=i+(j+1)by omega]
theorem RL_keep{g:Gh}{w:World}{keep:List Nat}{A:List AVal}{vs:List Value}(h:RL g w A vs):RL g w (keepA keep 0 A) vs:=by
 obtain⟨h1,h2⟩:=RL_get _ _ h;have hlen:(keepA keep 0 A).length=A.length:=by
  have:∀(A:List AVal) (i:Nat),(keepA keep i A).length=A.length:=by
   intro A;induction A with
   |nil=>intro i;rfl
   |cons a as ih=>intro i;simp[keepA,ih]
  exact this A 0
 grind [RL_of,keepA_get,R]
theorem puC_ok:∀{l:List PU} {H:List ABlk},puC l H→PuOk (l.map (·.b)) H
 | [],_,_=>fun _ h=>by simp at h
 |p::ps,H,h=>by
  intro b hb x hx;simp only[List.map_cons,List.mem_cons]at hb;rcases hb with rfl |hb
  ·rw[h.1]at hx;cases hx;exact p.pf
  ·exact puC_ok h.2 b hb x hx
theorem wkL_len:∀(l:List AVal),(wkL l).length=l.length
 | []=>rfl
 |_::l=>by simp[wkL,wkL_len l]
theorem RR_wkL{g:Gh}{w:World}:∀(l:List (List AVal)) (k o sz:Nat),RR g w l k o sz→RR g w (l.map wkL) k o sz
 | [],_,_,_,_=>by simp[RR]
 |r::rs,k,o,sz,h=>by
  simp only[RR,List.map_cons]at h ⊢;exact⟨⟨by rw[wkL_len];exact h.1.1,wkL_pure _ h.1.2.1,RC_wkL _ _ _ h.1.2.2⟩,RR_wkL rs k (o+sz) sz h.2⟩
theorem R_lst_wk{g:Gh}{w:World}{rows:List (List AVal)}{x:Value}(h:R g w (.lst rows) x):R g w (.lst (rows.map wkL)) x:=by
 simp only[R,List.length_map]at h ⊢;obtain⟨a,cap,e,h1,h2⟩:=h;refine⟨a,cap,e,h1,?_⟩;rcases h2 with h2 |⟨k,off,sz,ha,hr⟩
 ·exact .inl h2
 ·exact .inr ⟨k,off,sz,ha,RR_wkL _ _ _ _ hr⟩
theorem tidyC_inv{H0:List ABlk}:∀{ts:List TS} {s:St} {k:St→Prop},tsOk ts=true→tidyC H0 ts s k→∃s',Weak H0 s s'∧k s'
 | [],s,k,_,h=>⟨s,.refl _ _,h⟩
 | .keep l::ts,s,k,hok,h=>by
  simp only[tidyC,spineF_eq]at h;obtain⟨s',h1,h2⟩:=tidyC_inv (by simpa only[tsOk]using hok) h
  exact⟨s',Weak.trans (s1:={s with A:=keepA l 0 s.A}) (fun _ _ g a w _ hl hs=>⟨g,⟨hs.inv,RL_keep hs.tmps,hs.defs⟩,hl⟩) h1,h2⟩
 | .wk p::ts,s,k,hok,h=>by
  simp only[tidyC]at h;split at h
  ·rename_i s1 hw;obtain⟨s',h1,h2⟩:=tidyC_inv (by simpa only[tsOk]using hok) h
   exact⟨s',(wkS_weak hw).trans h1,h2⟩
  ·exact h.elim
 | .own p sz::ts,s,k,hok,h=>by
  simp only[tidyC]at h;split at h
  ·rename_i s1 hw;obtain⟨s',h1,h2⟩:=tidyC_inv (by simpa only[tsOk]using hok) h
   exact⟨s',(ownS_weak hw).trans h1,h2⟩
  ·exact h.elim
 | .frz z::ts,s,k,hok,h=>by
  simp only[tidyC]at h;simp only[tsOk,Bool.and_eq_true,decide_eq_true_eq]at hok;obtain⟨q1,q2,h⟩:=h;split at h
  ·rename_i s1 hw;obtain⟨s',h1,h2⟩:=tidyC_inv hok.2 h;exact⟨s',(frzS_weak ⟨z.b,z.ver,z.sz,by rw[q1,hok.1],q2,z.pf⟩ hw).trans h1,h2⟩
  ·exact h.elim
 | .frp z::ts,s,k,hok,h=>by
  simp only[tidyC]at h;obtain⟨q1,q2,h⟩:=h;split at h
  ·rename_i s1 hw;obtain⟨s',h1,h2⟩:=tidyC_inv (by simpa only[tsOk]using hok) h
   exact⟨s',(frpS_weak ⟨z.b,z.ver,z.sz,q1,q2,z.pf⟩ hw).trans h1,h2⟩
  ·exact h.elim
 | .rew z::ts,s,k,hok,h=>by
  simp only[tidyC]at h;obtain⟨q1,h⟩:=h;obtain⟨s',h1,h2⟩:=tidyC_inv (by simpa only[tsOk]using hok) h
  refine⟨s',Weak.trans (s1:=setP s (.lst z.rows') z.p) (fun _ _ g a w _ hl hs=>?_) h1,h2⟩
  obtain⟨p1,p2⟩:=setP_sound q1 hs (v':=.lst z.rows') fun x hx=>by rw[← z.pf];exact R_lst_wk hx
  exact⟨g,p1,hl.trans p2⟩
 | .cut bl bump pu::ts,s,k,hok,h=>by
  simp only[tidyC,spineF_eq]at h;obtain⟨q1,h⟩:=h;split at h
  ·rename_i A H D hw;obtain⟨s',h1,h2⟩:=tidyC_inv (by simpa only[tsOk]using hok) h
   exact⟨s',(cut_weak (puC_ok q1) hw).trans h1,h2⟩
  ·exact h.elim
theorem stepD_sound(hNe:NestOk P X.N){n:Nat}{ρ:Type}{r:ρ}{g:G P ρ}{H0:List ABlk}{k:G P ρ→OpRes→Foot→Prop}(h:stepC P X false H0 ops n0 o nid g s k)(hr:g.run n=some r):
 ∃s2,Weak H0 s s2∧∃orc,OrcOk P orc∧∃res f g',stepOp P X.cfg orc ops n0 o nid s2=some (res,f)∧k g' res f∧g'.run n=some r:=by
 unfold stepC at h;split at h
 ·grind [G.run,tidyC_inv,stepC1_sound]
 ·exact⟨s,.refl _ _,stepC1_sound hNe h hr⟩
theorem runD_sound(hNe:NestOk P X.N){n:Nat}{ρ:Type}{r:ρ}{H0:List ABlk}:∀(l:List (Oper×Nat)) (i:Nat) (g:G P ρ) (s:St) (k:G P ρ→OpRes→List Foot→Prop),runC P X false H0 ops n0 l g s k→g.run n=some r→
 (∀(j:Nat),(l[j]?).map (fun(p:Oper×Nat)=>p.1)=(ops.toList.drop i)[j]?)→∃g' res fs,k g' res fs∧g'.run n=some r∧
 ∀(fro:Option Nat),(∀(k:Nat) (o:Oper),ops[k]? =some o→Calm fro o)→∀(gg:Gh) (ww:World) (Q:Exit→Act→World→Prop),Inv gg H0 ww→∀(g1:Gh) (a:Act) (w:World),Sim g1 s a w→Later gg H0 ww g1 s.H w→RegPost Q gg H0 ww res→wpOpsIn (Fr fro) 0 P ops Q (List.range' i l.length) a w
 | [],i,g,s,k,h,hr,_=>⟨g,.ok s,[],h,hr,fun _ _ _ _ _ _ g1 a w hs hl hp=>hp g1 a w hs hl⟩
 | (o,nid)::rest,i,g,s,k,h,hr,hj=>by
  have hi:ops[i]? =some o:=by
   have:=hj 0;simp at this;exact this.symm
  simp only[runC]at h;obtain⟨g',h,hr⟩:=tick_sound h hr;obtain⟨s2,hw2,orc,ho,res,f,g3,hst,h,hr⟩:=stepD_sound hNe h hr;cases res with
  |ok s'=>
   obtain⟨A,H,D⟩:=s';simp only[spineF_eq]at h;obtain⟨g4,res4,fs4,hk4,hr4,hwp⟩:=runD_sound hNe rest (i+1) g3 ⟨A,H,D⟩ _ h hr (fun j=>by
    have:=hj (j+1);grind)
   refine⟨g4,res4,_,hk4,hr4,fun fro hcalm gg ww Q hi0 g1 a w hs hl hp=>?_⟩
   simp only[List.length_cons,List.range'_succ,wpOpsIn_cons];obtain⟨g2,hs2,hl2⟩:=hw2 gg ww g1 a w hi0 hl hs;exact step_sound ho hs2 hi (hcalm i o hi) hst fun g5 a' w' hs' hla=>hwp fro hcalm gg ww Q hi0 g5 a' w' hs' (hl2.trans hla) hp
  |pan v s'=>
   refine⟨g3,.pan v s',_,h,hr,fun fro hcalm gg ww Q hi0 g1 a w hs hl hp=>?_⟩
   simp only[List.length_cons,List.range'_succ,wpOpsIn_cons];obtain⟨g2,hs2,hl2⟩:=hw2 gg ww g1 a w hi0 hl hs;exact step_sound ho hs2 hi (hcalm i o hi) hst fun g' w' x hv hs' hla hx=>hp g' a w' x hv hs' (hl2.trans hla) hx
theorem regionD_sound(hNe:NestOk P X.N){H0:List ABlk}{n:Nat}{ρ:Type}{r:ρ}{id:Nat}{g:G P ρ}{s:St}{k:G P ρ→OpRes→Prop}(h:regionC P X H0 ops false g s k)(hr:g.run n=some r):
 ∃g' res,k g' res∧g'.run n=some r∧∀(fro:Option Nat),(∀(k:Nat) (o:Oper),ops[k]? =some o→Calm fro o)→∀(gg:Gh) (ww:World),Inv gg H0 ww→Does P fro gg H0 ww (.region id ops false) s fun o s'=>o=(outOf res).1∧s'=(outOf res).2:=by
 simp only[regionC,natF_eq,newsF_eq]at h;generalize (if countAllocs ops.toList=0 then 0 else tailFree s.H)=t0 at h
 generalize countAllocs ops.toList - t0=m0 at h;generalize s.H.length - t0=f0 at h;obtain⟨g',res,fs,hk,hr',hwp⟩:=runD_sound hNe _ 0 _ _ _ h hr (fun j=>by rw[numbered_get];simp)
 simp only[Bool.not_false,if_true]at hk;refine⟨g',res,hk,hr',fun fro hcalm gg ww hi0 Q g1 a w hs hl hp=>?_⟩
 obtain⟨i1,i2⟩:=hs.inv.reserve m0;have hs0:Sim g1 {s with H:=s.H++List.replicate m0 .unborn} a w:=⟨i1,hs.tmps,hs.defs⟩;refine wpIn_region ?_;rw[List.range_eq_range'];have:=hwp fro hcalm gg ww Q hi0 g1 a w hs0 (hl.trans i2) (by
  have:=hp _ _ ⟨rfl,rfl⟩;cases res with
  |ok s'=>exact this
  |pan v s'=>exact this)
 grind [numbered_len]
theorem preC_sound{H0:List ABlk}{n:Nat}{ρ:Type}{r:ρ}{g:G P ρ}{s:St}{k:G P ρ→St→Prop}(h:preC H0 g s k)(hr:g.run n=some r):∃s' g',Weak H0 s s'∧k g' s'∧g'.run n=some r:=by
 unfold preC at h;split at h
 ·grind [G.run,tidyC_inv]
 ·exact⟨s,g,.refl _ _,h,hr⟩
theorem round_inv{n:Nat}{σ:Type}{sh:Sh}{H0:List ABlk}{E:σ→St}{X:sh.El→AOut×St}{g:G P (σ⊕sh.El)}{o:AOut}{s:St}{q:σ⊕sh.El}(h:roundC H0 E X g o s)(hr:g.run n=some q):
 ∃s',Weak H0 s s'∧match q with | .inl a=>o=.normal∧s'=E a | .inr t=>o≠ .normal∧(o,s')=X t:=by
 unfold roundC at h;split at h
 ·grind [G.run,tidyC_inv]
 ·grind [G.run,tidyC_inv]
 ·simp[G.run]at hr
 ·exact nomatch h
def Rounds(P:Program)[Globs](H0:List ABlk)(ro:Option Nat)(b:Code):Nat→St→AOut→St→Prop
 | 0,_,_,_=>False
 |n+1,s,o,s'=>∃o1 s1,(∀fro g0 w0,Inv g0 H0 w0→RoOk g0 ro fro→Does P fro g0 H0 w0 b s fun o2 s2=>o2=o1∧s2=s1)∧
  match o1 with
  | .normal=>Rounds P H0 ro b n s1 o s'
  |o1=>o1=o∧s1=s'
theorem iterC_inv{ro:Option Nat}{H0:List ABlk}{b:Code}{n:Nat}{ρ:Type}{r:ρ}{k:G P ρ→AOut→St→Prop}
 (ih:∀(g:G P ρ) (s:St) (k:G P ρ→AOut→St→Prop),gxC P X H0 b g s k→g.run n=some r→∃g' o s',k g' o s'∧g'.run n=some r∧∀fro g0 w0,Inv g0 H0 w0→RoOk g0 ro fro→Does P fro g0 H0 w0 b s fun o1 s1=>o1=o∧s1=s'):
 ∀(m:Nat) (g:G P ρ) (s:St),iterC (fun g s k=>gxC P X H0 b g s k) m g s k→g.run n=some r→∃g' o s',k g' o s'∧g'.run n=some r∧o≠ .normal∧Rounds P H0 ro b m s o s'
 | 0,_,_,h,_=>h.elim
 |m+1,g,s,h,hr=>by
  simp only[iterC]at h;obtain⟨g1,o1,s1,hk,hr1,hd⟩:=ih g s _ h hr;cases o1 with
  |normal=>
   obtain⟨g',o,s',h1,h2,h3,h4⟩:=iterC_inv ih m g1 s1 hk hr1;exact⟨g',o,s',h1,h2,h3,.normal,s1,hd,h4⟩
  |exit id=>exact⟨g1,_,s1,hk,hr1,(fun h=>(by cases h)),_,s1,hd,rfl,rfl⟩
  |ret=>exact⟨g1,_,s1,hk,hr1,(fun h=>(by cases h)),_,s1,hd,rfl,rfl⟩
  |pan v=>exact⟨g1,_,s1,hk,hr1,(fun h=>(by cases h)),_,s1,hd,rfl,rfl⟩
theorem calm_of{ro fro:Option Nat}{g0:Gh}{ops:Array Oper}(hro:RoOk g0 ro fro)(h:(ro.isSome&&ops.toList.any putsOff)=false):∀(k:Nat) (o:Oper),ops[k]? =some o→Calm fro o:=by
 intro k o hk;cases ro with
 |none=>
  cases fro with
  |none=>exact .inl rfl
  |some k=>exact hro.elim
 |some b=>
  right;grind
theorem Does.post{fro:Option Nat}{g0:Gh}{H0:List ABlk}{w0:World}(hi0:Inv g0 H0 w0){c:Code}{s s1 s2:St}{o:AOut}(hw:Weak H0 s1 s2)(h:Does P fro g0 H0 w0 c s fun o1 s'=>o1=o∧s'=s1):
 Does P fro g0 H0 w0 c s fun o1 s'=>o1=o∧s'=s2:=
 fun Q g a w hs hl hk=>h Q g a w hs hl fun o' s' ⟨e1,e2⟩=>by grind [OutPost.weak]
theorem joinC_inv{H0:List ABlk}{sh:Sh}{Y:sh.El→AOut×St}{n:Nat}{g:G P sh.El}{o:AOut}{s:St}{t:sh.El}(h:joinC H0 Y g o s)(hr:g.run n=some t):∃s',Weak H0 s s'∧(o,s')=Y t:=by
 unfold joinC at h;split at h
 ·grind [G.run,tidyC_inv]
 ·simp[G.run]at hr
 ·exact nomatch h
theorem conK_ok{ρ:Type}{n:Nat}{f:FuncId}{args:List AVal}{H:List ABlk}{c:CtrR P}{x:c.X}{kk:c.sh.El→G P ρ}{k:G P ρ→ARes→List ABlk→Prop}{r:ρ}(h:conK P f args H c x kk k)(hr:(G.callR c x kk).run n=some r):
 ∃g' a H1,k g' a H1∧g'.run n=some r∧FnRef P f args H a H1:=by
 obtain⟨_,he,h⟩:=h;simp only[Option.some.injEq,Prod.mk.injEq]at he;obtain⟨rfl,ha,rfl⟩:=he;obtain⟨q,hq,hr⟩:=Option.bind_eq_some_iff.1 (show(c.S n x).bind (fun q=>(kk q).run n)=some r from hr)
 refine⟨kk q,c.out q,c.outH x q,(c.sh.all_iff _).1 h q,hr,FnRef.wk ?_⟩;rw[ha];exact c.ok n x q hq
theorem nestK_ok:NestOk P (nestK P):=by
 refine⟨fun h hr=>?_,fun h=>h.elim,fun h=>h.elim⟩
 simp only[nestK]at h;split at h
 ·exact conK_ok h hr
 ·exact h.elim
theorem at_ok(hNe:NestOk P X.N)(draw:Bool):NestOk P (X.at draw).N:=by
 grind [Env.at,nestK_ok]
theorem at_cfg(draw:Bool):(X.at draw).cfg=X.cfg:=by unfold Env.at;split<;>rfl
theorem sealC_det(hNe:NestOk P X.N){H0:List ABlk}{n:Nat}{σ:Type}{sh:Sh}{b:Code}{E:σ→St}{s:St}{Y:sh.El→AOut×St}{q:σ⊕sh.El}{f:G P (σ⊕sh.El)→Prop}
 (ih:∀g,f g→g.run n=some q→∃(g':G P (σ⊕sh.El)) (o:AOut) (s':St),roundC H0 E Y g' o s'∧g'.run n=some q∧∀fro g0 w0,Inv g0 H0 w0→RoOk g0 X.ro fro→Does P fro g0 H0 w0 b s fun o1 s1=>o1=o∧s1=s')
 {g:G P (σ⊕sh.El)} (h:sealC X.N X.ro H0 b E s Y g f) (hr:g.run n=some q):
 ∃(g':G P (σ⊕sh.El)) (o:AOut) (s':St),roundC H0 E Y g' o s'∧g'.run n=some q∧∀fro g0 w0,Inv g0 H0 w0→RoOk g0 X.ro fro→Does P fro g0 H0 w0 b s fun o1 s1=>o1=o∧s1=s':=by
 unfold sealC at h;split at h
 ·exact hNe.lp h (by simpa[G.run]using hr)
 ·exact ih _ h hr
theorem gxC_det(hm:P.follows .mixedOrders=true)(hNe:NestOk P X.N){H0:List ABlk}{n:Nat}:∀(c:Code) {ρ:Type} (r:ρ) (g:G P ρ) (s:St) (k:G P ρ→AOut→St→Prop),gxC P X H0 c g s k→g.run n=some r→
 ∃g' o s',k g' o s'∧g'.run n=some r∧∀fro g0 w0,Inv g0 H0 w0→RoOk g0 X.ro fro→Does P fro g0 H0 w0 c s fun o1 s1=>o1=o∧s1=s':=by
 intro c;induction c with
 |skip=>intro ρ r g s k h hr;exact⟨g,.normal,s,h,hr,fun _ _ _ _ _=>.skip ⟨rfl,rfl⟩⟩
 |region id ops draw=>
  intro ρ r g s k h hr;simp only[gxC]at h;split at h
  ·exact h.elim
  rename_i hoff;obtain⟨s1,g1,hw,h,hr⟩:=preC_sound h hr;cases draw with
  |false=>
   obtain⟨g',res,hk,hr',hd⟩:=regionD_sound hNe (id:=id) h hr;cases res with
   |ok s'=>exact⟨g',.normal,s',hk,hr',fun fro g0 w0 hi hro=>.weak hi hw (hd fro (calm_of hro hoff) g0 w0 hi)⟩
   |pan v s'=>exact⟨g',.pan v,s',hk,hr',fun fro g0 w0 hi hro=>.weak hi hw (hd fro (calm_of hro hoff) g0 w0 hi)⟩
  |true=>
   obtain⟨orcs,ho,res,g',hreg,h,hr⟩:=regionC_sound (at_ok hNe true) h hr;rw[at_cfg]at hreg;cases res with
   |ok s'=>exact⟨g',.normal,s',h,hr,fun fro g0 w0 hi hro=>.weak hi hw (.region hm ho (calm_of hro hoff) hreg ⟨rfl,rfl⟩)⟩
   |pan v s'=>exact⟨g',.pan v,s',h,hr,fun fro g0 w0 hi hro=>.weak hi hw (.region hm ho (calm_of hro hoff) hreg ⟨rfl,rfl⟩)⟩
 |seq a b iha ihb=>
  intro ρ r g s k h hr;simp only[gxC]at h;obtain⟨g1,o1,s1,h1,hr1,d1⟩:=iha r g s _ h hr;cases o1 with
  |normal=>
   obtain⟨g2,o2,s2,h2,hr2,d2⟩:=ihb r g1 s1 k h1 hr1;refine⟨g2,o2,s2,h2,hr2,fun fro g0 w0 hi hro=>.seq ((d1 fro g0 w0 hi hro).mono fun o s' ⟨e1,e2⟩=>?_)⟩
   grind
  |exit id=>exact⟨g1,_,s1,h1,hr1,fun fro g0 w0 hi hro=>.seq ((d1 fro g0 w0 hi hro).mono fun o s' ⟨e1,e2⟩=>by grind)⟩
  |ret=>exact⟨g1,_,s1,h1,hr1,fun fro g0 w0 hi hro=>.seq ((d1 fro g0 w0 hi hro).mono fun o s' ⟨e1,e2⟩=>by grind)⟩
  |pan v=>exact⟨g1,_,s1,h1,hr1,fun fro g0 w0 hi hro=>.seq ((d1 fro g0 w0 hi hro).mono fun o s' ⟨e1,e2⟩=>by grind)⟩
 |cond c a b iha ihb=>
  have main:∀{ρ:Type} (r:ρ) (g:G P ρ) (s:St) (k:G P ρ→AOut→St→Prop),condC P X H0 c a b (fun g s k=>gxC P X H0 a g s k) (fun g s k=>gxC P X H0 b g s k) g s k→g.run n=some r→
   ∃g' o s',k g' o s'∧g'.run n=some r∧∀fro g0 w0,Inv g0 H0 w0→RoOk g0 X.ro fro→Does P fro g0 H0 w0 (.cond c a b) s fun o1 s1=>o1=o∧s1=s':=by
   intro ρ r g s k h hr;unfold condC at h;obtain⟨s1,g1,hw,h,hr⟩:=preC_sound h hr;obtain⟨g1,h,hr⟩:=tick_sound h hr;split at h
   ·rename_i m g2;have hr2:(G.less m g2).run n=some r:=by rw[G.less_run];simpa[G.run]using hr
    split at h
    ·rename_i hc;obtain⟨g',o,s',h1,h2,d⟩:=iha r _ _ k h hr2;exact⟨g',o,s',h1,h2,fun fro g0 w0 hi hro=>.weak hi hw (.cond true hc (d fro g0 w0 hi hro))⟩
    ·rename_i hc;obtain⟨g',o,s',h1,h2,d⟩:=ihb r _ _ k h hr2;exact⟨g',o,s',h1,h2,fun fro g0 w0 hi hro=>.weak hi hw (.cond false hc (d fro g0 w0 hi hro))⟩
    ·exact h.elim
   ·simp[G.run]at hr
   ·exact nomatch h
  intro ρ r g s k h hr;simp only[gxC]at h;split at h
  ·rename_i sh Y g1 kk;obtain⟨t,ht,hr⟩:=Option.bind_eq_some_iff.1 (show(g1.run n).bind (fun t=>(kk t).run n)=some r from hr)
   obtain⟨g',o,s',h1,h2,d⟩:=main t g1 s _ h.1 ht;obtain⟨s'',hw,e⟩:=joinC_inv h1 h2;have e1:o=(Y t).1:=congrArg Prod.fst e;have e2:s''=(Y t).2:=congrArg Prod.snd e;refine⟨kk t,(Y t).1,(Y t).2,(sh.all_iff _).1 h.2 t,hr,fun fro g0 w0 hi hro=>?_⟩
   rw[← e1,← e2];exact(d fro g0 w0 hi hro).post hi hw
  ·exact main r g s k h hr
 |block id b ih=>
  have main:∀{ρ:Type} (r:ρ) (g:G P ρ) (s:St) (k:G P ρ→AOut→St→Prop),gxC P X H0 b g s (blockC id k)→g.run n=some r→
   ∃g' o s',k g' o s'∧g'.run n=some r∧∀fro g0 w0,Inv g0 H0 w0→RoOk g0 X.ro fro→Does P fro g0 H0 w0 (.block id b) s fun o1 s1=>o1=o∧s1=s':=by
   intro ρ r g s k h hr;obtain⟨g1,o1,s1,h1,hr1,d1⟩:=ih r g s _ h hr;refine⟨g1,behind id o1,s1,?_,hr1,fun fro g0 w0 hi hro=>.block ((d1 fro g0 w0 hi hro).mono fun o s' ⟨e1,e2⟩=>by grind)⟩
   unfold blockC at h1;cases o1 with
   |exit id'=>
    grind [behind]
   |normal=>exact h1
   |ret=>exact h1
   |pan v=>exact h1
  intro ρ r g s k h hr;simp only[gxC]at h;split at h
  ·rename_i sh Y g1 kk;obtain⟨t,ht,hr⟩:=Option.bind_eq_some_iff.1 (show(g1.run n).bind (fun t=>(kk t).run n)=some r from hr)
   obtain⟨g',o,s',h1,h2,d⟩:=main t g1 s _ h.1 ht;obtain⟨s'',hw,e⟩:=joinC_inv h1 h2;have e1:o=(Y t).1:=congrArg Prod.fst e;have e2:s''=(Y t).2:=congrArg Prod.snd e;refine⟨kk t,(Y t).1,(Y t).2,(sh.all_iff _).1 h.2 t,hr,fun fro g0 w0 hi hro=>?_⟩
   rw[← e1,← e2];exact(d fro g0 w0 hi hro).post hi hw
  ·exact main r g s k h hr
 |loop b ih=>
  intro ρ r g s k h hr;simp only[gxC]at h;split at h
  ·rename_i m g1;simp only[G.run]at hr;obtain⟨g',o,s',h1,h2,hne,hrd⟩:=iterC_inv (ro:=X.ro) (fun g s k h hr=>ih r g s k h hr) m g1 s h hr
   refine⟨g',o,s',h1,h2,fun fro g0 w0 hi hro=>.loop hi (n:=m) (s0:=s) (fun m s=>Rounds P H0 X.ro b m s o s') (fun s h=>h.elim) (.refl _ _) hrd ?_⟩
   rintro m s1 ⟨o1,s2,hd,hx⟩;refine(hd fro g0 w0 hi hro).mono fun o3 s3 ⟨e1,e2⟩=>?_
   subst e1;subst e2;refine⟨s3,.refl _ _,?_⟩;grind
  ·rename_i σ sh hd E Y a0 body kk;obtain⟨h0,hb,hx⟩:=h;simp only[G.run,Option.ite_none_right_eq_some]at hr;obtain⟨hok,hr⟩:=hr;cases ht:iterO (fun a=>(body a).run n) n a0 with
   |none=>rw[ht]at hr;cases hr
   |some t=>
    rw[ht]at hr;have hx:=(sh.all_iff _).1 hx t;obtain⟨_,h0,rfl⟩:=tidyC_inv hok h0;refine⟨kk t,(Y t).1,(Y t).2,hx,by simpa using hr,fun fro g0 w0 hi hro=>.loop hi (n:=n) (s0:=E a0) (fun m s1=>∃a,s1=E a∧iterO (fun a=>(body a).run n) m a=some t) (fun s ⟨a,_,h⟩=>by simp[iterO]at h) h0 ⟨a0,rfl,ht⟩ ?_⟩
    rintro m s1 ⟨a,rfl,hit⟩;simp only[iterO]at hit;cases hq:(body a).run n with
    |none=>rw[hq]at hit;cases hit
    |some q=>
     rw[hq]at hit;obtain⟨g',o',s',h',hr',d'⟩:=sealC_det hNe (fun g h hr=>ih q g (E a) _ h hr) (hb a) hq
     refine(d' fro g0 w0 hi hro).mono fun o2 s2 ⟨e1,e2⟩=>?_
     grind [round_inv]
  ·rename_i hsh sh hd E Y a0 body kk;obtain⟨h0,hb,hx⟩:=h;have hb:=(hsh.all_iff _).1 hb;simp only[G.run,Option.ite_none_right_eq_some]at hr;obtain⟨hok,hr⟩:=hr;cases ht:iterO (fun a=>(body a).run n) n a0 with
   |none=>rw[ht]at hr;cases hr
   |some t=>
    rw[ht]at hr;have hx:=(sh.all_iff _).1 hx t;obtain⟨_,h0,rfl⟩:=tidyC_inv hok h0;refine⟨kk t,(Y t).1,(Y t).2,hx,by simpa using hr,fun fro g0 w0 hi hro=>.loop hi (n:=n) (s0:=E a0) (fun m s1=>∃a,s1=E a∧iterO (fun a=>(body a).run n) m a=some t) (fun s ⟨a,_,h⟩=>by simp[iterO]at h) h0 ⟨a0,rfl,ht⟩ ?_⟩
    rintro m s1 ⟨a,rfl,hit⟩;simp only[iterO]at hit;cases hq:(body a).run n with
    |none=>rw[hq]at hit;cases hit
    |some q=>
     rw[hq]at hit;obtain⟨g',o',s',h',hr',d'⟩:=sealC_det hNe (fun g h hr=>ih q g (E a) _ h hr) (hb a) hq
     refine(d' fro g0 w0 hi hro).mono fun o2 s2 ⟨e1,e2⟩=>?_
     grind [round_inv]
  ·simp[G.run]at hr
  ·exact nomatch h
 |exit id=>intro ρ r g s k h hr;exact⟨g,_,s,h,hr,fun _ _ _ _ _=>.exit ⟨rfl,rfl⟩⟩
 |ret=>intro ρ r g s k h hr;exact⟨g,_,s,h,hr,fun _ _ _ _ _=>.ret ⟨rfl,rfl⟩⟩
 |rangeFunc x ps as bd=>
  intro ρ r g s k h hr;simp only[gxC]at h;obtain⟨s1,g1,hw,h,hr⟩:=preC_sound h hr;split at h
  ·rename_i pr g2;obtain⟨_,h⟩:=h;simp only[G.run]at hr;split at h
   ·rename_i f p q hf;split at h
    ·rename_i l H1 D1 hen;rw[spineF_eq]at h;obtain⟨hpr,h⟩:=h;split at h
     ·rename_i ids rs hcl;simp only[headsF_eq]at h;obtain⟨hq,_⟩:=closX_ok (prC_ok hpr) _ _ _ _ _ hcl;obtain⟨g3,a,H2,hk,hr3,hfn⟩:=hNe.fn h hr;have ho:=oneRef_ok hfn;have hran:∀out s',rangeA (oneRef f (p++[.yld l]++q) (mask ids H1) a H2) X.ro 0 (evalA s1.A x) ps as bd s1=some (out,s')→∀fro g0 w0,Inv g0 H0 w0→RoOk g0 X.ro fro→Does P fro g0 H0 w0 (.rangeFunc x ps as bd) s fun o1 s1=>o1=out∧s1=s':=by
       intro out s' hra fro g0 w0 hi hro;refine .weak hi hw fun Q g a w hs hl hp=>?_
       exact range_sound ho (hro.mono hl.ext) hra hs ((hp out s' ⟨rfl,rfl⟩).later hl)
      rcases finC_inv hk with⟨e,hm,hk⟩ |⟨v,hm,hk⟩
      ·simp only[applyF_eq]at hk;split at hk
       ·rename_i out s' hend;refine⟨g3,out,s',hk,hr3,hran out s' ?_⟩;simp only[rangeA,hf,hen,spineF_eq,hq,finish,avsF_eq,headsF_eq,oneRef,and_self,if_true,hm,effF_eq,applyF_eq,hend]
       ·exact hk.elim
      ·refine⟨g3,_,_,hk,hr3,hran _ _ ?_⟩;simp only[rangeA,hf,hen,spineF_eq,hq,finish,avsF_eq,headsF_eq,oneRef,and_self,if_true,hm]
     ·exact h.elim
    ·exact h.elim
   ·exact h.elim
  ·simp[G.run]at hr
  ·exact nomatch h
 |_=>intro ρ r g s k h hr;exact h.elim
theorem leavesInM_mono{F:Fence}{fn:Func}{tmps:Array Value}{R R':Ending→World→Prop}(hR:∀e w,R e w→R' e w):∀{ds:List Deferred} {m:Nat} {u:FrameMode} {w:World},LeavesInM F m P fn tmps R ds u w→LeavesInM F m P fn tmps R' ds u w
 | [],m,u,w,h=>by
  cases u with
  |run=>exact h
  |returning=>obtain⟨v,h1,h2⟩:=h;exact⟨v,h1,hR _ _ h2⟩
  |panicking chain=>exact hR _ _ h
 |d::ds,m,u,w,h=>by
  obtain⟨hrun,h⟩:=h;refine⟨hrun,?_⟩;rcases h with⟨r,w',htar,htake,hrest⟩ |⟨hn,fv,cap,f,args,htar,hinv,hlead,hcall⟩
  ·exact .inl ⟨r,w',htar,htake,leavesInM_mono hR hrest⟩
  ·refine .inr ⟨hn,fv,cap,f,args,htar,hinv,hlead,hcall.mono fun e u' w' h=>?_⟩
   cases e with
   |returned v=>exact leavesInM_mono hR h
   |panicked chain=>exact leavesInM_mono hR h
   |outgrown=>exact hR _ _ h
theorem landR_inv{L:Nat}{fn:Func}{m:Option AVal}{s:St}{r':ARes}{H1:List ABlk}(h:landR P cfg L fn m s=some (r',H1)):
 ∃m' H' r,leave P cfg orc0 L s.D m s.H=some (m',H')∧ending P fn s.A m' H'=some (r,H1)∧(∀v,r=.ret v→r'=.ret (wkD v))∧(∀v,r=.pan v→r'=.pan v):=by
 grind [landR]
theorem FnRef.of(hm : P.follows .mixedOrders = true)(hN : ∀ (f : FuncId) (fn : Func), P.funcs[f]? = some fn → fn.name ≠ "runtime.NumGoroutine"){L : Nat}{f : FuncId}{fn : Func}{c : Code}{args : List AVal}{H0 H1 : List ABlk}{a : ARes}{o : AOut}{s s' : St}
 (hf:P.funcs[f]? =some fn) (hb:fn.body=some c) (hd:∀g0 w0,Inv g0 H0 w0→Does P none g0 H0 w0 c ⟨frameA fn.ntmps args,H0,[]⟩ fun o1 s1=>o1=o∧s1=s) (hwk:Weak H0 s s') (hlo:landRO P cfg L fn o s'=some (a,H1)):FnRef P f args H0 a H1:=by
 refine⟨⟨fn,c,hf,hb,hN f fn hf⟩,fun gh w vs hi hl=>callsIn_wide.1 (callsIn_of_wp_marks (F:=Fr none) (n:=0) hf hb trivial ?_)⟩
 have hsim:Sim gh ⟨frameA fn.ntmps args,H0,[]⟩ {tmps:=vs++Array.replicate (fn.ntmps - vs.size) undef,defers:=[]} w:=⟨hi,frame_RL hl _,rfl⟩;refine hd gh w hi _ gh _ w hsim (Later.refl _ _ _) fun o1 s1 ⟨e1,e2⟩=>?_
 subst e1;subst e2;refine OutPost.weak hi hwk ?_;have key:∀(m:Option AVal) (u:FrameMode),landR P cfg L fn m s'=some (a,H1)→∀g' a' w',Sim g' s' a' w'→Later gh H0 w g' s'.H w'→ModeOk g' w' m u→
  LeavesInM (Fr none) 0 P fn a'.tmps (Comes1 gh H0 w a H1) a'.defers u w':=by
  intro m u hla g' a' w' hs' hlat hmo;obtain⟨m',H',rr,h1,h2,h3,h4⟩:=landR_inv hla;refine leavesInM_mono ?_ (leave_sound hm hN orc0_ok s'.D a'.defers m u s'.H g' w' m' H' hs'.defs hs'.inv hs'.tmps hmo h1 h2 hlat);rintro e w2 ⟨g2,hi2,hla2,he2⟩;refine⟨g2,hi2,hla2,?_⟩;cases rr with
  |ret v=>rw[h3 v rfl];obtain⟨x,rfl,hx⟩:=he2;exact⟨x,rfl,R_wkD _ _ hx⟩
  |pan v=>rw[h4 v rfl];exact he2
 cases o1 with
 |normal=>exact fun g' a' w' hs' hlat=>key none .returning hlo g' a' w' hs' hlat rfl
 |ret=>exact fun g' a' w' hs' hlat=>key none .returning hlo g' a' w' hs' hlat rfl
 |exit id=>simp[landRO]at hlo
 |pan v=>exact fun g' a' w' x hv hs' hlat hrx=>key (some v) (.panicking [{v:=x,recovered:=false}]) hlo g' a' w' hs' hlat ⟨hv,x,rfl,hrx⟩
theorem landR_flat{L:Nat}{fn:Func}{m:Option AVal}{s:St}{a:ARes}{H1:List ABlk}(h:landR P cfg L fn m s=some (a,H1)):∀v,a=.pan v→v.flat=true:=by
 grind [landR]
theorem landRO_flat{L:Nat}{fn:Func}{o:AOut}{s:St}{a:ARes}{H1:List ABlk}(h:landRO P cfg L fn o s=some (a,H1)):∀v,a=.pan v→v.flat=true:=by
 cases o with
 |normal=>exact landR_flat h
 |ret=>exact landR_flat h
 |exit id=>simp[landRO]at h
 |pan v=>exact landR_flat h
theorem nestN_ok{nd : Bool}(hm : P.follows .mixedOrders = true)(hN : ∀ (f : FuncId) (fn : Func), P.funcs[f]? = some fn → fn.name ≠ "runtime.NumGoroutine") : ∀ d, NestOk P (nestN P cfg nd d)
 | 0=>⟨fun h=>h.elim,fun h=>h.elim,fun h=>h.elim⟩
 |d+1=>by
  have ih:=nestN_ok (nd:=nd) hm hN d;constructor
  ·intro ρ n f args H g k r h hr;simp only[nestN,fnN]at h;split at h
   ·exact conK_ok h hr
   split at h
   ·rename_i fn hf;split at h
    ·rename_i c hb;obtain⟨g1,o,s1,h,hr,hd⟩:=gxC_det (X:=⟨cfg,none,nestN P cfg nd d,nd⟩) hm ih c r g _ _ h hr;unfold endN at h;split at h
     ·rename_i ts pr g2;simp only[G.run,Option.ite_none_right_eq_some]at hr;obtain⟨s',hw,h⟩:=tidyC_inv hr.1 h;split at h
      ·rename_i a H1 hla;have hfn:=FnRef.of hm hN hf hb (fun g0 w0 hi=>hd none g0 w0 hi trivial) hw hla
       obtain⟨_,hpr,h⟩:=h;grind [spineF_eq,FnRef.trim,landRO_flat,prC_ok]
      ·exact h.elim
     ·simp[G.run]at hr
     ·exact nomatch h
    ·exact h.elim
   ·exact h.elim
  ·intro ρ n b args H g k r h hr;simp only[nestN,rndN]at h;split at h
   ·rename_i st pend fid A ps assign body hb;split at h
    ·rename_i hlen;have hlen:=Nat.eq_of_beq_eq_true hlen;obtain⟨g1,o1,s1,h,hr,hd1⟩:=gxC_det (X:=⟨cfg,some b,nestN P cfg nd d,nd⟩) hm ih assign r g _ _ h hr;split at h
     ·split at h
      ·rename_i pend1 fid1 A1 ps1 as1 bd1 hb1;rw[spineF_eq]at h;obtain⟨g2,o2,s2,h,hr,hd2⟩:=gxC_det (X:=⟨cfg,some b,nestN P cfg nd d,nd⟩) hm ih body r g1 _ _ h hr;unfold endB at h;split at h
       ·rename_i j hj;split at h
        ·rename_i ts g3;simp only[G.run,Option.ite_none_right_eq_some]at hr;obtain⟨s3,hw,h⟩:=tidyC_inv hr.1 h;split at h
         ·rename_i H2 hmk;refine⟨g3,_,H2,h,hr.2,fun gh w vs k sz hi hl hk=>?_⟩
          obtain⟨k0,tmps0,dk0,fn0,q1,q2,q3⟩:=hi.good b _ hb;rw[hk]at q1;simp only[Option.some.injEq,Prod.mk.injEq]at q1;obtain⟨rfl,rfl⟩:=q1;have hvs:=(RL_get _ _ hl).1;refine⟨_,q2,by grind,?_⟩
          rw[roundTmps_eq _ ps vs rfl];have hsim:Sim gh ⟨setAll A ps args,H,[]⟩ {tmps:=(ps.zip vs.toList).foldl (fun(tmps:Array Value) (p:Tmp×Value)=>tmps.setIfInBounds p.1 p.2) tmps0,defers:=[]} w:=
           ⟨hi,setAll_RL ps args A _ tmps0 q3 hl,rfl⟩
          refine roundIn_of_wpIn trivial ?_;refine hd1 (some k) gh w hi ⟨0,hk⟩ _ gh _ w hsim (Later.refl _ _ _) fun oo ss ⟨e1,e2⟩=>?_
          subst e1;subst e2;intro gg1 a1 w1 hs1 hla1;have hk1:=hla1.ext.rho _ _ _ hk;obtain⟨k1,tmps1,dk1,fn1,u1,u2,u3⟩:=hs1.inv.good b _ hb1;rw[hk1]at u1;simp only[Option.some.injEq,Prod.mk.injEq]at u1;obtain⟨rfl,-⟩:=u1;refine⟨_,run_beginRound u2 rfl,?_⟩;obtain⟨i2,l2⟩:=hs1.inv.put (y:=.loop .busy pend1 fid1 A1 ps1 as1 bd1)
           (ob:=.loop {state:=.busy,pending:=pend1,fn:=fn1,tmps:=tmps1,params:=ps1.toArray,assign:=as1,body:=bd1,defers:=dk1}) hb1 rfl hk1 rfl (shape?_loop u2)
           fun hext=>⟨_,tmps1,dk1,fn1,hk1,World.putObj_heap_same (Array.getElem?_eq_some_iff.1 u2).1,RL_mono hext _ _ u3⟩
          have hsim2:Sim gg1 {ss with H:=ss.H.set b (.loop .busy pend1 fid1 A1 ps1 as1 bd1)} a1 (w1.putObj k (.loop {state:=.busy,pending:=pend1,fn:=fn1,tmps:=tmps1,params:=ps1.toArray,assign:=as1,body:=bd1,defers:=dk1})):=
           ⟨i2,RL_mono l2.ext _ _ hs1.tmps,RD_mono l2.ext _ _ hs1.defs⟩
          refine hd2 (some k) gh w hi ⟨0,hk⟩ _ gg1 a1 _ hsim2 (hla1.trans l2) fun oo2 ss2 ⟨e1,e2⟩=>?_
          subst e1;subst e2;refine OutPost.weak hi hw ?_;have hend:∀g' a' w',Sim g' s3 a' w'→Later gh H w g' s3.H w'→
           ∃v w'',(Instr.endRound k j).run P w'=.ok v w''∧Comes1 gh H w (.ret (.sc (.bool j.isNone))) H2 (.returned v) w'':=by
           intro g' a' w' hs' hla';obtain⟨rr,e1,e2,e3⟩:=marked_sound hs'.inv (hla'.ext.rho _ _ _ hk) hmk;exact⟨_,_,run_endRound j e1,g',e2,hla'.trans e3,_,rfl,by simp[R]⟩
          cases oo2 with
          |normal=>
           simp only[jumpOf,Option.some.injEq]at hj;subst hj;exact fun g' a' w' h1 h2=>hend g' a' w' h1 h2
          |ret=>
           simp only[jumpOf,Option.some.injEq]at hj;subst hj;exact fun g' a' w' h1 h2=>hend g' a' w' h1 h2
          |exit id=>
           simp only[jumpOf,Option.some.injEq]at hj;subst hj;exact fun g' a' w' h1 h2=>hend g' a' w' h1 h2
          |pan v=>cases hj
         ·exact h.elim
        ·simp[G.run]at hr
        ·exact nomatch h
       ·exact h.elim
      ·exact h.elim
     ·exact h.elim
    ·exact h.elim
   ·exact h.elim
  ·intro σ sh n ro H0 b g E s Y q h hr;obtain⟨h⟩:=h;exact gxC_det (X:=⟨cfg,ro,nestN P cfg nd d,nd⟩) hm ih b q g s _ h hr
end
end Go.AM
end
section
namespace Go.AM
section
variable [Globs] {P:Program} {cfg:Cfg}
def landA(P:Program)[Globs](cfg:Cfg)(L:Nat)(fn:Func)(m:Option AVal)(s:St):Option ARes:=
 match leave P cfg orc0 L s.D m s.H with
 |some (m',H')=>match ending P fn s.A m' H' with
  |some (.ret v,H1)=>match(snap snapFuel v).run H1 with
   |some v'=>some (.ret (wkD v'))
   |none=>none
  |some (.pan v,_)=>match v.flat with
   |true=>some (.pan v)
   |false=>none
  |none=>none
 |none=>none
def landO(P:Program)[Globs](cfg:Cfg)(L:Nat)(fn:Func)(o:AOut)(s:St):Option ARes:=
 match o with
 | .normal=>landA P cfg L fn none s
 | .ret=>landA P cfg L fn none s
 | .pan v=>landA P cfg L fn (some v) s
 | .exit _=>none
def endC{ρ:Type}(P:Program)[Globs](cfg:Cfg)(L:Nat)(fn:Func)(out:ρ→ARes)(g:G P ρ)(o:AOut)(s:St):Prop:=
 match g with
 | .done ts r=>tidyC [] ts s fun s=>landO P cfg L fn o s=some (out r)
 | .fail=>True
 |_=>AtEnd P fn o s out
def fnC{ρ:Type}(P:Program)[Globs](cfg:Cfg)(L:Nat)(f:FuncId)(args:List AVal)(out:ρ→ARes)(g:G P ρ):Prop:=
 match P.funcs[f]? with
 |some fn=>match fn.body with
  |some c=>gxC P (env0 P cfg) [] c g ⟨frameA fn.ntmps args,[],[]⟩ fun g o s=>endC P cfg L fn out g o s
  |none=>False
 |none=>False
def leafF{ρ:Type}(out:ρ→ARes)(r:ρ):Prop:=some (out r)=some (out r)
theorem endC_inv{n L:Nat}{ρ:Type}{fn:Func}{out:ρ→ARes}{g:G P ρ}{o:AOut}{s:St}{r:ρ}(h:endC P cfg L fn out g o s)(hr:g.run n=some r):∃s',Weak [] s s'∧landO P cfg L fn o s'=some (out r):=by
 unfold endC at h;split at h
 ·simp only[G.run,Option.ite_none_right_eq_some,Option.some.injEq]at hr;obtain⟨hok,rfl⟩:=hr;exact tidyC_inv hok h
 ·simp[G.run]at hr
 ·exact nomatch h
theorem land_sound{g g':Gh}{w w':World}{H1:List ABlk}{r r':ARes}{e:Ending}(hi:Inv g [] w)(hi':Inv g' H1 w')(hla:Later g [] w g' H1 w')(hl:(∀v,r=.ret v→∃v',(snap snapFuel v).run H1=some v'∧r'=.ret (wkD v'))∧(∀v,r=.pan v→v.flat=true∧r'=.pan v))
 (he:EndOk g' w' r e):Comes1 g [] w r' [] e w':=by
 refine⟨frz g' H1,hi'.frz,⟨⟨fun b ver x hx=>?_,fun k o hk=>.inl (hla.ext.st k o hk),hla.ext.cell,hla.ext.shape⟩,hla.size,hla.keep,fun k _ ho=>absurd ho not_owned_nil,Nat.le_refl _,hla.os,hla.tape,hla.output,fun k o hk hst=>?_,fun b hb=>by simp at hb,fun b ver k z h=>by cases h⟩,?_⟩
 ·rw[hi.fresh b ver (.inr (by simp))]at hx;cases hx
 ·rcases hst with hst |hst
  ·exact(hla.stk k o hk hst).imp_right fun h=>absurd h.1 not_owned_nil
  ·exact absurd (hla.own k hk hst) not_owned_nil
 ·cases r with
  |ret v=>
   obtain⟨v',hs,rfl⟩:=hl.1 v rfl;obtain⟨x,rfl,hr⟩:=he;exact⟨x,rfl,R_wkD _ _ (snap_sound hi' _ _ _ _ hs hr).1⟩
  |pan v=>
   obtain⟨hf,rfl⟩:=hl.2 v rfl;obtain⟨x,rfl,hr⟩:=he;exact⟨x,rfl,R_flat _ _ hf hr⟩
theorem landA_inv{L:Nat}{fn:Func}{m:Option AVal}{s:St}{r':ARes}(h:landA P cfg L fn m s=some r'):
 ∃m' H' r H1,leave P cfg orc0 L s.D m s.H=some (m',H')∧ending P fn s.A m' H'=some (r,H1)∧(∀v,r=.ret v→∃v',(snap snapFuel v).run H1=some v'∧r'=.ret (wkD v'))∧(∀v,r=.pan v→v.flat=true∧r'=.pan v):=by
 unfold landA at h;split at h
 ·rename_i m' H' hl;split at h
  ·rename_i v H1 he;split at h
   ·rename_i v' hs;simp only[Option.some.injEq]at h;subst h;refine⟨m',H',_,H1,hl,he,?_,?_⟩
    ·intro u hu;cases hu;exact⟨v',hs,rfl⟩
    ·intro u hu;cases hu
   ·cases h
  ·rename_i v H1 he;split at h
   ·rename_i hf;simp only[Option.some.injEq]at h;subst h;refine⟨m',H',_,H1,hl,he,?_,?_⟩
    ·intro u hu;cases hu
    ·intro u hu;cases hu;exact⟨hf,rfl⟩
   ·cases h
  ·cases h
 ·cases h
theorem fnC_sound(hm : P.follows .mixedOrders = true)(hN : ∀ (f : FuncId) (fn : Func), P.funcs[f]? = some fn → fn.name ≠ "runtime.NumGoroutine"){L : Nat}{f : FuncId}{args : List AVal}{ρ : Type}{out : ρ → ARes}{g : G P ρ}
 (h:fnC P cfg L f args out g) {n:Nat} {r:ρ} (hr:g.run n=some r):FnVal P f args (out r):=by
 unfold fnC at h;split at h
 ·rename_i fn hf;split at h
  ·rename_i c hb;refine⟨⟨fn,c,hf,hb,hN f fn hf⟩,fun gh w vs hi hl=>callsIn_wide.1 (callsIn_of_wp_marks (F:=Fr none) (n:=0) hf hb trivial ?_)⟩
   have hsim:Sim gh ⟨frameA fn.ntmps args,[],[]⟩ {tmps:=vs++Array.replicate (fn.ntmps - vs.size) undef,defers:=[]} w:=⟨hi,frame_RL hl _,rfl⟩;obtain⟨g',o,s1,h',hr',hd⟩:=gxC_det (X:=env0 P cfg) hm (nestN_ok hm hN 9) c r g _ _ h hr;obtain⟨s',hwk,hlo⟩:=endC_inv h' hr';refine hd none gh w hi trivial _ gh _ w hsim (Later.refl _ _ _) fun o1 s1 ⟨e1,e2⟩=>?_
   subst e1;subst e2;refine OutPost.weak hi hwk ?_;have key:∀(m:Option AVal) (u:FrameMode),landA P cfg L fn m s'=some (out r)→∀g' a' w',Sim g' s' a' w'→Later gh [] w g' s'.H w'→ModeOk g' w' m u→
    LeavesInM (Fr none) 0 P fn a'.tmps (Comes1 gh [] w (out r) []) a'.defers u w':=by
    intro m u hla g' a' w' hs' hlat hmo;obtain⟨m',H',rr,H1,h1,h2,h3⟩:=landA_inv hla;refine leavesInM_mono ?_ (leave_sound hm hN orc0_ok s'.D a'.defers m u s'.H g' w' m' H' hs'.defs hs'.inv hs'.tmps hmo h1 h2 hlat);rintro e w2 ⟨g2,hi2,hla2,he2⟩;exact land_sound hi hi2 hla2 h3 he2
   cases o1 with
   |normal=>exact fun g' a' w' hs' hlat=>key none .returning hlo g' a' w' hs' hlat rfl
   |ret=>exact fun g' a' w' hs' hlat=>key none .returning hlo g' a' w' hs' hlat rfl
   |exit id=>simp[landO]at hlo
   |pan v=>exact fun g' a' w' x hv hs' hlat hrx=>key (some v) (.panicking [{v:=x,recovered:=false}]) hlo g' a' w' hs' hlat ⟨hv,x,rfl,hrx⟩
  ·exact h.elim
 ·exact h.elim
inductive AtEndR (P:Program) [Globs] {ρ:Type} (fn:Func) (o:AOut) (s:St) (H0:List ABlk) (out:ρ→ARes×List ABlk):Prop
def trimR(n:Nat):Option (ARes×List ABlk)→Option (ARes×List ABlk)
 |some (a,H)=>some (a,H.take n)
 |none=>none
def endCR{ρ:Type}(P:Program)[Globs](cfg:Cfg)(L:Nat)(fn:Func)(H0:List ABlk)(out:ρ→ARes×List ABlk)(g:G P ρ)(o:AOut)(s:St):Prop:=
 match g with
 | .done ts r=>tidyC H0 ts s fun s=>trimR H0.length (landRO P cfg L fn o s)=some (out r)
 | .fail=>True
 |_=>AtEndR P fn o s H0 out
def fnCR{ρ:Type}(P:Program)[Globs](cfg:Cfg)(L:Nat)(f:FuncId)(args:List AVal)(H0:List ABlk)(out:ρ→ARes×List ABlk)(g:G P ρ):Prop:=
 match P.funcs[f]? with
 |some fn=>match fn.body with
  |some c=>gxC P (env0 P cfg) H0 c g ⟨frameA fn.ntmps args,H0,[]⟩ fun g o s=>endCR P cfg L fn H0 out g o s
  |none=>False
 |none=>False
def leafR{ρ:Type}(out:ρ→ARes×List ABlk)(r:ρ):Prop:=some (out r)=some (out r)
theorem endCR_inv{n L:Nat}{ρ:Type}{fn:Func}{H0:List ABlk}{out:ρ→ARes×List ABlk}{g:G P ρ}{o:AOut}{s:St}{r:ρ}(h:endCR P cfg L fn H0 out g o s)(hr:g.run n=some r):∃s',Weak H0 s s'∧trimR H0.length (landRO P cfg L fn o s')=some (out r):=by
 unfold endCR at h;split at h
 ·simp only[G.run,Option.ite_none_right_eq_some,Option.some.injEq]at hr;obtain⟨hok,rfl⟩:=hr;exact tidyC_inv hok h
 ·simp[G.run]at hr
 ·exact nomatch h
theorem fnCR_sound(hm : P.follows .mixedOrders = true)(hN : ∀ (f : FuncId) (fn : Func), P.funcs[f]? = some fn → fn.name ≠ "runtime.NumGoroutine"){L : Nat}{f : FuncId}{args : List AVal}{H0 : List ABlk}{ρ : Type}{out : ρ → ARes × List ABlk}{g : G P ρ}
 (h:fnCR P cfg L f args H0 out g) {n:Nat} {r:ρ} (hr:g.run n=some r) (h0:0<H0.length) (ha:(out r).1.okR=true) (hrow:∀x∈(out r).2,x.row0=true∨x=.dead):FnRef P f args H0 (out r).1 (out r).2:=by
 unfold fnCR at h;split at h
 ·rename_i fn hf;split at h
  ·rename_i c hb;obtain⟨g',o,s1,h',hr',hd⟩:=gxC_det (X:=env0 P cfg) hm (nestN_ok hm hN 9) c r g _ _ h hr;obtain⟨s',hwk,hlo⟩:=endCR_inv h' hr';cases hl:landRO P cfg L fn o s' with
   |none=>rw[hl]at hlo;cases hlo
   |some p=>
    obtain⟨a,H1⟩:=p;rw[hl]at hlo;simp only[trimR,Option.some.injEq]at hlo;have:=FnRef.of hm hN hf hb (fun g0 w0 hi=>hd none g0 w0 hi trivial) hwk hl
    rw[← hlo]at ha hrow ⊢;exact FnRef.take this h0 ha hrow
  ·exact h.elim
 ·exact h.elim
class Plain (P:Program):Prop where
 mixed:P.follows .mixedOrders=true
 names : ∀ (f : FuncId) (fn : Func), P.funcs[f]? = some fn → fn.name ≠ "runtime.NumGoroutine"
def Ctr.of[hp:Plain P](cfg:Cfg)(L:Nat)(f:FuncId)(X:Type)(args:X→List AVal)(sh:Sh)(out:sh.El→ARes)(g:X→G P sh.El)(h:∀x,fnC P cfg L f (args x) out (g x)=(g x).claims (leafF out)):Ctr P where
 f:=f
 X:=X
 args:=args
 sh:=sh
 out:=out
 S:=fun n x=>(g x).run n
 ok:=fun _ x _ hr=>fnC_sound hp.mixed hp.names (by rw[h x];exact G.claims_hold (fun _=>rfl) (g x)) hr
def Ctr1.ofVar[hp:Plain P](cfg:Cfg)(L:Nat)(f:FuncId)(X:Type)(args:X→List AVal)(τ:Type)(sz:Nat)(enc:τ→List AVal)(b:X→τ)(sh:Sh)(out:sh.El→ARes)(bo:sh.El→τ)(g:X→G P sh.El)
 (he:∀a,AVal.pureL (enc a)=true) (ha:∀x,AVal.only0L (args x)=true) (hr:sh.all fun r=>(out r).okR=true)
 (h:∀x,fnCR P cfg L f (args x) [.row 0 sz [enc (b x)]] (fun r=>(out r,[.row 0 sz [enc (bo r)]])) (g x)=(g x).claims (leafR fun r=>(out r,[.row 0 sz [enc (bo r)]]))):Ctr1 P where
 f:=f
 X:=X
 args:=args
 blk:=fun x=>.row 0 sz [enc (b x)]
 sh:=sh
 out:=out
 outB:=fun _ r=>.row 0 sz [enc (bo r)]
 S:=fun n x=>(g x).run n
 a0:=ha
 b0:=fun x=>by simp[ABlk.row0,he]
 b1:=fun _ r=>.inl (by simp[ABlk.row0,he])
 r0:=fun r=>(sh.all_iff _).1 hr r
 ok:=fun _ x r hr'=>fnCR_sound hp.mixed hp.names (out:=fun r=>(out r,[.row 0 sz [enc (bo r)]])) (by rw[h x];exact G.claims_hold (fun _=>rfl) (g x)) hr' (Nat.zero_lt_succ _) ((sh.all_iff _).1 hr r) fun y hy=>by
  simp only[List.mem_singleton]at hy;subst hy;exact .inl (by simp[ABlk.row0,he])
def Ctr1.ofRows[hp:Plain P](cfg:Cfg)(L:Nat)(f:FuncId)(X:Type)(args:X→List AVal)(τ:Type)(sz:Nat)(enc:τ→List AVal)(b:X→List τ)(sh:Sh)(out:sh.El→ARes)(bo:sh.El→List τ)(g:X→G P sh.El)
 (he:∀a,AVal.pureL (enc a)=true) (ha:∀x,AVal.only0L (args x)=true) (hr:sh.all fun r=>(out r).okR=true)
 (h:∀x,fnCR P cfg L f (args x) [.row 0 sz ((b x).map enc)] (fun r=>(out r,[.row 0 sz ((bo r).map enc)])) (g x)=(g x).claims (leafR fun r=>(out r,[.row 0 sz ((bo r).map enc)]))):Ctr1 P where
 f:=f
 X:=X
 args:=args
 blk:=fun x=>.row 0 sz ((b x).map enc)
 sh:=sh
 out:=out
 outB:=fun _ r=>.row 0 sz ((bo r).map enc)
 S:=fun n x=>(g x).run n
 a0:=ha
 b0:=fun x=>by simp[ABlk.row0,he]
 b1:=fun _ r=>.inl (by simp[ABlk.row0,he])
 r0:=fun r=>(sh.all_iff _).1 hr r
 ok:=fun _ x r hr'=>fnCR_sound hp.mixed hp.names (out:=fun r=>(out r,[.row 0 sz ((bo r).map enc)])) (by rw[h x];exact G.claims_hold (fun _=>rfl) (g x)) hr' (Nat.zero_lt_succ _) ((sh.all_iff _).1 hr r) fun y hy=>by
  simp only[List.mem_singleton]at hy;subst hy;exact .inl (by simp[ABlk.row0,he])
theorem FnVal.lstNil{f:FuncId}{r:ARes}(h0:FnVal P f [.nz true] r)(h1:FnVal P f [.nz false] r):FnVal P f [.lst []] r:=by
 refine⟨h0.1,fun g w vs hi hl=>?_⟩
 obtain⟨x,xs,hv,hx,hl'⟩:=hl;simp only[R]at hx;obtain⟨a,cap,rfl,_,_⟩:=hx;by_cases ha:a.isNone=true
 ·exact h0.2 g w vs hi (by rw[hv];exact⟨_,_,rfl,by simp only[R];exact⟨a,cap,rfl,ha⟩,hl'⟩)
 ·exact h1.2 g w vs hi (by rw[hv];exact⟨_,_,rfl,by simp only[R];exact⟨a,cap,rfl,by cases a<;>simp_all⟩,hl'⟩)
def Ctr.ofNil[hp:Plain P](cfg:Cfg)(L:Nat)(f:FuncId)(α:Type)(enc:α→List AVal)(sh:Sh)(out:sh.El→ARes)(g:List α→G P sh.El)(g0 g1:G P sh.El)(r:sh.El)(e0:g0.run 0=some r)(e1:g1.run 0=some r)
 (h:∀x,fnC P cfg L f [.lst (x.map enc)] out (g x)=(g x).claims (leafF out)) (h0:fnC P cfg L f [.nz true] out g0=g0.claims (leafF out)) (h1:fnC P cfg L f [.nz false] out g1=g1.claims (leafF out)):Ctr P where
 f:=f
 X:=List α
 args:=fun x=>[.lst (x.map enc)]
 sh:=sh
 out:=out
 S:=fun n x=>match x with
  | []=>some r
  |_::_=>(g x).run n
 ok:=fun n x q hr=>by
  cases x with
  |nil=>
   simp only[Option.some.injEq]at hr;subst hr;exact FnVal.lstNil (fnC_sound hp.mixed hp.names (by rw[h0];exact G.claims_hold (fun _=>rfl) g0) e0) (fnC_sound hp.mixed hp.names (by rw[h1];exact G.claims_hold (fun _=>rfl) g1) e1)
  |cons y ys=>exact fnC_sound hp.mixed hp.names (by rw[h (y::ys)];exact G.claims_hold (fun _=>rfl) (g (y::ys))) hr
end
end Go.AM
end
section
namespace Go.AM
def elemSz(P:Program)(T:TypeId):Option Nat:=match P.underlying T with
 |some (.slice e)=>sizeT P e
 |_=>none
def intOf:AVal→Option Int
 | .sc (.int _ n)=>some n
 |_=>none
theorem intOf_some{v:AVal}{n:Int}(h:intOf v=some n):∃k,v=.sc (.int k n):=by
 unfold intOf at h;grind
def at?{X:Type}(l:List X)(i:Int):Option X:=if 0≤i then l[i.toNat]? else none
theorem elemSz_some{P:Program}{T:TypeId}{n:Nat}(h:elemSz P T=some n):∃e,P.underlying T=some (.slice e)∧sizeT P e=some n:=by
 grind [elemSz]
section
def idxO{X:Type}(l:List X)(enc:X→List AVal)(n:Nat)(i:Int):OpT X where
 run:=at? l i
 eff x:={val:=.cptr (enc x) 0}
 ids:=[]
 chk gl P cfg nid op rho H:=match op with
  | .indexAddr T a b=>rho a=.lst (l.map enc)∧intOf (rho b)=some i∧elemSz P T=some n∧∀x,(enc x).length=n
  |_=>False
 claim:=AVal.lst (l.map enc)=AVal.lst (l.map enc)∧some i=some i∧some n=some n∧∀_:X,n=n
 holds:=⟨rfl,rfl,rfl,fun _=>rfl⟩
 sound gl P cfg nid op rho H h x hx:=by
  cases op<;>try exact h.elim
  rename_i T a b;obtain⟨h1,h2,h3,h4⟩:=h;obtain⟨k,h2⟩:=intOf_some h2;obtain⟨e,e1,e2⟩:=elemSz_some h3;unfold at? at hx;split at hx
  ·rename_i h0;simp[opPre,allocs,opA,h2,h1,indexAddrA,e1,e2,h0,hx,h4,yields,Rd.bind,Rd.run,Rd.reads]
  ·cases hx
def lenO{X:Type}(l:List X)(enc:X→List AVal):OpT Unit where
 run:=some ()
 eff _:={val:=.sc (.int .i64 l.length)}
 ids:=[]
 chk gl P cfg nid op rho H:=match op with
  | .call {callee:=.builtin .len,args,argTypes}=>match argTypes[0]?,args[0]? with
   |some T,some x=> @Eq Bool (elemSz P T).isSome true∧rho x=.lst (l.map enc)
   |_,_=>False
  |_=>False
 claim:=(@Eq Bool true true)∧AVal.lst (l.map enc)=AVal.lst (l.map enc)
 holds:=⟨by rfl,by rfl⟩
 sound gl P cfg nid op rho H h x hx:=by
  split at h
  ·split at h
   ·rename_i args argTypes _ _ T x hT ha;obtain⟨h1,h2⟩:=h;obtain⟨n,hn⟩:=Option.isSome_iff_exists.1 h1;obtain⟨e,e1,e2⟩:=elemSz_some hn;grind [opPre,allocs,opA,lenA,Rd.bind,Rd.run,Rd.reads]
   ·exact h.elim
  ·exact h.elim
def nilO{X:Type}(l:List X)(enc:X→List AVal)(eq:Bool):OpT Unit where
 run:=if l.isEmpty then none else some ()
 eff _:={val:=.sc (.bool (!eq))}
 ids:=[]
 chk gl P cfg nid op rho H:=match op with
  | .binOp bop T a b _=>(match bop with | .eql=>eq | .neq=> !eq |_=>false)=true∧nilConst b=true∧rho a=.lst (l.map enc)∧(match P.underlying T with |some (.slice _)=>true |_=>false)=true
  |_=>False
 claim:=(@Eq Bool true true)∧(@Eq Bool true true)∧AVal.lst (l.map enc)=AVal.lst (l.map enc)∧(@Eq Bool true true)
 holds:=⟨rfl,rfl,rfl,rfl⟩
 sound gl P cfg nid op rho H h x hx:=by
  cases op<;>try exact h.elim
  rename_i bop T a b sz;obtain⟨h1,h2,h3,h4⟩:=h;have hb:=nilConst_some h2;subst hb;cases l with
  |nil=>simp at hx
  |cons y ys=>
   split at h4
   ·rename_i e he;cases bop<;>simp at h1<;>subst h1<;>simp[opPre,allocs,opA,nilConst,nilEqSA,he,h3,nilSl,yields,Rd.bind,Rd.run,Rd.reads]
   ·cases h4
def infoOf(P:Program)(T:TypeId):Option (Nat×Nat×Bool):=match P.info? T with
 |some i=>some (i.size,i.bytes,zeroFits i)
 |none=>none
def elemInfo(P:Program)(T:TypeId):Option (Nat×Nat×Bool):=match P.underlying T with
 |some (.slice e)=>infoOf P e
 |_=>none
theorem elemInfo_some{P:Program}{T:TypeId}{n by_:Nat}{z:Bool}(h:elemInfo P T=some (n,by_,z)):∃e i,P.underlying T=some (.slice e)∧P.info? e=some i∧i.size=n∧i.bytes=by_∧zeroFits i=z:=by
 grind [elemInfo,infoOf]
theorem run_bind'{α β:Type}{H:List ABlk}{m:Rd α}{f:α→Rd β}{x:α}(h:m.run H=some x):(m.bind f).run H=(f x).run H:=by
 induction m with
 |fail=>simp[Rd.run]at h
 |done a=>simp[Rd.run]at h;subst h;rfl
 |get b k ih=>
  grind [Rd.run,Rd.bind]
def appO{X:Type}(len:Nat)(l m:List X)(enc:X→List AVal)(n by_ b ver nid0:Nat)(eids:List Nat):OpT Unit where
 run:=if len=l.length∧roomy (l.length+m.length) by_=true then some ()else none
 eff _:={val:=.sl b (ver+1) n 0 (l++m).length,upd:=[(b,.row (ver+1) n ((l++m).map enc))]}
 ids:=nid0::(eids++[b])
 chk gl P cfg nid op rho H:=match op with
  | .call {callee:=.builtin .append,args,argTypes}=>match argTypes[0]?,argTypes[1]?,args[0]?,args[1]? with
   |some ST,some XT,some s,some x=>nid=nid0∧H[nid]? =some .unborn∧decide (args.size=2)=true∧elemInfo P ST=some (n,by_,true)∧(elemSz P XT).isSome=true∧decide (0<n)=true∧rho s=.sl b ver n 0 len∧H[b]? =some (.row ver n (l.map enc))∧
    (elems (rho x)).run H=some (m.map enc)∧(elems (rho x)).reads H=eids∧∀x,(enc x).length=n
   |_,_,_,_=>False
  |_=>False
 claim:=nid0=nid0∧some ABlk.unborn=some ABlk.unborn∧ @Eq Bool true true∧some (n,by_,true)=some (n,by_,true)∧ @Eq Bool true true∧ @Eq Bool true true∧AVal.sl b ver n 0 len=AVal.sl b ver n 0 len∧some (ABlk.row ver n (l.map enc))=some (ABlk.row ver n (l.map enc))∧
  some (m.map enc)=some (m.map enc)∧eids=eids∧∀_:X,n=n
 holds:=by simp
 sound gl P cfg nid op rho H h x hx:=by
  split at h
  ·split at h
   ·rename_i args argTypes _ _ _ _ ST XT sx x hT hX hs hxx;obtain⟨rfl,hunb,h0,h1,h2,h3,h4,h5,h6,h6',h7⟩:=h;obtain⟨e,i,e1,e2,e3,e4,e5⟩:=elemInfo_some h1;obtain⟨n2,hn2⟩:=Option.isSome_iff_exists.1 h2;obtain⟨e',e6,_⟩:=elemSz_some hn2;simp only[decide_eq_true_eq]at h0 h3;split at hx
    ·rename_i hroom;obtain⟨rfl,hroom⟩:=hroom;have hz:i.size≠0:=by omega
     have hall:(m.map enc).all (fun r=>r.length==i.size)=true:=by
      simp only[List.all_map,List.all_eq_true];intro y _;simp[h7,e3]
     have hop:opPre P cfg nid rho (.call {callee:=.builtin .append,args:=args,argTypes:=argTypes})=.get nid fun
      | .unborn=>(appendA P nid ST XT (rho sx) (rho x)).bind fun e=>.done (.eff e)
      |_=>.fail:=by
      simp only[opPre,allocs,if_true,opA,hT,hX,hs,hxx,h0];congr 1
     have hap:appendA P nid ST XT (rho sx) (rho x)=(elems (rho x)).bind fun new=>.get b fun
      | .row v sz rows=>if v=ver then(if 0=0∧l.length≤rows.length∧sz=i.size∧roomy (l.length+new.length) i.bytes=true∧new.all (fun r=>r.length==i.size)=true∧zeroFits i=true then
       .done {val:=.sl b (ver+1) sz 0 (l.length+new.length),upd:=[(b,.row (ver+1) sz (cutN l.length rows++new))]}else .fail)else .fail
      |_=>.fail:=by
      rw[h4];unfold appendA;rw[e1,e6];simp only[e2,hz,if_false];congr 1
      funext new
      simp only[Rd.bind,rowOf];congr 1
      funext y
      cases y with
      |row v sz rows=>grind [Rd.bind]
      |_=>rfl
     rw[hop,hap];simp only[Rd.run,Rd.reads,hunb];have hb:∀{β:Type} (f:Eff→Rd β) (g:List (List AVal)→Rd Eff),(((elems (rho x)).bind g).bind f)=(elems (rho x)).bind fun n=>(g n).bind f:=by
      intro β f g;generalize elems (rho x)=q;induction q with
      |fail=>rfl
      |done a=>rfl
      |get b k ih=>simp only[Rd.bind,ih]
     grind [run_bind',reads_bind,Rd.bind,Rd.run,Rd.reads,cutN_eq]
    ·cases hx
   ·exact h.elim
  ·exact h.elim
def appS{X:Type}(len:Nat)(l m:List X)(enc:X→List AVal)(n by_ b ver nid0:Nat)(eids:List Nat):OpT Unit where
 run:=if len≤l.length∧roomy (len+m.length) by_=true then some ()else none
 eff _:={val:=.sl b (ver+1) n 0 (l.take len++m).length,upd:=[(b,.row (ver+1) n ((l.take len++m).map enc))]}
 ids:=nid0::(eids++[b])
 chk gl P cfg nid op rho H:=match op with
  | .call {callee:=.builtin .append,args,argTypes}=>match argTypes[0]?,argTypes[1]?,args[0]?,args[1]? with
   |some ST,some XT,some s,some x=>nid=nid0∧H[nid]? =some .unborn∧decide (args.size=2)=true∧elemInfo P ST=some (n,by_,true)∧(elemSz P XT).isSome=true∧decide (0<n)=true∧rho s=.sl b ver n 0 len∧H[b]? =some (.row ver n (l.map enc))∧
    (elems (rho x)).run H=some (m.map enc)∧(elems (rho x)).reads H=eids∧∀x,(enc x).length=n
   |_,_,_,_=>False
  |_=>False
 claim:=nid0=nid0∧some ABlk.unborn=some ABlk.unborn∧ @Eq Bool true true∧some (n,by_,true)=some (n,by_,true)∧ @Eq Bool true true∧ @Eq Bool true true∧AVal.sl b ver n 0 len=AVal.sl b ver n 0 len∧some (ABlk.row ver n (l.map enc))=some (ABlk.row ver n (l.map enc))∧
  some (m.map enc)=some (m.map enc)∧eids=eids∧∀_:X,n=n
 holds:=by simp
 sound gl P cfg nid op rho H h x hx:=by
  split at h
  ·split at h
   ·rename_i args argTypes _ _ _ _ ST XT sx x hT hX hs hxx;obtain⟨rfl,hunb,h0,h1,h2,h3,h4,h5,h6,h6',h7⟩:=h;obtain⟨e,i,e1,e2,e3,e4,e5⟩:=elemInfo_some h1;obtain⟨n2,hn2⟩:=Option.isSome_iff_exists.1 h2;obtain⟨e',e6,_⟩:=elemSz_some hn2;simp only[decide_eq_true_eq]at h0 h3;split at hx
    ·rename_i hroom;obtain⟨hlen,hroom⟩:=hroom;have hz:i.size≠0:=by omega
     have hall:(m.map enc).all (fun r=>r.length==i.size)=true:=by
      simp only[List.all_map,List.all_eq_true];intro y _;simp[h7,e3]
     have hop:opPre P cfg nid rho (.call {callee:=.builtin .append,args:=args,argTypes:=argTypes})=.get nid fun
      | .unborn=>(appendA P nid ST XT (rho sx) (rho x)).bind fun e=>.done (.eff e)
      |_=>.fail:=by
      simp only[opPre,allocs,if_true,opA,hT,hX,hs,hxx,h0];congr 1
     have hap:appendA P nid ST XT (rho sx) (rho x)=(elems (rho x)).bind fun new=>.get b fun
      | .row v sz rows=>if v=ver then(if 0=0∧len≤rows.length∧sz=i.size∧roomy (len+new.length) i.bytes=true∧new.all (fun r=>r.length==i.size)=true∧zeroFits i=true then
       .done {val:=.sl b (ver+1) sz 0 (len+new.length),upd:=[(b,.row (ver+1) sz (cutN len rows++new))]}else .fail)else .fail
      |_=>.fail:=by
      rw[h4];unfold appendA;rw[e1,e6];simp only[e2,hz,if_false];congr 1
      funext new
      simp only[Rd.bind,rowOf];congr 1
      funext y
      cases y with
      |row v sz rows=>grind [Rd.bind]
      |_=>rfl
     rw[hop,hap];simp only[Rd.run,Rd.reads,hunb];have hb:∀{β:Type} (f:Eff→Rd β) (g:List (List AVal)→Rd Eff),(((elems (rho x)).bind g).bind f)=(elems (rho x)).bind fun n=>(g n).bind f:=by
      intro β f g;generalize elems (rho x)=q;induction q with
      |fail=>rfl
      |done a=>rfl
      |get b k ih=>simp only[Rd.bind,ih]
     rw[hb,run_bind' h6,reads_bind h6,h6'];simp only[Rd.bind,Rd.run,Rd.reads,h5,if_true];rw[if_pos ⟨trivial,by simpa using hlen,e3.symm,by simpa[e4]using hroom,hall,e5⟩]
     rw[cutN_eq _ _ (by simpa using hlen)]
     simp[Rd.bind,Rd.run,Rd.reads,List.map_take,Nat.min_eq_left hlen]
    ·cases hx
   ·exact h.elim
  ·exact h.elim
theorem elems_part{X:Type}(l:List X)(enc:X→List AVal){x:AVal}{H:List ABlk}{b ver sz o n:Nat}(hx:x=.sl b ver sz o n)(hH:H[b]? =some (.row ver sz (l.map enc)))(hle:o+n≤l.length):
 (elems x).run H=some (((l.drop o).take n).map enc)∧(elems x).reads H=[b]:=by
 subst hx;simp[elems,rowOf,Rd.bind,Rd.run,Rd.reads,hH,hle,List.map_drop,List.map_take]
def appE{X:Type}(len:Nat)(l l2:List X)(b2 ver2 o2 n2:Nat)(enc:X→List AVal)(n by_ b ver nid0:Nat):OpT Unit where
 run:=if(len=l.length∧o2+n2≤l2.length)∧roomy (l.length+n2) by_=true then some ()else none
 eff _:={val:=.sl b (ver+1) n 0 (l++(l2.drop o2).take n2).length,upd:=[(b,.row (ver+1) n ((l++(l2.drop o2).take n2).map enc))]}
 ids:=nid0::([b2]++[b])
 chk gl P cfg nid op rho H:=match op with
  | .call {callee:=.builtin .append,args,argTypes}=>match argTypes[0]?,argTypes[1]?,args[0]?,args[1]? with
   |some ST,some XT,some s,some x=>nid=nid0∧H[nid]? =some .unborn∧decide (args.size=2)=true∧elemInfo P ST=some (n,by_,true)∧(elemSz P XT).isSome=true∧decide (0<n)=true∧rho s=.sl b ver n 0 len∧H[b]? =some (.row ver n (l.map enc))∧
    rho x=.sl b2 ver2 n o2 n2∧H[b2]? =some (.row ver2 n (l2.map enc))∧∀x,(enc x).length=n
   |_,_,_,_=>False
  |_=>False
 claim:=nid0=nid0∧some ABlk.unborn=some ABlk.unborn∧ @Eq Bool true true∧some (n,by_,true)=some (n,by_,true)∧ @Eq Bool true true∧ @Eq Bool true true∧AVal.sl b ver n 0 len=AVal.sl b ver n 0 len∧some (ABlk.row ver n (l.map enc))=some (ABlk.row ver n (l.map enc))∧
  AVal.sl b2 ver2 n o2 n2=AVal.sl b2 ver2 n o2 n2∧some (ABlk.row ver2 n (l2.map enc))=some (ABlk.row ver2 n (l2.map enc))∧∀_:X,n=n
 holds:=by simp
 sound gl P cfg nid op rho H h x hx:=by
  split at h
  ·split at h
   ·rename_i args argTypes _ _ _ _ ST XT sx x hT hX hs hxx;obtain⟨rfl,hunb,h0,h1,h2,h3,h4,h5,h6,h6',h7⟩:=h;obtain⟨e,i,e1,e2,e3,e4,e5⟩:=elemInfo_some h1;obtain⟨n9,hn2⟩:=Option.isSome_iff_exists.1 h2;obtain⟨e',e6,_⟩:=elemSz_some hn2;simp only[decide_eq_true_eq]at h0 h3;split at hx
    ·rename_i hroom;obtain⟨⟨rfl,hle2⟩,hroom⟩:=hroom;obtain⟨h6,h6'⟩:=elems_part l2 enc h6 h6' hle2;obtain⟨m,hm⟩:∃m,m=(l2.drop o2).take n2:=⟨_,rfl⟩;have hml:m.length=n2:=by rw[hm,List.length_take,List.length_drop];omega
     rw[← hm]at h6 ⊢;rw[← hml]at hroom;have hz:i.size≠0:=by omega
     have hall:(m.map enc).all (fun r=>r.length==i.size)=true:=by
      simp only[List.all_map,List.all_eq_true];intro y _;simp[h7,e3]
     have hop:opPre P cfg nid rho (.call {callee:=.builtin .append,args:=args,argTypes:=argTypes})=.get nid fun
      | .unborn=>(appendA P nid ST XT (rho sx) (rho x)).bind fun e=>.done (.eff e)
      |_=>.fail:=by
      simp only[opPre,allocs,if_true,opA,hT,hX,hs,hxx,h0];congr 1
     have hap:appendA P nid ST XT (rho sx) (rho x)=(elems (rho x)).bind fun new=>.get b fun
      | .row v sz rows=>if v=ver then(if 0=0∧l.length≤rows.length∧sz=i.size∧roomy (l.length+new.length) i.bytes=true∧new.all (fun r=>r.length==i.size)=true∧zeroFits i=true then
       .done {val:=.sl b (ver+1) sz 0 (l.length+new.length),upd:=[(b,.row (ver+1) sz (cutN l.length rows++new))]}else .fail)else .fail
      |_=>.fail:=by
      rw[h4];unfold appendA;rw[e1,e6];simp only[e2,hz,if_false];congr 1
      funext new
      simp only[Rd.bind,rowOf];congr 1
      funext y
      cases y with
      |row v sz rows=>grind [Rd.bind]
      |_=>rfl
     rw[hop,hap];simp only[Rd.run,Rd.reads,hunb];have hb:∀{β:Type} (f:Eff→Rd β) (g:List (List AVal)→Rd Eff),(((elems (rho x)).bind g).bind f)=(elems (rho x)).bind fun n=>(g n).bind f:=by
      intro β f g;generalize elems (rho x)=q;induction q with
      |fail=>rfl
      |done a=>rfl
      |get b k ih=>simp only[Rd.bind,ih]
     grind [run_bind',reads_bind,Rd.bind,Rd.run,Rd.reads,cutN_eq]
    ·cases hx
   ·exact h.elim
  ·exact h.elim
def appF{X:Type}(len:Nat)(l l2:List X)(b2 ver2 o2 n2:Nat)(enc:X→List AVal)(n by_ b ver nid0:Nat):OpT Unit where
 run:=if(len≤l.length∧o2+n2≤l2.length)∧roomy (len+n2) by_=true then some ()else none
 eff _:={val:=.sl b (ver+1) n 0 (l.take len++(l2.drop o2).take n2).length,upd:=[(b,.row (ver+1) n ((l.take len++(l2.drop o2).take n2).map enc))]}
 ids:=nid0::([b2]++[b])
 chk gl P cfg nid op rho H:=match op with
  | .call {callee:=.builtin .append,args,argTypes}=>match argTypes[0]?,argTypes[1]?,args[0]?,args[1]? with
   |some ST,some XT,some s,some x=>nid=nid0∧H[nid]? =some .unborn∧decide (args.size=2)=true∧elemInfo P ST=some (n,by_,true)∧(elemSz P XT).isSome=true∧decide (0<n)=true∧rho s=.sl b ver n 0 len∧H[b]? =some (.row ver n (l.map enc))∧
    rho x=.sl b2 ver2 n o2 n2∧H[b2]? =some (.row ver2 n (l2.map enc))∧∀x,(enc x).length=n
   |_,_,_,_=>False
  |_=>False
 claim:=nid0=nid0∧some ABlk.unborn=some ABlk.unborn∧ @Eq Bool true true∧some (n,by_,true)=some (n,by_,true)∧ @Eq Bool true true∧ @Eq Bool true true∧AVal.sl b ver n 0 len=AVal.sl b ver n 0 len∧some (ABlk.row ver n (l.map enc))=some (ABlk.row ver n (l.map enc))∧
  AVal.sl b2 ver2 n o2 n2=AVal.sl b2 ver2 n o2 n2∧some (ABlk.row ver2 n (l2.map enc))=some (ABlk.row ver2 n (l2.map enc))∧∀_:X,n=n
 holds:=by simp
 sound gl P cfg nid op rho H h x hx:=by
  split at h
  ·split at h
   ·rename_i args argTypes _ _ _ _ ST XT sx x hT hX hs hxx;obtain⟨rfl,hunb,h0,h1,h2,h3,h4,h5,h6,h6',h7⟩:=h;obtain⟨e,i,e1,e2,e3,e4,e5⟩:=elemInfo_some h1;obtain⟨n9,hn2⟩:=Option.isSome_iff_exists.1 h2;obtain⟨e',e6,_⟩:=elemSz_some hn2;simp only[decide_eq_true_eq]at h0 h3;split at hx
    ·rename_i hroom;obtain⟨⟨hlen,hle2⟩,hroom⟩:=hroom;obtain⟨h6,h6'⟩:=elems_part l2 enc h6 h6' hle2;obtain⟨m,hm⟩:∃m,m=(l2.drop o2).take n2:=⟨_,rfl⟩;have hml:m.length=n2:=by rw[hm,List.length_take,List.length_drop];omega
     rw[← hm]at h6 ⊢;rw[← hml]at hroom;have hz:i.size≠0:=by omega
     have hall:(m.map enc).all (fun r=>r.length==i.size)=true:=by
      simp only[List.all_map,List.all_eq_true];intro y _;simp[h7,e3]
     have hop:opPre P cfg nid rho (.call {callee:=.builtin .append,args:=args,argTypes:=argTypes})=.get nid fun
      | .unborn=>(appendA P nid ST XT (rho sx) (rho x)).bind fun e=>.done (.eff e)
      |_=>.fail:=by
      simp only[opPre,allocs,if_true,opA,hT,hX,hs,hxx,h0];congr 1
     have hap:appendA P nid ST XT (rho sx) (rho x)=(elems (rho x)).bind fun new=>.get b fun
      | .row v sz rows=>if v=ver then(if 0=0∧len≤rows.length∧sz=i.size∧roomy (len+new.length) i.bytes=true∧new.all (fun r=>r.length==i.size)=true∧zeroFits i=true then
       .done {val:=.sl b (ver+1) sz 0 (len+new.length),upd:=[(b,.row (ver+1) sz (cutN len rows++new))]}else .fail)else .fail
      |_=>.fail:=by
      rw[h4];unfold appendA;rw[e1,e6];simp only[e2,hz,if_false];congr 1
      funext new
      simp only[Rd.bind,rowOf];congr 1
      funext y
      cases y with
      |row v sz rows=>grind [Rd.bind]
      |_=>rfl
     rw[hop,hap];simp only[Rd.run,Rd.reads,hunb];have hb:∀{β:Type} (f:Eff→Rd β) (g:List (List AVal)→Rd Eff),(((elems (rho x)).bind g).bind f)=(elems (rho x)).bind fun n=>(g n).bind f:=by
      intro β f g;generalize elems (rho x)=q;induction q with
      |fail=>rfl
      |done a=>rfl
      |get b k ih=>simp only[Rd.bind,ih]
     rw[hb,run_bind' h6,reads_bind h6,h6'];simp only[Rd.bind,Rd.run,Rd.reads,h5,if_true];rw[if_pos ⟨trivial,by simpa using hlen,e3.symm,by simpa[e4]using hroom,hall,e5⟩]
     rw[cutN_eq _ _ (by simpa using hlen)]
     simp[Rd.bind,Rd.run,Rd.reads,List.map_take,Nat.min_eq_left hlen]
    ·cases hx
   ·exact h.elim
  ·exact h.elim
def bare:AVal→Bool
 | .sc (.slice none 0 0)=>true
 | .emp=>true
 |_=>false
def idxS(m n b ver:Nat)(i:Int):OpT Unit where
 run:=if 0≤i∧i<m then some ()else none
 eff _:={val:=.ptr b ver i.toNat 0}
 ids:=[]
 chk gl P cfg nid op rho H:=match op with
  | .indexAddr T a c=>rho a=.sl b ver n 0 m∧intOf (rho c)=some i∧elemSz P T=some n
  |_=>False
 claim:=AVal.sl b ver n 0 m=AVal.sl b ver n 0 m∧some i=some i∧some n=some n
 holds:=⟨rfl,rfl,rfl⟩
 sound gl P cfg nid op rho H h x hx:=by
  cases op<;>try exact h.elim
  rename_i T a c;obtain⟨h1,h2,h3⟩:=h;obtain⟨k,h2⟩:=intOf_some h2;obtain⟨e,e1,e2⟩:=elemSz_some h3;split at hx
  ·rename_i h0;simp[opPre,allocs,opA,h2,h1,indexAddrA,e1,e2,h0.1,h0.2,yields,Rd.bind,Rd.run,Rd.reads]
  ·cases hx
def ldO{X:Type}(l:List X)(enc:X→List AVal)(n b ver i o:Nat)(val:X→AVal):OpT X where
 run:=l[i]?
 eff x:={val:=val x}
 ids:=[b]
 chk gl P cfg nid op rho H:=match op with
  | .load T a=>rho a=.ptr b ver i o∧H[b]? =some (.row ver n (l.map enc))∧∀x,loadIn P T (enc x) o=some (val x)
  |_=>False
 claim:=AVal.ptr b ver i o=AVal.ptr b ver i o∧some (ABlk.row ver n (l.map enc))=some (ABlk.row ver n (l.map enc))∧∀x,some (val x)=some (val x)
 holds:=⟨rfl,rfl,fun _=>rfl⟩
 sound gl P cfg nid op rho H h x hx:=by
  cases op<;>try exact h.elim
  rename_i T a;obtain⟨h1,h2,h3⟩:=h;simp[opPre,allocs,opA,h1,loadA,rowOf,h2,hx,h3,yields,Rd.bind,Rd.run,Rd.reads]
def stO{X:Type}(l:List X)(enc:X→List AVal)(n b ver i o:Nat)(y:X→X):OpT X where
 run:=l[i]?
 eff x:={val:=nothing,upd:=[(b,.row ver n ((l.set i (y x)).map enc))]}
 ids:=[b]
 chk gl P cfg nid op rho H:=match op with
  | .store T a v=>rho a=.ptr b ver i o∧H[b]? =some (.row ver n (l.map enc))∧∀x,(cellsFor P T (rho v)).bind (storeIn (enc x) o)=some (enc (y x))
  |_=>False
 claim:=AVal.ptr b ver i o=AVal.ptr b ver i o∧some (ABlk.row ver n (l.map enc))=some (ABlk.row ver n (l.map enc))∧∀x,some (enc (y x))=some (enc (y x))
 holds:=⟨rfl,rfl,fun _=>rfl⟩
 sound gl P cfg nid op rho H h x hx:=by
  cases op<;>try exact h.elim
  rename_i T a v;obtain⟨h1,h2,h3⟩:=h;obtain⟨vs,h4,h5⟩:=Option.bind_eq_some_iff.1 (h3 x);simp[opPre,allocs,opA,h1,storeA,rowOf,h2,hx,h4,h5,Rd.bind,Rd.run,Rd.reads,List.map_set]
def mksO{X:Type}(d:X)(enc:X→List AVal)(n by_ nid0:Nat)(k:Int):OpT Unit where
 run:=if 0≤k∧roomy k.toNat by_=true then some ()else none
 eff _:={val:=.sl nid0 0 n 0 (List.replicate k.toNat d).length,upd:=[(nid0,.row 0 n ((List.replicate k.toNat d).map enc))]}
 ids:=[nid0]
 chk gl P cfg nid op rho H:=match op with
  | .makeSlice T a c=>nid=nid0∧H[nid]? =some .unborn∧intOf (rho a)=some k∧intOf (rho c)=some k∧elemInfo P T=some (n,by_,true)∧(match P.underlying T with |some (.slice e)=>zeroCellsA P e |_=>none)=some (enc d)∧(enc d).length=n∧decide (0<n)=true
  |_=>False
 claim:=nid0=nid0∧some ABlk.unborn=some ABlk.unborn∧some k=some k∧some k=some k∧some (n,by_,true)=some (n,by_,true)∧some (enc d)=some (enc d)∧n=n∧ @Eq Bool true true
 holds:=by simp
 sound gl P cfg nid op rho H h x hx:=by
  cases op<;>try exact h.elim
  rename_i T a c;obtain⟨rfl,hunb,h1,h2,h3,h4,h5,h6⟩:=h;obtain⟨k1,h1⟩:=intOf_some h1;obtain⟨k2,h2⟩:=intOf_some h2;obtain⟨e,i,e1,e2,e3,e4,e5⟩:=elemInfo_some h3;rw[e1]at h4;simp only at h4;simp only[decide_eq_true_eq]at h6;split at hx
  ·rename_i h0;have hop:makeSliceA P nid T (rho a) (rho c)=some {val:=.sl nid 0 i.size 0 k.toNat,upd:=[(nid,.row 0 i.size (List.replicate k.toNat (enc d)))]}:=by
    rw[h1,h2];simp only[makeSliceA,e1,e2,h4];rw[if_pos ⟨h0.1,Int.le_refl _,by rw[e4];exact h0.2,by rw[h5,e3],by omega⟩]
   simp[opPre,allocs,opA,hop,optEff,Rd.bind,Rd.run,Rd.reads,hunb,e3]
  ·cases hx
def boundO(d m:Nat):Option Int→Option Nat
 |none=>some d
 |some i=>if 0≤i∧i≤m then some i.toNat else none
def slcO{X:Type}(l:List X)(enc:X→List AVal)(n:Nat)(lo hi:Option Int):OpT (Nat×Nat) where
 run:=(boundO l.length l.length hi).bind fun h=>(boundO 0 h lo).map fun k=>(k,h)
 eff x:={val:=.lst (((l.take x.2).drop x.1).map enc)}
 ids:=[]
 chk gl P cfg nid op rho H:=match op with
  | .slice T a lo' hi' none=>rho a=.lst (l.map enc)∧(lo'.map fun x=>intOf (rho x))=lo.map some∧(hi'.map fun x=>intOf (rho x))=hi.map some∧elemSz P T=some n∧∀x,(enc x).length=n
  |_=>False
 claim:=AVal.lst (l.map enc)=AVal.lst (l.map enc)∧lo.map some=lo.map some∧hi.map some=hi.map some∧some n=some n∧∀_:X,n=n
 holds:=⟨rfl,rfl,rfl,rfl,fun _=>rfl⟩
 sound gl P cfg nid op rho H h x hx:=by
  cases op<;>try exact h.elim
  rename_i T a lo' hi' mx;cases mx with
  |some _=>exact h.elim
  |none=>
   obtain⟨h1,h2,h3,h4,h5⟩:=h;obtain⟨e,e1,e2⟩:=elemSz_some h4;have hb:∀(d m:Nat) (x':Option Operand) (x:Option Int),(x'.map fun x=>intOf (rho x))=x.map some→boundA d m (x'.map rho)=boundO d m x:=by
    intro d m x' x hx;cases x'<;>cases x<;>simp at hx
    ·rfl
    ·grind [intOf_some,boundA,boundO]
   obtain⟨hh,q1,q2⟩:=Option.bind_eq_some_iff.1 hx;obtain⟨k,q3,rfl⟩:=Option.map_eq_some_iff.1 q2;have hall:(l.map enc).all (fun r=>sizeT P e==some r.length)=true:=by
    simp only[List.all_map,List.all_eq_true];intro y _;simp[h5,e2]
   have hop:sliceA P T (rho a) (lo'.map rho) (hi'.map rho)=some (.lst (((l.map enc).take hh).drop k)):=by
    unfold sliceA;rw[h1];simp only[e1,lenA];rw[hb _ _ _ _ h3,List.length_map,q1];simp only[Option.bind_some];rw[hb _ _ _ _ h2,q3];rw[Option.bind_some,if_pos (by rw[hall,e2];rfl)]
   simp[opPre,allocs,opA,hop,yields,Rd.bind,Rd.run,Rd.reads,List.map_take,List.map_drop]
def slcH(m n b ver o:Nat)(hi:Int):OpT Nat where
 run:=if 0≤hi∧hi≤m then some hi.toNat else none
 eff x:={val:=.sl b ver n o x}
 ids:=[]
 chk gl P cfg nid op rho H:=match op with
  | .slice T a none (some h) none=>rho a=.sl b ver n o m∧intOf (rho h)=some hi∧elemSz P T=some n
  |_=>False
 claim:=AVal.sl b ver n o m=AVal.sl b ver n o m∧some hi=some hi∧some n=some n
 holds:=⟨rfl,rfl,rfl⟩
 sound gl P cfg nid op rho H h x hx:=by
  split at h
  ·rename_i T a c;obtain⟨h1,h2,h3⟩:=h;obtain⟨k,h2⟩:=intOf_some h2;obtain⟨e,e1,e2⟩:=elemSz_some h3;split at hx
   ·rename_i h0;simp only[Option.some.injEq]at hx;subst hx;have hop:sliceA P T (rho a) none (some (rho c))=some (.sl b ver n o hi.toNat):=by
     unfold sliceA;rw[h1,h2,e1];simp only[lenA,boundA,h0,and_self,if_true,Option.bind_some,e2]
    simp[opPre,allocs,opA,hop,yields,Rd.bind,Rd.run,Rd.reads]
   ·cases hx
  ·exact h.elim
def slcL(m n b ver o:Nat)(lo:Int):OpT Nat where
 run:=if 0<lo∧lo<m then some lo.toNat else none
 eff x:={val:=.sl b ver n (o+x) (m - x)}
 ids:=[]
 chk gl P cfg nid op rho H:=match op with
  | .slice T a (some l) none none=>rho a=.sl b ver n o m∧intOf (rho l)=some lo∧elemSz P T=some n
  |_=>False
 claim:=AVal.sl b ver n o m=AVal.sl b ver n o m∧some lo=some lo∧some n=some n
 holds:=⟨rfl,rfl,rfl⟩
 sound gl P cfg nid op rho H h x hx:=by
  split at h
  ·rename_i T a c;obtain⟨h1,h2,h3⟩:=h;obtain⟨k,h2⟩:=intOf_some h2;obtain⟨e,e1,e2⟩:=elemSz_some h3;split at hx
   ·rename_i h0;simp only[Option.some.injEq]at hx;subst hx;have hop:sliceA P T (rho a) (some (rho c)) none=some (.sl b ver n (o+lo.toNat) (m - lo.toNat)):=by
     unfold sliceA;rw[h1,h2,e1];have hb:0≤lo∧lo≤(m:Int):=⟨by omega,by omega⟩
     have hz:lo.toNat≠0:=by omega
     have hl:lo.toNat<m:=by omega
     simp only[lenA,boundA,hb,and_self,if_true,Option.bind_some,e2,if_neg hz,if_pos hl]
    simp[opPre,allocs,opA,hop,yields,Rd.bind,Rd.run,Rd.reads]
   ·cases hx
  ·exact h.elim
def eqz(i:Int):Bool:=decide (i=0)
def ltn(i:Int)(m:Nat):Bool:=decide (i<m)
def slcZ(m n b ver o:Nat)(lo:Int):OpT Unit where
 run:=if lo=0 then some ()else none
 eff _:={val:=.sl b ver n o m}
 ids:=[]
 chk gl P cfg nid op rho H:=match op with
  | .slice T a (some l) none none=>rho a=.sl b ver n o m∧intOf (rho l)=some lo∧elemSz P T=some n
  |_=>False
 claim:=AVal.sl b ver n o m=AVal.sl b ver n o m∧some lo=some lo∧some n=some n
 holds:=⟨rfl,rfl,rfl⟩
 sound gl P cfg nid op rho H h x hx:=by
  split at h
  ·rename_i T a c;obtain⟨h1,h2,h3⟩:=h;obtain⟨k,h2⟩:=intOf_some h2;obtain⟨e,e1,e2⟩:=elemSz_some h3;split at hx
   ·rename_i h0;subst h0;have hop:sliceA P T (rho a) (some (rho c)) none=some (.sl b ver n o m):=by
     unfold sliceA;rw[h1,h2,e1];have hb:(0:Int)≤0∧(0:Int)≤(m:Int):=⟨by omega,by omega⟩
     simp only[lenA,boundA,hb,and_self,if_true,Option.bind_some,e2,Int.toNat_zero]
    simp[opPre,allocs,opA,hop,yields,Rd.bind,Rd.run,Rd.reads]
   ·cases hx
  ·exact h.elim
def slcE(m n b ver o:Nat)(lo:Int):OpT Unit where
 run:=if lo=m∧0<m then some ()else none
 eff _:={val:=.lst []}
 ids:=[]
 chk gl P cfg nid op rho H:=match op with
  | .slice T a (some l) none none=>rho a=.sl b ver n o m∧intOf (rho l)=some lo∧elemSz P T=some n
  |_=>False
 claim:=AVal.sl b ver n o m=AVal.sl b ver n o m∧some lo=some lo∧some n=some n
 holds:=⟨rfl,rfl,rfl⟩
 sound gl P cfg nid op rho H h x hx:=by
  split at h
  ·rename_i T a c;obtain⟨h1,h2,h3⟩:=h;obtain⟨k,h2⟩:=intOf_some h2;obtain⟨e,e1,e2⟩:=elemSz_some h3;split at hx
   ·rename_i h0;obtain⟨rfl,h0⟩:=h0;have hop:sliceA P T (rho a) (some (rho c)) none=some (.lst []):=by
     unfold sliceA;rw[h1,h2,e1];have hb:(0:Int)≤(m:Int)∧(m:Int)≤(m:Int):=⟨by omega,by omega⟩
     have hz:((m:Int)).toNat≠0:=by omega
     have hl:¬((m:Int)).toNat<m:=by omega
     simp only[lenA,boundA,hb,and_self,if_true,Option.bind_some,e2,if_neg hz,if_neg hl]
    simp[opPre,allocs,opA,hop,yields,Rd.bind,Rd.run,Rd.reads]
   ·cases hx
  ·exact h.elim
def idxP(m n b ver o:Nat)(i:Int):OpT Unit where
 run:=if 0≤i∧i<m then some ()else none
 eff _:={val:=.ptr b ver (o+i.toNat) 0}
 ids:=[]
 chk gl P cfg nid op rho H:=match op with
  | .indexAddr T a c=>rho a=.sl b ver n o m∧intOf (rho c)=some i∧elemSz P T=some n
  |_=>False
 claim:=AVal.sl b ver n o m=AVal.sl b ver n o m∧some i=some i∧some n=some n
 holds:=⟨rfl,rfl,rfl⟩
 sound gl P cfg nid op rho H h x hx:=by
  cases op<;>try exact h.elim
  rename_i T a c;obtain⟨h1,h2,h3⟩:=h;obtain⟨k,h2⟩:=intOf_some h2;obtain⟨e,e1,e2⟩:=elemSz_some h3;split at hx
  ·rename_i h0;simp[opPre,allocs,opA,h2,h1,indexAddrA,e1,e2,h0.1,h0.2,yields,Rd.bind,Rd.run,Rd.reads]
  ·cases hx
def clrP{X:Type}(l:List X)(d:X)(enc:X→List AVal)(m n b ver o:Nat):OpT Unit where
 run:=if o+m≤l.length then some ()else none
 eff _:={val:=nothing,upd:=[(b,.row ver n ((l.take o++List.replicate m d++l.drop (o+m)).map enc))]}
 ids:=[b]
 chk gl P cfg nid op rho H:=match op with
  | .call {callee:=.builtin .clear,args,argTypes}=>match argTypes[0]?,args[0]? with
   |some T,some s=>rho s=.sl b ver n o m∧H[b]? =some (.row ver n (l.map enc))∧decide (args.size=1)=true∧(match P.underlying T with |some (.slice e)=>zeroCellsA P e |_=>none)=some (enc d)∧(enc d).length=n
   |_,_=>False
  |_=>False
 claim:=AVal.sl b ver n o m=AVal.sl b ver n o m∧some (ABlk.row ver n (l.map enc))=some (ABlk.row ver n (l.map enc))∧ @Eq Bool true true∧some (enc d)=some (enc d)∧n=n
 holds:=⟨rfl,rfl,rfl,rfl,rfl⟩
 sound gl P cfg nid op rho H h x hx:=by
  split at h
  ·split at h
   ·rename_i args argTypes _ _ T s hT hs;obtain⟨h1,h2,h3,h4,h5⟩:=h;simp only[decide_eq_true_eq]at h3;split at h4
    ·rename_i e he;split at hx
     ·rename_i hle;have hop:opPre P cfg nid rho (.call {callee:=.builtin .clear,args:=args,argTypes:=argTypes})=(clearA P T (rho s)).bind fun e=>.done (.eff e):=by
       simp only[opPre,allocs,opA,hT,hs,h3,if_true,if_false,Bool.false_eq_true]
      rw[hop,h1];unfold clearA;rw[he];simp only[h4,rowOf,Rd.bind,Rd.run,Rd.reads,h2,if_true,List.length_map];rw[if_pos ⟨trivial,hle,h5⟩];simp[Rd.bind,Rd.run,Rd.reads,List.map_take,List.map_drop]
     ·cases hx
    ·cases h4
   ·exact h.elim
  ·exact h.elim
def binO(op:BinOp)(k k':IntKind)(a b:Int)(ok:Bool)(v:AVal)(h:ok=true→∀(P:Program) (T:TypeId),binA P op T (.sc (.int k a)) (.sc (.int k' b))=some v):OpT Unit where
 run:=if ok then some ()else none
 eff _:={val:=v}
 ids:=[]
 chk gl P cfg nid o rho H:=match o with
  | .binOp op' T x y _=>op'=op∧rho x=.sc (.int k a)∧rho y=.sc (.int k' b)∧(match y with | .const (.int _ _)=>true | .tmp _=>true |_=>false)=true
  |_=>False
 claim:=op=op∧AVal.sc (.int k a)=AVal.sc (.int k a)∧AVal.sc (.int k' b)=AVal.sc (.int k' b)∧ @Eq Bool true true
 holds:=⟨rfl,rfl,rfl,rfl⟩
 sound gl P cfg nid o rho H h' x hx:=by
  cases o<;>try exact h'.elim
  rename_i op' T x y yT;obtain⟨rfl,h1,h2,h3⟩:=h';cases ok with
  |false=>cases hx
  |true=>
   have hb:=h rfl P T;rw[← h1,← h2]at hb;split at h3
   ·simp[opPre,allocs,opA,nilConst,hb,yields,Rd.bind,Rd.run,Rd.reads]
   ·simp[opPre,allocs,opA,nilConst,hb,yields,Rd.bind,Rd.run,Rd.reads]
   ·cases h3
def remO(k:IntKind)(a b:Int):OpT Unit:=binO .rem k k a b (decide (b≠0)) (.sc (.int k (a.tmod b))) fun h P T=>by
 grind [binA,intOp]
def shlO(k k':IntKind)(a b:Int):OpT Unit:=binO .shl k k' a b (decide (0≤b)) (.sc (.int k (k.wrap (a*2 ^ (min b.toNat k.bits))))) fun h P T=>by
 grind [binA]
def arrInfo(P:Program)(T:TypeId):Option (Nat×Nat):=match P.underlying T with
 |some (.array n e)=>(sizeT P e).map fun s=>(n,s)
 |_=>none
def idxA(b ver j o n s:Nat)(i:Int):OpT Unit where
 run:=if 0≤i∧i<n then some ()else none
 eff _:={val:=.ptr b ver j (o+i.toNat*s)}
 ids:=[]
 chk gl P cfg nid op rho H:=match op with
  | .indexAddr T a c=>rho a=.ptr b ver j o∧intOf (rho c)=some i∧arrInfo P T=some (n,s)
  |_=>False
 claim:=AVal.ptr b ver j o=AVal.ptr b ver j o∧some i=some i∧some (n,s)=some (n,s)
 holds:=⟨rfl,rfl,rfl⟩
 sound gl P cfg nid op rho H h x hx:=by
  cases op<;>try exact h.elim
  rename_i T a c;obtain⟨h1,h2,h3⟩:=h;obtain⟨k,h2⟩:=intOf_some h2;unfold arrInfo at h3;split at h3
  ·rename_i n' e hu;obtain⟨s',hs,he⟩:=Option.map_eq_some_iff.1 h3;simp only[Prod.mk.injEq]at he;obtain⟨rfl,rfl⟩:=he;split at hx
   ·rename_i h0;have hop:indexAddrA P T (rho a) i=some (.ptr b ver j (o+i.toNat*s')):=by
     rw[h1];unfold indexAddrA;rw[hu];simp only[if_pos h0,hs,Option.bind_some,offsetA]
    simp[opPre,allocs,opA,h2,hop,yields,Rd.bind,Rd.run,Rd.reads]
   ·cases hx
  ·cases h3
def ldA{X:Type}(l:List X)(c:X→AVal)(b ver sz o:Nat):OpT X where
 run:=l[o]?
 eff x:={val:=c x}
 ids:=[b]
 chk gl P cfg nid op rho H:=match op with
  | .load T a=>rho a=.ptr b ver 0 o∧H[b]? =some (.row ver sz [l.map c])∧aggT P T=false∧(P.underlying T).isSome=true
  |_=>False
 claim:=AVal.ptr b ver 0 o=AVal.ptr b ver 0 o∧some (ABlk.row ver sz [l.map c])=some (ABlk.row ver sz [l.map c])∧ @Eq Bool false false∧ @Eq Bool true true
 holds:=⟨rfl,rfl,rfl,rfl⟩
 sound gl P cfg nid op rho H h x hx:=by
  cases op<;>try exact h.elim
  rename_i T a;obtain⟨h1,h2,h3,h4⟩:=h;simp[opPre,allocs,opA,h1,loadA,rowOf,h2,loadIn,h3,h4,hx,yields,Rd.bind,Rd.run,Rd.reads]
def stA{X:Type}(l:List X)(c:X→AVal)(b ver sz o:Nat)(y:X):OpT Unit where
 run:=if o<l.length then some ()else none
 eff _:={val:=nothing,upd:=[(b,.row ver sz [(l.set o y).map c])]}
 ids:=[b]
 chk gl P cfg nid op rho H:=match op with
  | .store T a v=>rho a=.ptr b ver 0 o∧H[b]? =some (.row ver sz [l.map c])∧cellsFor P T (rho v)=some [c y]
  |_=>False
 claim:=AVal.ptr b ver 0 o=AVal.ptr b ver 0 o∧some (ABlk.row ver sz [l.map c])=some (ABlk.row ver sz [l.map c])∧some [c y]=some [c y]
 holds:=⟨rfl,rfl,rfl⟩
 sound gl P cfg nid op rho H h x hx:=by
  cases op<;>try exact h.elim
  rename_i T a v;obtain⟨h1,h2,h3⟩:=h;split at hx
  ·rename_i h0;have hle:o+1≤l.length:=h0;simp[opPre,allocs,opA,h1,storeA,rowOf,h2,h3,storeIn,hle,putAt,Rd.bind,Rd.run,Rd.reads,List.map_set]
  ·cases hx
section
variable {K V:Type}
def encM(ek:K→AVal)(ev:V→AVal):Nat→List (K×V)→List (AVal×AVal×Nat)
 |_,[]=>[]
 |n,p::ps=>(ek p.1,ev p.2,n)::encM ek ev (n+1) ps
def findM(eq:K→K→Bool)(k:K):List (K×V)→Nat→Option (Nat×V)
 | [],_=>none
 |p::ps,i=>if eq k p.1 then some (i,p.2)else findM eq k ps (i+1)
def putM(eq:K→K→Bool)(k:K)(v:V)(m:List (K×V)):List (K×V):=match findM eq k m 0 with
 |some (i,_)=>m.set i (k,v)
 |none=>m++[(k,v)]
theorem findA_encM{ks:List Kd}{ag:Bool}{ek:K→AVal}{ev:V→AVal}{eq:K→K→Bool}(hag:∀k,isAggA (ek k)=ag)(heq:∀k k',eqCells ks (ek k).cells (ek k').cells=some (eq k k'))(k:K):
 ∀(m:List (K×V)) (n i:Nat),findA ks ag (ek k) (encM ek ev n m) i=some ((findM eq k m i).map fun p=>(p.1,ev p.2,n+(p.1 - i)))
 | [],n,i=>rfl
 |p::ps,n,i=>by
  simp only[encM,findA,hag,if_true,heq,findM];cases h:eq k p.1 with
  |true=>simp
  |false=>
   simp only[Bool.false_eq_true,if_false];rw[findA_encM hag heq k ps (n+1) (i+1)];congr 1;have hge:∀(m:List (K×V)) (i:Nat) (q:Nat×V),findM eq k m i=some q→i≤q.1:=by
    intro m;induction m with
    |nil=>intro i q h;simp[findM]at h
    |cons p ps ih=>
     grind [findM]
   cases hf:findM eq k ps (i+1)with
   |none=>rfl
   |some q=>
    grind
theorem encM_length(ek:K→AVal)(ev:V→AVal):∀(m:List (K×V)) (n:Nat),(encM ek ev n m).length=m.length
 | [],_=>rfl
 |_::ps,n=>by simp[encM,encM_length ek ev ps]
theorem encM_append(ek:K→AVal)(ev:V→AVal):∀(m m':List (K×V)) (n:Nat),encM ek ev n (m++m')=encM ek ev n m++encM ek ev (n+m.length) m'
 | [],m',n=>by simp[encM]
 |p::ps,m',n=>by simp[encM,encM_append ek ev ps,Nat.add_assoc,Nat.add_comm 1]
theorem encM_set(ek:K→AVal)(ev:V→AVal):∀(m:List (K×V)) (n i:Nat) (p:K×V),encM ek ev n (m.set i p)=(encM ek ev n m).set i (ek p.1,ev p.2,n+i)
 | [],n,i,p=>rfl
 |q::ps,n,0,p=>by simp[encM]
 |q::ps,n,i+1,p=>by simp[encM,encM_set ek ev ps,Nat.add_assoc,Nat.add_comm 1]
def mapTy(P:Program)(T:TypeId):Option (Option (List Kd)×Bool×Option AVal):=match P.underlying T with
 |some (.map K E)=>some (kindsOf P 9 K,aggT P K,zeroA P E)
 |_=>none
def mgetO(m:List (K×V))(k:K)(ek:K→AVal)(ev:V→AVal)(eq:K→K→Bool)(d:V)(ks:List Kd)(ag ok:Bool)(b:Nat):OpT Unit where
 run:=some ()
 eff _:={val:=match ok with
  |true=>.tup [ev (((findM eq k m 0).map (·.2)).getD d),.sc (.bool (findM eq k m 0).isSome)]
  |false=>ev (((findM eq k m 0).map (·.2)).getD d)}
 ids:=[b]
 chk gl P cfg nid op rho H:=match op with
  | .lookup T x i ok'=>ok'=ok∧rho x=.mp b∧rho i=ek k∧H[b]? =some (.map m.length (encM ek ev 0 m))∧mapTy P T=some (some ks,ag,some (ev d))∧(∀k,isAggA (ek k)=ag)∧∀k k',eqCells ks (ek k).cells (ek k').cells=some (eq k k')
  |_=>False
 claim:=ok=ok∧AVal.mp b=AVal.mp b∧ek k=ek k∧some (ABlk.map m.length (encM ek ev 0 m))=some (ABlk.map m.length (encM ek ev 0 m))∧some (some ks,ag,some (ev d))=some (some ks,ag,some (ev d))∧(∀_:K,ag=ag)∧∀k k',some (eq k k')=some (eq k k')
 holds:=⟨rfl,rfl,rfl,rfl,rfl,fun _=>rfl,fun _ _=>rfl⟩
 sound gl P cfg nid op rho H h x hx:=by
  cases op<;>try exact h.elim
  rename_i T a i ok';obtain⟨rfl,h1,h2,h3,h4,h5,h6⟩:=h;unfold mapTy at h4;split at h4
  ·rename_i TK TE hu;simp only[Option.some.injEq,Prod.mk.injEq]at h4;obtain⟨t1,t2,t3⟩:=h4;have hk:keyKinds P TK (ek k)=some ks:=by simp[keyKinds,t1,h5,t2]
   have hf:=findA_encM (ev:=ev) (eq:=eq) h5 h6 k m 0 0;simp only[opPre,allocs,opA,lookupA,hu,h2,hk,h1,mapOf,Rd.bind,Rd.run,Rd.reads,h3,h6,t2,hf,t3,if_false,Bool.false_eq_true];cases hfm:findM eq k m 0 with
   |none=>grind
   |some q=>grind
  ·cases h4
def msetO(m:List (K×V))(k:K)(v:V)(ek:K→AVal)(ev:V→AVal)(eq:K→K→Bool)(ks:List Kd)(ag:Bool)(b:Nat):OpT Unit where
 run:=some ()
 eff _:={val:=nothing,upd:=[(b,.map (putM eq k v m).length (encM ek ev 0 (putM eq k v m)))]}
 ids:=[b]
 chk gl P cfg nid op rho H:=match op with
  | .mapUpdate T x i y=>rho x=.mp b∧rho i=ek k∧rho y=ev v∧H[b]? =some (.map m.length (encM ek ev 0 m))∧(mapTy P T).map (fun t=>(t.1,t.2.1))=some (some ks,ag)∧(∀k,isAggA (ek k)=ag)∧∀k k',eqCells ks (ek k).cells (ek k').cells=some (eq k k')
  |_=>False
 claim:=AVal.mp b=AVal.mp b∧ek k=ek k∧ev v=ev v∧some (ABlk.map m.length (encM ek ev 0 m))=some (ABlk.map m.length (encM ek ev 0 m))∧some (some ks,ag)=some (some ks,ag)∧(∀_:K,ag=ag)∧∀k k',some (eq k k')=some (eq k k')
 holds:=⟨rfl,rfl,rfl,rfl,rfl,fun _=>rfl,fun _ _=>rfl⟩
 sound gl P cfg nid op rho H h x hx:=by
  cases op<;>try exact h.elim
  rename_i T a i y;obtain⟨h1,h2,hy,h3,h4,h5,h6⟩:=h;obtain⟨t,h4,ht⟩:=Option.map_eq_some_iff.1 h4;unfold mapTy at h4;split at h4
  ·rename_i TK TE hu;simp only[Option.some.injEq]at h4;subst h4;simp only[Prod.mk.injEq]at ht;obtain⟨t1,t2⟩:=ht;have hk:keyKinds P TK (ek k)=some ks:=by simp[keyKinds,t1,h5,t2]
   have hf:=findA_encM (ev:=ev) (eq:=eq) h5 h6 k m 0 0;simp only[opPre,allocs,opA,mapUpdateA,hu,h2,hk,h1,mapOf,Rd.bind,Rd.run,Rd.reads,h3,h6,t2,hf,hy,if_false,Bool.false_eq_true];cases hfm:findM eq k m 0 with
   |none=>simp[Rd.bind,Rd.run,Rd.reads,putM,hfm,encM_append,encM]
   |some q=>simp[Rd.bind,Rd.run,Rd.reads,putM,hfm,encM_set,encM_length]
  ·cases h4
end
end
def cI(k:IntKind)(n:Int):AVal:=.sc (.int k n)
def cB(b:Bool):AVal:=.sc (.bool b)
def cL{α:Type}(enc:α→List AVal)(l:List α):AVal:=.lst (l.map enc)
def eI(k:IntKind)(n:Int):List AVal:=[.sc (.int k n)]
def eB(b:Bool):List AVal:=[.sc (.bool b)]
def eS(s:ByteArray):List AVal:=[.sc (.string s)]
def eL{α:Type}(enc:α→List AVal)(l:List α):List AVal:=[.lst (l.map enc)]
structure V2(α:Type) where
 (a0 a1:α)
def eV2{α:Type}(c:α→AVal)(x:V2 α):List AVal:=[c x.a0,c x.a1]
structure V8(α:Type) where
 (a0 a1 a2 a3 a4 a5 a6 a7:α)
def eV8{α:Type}(c:α→AVal)(x:V8 α):List AVal:=[c x.a0,c x.a1,c x.a2,c x.a3,c x.a4,c x.a5,c x.a6,c x.a7]
structure V10(α:Type) where
 (a0 a1 a2 a3 a4 a5 a6 a7 a8 a9:α)
def eV10{α:Type}(c:α→AVal)(x:V10 α):List AVal:=[c x.a0,c x.a1,c x.a2,c x.a3,c x.a4,c x.a5,c x.a6,c x.a7,c x.a8,c x.a9]
theorem pureRow{X:Type}(l:List X)(enc:X→List AVal)(h:∀x,AVal.pureL (enc x)=true):(l.map enc).all AVal.pureL=true:=by
 grind
def puRow{X:Type}(b ver sz:Nat)(l:List X)(enc:X→List AVal)(h:∀x,AVal.pureL (enc x)=true):PU:=⟨b,.row ver sz (l.map enc),pureRow l enc h⟩
theorem pureMap{K V:Type}(ek:K→AVal)(ev:V→AVal)(h:∀k,(ek k).pure=true)(h':∀v,(ev v).pure=true):∀(m:List (K×V)) (n:Nat),(encM ek ev n m).all (fun p=>p.1.pure&&p.2.1.pure)=true
 | [],_=>rfl
 |p::ps,n=>by simp[encM,h,h',pureMap ek ev h h' ps (n+1)]
def puMap{K V:Type}(b:Nat)(m:List (K×V))(ek:K→AVal)(ev:V→AVal)(h:∀k,(ek k).pure=true)(h':∀v,(ev v).pure=true):PU:=⟨b,.map m.length (encM ek ev 0 m),pureMap ek ev h h' m 0⟩
def fzRow{X:Type}(p:Pl)(b ver sz n:Nat)(l:List X)(enc:X→List AVal)(h:∀x,AVal.pureL (enc x)=true):FZ:=⟨p,b,ver,sz,n,l.map enc,pureRow l enc h⟩
def puArr{X:Type}(b ver sz:Nat)(l:List X)(c:X→AVal)(h:∀x,(c x).pure=true):PU:=⟨b,.row ver sz [l.map c],by
 have:∀l:List X,AVal.pureL (l.map c)=true:=by
  intro l;induction l with
  |nil=>rfl
  |cons x xs ih=>grind [AVal.pureL]
 simp[pureBlk,this]⟩
def prRow{X:Type}(b ver sz:Nat)(l:List X)(enc:X→List AVal)(h:∀x,AVal.pureL (enc x)=true):PR:=PR.ofRow b ver sz (l.map enc) (pureRow l enc h)
def prMap{K V:Type}(b:Nat)(m:List (K×V))(ek:K→AVal)(ev:V→AVal)(h:∀k,(ek k).pure=true)(h':∀v,(ev v).pure=true):PR:=⟨b,.map m.length (encM ek ev 0 m),pureMap ek ev h h' m 0⟩
end Go.AM
end
