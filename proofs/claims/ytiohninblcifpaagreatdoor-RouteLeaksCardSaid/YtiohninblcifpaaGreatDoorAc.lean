/- Put together out of parts: From the abstract machine to a statement. No program. No conditions. -/
import Derived.Test.YtiohninblcifpaaGreatDoorAb
import Derived.ProofKit
import Derived.OpenShut
import Derived.JoinedCond
import Derived.LaidLaws
section
namespace Go.AM
open Go.ChangeShapes Go.WideShapes Go.ChangeAt Go.RowKit
def Gh.bare(w:World):Gh:={ai:=fun _ _=>none,st:=fun k _=>k<w.heap.size}
section
variable [aD]
theorem Gh.NH(w:World)(hg:oW (Gh.bare w) w):Inv (Gh.bare w) [] w:=
 ⟨fun b x h=>by simp at h,fun b b' x x' v v' k z z' h=>by simp at h,fun b ak _=>rfl,fun b x v ver' h=>by simp at h,fun b x v k z o h=>by simp at h,fun _ _ h=>h,hg⟩
theorem Jt{w w':World}{g':Gh}{H':List ah}(h:aU (Gh.bare w) [] w g' H' w'):Below w.heap.size w w':=
 ⟨h.os,h.tape.1,h.output,h.size,fun k hk=>h.keep k hk fM⟩
end
section
variable {H:Type} {enc:TypeId×Value→H} {P:Program}
theorem G0{f:Func}{s:ChangeSpec}{apart fresh handsOn again:Bool}{W W':World}{args:Array Value}{v:Value}{ds gs:List (DataW H)}{before pa pv:List MemPlace}
 (hW:DataW.Whole enc P f.params.toList s.vars apart W args.toList ds gs before)
 (hres:∀(b:Nat) (sp:Nat→Bool) (hd:Bool),DataW.TrodAll enc P W' b sp hd f.resultTypes.toList (v.resultList f.resultTypes.size) (s.fn H (ds++gs)).results [])
 (hargs:∀sp:Nat→Bool,(∀p∈before,sp p.block=true)→DataW.TrodAll enc P W' 0 sp true f.params.toList args.toList (s.fn H (ds++gs)).args pa)
 (hvars:∀sp:Nat→Bool,(∀p∈before,sp p.block=true)→DataW.TrodVars enc P W' sp s.vars (s.fn H (ds++gs)).vars pv)
 (hps:before=pa++pv) (hb:Below W.heap.size W W')
 (hok:∀(j:Nat) (t:TypeId) (r:Value),f.resultTypes[j]? =some t→(v.resultList f.resultTypes.size)[j]? =some r→Value.okWide P W' .any 0 t r):
 s.post enc P f apart fresh handsOn again W args v W':=by
 have hold:∀p∈before,(fun b=>decide (b<W.heap.size)) p.block=true:=fun p hp=>by simpa using hW.lt p hp
 have hlt:=hW.lt;refine⟨ds,gs,before,[],pa,pv,hW,hres _ _ _,hargs _ hold,hvars _ hold,World.keptBut_mono (fun p hp=>⟨hp,?_⟩) (hb.frame (· ∈before)),fun _=>?_⟩
 ·rw[hps,List.mem_append]at hp;exact Or.inr hp
 ·obtain⟨_,_,_,_,_,hz,hn⟩:=hW;refine⟨hok,_,_,([]++pa)++pv,⟨[]++pa,pv,trodAll_append (hargs _ (fun _ _=>rfl)) (hres _ _ _),hvars _ (fun _ _=>rfl),rfl,?_,?_⟩,?_⟩
  ·intro b off hp;have hm:MemPlace.cell b off∈before:=by rw[hps];simpa using hp
   rw[hb.frozen (hlt _ hm)];exact hz b off hm
  ·intro ha;have:=hn ha;rw[hps]at this;simpa using this
  ·intro p hp _;rw[hps];simpa using hp
end
end Go.AM
end
section
namespace Go.AM
structure Entry where
 f:FuncId
 args:List AVal
 res:AVal
def Ab(f:FuncId)(args:List AVal):List Entry→Option AVal
 | []=>none
 |e::es=>if e.f==f&&uJ e.args args then some e.res else Ab f args es
def vY[aD](P:Program)(cfg:fL)(tbl:List Entry)(loops:Nat):Nat→kq
 | 0=>⟨fun _ _ _=>none,fun _ _ _=>none⟩
 |n+1=>⟨fun f args H=>match(match H with | []=>Ab f args tbl |_=>none)with
  |some r=>some (.ret r,[])
  |none=>Eh P cfg (vY P cfg tbl loops n) loops f args H,roundOf P cfg (vY P cfg tbl loops n) loops⟩
section
set_option linter.unusedSectionVars false
variable [aD] {P:Program} {cfg:fL}
def Fu(P:Program)(e:Entry):Prop:=
 (∃ fn c, P.funcs[e.f]? = some fn ∧ fn.body = some c ∧ fn.name ≠ "runtime.NumGoroutine") ∧
 ∀g w (vs:Array Value),Inv g [] w→RL g w e.args vs.toList→Calls P e.f vs w (fC g [] w (.ret e.res) [])
def AQ(P:Program)(tbl:List Entry):Prop:=∀e∈tbl,Fu P e
theorem AQ.nil:AQ P []:=fun _ h=>by cases h
theorem AQ.cons{e:Entry}{tbl:List Entry}(h:Fu P e)(h':AQ P tbl):AQ P (e::tbl):=fun x hx=>by
 rcases List.mem_cons.1 hx with rfl |hx
 ·exact h
 ·exact h' x hx
theorem BU{f:FuncId}{args:List AVal}{r:AVal}:∀{tbl:List Entry},Ab f args tbl=some r→∃e∈tbl,e.f=f∧e.args=args∧e.res=r
 | [],h=>by simp[Ab]at h
 |e::es,h=>by
  simp only[Ab]at h;split at h
  ·rename_i hc;simp only[Bool.and_eq_true,beq_iff_eq]at hc;simp only[Option.some.injEq]at h;exact⟨e,by simp,hc.1,rz _ _ hc.2,h⟩
  ·obtain⟨e',h1,h2⟩:=BU h;exact⟨e',List.mem_cons_of_mem _ h1,h2⟩
theorem zB(hm : P.follows .mixedOrders = true)(hN : ∀ (f : FuncId) (fn : Func), P.funcs[f]? = some fn → fn.name ≠ "runtime.NumGoroutine"){tbl : List Entry}(ht : AQ P tbl)(loops : Nat) : ∀ n, gM P (vY P cfg tbl loops n)
 | 0=>⟨fun _ _ _ _ _ h=>by simp[vY]at h,fun _ _ _ _ _ h=>by simp[vY]at h⟩
 |n+1=>by
  refine⟨fun f args H r H1 h=>?_,fun _ _ _ _ _ h=>GZ hm (zB hm hN ht loops n) h⟩
  simp only[vY]at h;split at h
  ·rename_i v hv;simp only[Option.some.injEq,Prod.mk.injEq]at h;obtain⟨rfl,rfl⟩:=h;cases H with
   |nil=>
    obtain⟨e,he,rfl,rfl,rfl⟩:=BU hv;exact ht e he
   |cons x xs=>cases hv
  ·exact HX hm hN (zB hm hN ht loops n) h
def Ac(orc:kq)(e:Entry):Bool:=match orc.fn e.f e.args []with
 |some (.ret v,H1)=>match(snap ko v).run H1 with
  |some v'=>same v' e.res
  |none=>false
 |_=>false
theorem NI{orc:kq}(ho:gM P orc){e:Entry}(h:Ac orc e=true):Fu P e:=by
 unfold Ac at h;split at h
 ·rename_i v H1 hc;split at h
  ·rename_i v' hs;have:=vq _ _ h;subst this;obtain⟨h1,h2⟩:=ho.fn _ _ _ _ _ hc;refine⟨h1,fun g w vs hi hl=>(h2 g w vs hi hl).mono ?_⟩
   rintro en w' ⟨g',hi',hla,x,rfl,hr⟩;obtain⟨r1,r2⟩:=pW hi' _ _ _ _ hs hr;refine⟨gR g' H1,hi'.gR,⟨⟨fun b ak x hx=>?_,fun k o hk=>.inl (hla.ext.st k o hk),hla.ext.cell,hla.ext.shape⟩,hla.size,hla.keep,fun k _ ho=>absurd ho fM,Nat.le_refl _,hla.os,hla.tape,hla.output,fun k o hk hst=>?_,fun b hb=>by simp at hb,fun b ak k z h=>by cases h⟩,x,rfl,r1⟩
   ·rw[hi.fresh b ak (.inr (by simp))]at hx;cases hx
   ·rcases hst with hst |hst
    ·exact(hla.stk k o hk hst).imp_right fun h=>absurd h.1 fM
    ·exact absurd (hla.own k hk hst) fM
  ·cases h
 ·cases h
end
end Go.AM
end
section
namespace Go.AM
def litVal:Lit→Option Value
 | .bool b=>some (.bool b)
 | .int k n=>some (.int k n)
 | .string l=>some (.string ⟨l.toArray⟩)
 |_=>none
mutual
def vZ{H:Type}:DataW H→Option (List Value)
 | .lit l=>(litVal l).map fun v=>[v]
 | .agg ds=>wG ds
 |_=>none
def wG{H:Type}:List (DataW H)→Option (List Value)
 | []=>some []
 |d::ds=>match vZ d,wG ds with
  |some a,some b=>some (a++b)
  |_,_=>none
end
section
variable {H:Type} {enc:TypeId×Value→H} {P:Program} {w:World} {base:Nat} {sp:Nat→Bool} {held:Bool}
theorem uP{t n:Nat}(h:dG P t=some n):P.cellsOf t=n:=by
 unfold dG at h;simp[Program.cellsOf,h]
theorem Gf{s:Nat}{cs:List Value}{F:List Value→Option (DataW H×List MemPlace)}(hF:∀c x v,F c=some x→vZ x.1=some v→c=v):∀(xs:List (DataW H×List MemPlace)) (off:Nat) (vs:List Value),
 (∀i,i<xs.length→F ((cs.drop (off+i*s)).take s)=xs[i]?)→wG (xs.map (·.1))=some vs→(cs.drop off).take (xs.length*s)=vs
 | [],off,vs,_,h=>by simp[wG]at h;simp[h]
 |x::xs,off,vs,hx,h=>by
  simp only[List.map_cons,wG]at h;split at h
  ·rename_i a b ha hb;simp only[Option.some.injEq]at h;subst h;have h0:=hx 0 (by simp)
   simp only[Nat.zero_mul,Nat.add_zero,List.getElem?_cons_zero]at h0;have e0:=hF _ _ _ h0 ha;have e1:=Gf hF xs (off+s) b (fun i hi=>by
    have:=hx (i+1) (by simpa using hi)
    rw[List.getElem?_cons_succ]at this;rw[← this,Nat.add_mul,Nat.one_mul];congr 3;omega) hb
   rw[List.length_cons,Nat.add_mul,Nat.one_mul,Nat.add_comm,List.take_add,e0,List.drop_drop,e1]
  ·cases h
theorem Dk{K:TypeId→Option (List Kd)}{cs:List Value}{F:TypeId→List Value→Option (DataW H×List MemPlace)}(hF:∀t ks c x v,K t=some ks→F t c=some x→vZ x.1=some v→c=v):
 ∀(fl:List Field) (off:Nat) (ks:List Kd) (xs:List (DataW H×List MemPlace)) (vs:List Value),ej.kindsFields P K fl off=some ks→xs.length=fl.length→
  (∀(i:Nat) (f:Field),fl[i]? =some f→F f.type ((cs.drop f.offset).take (P.cellsOf f.type))=xs[i]?)→wG (xs.map (·.1))=some vs→(cs.drop off).take ks.length=vs
 | [],off,ks,xs,vs,hk,hl,_,h=>by
  grind [ej.kindsFields,wG]
 |f::fl,off,ks,[],vs,_,hl,_,_=>by simp at hl
 |f::fl,off,ks,x::xs,vs,hk,hl,hx,h=>by
  simp only[ej.kindsFields]at hk;split at hk
  ·rename_i hc;split at hk
   ·rename_i k1 hk1;split at hk
    ·rename_i hsz;obtain⟨k2,hk2,rfl⟩:=Option.map_eq_some_iff.1 hk;simp only[beq_iff_eq]at hsz;simp only[List.map_cons,wG]at h;split at h
     ·rename_i a b ha hb;simp only[Option.some.injEq]at h;subst h;have h0:=hx 0 f (by simp)
      simp only[List.getElem?_cons_zero]at h0;have e0:=hF _ _ _ _ _ hk1 h0 ha;rw[hc.2,uP hsz]at e0;have e1:=Dk hF fl (off+k1.length) k2 xs b hk2 (by simpa using hl) (fun i f' hf=>by
       have:=hx (i+1) f' (by simpa using hf)
       simpa using this) hb
      rw[List.length_append,List.take_add,e0,List.drop_drop,e1]
     ·cases h
    ·cases hk
   ·cases hk
  ·cases hk
theorem Gg:∀(d t:Nat) (ks:List Kd) (fuel:Nat) (cs:List Value) (x:DataW H×List MemPlace) (vs:List Value),ej P d t=some ks→DataW.trod enc P w base sp held fuel t cs=some x→vZ x.1=some vs→cs=vs
 | 0,_,_,_,_,_,_,hk,_,_=>by simp[ej]at hk
 |d+1,t,ks,fuel,cs,x,vs,hk,h,hv=>by
  have ih:=Gg d;simp only[ej]at hk;split at hk
  ·rename_i hu;have:∃b,cs=[.bool b]∧x=(.lit (.bool b),[]):=by
    cases fuel with
    |zero=>simp[DataW.trod]at h
    |succ n=>
     unfold DataW.trod at h;grind
   grind [vZ,litVal]
  ·rename_i k hu;obtain⟨n,rfl,rfl,_⟩:=DataW.trod_int hu h;simpa[vZ,litVal]using hv
  ·rename_i hu;obtain⟨s,rfl,rfl,_⟩:=DataW.trod_string hu h;simpa[vZ,litVal]using hv
  ·rename_i fs hu;split at hk
   ·cases hk
   ·split at hk
    ·rename_i ks' hks;split at hk
     ·rename_i hsz;simp only[Option.some.injEq]at hk;subst hk;simp only[beq_iff_eq]at hsz;obtain⟨xs,n,rfl,rfl,hl,hxl,hget⟩:=DataW.trod_struct hu h;simp only[vZ]at hv;have:=Dk (P:=P) (cs:=cs) (K:=ej P d) (F:=fun t c=>DataW.trod enc P w base sp held n t c) (fun t ks c x v hk hf hv=>ih t ks n c x v hk hf hv) fs.toList 0 ks' xs vs hks (by simpa using hxl) (fun i f hf=>hget i f (by simpa using hf)) hv
      grind [uP]
     ·cases hk
    ·cases hk
  ·rename_i n e hu;split at hk
   ·rename_i ks' hks;split at hk
    ·rename_i hsz;simp only[Bool.and_eq_true,beq_iff_eq]at hsz;obtain⟨xs,m,rfl,rfl,hl,hxl,hget⟩:=DataW.trod_array hu h;simp only[vZ]at hv;rw[uP hsz.1]at hget;have:=Gf (s:=ks'.length) (cs:=cs) (F:=fun c=>DataW.trod enc P w base sp held m e c) (fun c x v hf hv=>ih e ks' m c x v hks hf hv) xs 0 vs (fun i hi=>by
      grind) hv
     grind [uP]
    ·cases hk
   ·cases hk
  ·cases hk
theorem KY{name:String}{d:DataW Unit}{rest:List (String×DataW Unit)}{g t:Nat}{ks:List Kd}{vs:List Value}(hg:P.globalNamed name=some g)(hty:(P.globals[g]?).map (·.type)=some t)(hk:ej P 9 t=some ks)(hv:vZ d=some vs)
 (h:laidMet P ((name,d)::rest) w):w.var? P name=some vs.toArray:=by
 obtain⟨ps,⟨g',t',cs,fuel,p,q,hg',ht',hvar,hd,_,_⟩,_⟩:=h;obtain rfl:=Option.some.inj (hg.symm.trans hg');obtain rfl:=Option.some.inj (hty.symm.trans ht');have:=Gg _ _ _ _ _ _ _ hk hd hv;rw[hvar,← this]
theorem Mr[gl:aD]{name:String}{g:Nat}{vs:List Value}(hg:P.globalNamed name=some g)(hvar:w.var? P name=some vs.toArray)(h1:vs.all (·.oneCell')=true)(hgl:∀i cs,gl.default.cells i=some cs→i=g∧cs=vs.map .sc):oW (Gh.bare w) w:=by
 intro i cs hi;obtain⟨rfl,rfl⟩:=hgl i cs hi;refine⟨?_,xB fun j x hx=>?_⟩
 ·exact ru.2 fun x hx=>by
   obtain⟨v,_,rfl⟩:=List.mem_map.1 hx;rfl
 ·rw[List.getElem?_map]at hx;obtain⟨v,hv,rfl⟩:=Option.map_eq_some_iff.1 hx;have hc:=World.var?_cell hg hvar j;rw[List.getElem?_toArray,hv]at hc;have hlt:i<w.heap.size:=by
   apply Decidable.byContradiction;intro hn;simp[World.cell?,Array.getElem?_eq_none (Nat.le_of_not_lt hn)]at hc
  rw[Nat.zero_add];exact⟨hlt,v,hc,List.all_eq_true.1 h1 v (List.mem_of_getElem? hv),by simp[R]⟩
end
end Go.AM
end
section
namespace Go.AM
abbrev Ren:=Nat→Nat→Option (Nat×Nat)
namespace AVal
mutual
def jQ(f:Ren):AVal→AVal
 | .sc v=>.sc v
 | .agg cs=>.agg (oE f cs)
 | .cM cs=>.cM (oE f cs)
 | .ptr b ak i o=>match f b ak with
  |some (b',ver')=>.ptr b' ver' i o
  |none=>.aq
 | .cq cs o=>.cq cs o
 | .sl b ak sz o n=>match f b ak with
  |some (b',ver')=>.sl b' ver' sz o n
  |none=>.aq
 | .ax rows=>.ax rows
 | .fn g a b=>.fn g (oE f a) (oE f b)
 | .gj t v=>.gj t (jQ f v)
 | .mp b=>match f b 0 with
  |some (b',0)=>.mp b'
  |_=>.aq
 | .jJ b=>match f b 0 with
  |some (b',0)=>.jJ b'
  |_=>.aq
 | .sa b ak i o s n=>match f b ak with
  |some (b',ver')=>.sa b' ver' i o s n
  |none=>.aq
 | .gQ i o=>.gQ i o
 | .emp=>.emp
 | .nz b=>.nz b
 | .aq=>.aq
def oE(f:Ren):List AVal→List AVal
 | []=>[]
 |a::as=>jQ f a::oE f as
end
theorem Dl(f:Ren):∀(l:List AVal),(oE f l).length=l.length
 | []=>rfl
 |_::as=>by simp[oE,Dl f as]
end AVal
section
set_option linter.unusedSectionVars false
variable [aD] {g g':Gh} {w:World} {f:Ren}
mutual
theorem Eu(hst:∀k o,g.st k o→g'.st k o)(hf:∀b v b' v' x,f b v=some (b',v')→g.ai b v=some x→g'.ai b' v'=some x):∀(v:AVal) (x:Value),R g w v x→R g' w (v.jQ f) x
 | .sc _,x,hr=>by simpa[R,AVal.jQ]using hr
 | .agg cs,x,hr=>by
  simp only[R,AVal.jQ]at hr ⊢;obtain⟨vs,e,h1,hl⟩:=hr;exact⟨vs,e,h1,tu hst hf cs vs hl⟩
 | .cM cs,x,hr=>by
  simp only[R,AVal.jQ]at hr ⊢;obtain⟨vs,e,hl⟩:=hr;exact⟨vs,e,tu hst hf cs vs hl⟩
 | .ptr b ak i o,x,hr=>by
  grind [R,AVal.jQ]
 | .cq cs o,x,hr=>by
  grind [R,AVal.jQ,kI]
 | .sl b ak sz o n,x,hr=>by
  grind [R,AVal.jQ]
 | .ax rows,x,hr=>by
  simp only[R,AVal.jQ]at hr ⊢;obtain⟨a,cap,e,hle,hr⟩:=hr;refine⟨a,cap,e,hle,?_⟩;rcases hr with h0 |⟨k,off,sz,ha,hc⟩
  ·exact .inl h0
  ·exact .inr ⟨k,off,sz,ha,CI hst rows k off sz hc⟩
 | .fn _ a b,x,hr=>by
  simp only[R,AVal.jQ]at hr ⊢;obtain⟨va,vb,e,h1,h2⟩:=hr;exact⟨va,vb,e,tu hst hf a va h1,tu hst hf b vb h2⟩
 | .gj t v,x,hr=>by
  simp only[R,AVal.jQ]at hr ⊢;obtain⟨y,e,h1⟩:=hr;exact⟨y,e,Eu hst hf v y h1⟩
 | .mp b,x,hr=>by
  grind [R,AVal.jQ]
 | .jJ b,x,hr=>by
  grind [R,AVal.jQ]
 | .sa b ak i o s n,x,hr=>by
  grind [R,AVal.jQ]
 | .gQ i o,x,hr=>by simpa[R,AVal.jQ]using hr
 | .emp,x,hr=>by simpa[R,AVal.jQ]using hr
 | .nz _,x,hr=>by simpa[R,AVal.jQ]using hr
 | .aq,x,_=>by simp[R,AVal.jQ]
theorem tu(hst:∀k o,g.st k o→g'.st k o)(hf:∀b v b' v' x,f b v=some (b',v')→g.ai b v=some x→g'.ai b' v'=some x):∀(v:List AVal) (x:List Value),RL g w v x→RL g' w (AVal.oE f v) x
 | [],x,hr=>by simpa[RL,AVal.oE]using hr
 |a::as,x,hr=>by
  simp only[RL,AVal.oE]at hr ⊢;obtain⟨y,ys,e,h1,h2⟩:=hr;exact⟨y,ys,e,Eu hst hf a y h1,tu hst hf as ys h2⟩
end
def HY(f:Ren):ah→ah→Prop
 | .row _ sz rows,.row _ sz' rows'=>sz'=sz∧((rows'=rows∧rows.all AVal.aW=true)∨rows'=rows.map (AVal.oE f))
 | .map c es,.map c' es'=>c'=c∧((es'=es∧es.all (fun p=>p.1.pure&&p.2.1.pure)=true)∨es'=es.map fun p=>(p.1.jQ f,p.2.1.jQ f,p.2.2))
 | .loop st pend fid A ps as bd,.loop st' pend' fid' A' ps' as' bd'=>st'=st∧pend'=pend∧fid'=fid∧ps'=ps∧as'=as∧bd'=bd∧A'=AVal.oE f A
 | .defs,.defs=>True
 | .iter m since seen stepped,.iter m' since' seen' stepped'=>since'=since∧seen'=seen∧stepped'=stepped∧m'=m.jQ f
 |_,_=>False
structure KZ(g g':Gh)(H H':List ah)(f:Ren):Prop where
 st:g'.st=g.st
 ai:∀b v b' v' x,f b v=some (b',v')→g.ai b v=some x→g'.ai b' v'=some x
 blk:∀(b':Nat) (x':ah),H'[b']? =some x'→x'.live=none∨∃b x v v',H[b]? =some x∧x.live=some v∧x'.live=some v'∧f b v=some (b',v')∧g'.ai b' v'=g.ai b v∧HY f x x'
 fresh:∀b' v,(H'[b']? =some .bt∨H'.length≤b')→g'.ai b' v=none
 next:∀(b':Nat) (x':ah) v v',H'[b']? =some x'→x'.live=some v→v<v'→g'.ai b' v'=none
theorem NJ{H H':List ah}(h:KZ g g' H H' f){b b' v v':Nat}{x x':ah}(hg:Good g w b x)(hv:x.live=some v)(hv':x'.live=some v')(hr:g'.ai b' v'=g.ai b v)(hb:HY f x x'):Good g' w b' x':=by
 have hst:∀k o,g.st k o→g'.st k o:=fun k o h'=>by rw[h.st];exact h'
 cases x<;>cases x'<;>simp only[HY]at hb<;>try exact hb.elim
 case row.row ak sz rows ver' sz' rows'=>
  simp only[ah.live,Option.some.injEq]at hv hv';subst hv;subst hv';obtain⟨rfl,hb⟩:=hb;rcases hg with⟨k,c,e,h1,h2,h3,h4,h5⟩ |⟨rfl,h2,h3⟩
  ·rcases hb with⟨rfl,hp⟩ |rfl
   ·refine .inl ⟨k,c,e,hr.trans h1,h2,jb _ _ fun j r hj=>?_,h4,h5⟩
    obtain⟨r1,r2⟩:=cO _ _ _ _ h3 hj;obtain⟨vs,v1,v2,v3,v4⟩:=fK r2;exact⟨r1,ez (nP hst _ _ (List.all_eq_true.1 hp r (List.mem_of_getElem? hj)) v3) v2 v4⟩
   ·refine .inl ⟨k,c,e,hr.trans h1,h2,jb _ _ fun j r hj=>?_,by simpa using h4,h5⟩
    rw[List.getElem?_map]at hj;obtain⟨r0,hj0,rfl⟩:=Option.map_eq_some_iff.1 hj;obtain⟨r1,r2⟩:=cO _ _ _ _ h3 hj0;obtain⟨vs,v1,v2,v3,v4⟩:=fK r2;exact⟨by rw[AVal.Dl,r1],ez (tu hst h.ai _ _ v3) v2 v4⟩
  ·rcases hb with⟨rfl,_⟩ |rfl
   ·exact .inr ⟨rfl,hr.trans h2,h3⟩
   ·exact .inr ⟨rfl,hr.trans h2,h3⟩
 case map.map c es c' es'=>
  simp only[ah.live,Option.some.injEq]at hv hv';subst hv;subst hv';obtain⟨rfl,hb⟩:=hb;obtain⟨k,ents,h1,h2,h3⟩:=hg;refine⟨k,ents,hr.trans h1,h2,?_⟩;grind [nU,wB,k6,Eu,h.ai]
 case loop.loop=>
  simp only[ah.live,Option.some.injEq]at hv hv';subst hv;subst hv';obtain⟨rfl,rfl,rfl,rfl,rfl,rfl,rfl⟩:=hb;obtain⟨k,tmps,dk,fn,h1,h2,h3⟩:=hg;exact⟨k,tmps,dk,fn,hr.trans h1,h2,tu hst h.ai _ _ h3⟩
 case iter.iter=>
  simp only[ah.live,Option.some.injEq]at hv hv';subst hv;subst hv';obtain⟨rfl,rfl,rfl,rfl⟩:=hb;obtain⟨k,mo,h1,h2,h3⟩:=hg;exact⟨k,mo,hr.trans h1,h2,Eu hst h.ai _ _ h3⟩
 case defs.defs=>
  simp only[ah.live,Option.some.injEq]at hv hv';subst hv;subst hv';obtain⟨k,h1,h2⟩:=hg;exact⟨k,hr.trans h1,h2⟩
theorem Inv.jQ{H H':List ah}(hi:Inv g H w)(h:KZ g g' H H' f):Inv g' H' w:=by
 have hst:∀k o,g.st k o→g'.st k o:=fun k o h'=>by rw[h.st];exact h'
 refine⟨?_,?_,h.fresh,h.next,?_,?_,hi.dr.st hst⟩
 ·intro b' x' hb';rcases h.blk b' x' hb' with hl |⟨b,x,v,v',h1,h2,h3,h4,h5,h6⟩
  ·cases x'<;>simp[ah.live]at hl<;>trivial
  ·exact NJ h (hi.good b x h1) h2 h3 h5 h6
 ·intro b1 b2 x1 x2 v1 v2 k z1 z2 hb1 hb2 l1 l2 k1 k2;rcases h.blk b1 x1 hb1 with hl |⟨c1,y1,u1,u1',p1,p2,p3,p4,p5,p6⟩
  ·rw[l1]at hl;cases hl
  ·rcases h.blk b2 x2 hb2 with hl |⟨c2,y2,u2,u2',q1,q2,q3,q4,q5,q6⟩
   ·rw[l2]at hl;cases hl
   ·rw[l1]at p3;cases p3;rw[l2]at q3;cases q3;rw[p5]at k1;rw[q5]at k2;have:=hi.inj c1 c2 y1 y2 u1 u2 k z1 z2 p1 q1 p2 q2 k1 k2;grind
 ·intro b' x' v k z o hb' hl hk hs;rcases h.blk b' x' hb' with hl' |⟨b,x,u,u',p1,p2,p3,p4,p5,p6⟩
  ·rw[hl]at hl';cases hl'
  ·rw[hl]at p3;cases p3;rw[p5]at hk;rw[h.st]at hs;exact hi.free b x u k z o p1 p2 hk hs
 ·intro k o hs;rw[h.st]at hs;exact hi.fh k o hs
end
def iN[aD](H0:List ah)(s s':St):Prop:=
 ∀(g0:Gh) (w0:World) (g:Gh) (a:Act) (w:World),Inv g0 H0 w0→aU g0 H0 w0 g s.H w→ff g s a w→∃g',ff g' s' a w∧aU g0 H0 w0 g' s'.H w
theorem iN.refl[aD](H0:List ah)(s:St):iN H0 s s:=fun _ _ g _ _ _ hl hs=>⟨g,hs,hl⟩
theorem iN.trans[aD]{H0:List ah}{s s1 s2:St}(h:iN H0 s s1)(h':iN H0 s1 s2):iN H0 s s2:=fun g0 w0 g a w hi hl hs=>
 let⟨g1,hs1,hl1⟩:=h g0 w0 g a w hi hl hs
 h' g0 w0 g1 a w hi hl1 hs1
def ah.tv:ah→Option Nat
 | .row v _ _=>some v
 |_=>none
def qK:ah→Bool
 | .row _ _ rows=>rows.all AVal.aW
 | .map _ es=>es.all fun p=>p.1.pure&&p.2.1.pure
 |_=>true
def BV(pu:List Nat)(H:List ah):Prop:=∀b∈pu,∀x,H[b]? =some x→qK x=true
def oQ(b:Nat):List Nat→Nat→Option Nat
 | [],_=>none
 |c::cs,j=>match c==b with
  |true=>some j
  |false=>oQ b cs (j+1)
def yh:List Nat→Bool
 | []=>true
 |c::cs=> !cs.contains c&&yh cs
def nY(bump:List Nat)(H0 H:List ah)(b:Nat):Option (Nat×Nat):=
 match bump.contains b with
 |true=>match(H0[b]?).bind ah.tv,(H[b]?).bind ah.tv with
  |some v0,some v1=>some (v0,v1)
  |_,_=>none
 |false=>none
def sV(H0:List ah)(b:Nat):Bool:=match H0[b]? with
 |some .bt=>false
 |some _=>true
 |none=>false
theorem Kf{H0:List ah}{b:Nat}(h:sV H0 b=true):b<H0.length:=by
 grind [sV]
theorem Ew{H0:List ah}{b:Nat}(h:sV H0 b=false):H0[b]? =some .bt∨H0.length≤b:=by
 grind [sV]
def qP(bl bump:List Nat)(H0 H:List ah):Ren:=fun b v=>
 match sV H0 b with
 |true=>match nY bump H0 H b with
  |some (v0,v1)=>if v=v1 then some (b,v0+1)else none
  |none=>some (b,v)
 |false=>match oQ b bl 0 with
  |some j=>if(H[b]?).bind ah.live=some v then some (H0.length+j,0)else none
  |none=>none
def jo(f:Ren)(p:Bool)(v':Option Nat):ah→ah
 | .row v sz rows=>.row (v'.getD v) sz (match p with |true=>rows |false=>rows.map (AVal.oE f))
 | .map c es=>.map c (match p with |true=>es |false=>es.map fun p=>(p.1.jQ f,p.2.1.jQ f,p.2.2))
 | .loop st pend fid A ps as bd=>.loop st pend fid (AVal.oE f A) ps as bd
 | .iter m since seen stepped=>.iter (m.jQ f) since seen stepped
 |x=>x
def pe(f:Ren)(pu bump:List Nat)(H0 H:List ah):Nat→List ah→List ah
 |_,[]=>[]
 |b,x::xs=>(match sV H0 b with |true=>jo f (pu.contains b) ((nY bump H0 H b).map (·.1+1)) x |false=>.bt)::pe f pu bump H0 H (b+1) xs
def DO(f:Ren):List sR→Option (List sR)
 | []=>some []
 | .call h args::ds=>(DO f ds).map (.call h (AVal.oE f args):: ·)
 | .mark b::ds=>if f b 0=some (b,0)then(DO f ds).map (.mark b:: ·)else none
def NK(bl bump pu:List Nat)(H0:List ah)(s:St):Option St:=
 match yh bl&&bl.all (fun b=> !sV H0 b&&decide (b<s.H.length))with
 |true=>match DO (qP bl bump H0 s.H) s.D with
  |some D=>some ⟨AVal.oE (qP bl bump H0 s.H) s.A,pe (qP bl bump H0 s.H) pu bump H0 s.H 0 (s.H.take H0.length)++bl.map (fun b=>jo (qP bl bump H0 s.H) (pu.contains b) (some 0) (s.H.getD b .dead)),D⟩
  |none=>none
 |false=>none
theorem uk:∀{bl:List Nat} {b i j:Nat},oQ b bl i=some j→i≤j∧bl[j - i]? =some b
 | [],b,i,j,h=>by simp[oQ]at h
 |c::cs,b,i,j,h=>by
  simp only[oQ]at h;split at h
  ·grind
  ·obtain⟨h1,h2⟩:=uk h;grind
theorem zC:∀{bl:List Nat} {b j:Nat} (i:Nat),yh bl=true→bl[j]? =some b→oQ b bl i=some (i+j)
 | [],b,j,i,_,h=>by simp at h
 |c::cs,b,0,i,_,h=>by simp at h;subst h;simp[oQ]
 |c::cs,b,j+1,i,hn,h=>by
  simp only[yh,Bool.and_eq_true,Bool.not_eq_true']at hn;simp only[List.getElem?_cons_succ]at h;have hne:(c==b)=false:=by
   apply beq_false_of_ne;rintro rfl;have:=List.mem_of_getElem? h;simp[this]at hn
  simp only[oQ,hne];rw[zC (i+1) hn.2 h,show i+1+j=i+(j+1)by omega]
theorem zD(f:Ren)(pu bump:List Nat)(H0 H:List ah):∀(l:List ah) (b j:Nat),(pe f pu bump H0 H b l)[j]? =(l[j]?).map fun x=>match sV H0 (b+j)with |true=>jo f (pu.contains (b+j)) ((nY bump H0 H (b+j)).map (·.1+1)) x |false=>.bt
 | [],b,j=>by simp[pe]
 |x::xs,b,0=>by simp[pe]
 |x::xs,b,j+1=>by
  simp only[pe,List.getElem?_cons_succ];rw[zD f pu bump H0 H xs (b+1) j,show b+1+j=b+(j+1)by omega]
theorem qL(f:Ren)(p:Bool)(v':Option Nat)(x:ah):(jo f p v' x).live=match x with | .row v _ _=>some (v'.getD v) |x=>x.live:=by cases x<;>rfl
theorem xD(f:Ren)(p:Bool)(v':Option Nat){x:ah}(hp:p=true→qK x=true)(hl:x.live≠none):HY f x (jo f p v' x):=by
 cases x with
 |row v sz rows=>
  refine⟨rfl,?_⟩;cases p with
  |true=>exact .inl ⟨rfl,hp rfl⟩
  |false=>exact .inr rfl
 |map c es=>
  refine⟨rfl,?_⟩;cases p with
  |true=>exact .inl ⟨rfl,hp rfl⟩
  |false=>exact .inr rfl
 |loop=>exact⟨rfl,rfl,rfl,rfl,rfl,rfl,rfl⟩
 |defs=>trivial
 |iter=>exact⟨rfl,rfl,rfl,rfl⟩
 |bt=>exact absurd rfl hl
 |dead=>exact absurd rfl hl
def oF(bl bump:List Nat)(H0 H:List ah)(g:Gh):Gh:=
 {ai:=fun b v=>match decide (b<H0.length)with
  |true=>match sV H0 b with
   |true=>match nY bump H0 H b with
    |some (v0,v1)=>if v≤v0 then g.ai b v else if v=v0+1 then g.ai b v1 else none
    |none=>g.ai b v
   |false=>none
  |false=>match bl[b - H0.length]? with
   |some c=>if v=0 then(match(H[c]?).bind ah.live with |some u=>g.ai c u |none=>none)else none
   |none=>none
  st:=g.st}
theorem Dm{x:ah}{v:Nat}(h:x.tv=some v):x.live=some v:=by cases x<;>simp[ah.tv]at h<;>simp[ah.live,h]
theorem tw{bump:List Nat}{H0 H:List ah}{b v0 v1:Nat}(h:nY bump H0 H b=some (v0,v1)):(∃x0,H0[b]? =some x0∧x0.tv=some v0)∧∃x1,H[b]? =some x1∧x1.tv=some v1:=by
 grind [nY]
theorem NL[aD]{bl bump pu:List Nat}{H0:List ah}{s s':St}(Ad:BV pu s.H)(h:NK bl bump pu H0 s=some s'):iN H0 s s':=by
 intro g0 w0 g a w hi0 hl hs;unfold NK at h;split at h
 ·rename_i hc;simp only[Bool.and_eq_true,List.all_eq_true,decide_eq_true_eq,Bool.not_eq_true']at hc;obtain⟨hnd,hbl⟩:=hc;split at h
  ·rename_i D hD;simp only[Option.some.injEq]at h;subst h;have hlen:H0.length≤s.H.length:=hl.len;have htl:(s.H.take H0.length).length=H0.length:=by simp;omega
   have hrl:(pe (qP bl bump H0 s.H) pu bump H0 s.H 0 (s.H.take H0.length)).length=H0.length:=by
    have:∀(l:List ah) (b:Nat),(pe (qP bl bump H0 s.H) pu bump H0 s.H b l).length=l.length:=by
     intro l;induction l with
     |nil=>intro b;rfl
     |cons x xs ih=>intro b;simp[pe,ih]
    rw[this,htl]
   have side:∀(b':Nat) (x':ah),(pe (qP bl bump H0 s.H) pu bump H0 s.H 0 (s.H.take H0.length)++bl.map (fun b=>jo (qP bl bump H0 s.H) (pu.contains b) (some 0) (s.H.getD b .dead)))[b']? =some x'→
    (b'<H0.length∧sV H0 b'=true∧∃x,s.H[b']? =some x∧x'=jo (qP bl bump H0 s.H) (pu.contains b') ((nY bump H0 s.H b').map (·.1+1)) x)∨
    (b'<H0.length∧sV H0 b'=false∧x'=.bt)∨
    (H0.length≤b'∧∃b x,bl[b' - H0.length]? =some b∧s.H[b]? =some x∧x'=jo (qP bl bump H0 s.H) (pu.contains b) (some 0) x):=by
    intro b' x' hx;by_cases hb:b'<H0.length
    ·grind [zD,sV]
    ·grind
   have hpure:∀b x,s.H[b]? =some x→pu.contains b=true→qK x=true:=fun b x hx hc=>Ad b (by simpa using hc) x hx
   have ok:KZ g (oF bl bump H0 s.H g) s.H (pe (qP bl bump H0 s.H) pu bump H0 s.H 0 (s.H.take H0.length)++bl.map (fun b=>jo (qP bl bump H0 s.H) (pu.contains b) (some 0) (s.H.getD b .dead))) (qP bl bump H0 s.H):=by
    refine⟨rfl,?_,?_,?_,?_⟩
    ·intro b v b' v' x hf hr;unfold qP at hf;split at hf
     ·grind [Kf,oF]
     ·rename_i hlt;split at hf
      ·rename_i j hj;split at hf
       ·rename_i hv;simp only[Option.some.injEq,Prod.mk.injEq]at hf;obtain⟨rfl,rfl⟩:=hf;obtain⟨_,hj⟩:=uk hj;have h1:decide (H0.length+j<H0.length)=false:=by simp
        simp only[oF,h1,Nat.add_sub_cancel_left];grind
       ·cases hf
      ·cases hf
    ·intro b' x' hx;rcases side b' x' hx with⟨hlt,hold,x,h1,rfl⟩ |⟨_,_,rfl⟩ |⟨hge,b,x,h1,h2,rfl⟩
     ·by_cases hlv:x.live=none
      ·grind [qL,ah.live]
      ·right;obtain⟨v,hv⟩:=Option.ne_none_iff_exists'.1 hlv;have hlt':decide (b'<H0.length)=true:=by simpa using hlt
       cases hbu:nY bump H0 s.H b' with
       |none=>
        refine⟨b',x,v,v,h1,hv,?_,by simp only[qP,hold,hbu],by simp only[oF,hlt',hold,hbu],xD _ _ _ (hpure _ _ h1) hlv⟩
        grind [qL,ah.live]
       |some p=>
        obtain⟨v0,v1⟩:=p;obtain⟨_,x1,q1,q2⟩:=tw hbu;rw[h1]at q1;cases q1;have:v=v1:=by rw[Dm q2]at hv;cases hv;rfl
        subst this;refine⟨b',x,v,v0+1,h1,hv,?_,by simp only[qP,hold,hbu,if_true],?_,xD _ _ _ (hpure _ _ h1) hlv⟩
        ·grind [qL,ah.tv]
        grind [oF]
     ·exact .inl rfl
     ·by_cases hlv:x.live=none
      ·grind [qL,ah.live]
      ·right;obtain⟨v,hv⟩:=Option.ne_none_iff_exists'.1 hlv;have hbge:=(hbl b (List.mem_of_getElem? h1)).1;have hlt2:decide (b'<H0.length)=false:=by simp;omega
       refine⟨b,x,v,0,h2,hv,?_,?_,?_,xD _ _ _ (hpure _ _ h2) hlv⟩
       ·rw[qL];cases x<;>simp[ah.live]at hv ⊢
       ·simp only[qP,hbge,zC 0 hnd h1,Nat.zero_add];grind
       grind [oF]
    ·intro b' v hb;rcases hb with hb |hb
     ·rcases side b' _ hb with⟨hlt,hold,x,h1,hx⟩ |⟨hlt,hold,_⟩ |⟨hge,b,x,h1,h2,hx⟩
      ·have hx':x=.bt:=by cases x<;>simp[jo]at hx;rfl
       subst hx';have hlt':decide (b'<H0.length)=true:=by simpa using hlt
       have hbu:nY bump H0 s.H b'=none:=by
        cases hbu:nY bump H0 s.H b' with
        |none=>rfl
        |some p=>
         grind [tw,ah.tv]
       simp only[oF,hlt',hold,hbu];exact hs.inv.fresh b' v (.inl h1)
      ·grind [oF]
      ·have hx':x=.bt:=by cases x<;>simp[jo]at hx;rfl
       grind [oF,ah.live]
     grind [oF]
    ·intro b' x' v v' hx hv hlt;rcases side b' x' hx with⟨hlb,hold,x,h1,rfl⟩ |⟨_,_,rfl⟩ |⟨hge,b,x,h1,h2,rfl⟩
     ·have hlt':decide (b'<H0.length)=true:=by simpa using hlb
      rw[qL]at hv;cases hbu:nY bump H0 s.H b' with
      |none=>
       simp only[oF,hlt',hold,hbu];rw[hbu]at hv;refine hs.inv.next b' x v v' h1 ?_ hlt;grind [ah.live]
      |some p=>
       grind [tw,oF,ah.tv]
     ·cases hv
     grind [oF]
   refine⟨oF bl bump H0 s.H g,⟨hs.inv.jQ ok,tu (g:=g) (g':=oF bl bump H0 s.H g) (fun _ _ h=>h) ok.ai _ _ hs.tmps,?_⟩,?_⟩
   ·have key:∀(l l':List sR) (ds:List Deferred),DO (qP bl bump H0 s.H) l=some l'→RD g w l ds→RD (oF bl bump H0 s.H g) w l' ds:=by
     intro l;induction l with
     |nil=>intro l' ds h hd;simp[DO]at h;subst h;exact hd
     |cons d l ih=>
      intro l' ds h hd;obtain⟨d',ds',rfl,h1,h2⟩:=hd;cases d with
      |call f args=>
       simp only[DO,Option.map_eq_some_iff]at h;obtain⟨l2,h,rfl⟩:=h;obtain⟨cap,t1,t2⟩:=h1;exact⟨d',ds',rfl,⟨cap,t1,tu (g:=g) (g':=oF bl bump H0 s.H g) (fun _ _ h=>h) ok.ai _ _ t2⟩,ih _ _ h h2⟩
      |mark b=>
       simp only[DO]at h;split at h
       ·rename_i hb;obtain⟨l2,h0,rfl⟩:=Option.map_eq_some_iff.1 h;obtain⟨k,sz,t1,t2⟩:=h1;exact⟨d',ds',rfl,⟨k,sz,ok.ai _ _ _ _ _ hb t1,t2⟩,ih _ _ h0 h2⟩
       ·cases h
    exact key _ _ _ hD hs.defs
   ·refine⟨⟨?_,hl.ext.st,hl.ext.cell,hl.ext.shape⟩,hl.size,hl.keep,?_,by simp[hrl],hl.os,hl.tape,hl.output,fun k o hk hs=>?_,?_,?_⟩
    ·intro b v x hx;have hold:sV H0 b=true:=by
      cases ho:sV H0 b with
      |true=>rfl
      |false=>rw[hi0.fresh b v (Ew ho)]at hx;cases hx
     have hlt':decide (b<H0.length)=true:=by simpa using Kf hold
     cases hbu:nY bump H0 s.H b with
     |none=>simp only[oF,hlt',hold,hbu];exact hl.ext.ai b v x hx
     |some p=>
      obtain⟨v0,v1⟩:=p;obtain⟨⟨x0,q1,q2⟩,_⟩:=tw hbu;simp only[oF,hlt',hold,hbu];have:v≤v0:=by
       apply Decidable.byContradiction;intro hn;rw[hi0.next b x0 v0 v q1 (Dm q2) (by omega)]at hx;cases hx
      rw[if_pos this];exact hl.ext.ai b v x hx
    ·rintro k hk ⟨b',x',v',z,h1,h2,h3⟩;rcases ok.blk b' x' h1 with hn |⟨b,x,v,v2,p1,p2,p3,p4,p5,p6⟩
     ·rw[h2]at hn;cases hn
     ·rw[h2]at p3;cases p3;rw[p5]at h3;exact hl.own k hk ⟨b,x,v,z,p1,p2,h3⟩
    ·rcases hl.stk k o hk hs with h1 |⟨h1,h2⟩
     ·exact .inl h1
     ·refine .inr ⟨h1,?_⟩;rintro⟨b',x',v',z,q1,q2,q3⟩;rcases ok.blk b' x' q1 with hn |⟨b,x,v,v2,p1,p2,p3,p4,p5,p6⟩
      ·rw[q2]at hn;cases hn
      ·rw[q2]at p3;cases p3;rw[p5]at q3;exact h2 ⟨b,x,v,z,p1,p2,q3⟩
    ·intro b hb;have hlt:b<H0.length:=(List.getElem?_eq_some_iff.1 hb).1;have hlt':decide (b<H0.length)=true:=by simpa using hlt
     obtain⟨d1,d2⟩:=hl.tI b hb;have hbu:nY bump H0 s.H b=none:=by
      cases hbu:nY bump H0 s.H b with
      |none=>rfl
      |some p=>
       grind [tw,ah.tv]
     have hold:sV H0 b=true:=by simp[sV,hb]
     refine⟨?_,fun ak=>by grind [oF]⟩
     rw[List.getElem?_append_left (by omega),zD,Nat.zero_add,List.getElem?_take,if_pos hlt,d1]
     simp only[Option.map_some,hold];rfl
    ·intro b' v' k z hr;simp only[oF]at hr;split at hr
     ·split at hr
      ·split at hr
       ·split at hr
        ·exact hl.sQ b' _ k z hr
        ·split at hr
         ·exact hl.sQ b' _ k z hr
         ·cases hr
       ·exact hl.sQ b' _ k z hr
      ·cases hr
     ·split at hr
      ·rename_i c hcb;split at hr
       ·split at hr
        ·rcases hl.sQ c _ k z hr with⟨u,z',hu⟩ |hn
         ·have:=(hbl c (List.mem_of_getElem? hcb)).1;rw[hi0.fresh c u (Ew this)]at hu;cases hu
         ·exact .inr hn
        ·cases hr
       ·cases hr
      ·cases hr
  ·cases h
 ·cases h
def Ms:AVal→AVal
 | .sc (.slice none 0 0)=>.ax []
 | .emp=>.ax []
 | .nz _=>.ax []
 |v=>v
mutual
def jK:AVal→AVal
 | .sc v=>Ms (.sc v)
 | .emp=>.ax []
 | .nz _=>.ax []
 | .agg cs=>.agg (nZ cs)
 | .cM cs=>.cM (nZ cs)
 | .fn f a b=>.fn f (nZ a) (nZ b)
 | .gj t v=>.gj t v
 | .cq cs o=>.cq (nZ cs) o
 |v=>v
def nZ:List AVal→List AVal
 | []=>[]
 |a::as=>jK a::nZ as
end
section
set_option linter.unusedSectionVars false
variable [aD] {g:Gh} {w:World}
theorem Hj{v:AVal}{x:Value}(h:R g w v x):R g w (Ms v) x:=by
 unfold Ms;grind [gx,R]
mutual
theorem NM:∀(v:AVal),v.pure=true→(jK v).pure=true
 | .sc v,h=>by
  simp only[jK,Ms];split<;>simp_all [AVal.pure]
 | .emp,_=>by simp[jK,AVal.pure]
 | .nz _,_=>by simp[jK,AVal.pure]
 | .agg cs,h=>by simp only[AVal.pure]at h;simp only[jK,AVal.pure,tU cs h]
 | .cM cs,h=>by simp only[AVal.pure]at h;simp only[jK,AVal.pure,tU cs h]
 | .fn f a b,h=>by simp only[AVal.pure,Bool.and_eq_true]at h;simp only[jK,AVal.pure,tU a h.1,tU b h.2,Bool.and_self]
 | .gj t v,h=>by simpa only[jK]using h
 | .cq cs o,_=>by simp[jK,AVal.pure]
 | .ptr ..,h=>by simpa only[jK]using h
 | .sl ..,h=>by simpa only[jK]using h
 | .ax _,h=>by simpa only[jK]using h
 | .mp _,h=>by simpa only[jK]using h
 | .jJ _,h=>by simpa only[jK]using h
 | .sa ..,h=>by simpa only[jK]using h
 | .gQ ..,h=>by simpa only[jK]using h
 | .aq,h=>by simpa only[jK]using h
theorem tU:∀(l:List AVal),AVal.aW l=true→AVal.aW (nZ l)=true
 | [],_=>rfl
 |a::as,h=>by simp only[AVal.aW,Bool.and_eq_true]at h;simp only[nZ,AVal.aW,NM a h.1,tU as h.2,Bool.and_self]
end
mutual
theorem CK:∀(v:AVal) (x:Value),R g w v x→R g w (jK v) x
 | .sc v,x,h=>by simp only[jK];exact Hj h
 | .emp,x,h=>by simp only[jK];exact Hj (v:=.emp) h
 | .nz b,x,h=>by simp only[jK];exact Hj (v:=.nz b) h
 | .agg cs,x,h=>by
  simp only[jK,R]at h ⊢;obtain⟨vs,e,h1,hl⟩:=h;exact⟨vs,e,h1,wH cs vs hl⟩
 | .cM cs,x,h=>by
  simp only[jK,R]at h ⊢;obtain⟨vs,e,hl⟩:=h;exact⟨vs,e,wH cs vs hl⟩
 | .fn f a b,x,h=>by
  simp only[jK,R]at h ⊢;obtain⟨va,vb,e,h1,h2⟩:=h;exact⟨va,vb,e,wH a va h1,wH b vb h2⟩
 | .gj t v,x,h=>by simpa only[jK]using h
 | .cq cs o,x,h=>by
  simp only[jK,R]at h ⊢;obtain⟨k,off,e,hp,hc⟩:=h;exact⟨k,off,e,tU cs hp,HZ cs k off hc⟩
 | .ptr ..,x,h=>by simpa only[jK]using h
 | .sl ..,x,h=>by simpa only[jK]using h
 | .ax _,x,h=>by simpa only[jK]using h
 | .mp _,x,h=>by simpa only[jK]using h
 | .jJ _,x,h=>by simpa only[jK]using h
 | .sa ..,x,h=>by simpa only[jK]using h
 | .gQ ..,x,h=>by simpa only[jK]using h
 | .aq,x,h=>by simpa only[jK]using h
theorem wH:∀(l:List AVal) (vs:List Value),RL g w l vs→RL g w (nZ l) vs
 | [],vs,h=>by simpa only[nZ]using h
 |a::as,vs,h=>by
  simp only[nZ,RL]at h ⊢;obtain⟨y,ys,e,h1,h2⟩:=h;exact⟨y,ys,e,CK a y h1,wH as ys h2⟩
theorem HZ:∀(l:List AVal) (k o:Nat),RC g w l k o→RC g w (nZ l) k o
 | [],k,o,h=>by simpa only[nZ]using h
 |a::as,k,o,h=>by
  simp only[nZ,RC]at h ⊢;obtain⟨⟨hs,y,hy,ho,hr⟩,h2⟩:=h;exact⟨⟨hs,y,hy,ho,CK a y hr⟩,HZ as k (o+1) h2⟩
end
theorem Kg{A:List AVal}{vs:List Value}{d:Nat}{v v':AVal}(h:RL g w A vs)(hd:A[d]? =some v)(hv:∀x,R g w v x→R g w v' x):RL g w (A.set d v') vs:=by
 grind [dR,uC]
theorem Inv.Mt{H:List ah}(hi:Inv g H w){b ak sz i j:Nat}{rows:List (List AVal)}{cs:List AVal}{v v':AVal}(hb:H[b]? =some (.row ak sz rows))(hcs:rows[i]? =some cs)(hj:cs[j]? =some v)(hv:∀x,R g w v x→R g w v' x):
 Inv g (H.set b (.row ak sz (rows.set i (cs.set j v')))) w∧aU g H w g (H.set b (.row ak sz (rows.set i (cs.set j v')))) w:=by
 have hlt:b<H.length:=(List.getElem?_eq_some_iff.1 hb).1;have f:∀(b':Nat) (x':ah) (v1:Nat),(H.set b (.row ak sz (rows.set i (cs.set j v'))))[b']? =some x'→x'.live=some v1→∃x1,H[b']? =some x1∧x1.live=some v1:=by
  intro b' x' v1 h hl;rcases bU h with⟨rfl,he,_⟩ |⟨_,h⟩
  ·subst he;exact⟨_,hb,hl⟩
  ·exact⟨x',h,hl⟩
 refine⟨⟨?_,?_,?_,?_,?_,hi.fh,hi.dr⟩,⟨Ext.refl g w,Nat.le_refl _,fun _ _ _=>rfl,?_,by simp,rfl,⟨rfl,Nat.le_refl _⟩,rfl,fun _ _ _ h=>.inl h,?_,fun _ ak _ z h=>.inl ⟨ak,z,h⟩⟩⟩
 ·intro b' x h;rcases bU h with⟨rfl,he,_⟩ |⟨hne,h⟩
  ·subst he;rcases hi.good _ _ hb with⟨k,c,e,h1,h2,h3,h4,h5⟩ |⟨h1,_⟩
   ·refine .inl ⟨k,c,e,h1,h2,jb _ _ fun i' r hi'=>?_,by simpa using h4,h5⟩
    by_cases hii:i=i'
    ·subst hii;have hil:i<rows.length:=(List.getElem?_eq_some_iff.1 hcs).1;rw[List.getElem?_set_self hil]at hi';cases hi';obtain⟨r1,r2⟩:=cO _ _ _ _ h3 hcs;obtain⟨vs,v1,v2,v3,v4⟩:=fK r2;exact⟨by simpa using r1,ez (Kg v3 hj hv) v2 v4⟩
    ·rw[List.getElem?_set_ne hii]at hi';exact cO _ _ _ _ h3 hi'
   ·subst h1;simp at hcs
  ·exact hi.good b' x h
 ·intro b1 b2 x1 x2 v1 v2 k z1 z2 h1 h2 l1 l2 k1 k2;obtain⟨y1,p1,p2⟩:=f _ _ _ h1 l1;obtain⟨y2,q1,q2⟩:=f _ _ _ h2 l2;exact hi.inj b1 b2 y1 y2 v1 v2 k z1 z2 p1 q1 p2 q2 k1 k2
 ·intro b' v h;rcases h with h |h
  ·rcases bU h with⟨rfl,he,_⟩ |⟨_,h⟩
   ·cases he
   ·exact hi.fresh b' v (.inl h)
  ·exact hi.fresh b' v (.inr (by simpa using h))
 ·intro b' x v v' h hl hv;obtain⟨y1,p1,p2⟩:=f _ _ _ h hl;exact hi.next b' y1 v v' p1 p2 hv
 ·intro b' x v k z o h hl hk;obtain⟨y1,p1,p2⟩:=f _ _ _ h hl;exact hi.free b' y1 v k z o p1 p2 hk
 ·rintro k _ ⟨b',x,v,z,h,hl,hz⟩;obtain⟨y1,p1,p2⟩:=f _ _ _ h hl;exact⟨b',y1,v,z,p1,p2,hz⟩
 grind
end
inductive Pl where
 |s (d:Nat)
 |c (d j:Nat)
 |b (b j:Nat)
def tV(s:St):Pl→Option AVal
 | .s d=>s.A[d]?
 | .c d j=>match s.A[d]? with
  |some (.ptr b ak i o)=>match s.H[b]? with
   |some (.row v _ rows)=>match decide (v=ak)with
    |true=>(rows[i]?).bind fun cs=>cs[o+j]?
    |false=>none
   |_=>none
  |_=>none
 | .b b j=>match s.H[b]? with
  |some (.row _ _ rows)=>(rows[0]?).bind fun cs=>cs[j]?
  |_=>none
def AR(s:St)(v':AVal):Pl→St
 | .s d=>{s with A:=s.A.set d v'}
 | .c d j=>match s.A[d]? with
  |some (.ptr b _ i o)=>match s.H[b]? with
   |some (.row v sz rows)=>{s with H:=s.H.set b (.row v sz (rows.set i ((rows.getD i []).set (o+j) v')))}
   |_=>s
  |_=>s
 | .b b j=>match s.H[b]? with
  |some (.row v sz rows)=>{s with H:=s.H.set b (.row v sz (rows.set 0 ((rows.getD 0 []).set j v')))}
  |_=>s
theorem xE[aD]{s:St}{p:Pl}{v v':AVal}(hp:tV s p=some v){g:Gh}{a:Act}{w:World}(hs:ff g s a w)(hv:∀x,R g w v x→R g w v' x):ff g (AR s v' p) a w∧aU g s.H w g (AR s v' p).H w:=by
 cases p with
 |s d=>exact⟨⟨hs.inv,Kg hs.tmps hp hv,hs.defs⟩,aU.refl _ _ _⟩
 |c d j=>
  simp only[tV]at hp;split at hp
  ·rename_i b ak i o hd;split at hp
   ·rename_i v0 sz rows hb;split at hp
    ·obtain⟨cs,h1,h2⟩:=Option.bind_eq_some_iff.1 hp;obtain⟨i1,i2⟩:=hs.inv.Mt hb h1 h2 hv;have hgd:rows.getD i []=cs:=by rw[List.getD_eq_getElem?_getD,h1];rfl
     simp only[AR,hd,hb,hgd];exact⟨⟨i1,bR i2.ext _ _ hs.tmps,eA i2.ext _ _ hs.defs⟩,i2⟩
    ·cases hp
   ·cases hp
  ·cases hp
 |b b j=>
  simp only[tV]at hp;split at hp
  ·rename_i v0 sz rows hb;obtain⟨cs,h1,h2⟩:=Option.bind_eq_some_iff.1 hp;obtain⟨i1,i2⟩:=hs.inv.Mt hb h1 h2 hv;have hgd:rows.getD 0 []=cs:=by rw[List.getD_eq_getElem?_getD,h1];rfl
   simp only[AR,hb,hgd];exact⟨⟨i1,bR i2.ext _ _ hs.tmps,eA i2.ext _ _ hs.defs⟩,i2⟩
  ·cases hp
def P6(s:St)(p:Pl):Option St:=match tV s p with
 |some v=>some (AR s (Ms v) p)
 |none=>none
theorem NN[aD]{H0:List ah}{s s':St}{p:Pl}(h:P6 s p=some s'):iN H0 s s':=by
 unfold P6 at h;split at h
 ·rename_i v hv;simp only[Option.some.injEq]at h;subst h;intro g0 w0 g a w _ hl hs;obtain⟨h1,h2⟩:=xE hv hs fun _=>Hj
  exact⟨g,h1,hl.trans h2⟩
 ·cases h
def NO(s:St)(p:Pl)(sz:Nat):Option St:=match tV s p,decide (0<sz)with
 |some (.sc (.slice none 0 0)),true=>some (AR {s with H:=s.H++[.row 0 sz []]} (.sl s.H.length 0 sz 0 0) p)
 |some _,_=>some s
 |none,_=>none
theorem Mu[aD]{H0:List ah}{s s':St}{p:Pl}{sz:Nat}(h:NO s p sz=some s'):iN H0 s s':=by
 unfold NO at h;split at h
 ·rename_i hv hz;simp only[Option.some.injEq]at h;subst h;intro g0 w0 g a w _ hl hs;obtain⟨i1,i2⟩:=hs.inv.Rt (sz:=sz) (by simpa using hz)
  have hs1:ff g {s with H:=s.H++[.row 0 sz []]} a w:=⟨i1,bR i2.ext _ _ hs.tmps,eA i2.ext _ _ hs.defs⟩;have hv1:tV {s with H:=s.H++[.row 0 sz []]} p=some (.sc (.slice none 0 0)):=by
   cases p with
   |s d=>exact hv
   |c d j=>
    grind [tV]
   |b b j=>
    grind [tV]
  obtain⟨h1,h2⟩:=xE hv1 hs1 (v':=.sl s.H.length 0 sz 0 0) fun x hx=>by
   have:=gx hx;subst this;simp[R]
  exact⟨g,h1,(hl.trans i2).trans h2⟩
 ·grind [iN.refl]
 ·cases h
set_option linter.unusedVariables false in
theorem NP[aD]{g:Gh}{H:List ah}{w:World}{g0:Gh}{H0:List ah}{w0:World}(hi0:Inv g0 H0 w0)(hi:Inv g H w)(hl:aU g0 H0 w0 g H w){b ak sz:Nat}{rows:List (List AVal)}(hb:H[b]? =some (.row ak sz rows)):
 Inv {ai:=g.ai,st:=fun k o=>g.st k o∨∃z,g.ai b ak=some (k,z)} (H.set b .dead) w∧aU g0 H0 w0 {ai:=g.ai,st:=fun k o=>g.st k o∨∃z,g.ai b ak=some (k,z)} (H.set b .dead) w∧
 Ext g w {ai:=g.ai,st:=fun k o=>g.st k o∨∃z,g.ai b ak=some (k,z)} w:=by
 have hext:Ext g w {ai:=g.ai,st:=fun k o=>g.st k o∨∃z,g.ai b ak=some (k,z)} w:=⟨fun _ _ _ h=>h,fun _ _ h=>.inl h,fun _ _ _=>rfl,fun _ _ h=>h⟩
 have f:∀(b':Nat) (x':ah),(H.set b ah.dead)[b']? =some x'→x'=.dead∨(b'≠b∧H[b']? =some x'):=by
  intro b' x' h;rcases bU h with⟨rfl,he,_⟩ |⟨h1,h⟩
  ·exact .inl he
  ·exact .inr ⟨h1,h⟩
 refine⟨⟨?_,?_,?_,?_,?_,?_,hi.dr.mono hext⟩,⟨⟨hl.ext.ai,fun k o h=>.inl (hl.ext.st k o h),hl.ext.cell,hl.ext.shape⟩,hl.size,hl.keep,?_,by simpa using hl.len,hl.os,hl.tape,hl.output,?_,?_,hl.sQ⟩,hext⟩
 ·intro b' x' h;rcases f _ _ h with rfl |⟨hne,h⟩
  ·trivial
  ·exact kM hext (hi.good b' x' h) (fun _ _ _ _ _=>rfl) fun _ _ h=>h
 ·intro b1 b2 x1 x2 v1 v2 k z1 z2 h1 h2 l1 l2;rcases f _ _ h1 with rfl |⟨_,h1⟩
  ·cases l1
  ·rcases f _ _ h2 with rfl |⟨_,h2⟩
   ·cases l2
   ·exact hi.inj b1 b2 x1 x2 v1 v2 k z1 z2 h1 h2 l1 l2
 ·grind [hi.fresh]
 ·intro b' x' v v' h hlv;rcases f _ _ h with rfl |⟨_,h⟩
  ·cases hlv
  ·exact hi.next b' x' v v' h hlv
 ·intro b' x' v k z o h hlv hk hs;rcases f _ _ h with rfl |⟨hne,h⟩
  ·cases hlv
  ·rcases hs with hs |⟨z',hz⟩
   ·exact hi.free b' x' v k z o h hlv hk hs
   ·exact hne (hi.inj b' b x' _ v ak k z z' h hb hlv rfl hk hz)
 ·intro k o hs;rcases hs with hs |⟨z,hz⟩
  ·exact hi.fh k o hs
  ·exact hi.rj hb rfl hz
 ·rintro k hk ⟨b',x',v,z,h,hlv,hz⟩;rcases f _ _ h with rfl |⟨_,h⟩
  ·cases hlv
  ·exact hl.own k hk ⟨b',x',v,z,h,hlv,hz⟩
 ·rintro k o hk (hs |⟨z,hz⟩)
  ·rcases hl.stk k o hk hs with h1 |⟨h1,h2⟩
   ·exact .inl h1
   ·refine .inr ⟨h1,?_⟩;rintro⟨b',x',v,z,h,hlv,hz⟩;rcases f _ _ h with rfl |⟨_,h⟩
    ·cases hlv
    ·exact h2 ⟨b',x',v,z,h,hlv,hz⟩
  ·refine .inr ⟨hl.own k hk ⟨b,_,ak,z,hb,rfl,hz⟩,?_⟩;rintro⟨b',x',v,z',h,hlv,hz'⟩;rcases f _ _ h with rfl |⟨hne,h⟩
   ·cases hlv
   ·exact hne (hi.inj b' b x' _ v ak k z' z h hb hlv rfl hz' hz)
 ·intro b1 hb1;obtain⟨d1,d2⟩:=hl.tI b1 hb1;grind
def NQ(_H0:List ah)(s:St)(p:Pl)(rows:List (List AVal)):Option St:=match tV s p with
 |some (.sl b ak sz 0 _)=>match s.H[b]? with
  |some (.row ver' sz' _)=>match decide (ver'=ak∧sz'=sz)with
   |true=>some (AR {s with H:=s.H.set b .dead} (.ax rows) p)
   |false=>none
  |_=>none
 |_=>none
def Q1(s:St)(p:Pl)(rows:List (List AVal)):Prop:=∃b ak sz,tV s p=some (.sl b ak sz 0 rows.length)∧s.H[b]? =some (.row ak sz rows)∧rows.all AVal.aW=true
theorem Mv[aD]{H0:List ah}{s s':St}{p:Pl}{rows:List (List AVal)}(hok:Q1 s p rows)(h:NQ H0 s p rows=some s'):iN H0 s s':=by
 obtain⟨b,ak,sz,h1,h2,h3⟩:=hok;unfold NQ at h;rw[h1]at h;simp only at h;split at h
 ·rename_i ver' sz' rows' hb;rw[h2]at hb;simp only[Option.some.injEq,ah.row.injEq]at hb;obtain⟨rfl,rfl,rfl⟩:=hb;split at h
  ·simp only[Option.some.injEq]at h;subst h;intro g0 w0 g a w hi0 hl hs;obtain⟨i1,i2,i3⟩:=NP hi0 hs.inv hl h2;have hs1:ff {ai:=g.ai,st:=fun k o=>g.st k o∨∃z,g.ai b ak=some (k,z)} {s with H:=s.H.set b .dead} a w:=⟨i1,bR i3 _ _ hs.tmps,eA i3 _ _ hs.defs⟩
   have key0:∀(l:List AVal) (j:Nat) (y:AVal),AVal.aW l=true→l[j]? =some y→y.pure=true:=by
    intro l;induction l with
    |nil=>intro j y _ h;simp at h
    |cons c cs ih3=>
     grind [AVal.aW]
   have hgp:tV {s with H:=s.H.set b .dead} p=some (.sl b ak sz 0 rows.length):=by
    cases p with
    |s d=>exact h1
    |c d j=>
     simp only[tV]at h1 ⊢;split at h1
     ·grind [ah.row.injEq,AVal.pure]
     ·cases h1
    |b b2 j=>
     grind [tV,ah.row.injEq,AVal.pure]
   obtain⟨q1,q2⟩:=xE hgp hs1 (v':=.ax rows) fun x hx=>by
    simp only[R]at hx ⊢;rcases hx with⟨hn,rfl⟩ |⟨k,cap,e',sz2,hk,rfl,hsh,hcs,hm,hmax⟩
    ·simp_all
    ·obtain⟨k',c,e,r1,r2,r3,r4,r5,r6⟩:=hs.inv.row b ak _ _ h2 hk;rw[hk]at r1;simp at r1;subst r1;refine⟨_,cap,rfl,by omega,.inr ⟨k,0*sz,sz,rfl,AJ fun i r hr=>?_⟩⟩
     obtain⟨t1,t2⟩:=cO _ _ _ _ r3 hr;grind [xB,lF,oV,iL]
   exact⟨_,q1,i2.trans q2⟩
  ·cases h
 ·cases h
end Go.AM
end
section
namespace Go.AM
def jl(n:Nat):List AVal:=List.replicate n .aq
def ap(a b:List AVal):List AVal:=a++b
section
set_option linter.unusedSectionVars false
variable [aD] {P:Program} {cfg:fL} {g:Gh} {H:List ah} {w:World} {fro:Option Nat}
def fH(P:Program)(fro:Option Nat)(g0:Gh)(H0:List ah)(w0:World)[aD](c:Code)(s:St)(Φ:bu→St→Prop):Prop:=
 ∀(Q:Exit→Act→World→Prop) (g:Gh) (a:Act) (w:World),ff g s a w→aU g0 H0 w0 g s.H w→(∀o s',Φ o s'→fG Q g0 H0 w0 s' o)→c.wpIn (Fr fro) 0 P Q a w
variable {g0:Gh} {H0:List ah} {w0:World}
theorem fH.mono{c:Code}{s:St}{Φ Ψ:bu→St→Prop}(h:fH P fro g0 H0 w0 c s Φ)(hp:∀o s',Φ o s'→Ψ o s'):fH P fro g0 H0 w0 c s Ψ:=
 fun Q g a w hs hl hk=>h Q g a w hs hl fun o s' hf=>hk o s' (hp o s' hf)
theorem fH.skip{s:St}{Φ:bu→St→Prop}(h:Φ .normal s):fH P fro g0 H0 w0 .skip s Φ:=
 fun _ g a w hs hl hp=>wpIn_skip (hp _ _ h g a w hs hl)
theorem fH.exit{s:St}{Φ:bu→St→Prop}{id:Nat}(h:Φ (.exit id) s):fH P fro g0 H0 w0 (.exit id) s Φ:=
 fun _ g a w hs hl hp=>wpIn_exit (hp _ _ h g a w hs hl)
theorem fH.ret{s:St}{Φ:bu→St→Prop}(h:Φ .ret s):fH P fro g0 H0 w0 .ret s Φ:=
 fun _ g a w hs hl hp=>wpIn_ret (hp _ _ h g a w hs hl)
def CL:eW→bu×St
 | .ok s=>(.normal,s)
 | .aZ v s=>(.aZ v,s)
theorem fH.region(hm:P.follows .mixedOrders=true){orcs:Nat→kq}(ho:∀k,gM P (orcs k)){id:Nat}{ops:Array Oper}{draw:Bool}{s:St}{r:eW}{Φ:bu→St→Prop}(hcalm:∀(k:Nat) (o:Oper),ops[k]? =some o→Calm fro o)
 (h:uj P cfg orcs ops draw s=some r) (hr:Φ (CL r).1 (CL r).2):fH P fro g0 H0 w0 (.region id ops draw) s Φ:=by
 intro Q g a w hs hl hp;cases r with
 |ok s'=>exact uO hm ho hcalm h hs (qJ.later (r:=.ok s') (hp _ _ hr) hl)
 |aZ v s'=>exact uO hm ho hcalm h hs (qJ.later (r:=.aZ v s') (hp _ _ hr) hl)
theorem fH.seq{a b:Code}{s:St}{Φ:bu→St→Prop}(h:fH P fro g0 H0 w0 a s fun o s'=>match o with | .normal=>fH P fro g0 H0 w0 b s' Φ |o=>Φ o s'):fH P fro g0 H0 w0 (.seq a b) s Φ:=by
 intro Q g x w hs hl hp;refine wpIn_seq (h _ g x w hs hl fun o s' hf=>?_)
 cases o with
 |normal=>exact fun g' a' w' hs' hla=>hf Q g' a' w' hs' hla hp
 |exit id=>exact hp _ _ hf
 |ret=>exact hp _ _ hf
 |aZ v=>exact hp _ _ hf
theorem fH.cond{c:Operand}{a b:Code}{s:St}{Φ:bu→St→Prop}(z:Bool)(hc:cQ s.A c=.sc (.bool z))(h:fH P fro g0 H0 w0 (if z then a else b) s Φ):fH P fro g0 H0 w0 (.cond c a b) s Φ:=by
 intro Q g x w hs hl hp;have hev:=hs.eval c;rw[hc]at hev;simp only[R]at hev;cases z with
 |true=>exact wpIn_cond_true hev (h Q g x w hs hl hp)
 |false=>exact wpIn_cond_false hev (h Q g x w hs hl hp)
def behind(id:Nat):bu→bu
 | .exit id'=>if id'=id then .normal else .exit id'
 |o=>o
theorem fH.block{id:Nat}{b:Code}{s:St}{Φ:bu→St→Prop}(h:fH P fro g0 H0 w0 b s fun o s'=>Φ (behind id o) s'):fH P fro g0 H0 w0 (.block id b) s Φ:=by
 intro Q g x w hs hl hp;refine wpIn_block (h _ g x w hs hl fun o s' hf=>?_)
 cases o with
 |normal=>exact fun g' a' w' hs' hla=>hp _ _ hf g' a' w' hs' hla
 |exit id'=>
  intro g' a' w' hs' hla;by_cases he:id'=id
  ·simp only[behind,he,if_true]at hf;simp only[Exit.inBlock,he,if_true];exact hp _ _ hf g' a' w' hs' hla
  ·simp only[behind,he,if_false]at hf;simp only[Exit.inBlock,he,if_false];exact hp _ _ hf g' a' w' hs' hla
 |ret=>exact fun g' a' w' hs' hla=>hp _ _ hf g' a' w' hs' hla
 |aZ v=>exact fun g' a' w' x hv hs' hla hr=>hp _ _ hf g' a' w' x hv hs' hla hr
theorem fG.weak{Q:Exit→Act→World→Prop}{g0:Gh}{H0:List ah}{w0:World}(hi0:Inv g0 H0 w0){s' s'':St}{o:bu}(hw:iN H0 s' s'')(h:fG Q g0 H0 w0 s'' o):fG Q g0 H0 w0 s' o:=by
 cases o with
 |normal=>exact fun g' a' w' hs hl'=>let⟨g2,h1,h2⟩:=hw g0 w0 g' a' w' hi0 hl' hs;h g2 a' w' h1 h2
 |exit id=>exact fun g' a' w' hs hl'=>let⟨g2,h1,h2⟩:=hw g0 w0 g' a' w' hi0 hl' hs;h g2 a' w' h1 h2
 |ret=>exact fun g' a' w' hs hl'=>let⟨g2,h1,h2⟩:=hw g0 w0 g' a' w' hi0 hl' hs;h g2 a' w' h1 h2
 |aZ v=>exact fun g' a' w' x hv hs hl' hr=>let⟨g2,h1,h2⟩:=hw g0 w0 g' a' w' hi0 hl' hs;h g2 a' w' x hv h1 h2 (k7 _ _ hv hr)
theorem fH.weak(hi0:Inv g0 H0 w0){c:Code}{s s1:St}{Φ:bu→St→Prop}(hw:iN H0 s s1)(h:fH P fro g0 H0 w0 c s1 Φ):fH P fro g0 H0 w0 c s Φ:=by
 intro Q g a w hs hl hp;obtain⟨g2,h1,h2⟩:=hw g0 w0 g a w hi0 hl hs;exact h Q g2 a w h1 h2 hp
theorem fH.loop(hi0:Inv g0 H0 w0){b:Code}{s s0:St}{n:Nat}{Φ:bu→St→Prop}(J:Nat→St→Prop)(h0:∀s,¬J 0 s)(hs0:iN H0 s s0)(hJ:J n s0)
 (hb:∀n s1,J (n+1) s1→fH P fro g0 H0 w0 b s1 fun o s2=>∃s3,iN H0 s2 s3∧match o with | .normal=>J n s3 |o=>Φ o s3):fH P fro g0 H0 w0 (.loop b) s Φ:=by
 intro Q gs a0 ws hs hl hp;have key:∀(n:Nat) (s1:St) (g:Gh) (a:Act) (w:World),J n s1→ff g s1 a w→aU g0 H0 w0 g s1.H w→
  ∀(fr:Frame) (k:List Item) (cs:List Frame),fr.roundOf=(Fr fro).round→∃e a' w',Q e a' w'∧ArrivesIn (Machine.fenced P (Fr fro)) P (lone (fr.atR a (.code b:: .inLoop b::k)) cs w) fr k cs e a' w':=by
  intro n;induction n with
  |zero=>grind
  |succ n ih=>
   intro s1 g a w hj hsim hla fr k cs hfr;have hstep:b.wpIn (Fr fro) 0 P (Exit.then (fun a' w'=>∀(fr:Frame) (k:List Item) (cs:List Frame),fr.roundOf=(Fr fro).round→∃e a2 w2,Q e a2 w2∧ArrivesIn (Machine.fenced P (Fr fro)) P (lone (fr.atR a' (.code b:: .inLoop b::k)) cs w') fr k cs e a2 w2) Q) a w:=by
    refine hb n s1 hj _ g a w hsim hla fun o s2 ⟨s3,hw,hf⟩=>?_
    cases o with
    |normal=>
     intro g' a' w' hs' hla';obtain⟨g2,h1,h2⟩:=hw g0 w0 g' a' w' hi0 hla' hs';exact ih s3 g2 a' w' hf h1 h2
    |exit id=>exact fG.weak hi0 (o:=.exit id) hw (hp _ _ hf)
    |ret=>exact fG.weak hi0 (o:=.ret) hw (hp _ _ hf)
    |aZ v=>exact fG.weak hi0 (o:=.aZ v) hw (hp _ _ hf)
   obtain⟨e,a₁,w₁,hq,harr⟩:=hstep fr (.inLoop b::k) cs hfr trivial (CJ _ _);cases e with
   |normal=>
    obtain⟨e₂,a₂,w₂,hq₂,harr₂⟩:=hq fr k cs hfr;exact⟨e₂,a₂,w₂,hq₂,.of_steps (StepsIn.trans harr (.one (fenced_calm (n:=0) trivial (CJ _ _) rfl) stepR_inLoop)) harr₂⟩
   |exit id=>exact⟨_,a₁,w₁,hq,.pass (x:=.inLoop b) rfl (fun _ _=>.inl (by simp)) harr⟩
   |goto l=>exact⟨_,a₁,w₁,hq,.pass (x:=.inLoop b) rfl (fun _ _=>.inl (by simp)) harr⟩
   |ret=>exact⟨_,a₁,w₁,hq,.pass (x:=.inLoop b) rfl (fun _ _=>.inl (by simp)) harr⟩
   |panic ch=>exact⟨_,a₁,w₁,hq,.pass (x:=.inLoop b) rfl (fun _ _=>.inl (by simp)) harr⟩
   |outgrown=>exact⟨_,a₁,w₁,hq,.pass (x:=.inLoop b) rfl (fun _ _=>.inl (by simp)) harr⟩
 obtain⟨g1,h1,h2⟩:=hs0 g0 w0 gs a0 ws hi0 hl hs;intro fr k cs hfr _ hroom;obtain⟨e,a',w',hq,harr⟩:=key n s0 g1 a0 ws hJ h1 h2 fr k cs hfr;exact⟨e,a',w',hq,.of_steps (.one (fenced_calm trivial hroom rfl) stepR_loop) harr⟩
end
inductive Sh:Type 1 where
 |one (τ:Type)
 |two (a b:Sh)
def Sh.El:Sh→Type
 | .one τ=>τ
 | .two a b=>a.El⊕b.El
def Sh.all:(s:Sh)→(s.El→Prop)→Prop
 | .one _,p=>∀x,p x
 | .two a b,p=>a.all (fun x=>p (.inl x))∧b.all (fun x=>p (.inr x))
theorem Sh.cA:∀(s:Sh) (p:s.El→Prop),s.all p↔∀x,p x
 | .one _,p=>Iff.rfl
 | .two a b,p=>by
  simp only[Sh.all,Sh.cA a,Sh.cA b];exact⟨fun h x=>match x with | .inl y=>h.1 y | .inr y=>h.2 y,fun h=>⟨fun y=>h (.inl y),fun y=>h (.inr y)⟩⟩
namespace AVal
mutual
def xu(b v:Nat):AVal→AVal
 | .sc x=>.sc x
 | .agg cs=>.agg (uQ b v cs)
 | .cM cs=>.cM (uQ b v cs)
 | .ptr _ _ i o=>.ptr b v i o
 | .cq cs o=>.cq cs o
 | .sl _ _ sz o n=>.sl b v sz o n
 | .ax rows=>.ax rows
 | .fn f c d=>.fn f (uQ b v c) (uQ b v d)
 | .gj t a=>.gj t (xu b v a)
 | .mp x=>.mp x
 | .jJ x=>.jJ x
 | .sa _ _ i o s n=>.sa b v i o s n
 | .gQ i o=>.gQ i o
 | .emp=>.emp
 | .nz x=>.nz x
 | .aq=>.aq
def uQ(b v:Nat):List AVal→List AVal
 | []=>[]
 |a::as=>xu b v a::uQ b v as
end
mutual
def tM:AVal→Bool
 | .sc _=>true
 | .agg cs=>ny cs
 | .cM cs=>ny cs
 | .ptr b v .. =>b==0&&v==0
 | .cq .. =>true
 | .sl b v .. =>b==0&&v==0
 | .ax _=>true
 | .fn _ c d=>ny c&&ny d
 | .gj _ a=>tM a
 | .mp _=>false
 | .jJ _=>false
 | .sa b v .. =>b==0&&v==0
 | .gQ _ _=>true
 | .emp=>true
 | .nz _=>true
 | .aq=>true
def ny:List AVal→Bool
 | []=>true
 |a::as=>tM a&&ny as
end
mutual
def but(b:Nat):AVal→AVal
 | .sc x=>.sc x
 | .agg cs=>.agg (yj b cs)
 | .cM cs=>.cM (yj b cs)
 | .ptr c v i o=>match Nat.beq c b with
  |true=>.ptr c v i o
  |false=>.aq
 | .cq cs o=>.cq cs o
 | .sl c v sz o n=>match Nat.beq c b with
  |true=>.sl c v sz o n
  |false=>.aq
 | .ax rows=>.ax rows
 | .fn f c d=>.fn f (yj b c) (yj b d)
 | .gj t a=>.gj t (but b a)
 | .mp _=>.aq
 | .jJ _=>.aq
 | .sa c v i o s n=>match Nat.beq c b with
  |true=>.sa c v i o s n
  |false=>.aq
 | .gQ i o=>.gQ i o
 | .emp=>.emp
 | .nz x=>.nz x
 | .aq=>.aq
def yj(b:Nat):List AVal→List AVal
 | []=>[]
 |a::as=>but b a::yj b as
end
end AVal
def ah.mD:ah→Bool
 | .row ak _ rows=>ak==0&&rows.all AVal.aW
 |_=>false
def ah.mN(v:Nat):ah→ah
 | .row _ sz rows=>.row v sz rows
 |x=>x
def aQ.AU:aQ→Bool
 | .ret v=>v.pure
 | .aZ v=>v.flat
def AVal.y9(b v:Nat):AVal→AVal
 | .sl _ _ sz o n=>.sl b v sz o n
 |u=>u
def aQ.y9(b v:Nat):aQ→aQ
 | .ret u=>.ret (u.y9 b v)
 | .aZ u=>.aZ u
def aQ.Bq:aQ→Bool
 | .ret (.sl b v _ _ _)=>b==0&&v==0
 | .ret u=>u.pure
 | .aZ u=>u.flat
theorem aQ.Mw{r:aQ}(h:r.AU=true):r.Bq=true:=by
 cases r with
 |ret u=>cases u<;>first |exact h |cases h
 |aZ u=>exact h
def kr(P:Program)[aD](f:FuncId)(args:List AVal)(r:aQ):Prop:=
 (∃ fn c, P.funcs[f]? = some fn ∧ fn.body = some c ∧ fn.name ≠ "runtime.NumGoroutine") ∧
 ∀g w (vs:Array Value),Inv g [] w→RL g w args vs.toList→Calls P f vs w (fC g [] w r [])
def bT(P:Program)[aD](f:FuncId)(args:List AVal)(H:List ah)(r:aQ)(H1:List ah):Prop:=
 (∃ fn c, P.funcs[f]? = some fn ∧ fn.body = some c ∧ fn.name ≠ "runtime.NumGoroutine") ∧
 ∀g w (vs:Array Value),Inv g H w→RL g w args vs.toList→Calls P f vs w (fC g H w r H1)
structure wV(P:Program)[aD]:Type 1 where
 f:FuncId
 X:Type
 args:X→List AVal
 heap:X→List ah
 sh:Sh
 out:sh.El→aQ
 iA:X→sh.El→List ah
 S:Nat→X→Option sh.El
 ok:∀n x r,S n x=some r→bT P f (args x) (heap x) (out r) (iA x r)
structure aK(P:Program)[aD]:Type 1 where
 f:FuncId
 X:Type
 args:X→List AVal
 sh:Sh
 out:sh.El→aQ
 S:Nat→X→Option sh.El
 ok:∀n x r,S n x=some r→kr P f (args x) (out r)
structure dN(P:Program)[aD]:Type 1 where
 f:FuncId
 X:Type
 args:X→List AVal
 blk:X→ah
 sh:Sh
 out:sh.El→aQ
 qQ:X→sh.El→ah
 S:Nat→X→Option sh.El
 a0:∀x,AVal.ny (args x)=true
 b0:∀x,(blk x).mD=true
 b1:∀x r,(qQ x r).mD=true∨qQ x r=.dead
 r0:∀r,(out r).Bq=true
 ok:∀n x r,S n x=some r→bT P f (args x) [blk x] (out r) [qQ x r]
structure qx(X:Type) where
 run:Option X
 bz:X→dQ
 ids:List Nat
 sN:aD→Program→fL→Nat→Op→(Operand→AVal)→List ah→Prop
 kR:Prop
 holds:kR
 sound:∀(gl:aD) (P:Program) (cfg:fL) (nid:Nat) (op:Op) (ai:Operand→AVal) (H:List ah),sN gl P cfg nid op ai H→∀x,run=some x→
  (ct P cfg nid ai op).run H=some (.bz (bz x))∧(ct P cfg nid ai op).reads H=ids
structure PU where
 b:Nat
 blk:ah
 pf:qK blk=true
def uR:ah→Bool
 | .row _ _ rows=>rows.all AVal.aW
 | .map _ es=>es.all fun p=>p.1.pure&&p.2.1.pure
 |_=>false
theorem za{x:ah}(h:uR x=true):(∃v sz rows,x=.row v sz rows∧rows.all AVal.aW=true)∨∃c es,x=.map c es∧(es.all fun p=>p.1.pure&&p.2.1.pure)=true:=by
 unfold uR at h;grind
structure PR where
 b:Nat
 blk:ah
 pf:uR blk=true
def PR.ofRow(b ak sz:Nat)(rows:List (List AVal))(pf:rows.all AVal.aW=true):PR:=⟨b,.row ak sz rows,pf⟩
structure FZ where
 p:Pl
 b:Nat
 ak:Nat
 sz:Nat
 n:Nat
 rows:List (List AVal)
 pf:rows.all AVal.aW=true
structure PK where
 b:Nat
 mb:Nat
 n:Nat
 es:List (AVal×AVal×Nat)
 pf:es.length=n∧∀(i:Nat) p,es[i]? =some p→p.2.2=i
structure GK where
 {X:Type}
 l:List X
 m:List X
 enc:X→List AVal
 n:Nat
 bytes:Nat
 b:Nat
 ak:Nat
 len:Nat
def GK.ok(z:GK):Bool:=decide (z.len=z.l.length)&&roomy (z.l.length+z.m.length) z.bytes
def Ex(P:Program)(ST XT:TypeId):Option (Nat×Nat):=
 match P.underlying ST,P.underlying XT with
 |some (.slice e),some (.slice _)=>match P.info? e with
  |some i=>if decide (0<i.size)&&ox i then some (i.size,i.bytes)else none
  |none=>none
 |_,_=>none
structure RW where
 p:Pl
 rows:List (List AVal)
 rows':List (List AVal)
 pf:rows.map nZ=rows'
inductive TS where
 |keep (l:List Nat)
 |wk (p:Pl)
 |own (p:Pl) (sz:Nat)
 |gR (z:FZ)
 |OU (z:RW)
 |cut (bl bump:List Nat) (pu:List PU)
inductive G (P:Program) [aD]:Type→Type 1 where
 |stop {ρ:Type}:G P ρ
 |done {ρ:Type} (ts:List TS) (r:ρ):G P ρ
 |fail {ρ:Type}:G P ρ
 |skip {ρ:Type} (n:Nat) (g:G P ρ):G P ρ
 |br {ρ:Type} (d:Tmp) (c:Bool) (t f:G P ρ):G P ρ
 |Dn {ρ:Type} (d:Tmp) (k:IntKind) (x c:Int) (t f:G P ρ):G P ρ
 |sp {ρ:Type} (c:Bool) (t f:G P ρ):G P ρ
 |op {ρ X:Type} (t:qx X) (k:X→G P ρ):G P ρ
 |call {ρ:Type} (c:aK P) (x:c.X) (k:c.sh.El→G P ρ):G P ρ
 |di {ρ:Type} (c:wV P) (x:c.X) (k:c.sh.El→G P ρ):G P ρ
 |aF {ρ:Type} (c:dN P) (b v:Nat) (ex:List PR) (x:c.X) (k:c.sh.El→G P ρ):G P ρ
 |tidy {ρ:Type} (l:List TS) (g:G P ρ):G P ρ
 |loop {ρ σ:Type} (sh:Sh) (hd:List TS) (E:σ→St) (X:sh.El→bu×St) (a0:σ) (body:σ→G P (σ⊕sh.El)) (k:sh.El→G P ρ):G P ρ
 |nL {ρ:Type} (hs sh:Sh) (hd:List TS) (E:hs.El→St) (X:sh.El→bu×St) (a0:hs.El) (body:hs.El→G P (hs.El⊕sh.El)) (k:sh.El→G P ρ):G P ρ
 |gT {ρ:Type} (n:Nat) (g:G P ρ):G P ρ
 |v7 {ρ:Type} (Q:Prop) (h:Q) (g:G P ρ):G P ρ
 |join {ρ:Type} (sh:Sh) (Y:sh.El→bu×St) (g:G P sh.El) (k:sh.El→G P ρ):G P ρ
 |pick {ρ:Type} (z:PK) (seen:List Nat) (k:Option Nat→G P ρ):G P ρ
 |grow {ρ:Type} (z:GK) (k:Bool→G P ρ):G P ρ
 |inl {ρ:Type} (pr:List PR) (g:G P ρ):G P ρ
def aX:List TS→Bool
 | []=>true
 | .gR z::ts=>decide (z.n=z.rows.length)&&aX ts
 |_::ts=>aX ts
def cE{σ τ:Type}(f:σ→Option (σ⊕τ)):Nat→σ→Option τ
 | 0,_=>none
 |n+1,a=>match f a with
  |some (.inl a')=>cE f n a'
  |some (.inr t)=>some t
  |none=>none
section
variable {P:Program} [aD]
def G.run(n:Nat):{ρ:Type}→G P ρ→Option ρ
 |_,.stop=>none
 |_,.done ts r=>if aX ts then some r else none
 |_,.fail=>none
 |_,.skip _ g=>g.run n
 |_,.br _ c t f=>if c then t.run n else f.run n
 |_,.Dn _ _ x c t f=>if x=c then t.run n else f.run n
 |_,.sp c t f=>if c then t.run n else f.run n
 |_,.op t k=>t.run.bind fun x=>(k x).run n
 |_,.call c x k=>(c.S n x).bind fun r=>(k r).run n
 |_,.di c x k=>(c.S n x).bind fun r=>(k r).run n
 |_,.aF c _ _ _ x k=>(c.S n x).bind fun r=>(k r).run n
 |_,.tidy l g=>if aX l then g.run n else none
 |_,.loop _ hd _ _ a0 body k=>if aX hd then(cE (fun a=>(body a).run n) n a0).bind fun t=>(k t).run n else none
 |_,.nL _ _ hd _ _ a0 body k=>if aX hd then(cE (fun a=>(body a).run n) n a0).bind fun t=>(k t).run n else none
 |_,.gT _ g=>g.run n
 |_,.v7 _ _ g=>g.run n
 |_,.join _ _ g k=>(g.run n).bind fun t=>(k t).run n
 |_,.pick _ _ _=>none
 |_,.grow _ _=>none
 |_,.inl _ g=>g.run n
def K0{σ:Type}{sh:Sh}(E:σ→St)(X:sh.El→bu×St):σ⊕sh.El→Prop
 | .inl a=>(bu.normal,E a)=(bu.normal,E a)
 | .inr t=>X t=X t
def Q2{sh:Sh}(Y:sh.El→bu×St)(t:sh.El):Prop:=Y t=Y t
def DP:List PU→Prop
 | []=>True
 |p::ps=>some p.blk=some p.blk∧DP ps
def AV:List PR→Prop
 | []=>True
 |p::ps=>some p.blk=some p.blk∧AV ps
def nA:List TS→Prop→Prop
 | [],q=>q
 | .keep _::ts,q=>nA ts q
 | .wk _::ts,q=>nA ts q
 | .own _ _::ts,q=>nA ts q
 | .gR z::ts,q=>some (AVal.sl z.b z.ak z.sz 0 z.n)=some (AVal.sl z.b z.ak z.sz 0 z.n)∧some (ah.row z.ak z.sz z.rows)=some (ah.row z.ak z.sz z.rows)∧nA ts q
 | .cut _ _ pu::ts,q=>DP pu∧nA ts q
 | .OU z::ts,q=>some (AVal.ax z.rows)=some (AVal.ax z.rows)∧nA ts q
omit [aD] in
theorem Br:∀(l:List PU),DP l
 | []=>trivial
 |_::ps=>⟨rfl,Br ps⟩
omit [aD] in
theorem wW:∀(l:List PR),AV l
 | []=>trivial
 |_::ps=>⟨rfl,wW ps⟩
omit [aD] in
theorem iM{q:Prop}(h:q):∀(l:List TS),nA l q
 | []=>h
 | .keep _::ts=>iM h ts
 | .wk _::ts=>iM h ts
 | .own _ _::ts=>iM h ts
 | .gR _::ts=>⟨rfl,rfl,iM h ts⟩
 | .cut _ _ pu::ts=>⟨Br pu,iM h ts⟩
 | .OU _::ts=>⟨rfl,iM h ts⟩
def G.fR:{ρ:Type}→(ρ→Prop)→G P ρ→Prop
 |_,_,.stop=>True
 |_,leaf,.done ts r=>nA ts (leaf r)
 |_,_,.fail=>True
 |_,leaf,.skip _ g=>g.fR leaf
 |_,leaf,.br _ c t f=>some (AVal.sc (.bool c))=some (AVal.sc (.bool c))∧t.fR leaf∧f.fR leaf
 |_,leaf,.Dn _ k x _ t f=>some (AVal.sc (.int k x))=some (AVal.sc (.int k x))∧t.fR leaf∧f.fR leaf
 |_,leaf,.sp _ t f=>t.fR leaf∧f.fR leaf
 |_,leaf,.op t k=>some true=some true∧t.kR∧∀x,(k x).fR leaf
 |_,leaf,.call c x k=>some true=some true∧some (c.f,c.args x)=some (c.f,c.args x)∧c.sh.all fun r=>(k r).fR leaf
 |_,leaf,.di c x k=>some true=some true∧some (c.f,c.args x,c.heap x)=some (c.f,c.args x,c.heap x)∧c.sh.all fun r=>(k r).fR leaf
 |_,leaf,.aF c b v ex x k=>some true=some true∧AV ex∧some (c.f,AVal.uQ b v (c.args x),some ((c.blk x).mN v))=some (c.f,AVal.uQ b v (c.args x),some ((c.blk x).mN v))∧c.sh.all fun r=>(k r).fR leaf
 |_,leaf,.tidy l g=>nA l (g.fR leaf)
 |_,leaf,.loop sh hd E X a0 body k=>nA hd (E a0=E a0)∧(∀a,(body a).fR (K0 E X))∧sh.all fun t=>(k t).fR leaf
 |_,leaf,.nL hs sh hd E X a0 body k=>nA hd (E a0=E a0)∧(hs.all fun a=>(body a).fR (K0 E X))∧sh.all fun t=>(k t).fR leaf
 |_,leaf,.gT _ g=>g.fR leaf
 |_,_,.v7 Q _ _=>Q
 |_,leaf,.join sh Y g k=>g.fR (Q2 Y)∧sh.all fun t=>(k t).fR leaf
 |_,leaf,.pick z seen k=>some true=some true∧AVal.ptr z.b 0 0 0=AVal.ptr z.b 0 0 0∧some (ah.iter (.mp z.mb) z.n seen z.n)=some (ah.iter (.mp z.mb) z.n seen z.n)∧some (ah.map z.n z.es)=some (ah.map z.n z.es)∧(k none).fR leaf∧∀i,(k (some i)).fR leaf
 |_,leaf,.grow z k=>some true=some true∧some ah.bt=some ah.bt∧ @Eq Bool true true∧some (z.n,z.bytes)=some (z.n,z.bytes)∧AVal.sl z.b z.ak z.n 0 z.len=AVal.sl z.b z.ak z.n 0 z.len∧some (ah.row z.ak z.n (z.l.map z.enc))=some (ah.row z.ak z.n (z.l.map z.enc))∧some (z.m.map z.enc)=some (z.m.map z.enc)∧(∀_:z.X,z.n=z.n)∧ @Eq Bool false false∧(k true).fR leaf∧(k false).fR leaf
 |_,leaf,.inl pr g=>some true=some true∧AV pr∧g.fR leaf
omit [aD] in
theorem Dp{σ:Type}{sh:Sh}(E:σ→St)(X:sh.El→bu×St):∀r,K0 E X r
 | .inl _=>rfl
 | .inr _=>rfl
theorem G.bZ:∀{ρ:Type} {leaf:ρ→Prop} (_:∀r,leaf r) (g:G P ρ),g.fR leaf
 |_,_,_,.stop=>trivial
 |_,_,h,.done ts r=>iM (h r) ts
 |_,_,_,.fail=>trivial
 |_,_,h,.skip _ g=>G.bZ h g
 |_,_,h,.br _ _ t f=>⟨rfl,G.bZ h t,G.bZ h f⟩
 |_,_,h,.Dn _ _ _ _ t f=>⟨rfl,G.bZ h t,G.bZ h f⟩
 |_,_,h,.sp _ t f=>⟨G.bZ h t,G.bZ h f⟩
 |_,_,h,.op t k=>⟨rfl,t.holds,fun x=>G.bZ h (k x)⟩
 |_,_,h,.call c _ k=>⟨rfl,rfl,(c.sh.cA _).2 fun r=>G.bZ h (k r)⟩
 |_,_,h,.di c _ k=>⟨rfl,rfl,(c.sh.cA _).2 fun r=>G.bZ h (k r)⟩
 |_,_,h,.aF c _ _ ex _ k=>⟨rfl,wW ex,rfl,(c.sh.cA _).2 fun r=>G.bZ h (k r)⟩
 |_,_,h,.tidy l g=>iM (G.bZ h g) l
 |_,_,h,.loop sh hd E X _ body k=>⟨iM rfl hd,fun a=>G.bZ (Dp E X) (body a),(sh.cA _).2 fun t=>G.bZ h (k t)⟩
 |_,_,h,.nL hs sh hd E X _ body k=>⟨iM rfl hd,(hs.cA _).2 fun a=>G.bZ (Dp E X) (body a),(sh.cA _).2 fun t=>G.bZ h (k t)⟩
 |_,_,h,.gT _ g=>G.bZ h g
 |_,_,_,.v7 _ q _=>q
 |_,_,h,.join sh _ g k=>⟨G.bZ (fun _=>rfl) g,(sh.cA _).2 fun t=>G.bZ h (k t)⟩
 |_,_,h,.pick _ _ k=>⟨rfl,rfl,rfl,rfl,G.bZ h (k none),fun i=>G.bZ h (k (some i))⟩
 |_,_,h,.grow _ k=>⟨rfl,rfl,rfl,rfl,rfl,rfl,rfl,fun _=>rfl,rfl,G.bZ h (k true),G.bZ h (k false)⟩
 |_,_,h,.inl pr g=>⟨rfl,wW pr,G.bZ h g⟩
def G.less{ρ:Type}:Nat→G P ρ→G P ρ
 | 0,g=>g
 |n+1,g=>.skip (n+1) g
theorem G.H6{ρ:Type}(n m:Nat)(g:G P ρ):(G.less m g).run n=g.run n:=by cases m<;>simp[G.less,G.run]
end
structure zF(P:Program)[aD] where
 fn:{ρ:Type}→FuncId→List AVal→List ah→G P ρ→(G P ρ→aQ→List ah→Prop)→Prop
 Bo:{ρ:Type}→Nat→List AVal→List ah→G P ρ→(G P ρ→aQ→List ah→Prop)→Prop
 lp:{σ:Type}→{sh:Sh}→Option Nat→List ah→Code→G P (σ⊕sh.El)→(σ→St)→St→(sh.El→bu×St)→Prop
structure Env(P:Program)[aD] where
 cfg:fL
 ro:Option Nat
 N:zF P
 nd:Bool
def Q3(P:Program)[aD]:zF P:=⟨fun _ _ _ _ _=>False,fun _ _ _ _ _=>False,fun _ _ _ _ _ _ _=>False⟩
def K2(P:Program)[aD]{ρ:Type}(f:FuncId)(args:List AVal)(H:List ah)(c:wV P)(x:c.X)(kk:c.sh.El→G P ρ)(k:G P ρ→aQ→List ah→Prop):Prop:=
 some true=some true∧some (f,nZ args,H)=some (c.f,c.args x,c.heap x)∧c.sh.all fun r=>k (kk r) (c.out r) (c.iA x r)
def tN(P:Program)[aD]:zF P:=⟨fun f args H g k=>match g with
 | .di c x kk=>K2 P f args H c x kk k
 |_=>False,fun _ _ _ _ _=>False,fun _ _ _ _ _ _ _=>False⟩
def Env.at{P:Program}[aD](X:Env P)(draw:Bool):Env P:=match draw&&X.nd with
 |true=>{X with N:=tN P}
 |false=>X
inductive Rv (P:Program) [aD] {ρ:Type} (X:Env P) (ops:Array Oper) (n0:Nat) (o:Oper) (nid:Nat) (s:St) (k:G P ρ→eW→gL→Prop) (draw:Bool) (H0:List ah):Prop
inductive P7 (P:Program) [aD] {ρ:Type} (X:Env P) (c:Operand) (a b:Code) (s:St) (k:G P ρ→bu→St→Prop) (H0:List ah):Prop
inductive P8 (P:Program) [aD] {ρ:Type} (X:Env P) (b:Code) (s:St) (k:G P ρ→bu→St→Prop) (H0:List ah):Prop
inductive Po (P:Program) [aD] {ρ:Type} (X:Env P) (f:Operand) (ps:Array Tmp) (assign body:Code) (s:St) (k:G P ρ→bu→St→Prop) (H0:List ah):Prop
inductive Q4 (P:Program) [aD] {ρ:Type} (fn:Func) (o:bu) (s:St) (out:ρ→aQ):Prop
inductive P9 (P:Program) [aD] {ρ:Type} (fn:Func) (o:bu) (s:St) (H0:List ah) (k:G P ρ→List PR→bu→St→Prop):Prop
inductive Qa (P:Program) [aD] {ρ:Type} (b:Nat) (o:bu) (s:St) (H0:List ah) (k:G P ρ→St→Prop):Prop
inductive Qb (P:Program) [aD] {sh:Sh} (H0:List ah) (o:bu) (s:St) (Y:sh.El→bu×St):Prop
inductive Pp (P:Program) [aD] {σ:Type} {sh:Sh} (H0:List ah) (o:bu) (s:St) (E:σ→St) (X:sh.El→bu×St):Prop
inductive Ey (P:Program) [aD] {ρ:Type} (ops:Array Oper) (o:Oper) (s:St) (g:G P ρ):Prop
def v8(keep:List Nat):Nat→List AVal→List AVal
 |_,[]=>[]
 |i,a::as=>(match keep.contains i with |true=>a |false=>.aq)::v8 keep (i+1) as
def Kh:List PU→List ah→Prop
 | [],_=>True
 |p::ps,H=>H[p.b]? =some p.blk∧Kh ps H
def Ki:List PR→List ah→Prop
 | [],_=>True
 |p::ps,H=>H[p.b]? =some p.blk∧Ki ps H
def jU(H0:List ah):List TS→St→(St→Prop)→Prop
 | [],s,k=>k s
 | .keep l::ts,s,k=>iF (v8 l 0 s.A) fun A=>jU H0 ts {s with A:=A} k
 | .wk p::ts,s,k=>match P6 s p with
  |some s=>jU H0 ts s k
  |none=>False
 | .own p sz::ts,s,k=>match NO s p sz with
  |some s=>jU H0 ts s k
  |none=>False
 | .gR z::ts,s,k=>tV s z.p=some (.sl z.b z.ak z.sz 0 z.n)∧s.H[z.b]? =some (.row z.ak z.sz z.rows)∧match NQ H0 s z.p z.rows with
  |some s=>jU H0 ts s k
  |none=>False
 | .OU z::ts,s,k=>tV s z.p=some (.ax z.rows)∧jU H0 ts (AR s (.ax z.rows') z.p) k
 | .cut bl bump pu::ts,s,k=>Kh pu s.H∧match NK bl bump (pu.map (·.b)) H0 s with
  |some ⟨A,H,D⟩=>iF A fun A=>iF H fun H=>jU H0 ts ⟨A,H,D⟩ k
  |none=>False
section
variable {P:Program} [aD]
def oR{ρ:Type}:G P ρ→St→(G P ρ→St→Prop)→Prop
 | .br d c t f,s,k=>s.A[d]? =some (.sc (.bool c))∧(AF s.A d (.sc (.bool true)) fun A=>oR t {s with A:=A} k)∧(AF s.A d (.sc (.bool false)) fun A=>oR f {s with A:=A} k)
 | .Dn d ik x c t f,s,k=>s.A[d]? =some (.sc (.int ik x))∧(AF s.A d (.sc (.int ik c)) fun A=>oR t {s with A:=A} k)∧oR f s k
 | .sp _ t f,s,k=>oR t s k∧oR f s k
 | .fail,_,_=>True
 |g,s,k=>k g s
def vA:kq:=⟨fun _ _ _=>none,fun _ _ _=>none⟩
def K3(r:Option (aQ×List ah)):kq:=⟨fun _ _ _=>r,fun _ _ _=>none⟩
def K4(H:List ah):Option Pre→Option (FuncId×List AVal×List ah)
 |some (.lI f args ids)=>some (f,nZ args,mask ids H)
 |_=>none
def CM(ids:List Nat):List Nat→Bool
 | []=>true
 |c::cs=>ids.contains c&&CM ids cs
def zb:List Nat→List Nat→List Nat
 | [],seen=>seen
 |b::todo,seen=>match seen.contains b with
  |true=>zb todo seen
  |false=>zb todo (b::seen)
def vB:List Nat→List Nat→List Nat
 | [],_=>[]
 |b::todo,seen=>match seen.contains b with
  |true=>vB todo seen
  |false=>b::vB todo (b::seen)
def sw(P:Program)[aD](cfg:fL)(ids:List Nat)(ai:Operand→AVal):Op→Option (FuncId×List AVal×List Nat×List Nat)
 | .call {callee:=.value f,args:=args,.. }=>match ai f with
  | .fn (.func n) p q=>match P.funcs[n]? with
   |some fn=>match fn.body.isNone||cfg.val n||cfg.fz n with
    |false=>
     let l:=AVal.oP (p++args.toList.map ai++q)
     match CM ids l&&Nat.ble l.length 900 with
     |true=>some (n,p++args.toList.map ai++q,zb l [],vB l [])
     |false=>none
    |true=>none
   |none=>none
  |_=>none
 |_=>none
def NR(H:List ah)(b:Nat):Option (FuncId×List AVal×List Nat×List Nat)→Option (FuncId×List AVal×Option ah)
 |some (f,args,ids,_)=>match ids.contains b with
  |true=>some (f,AVal.yj b (nZ args),H[b]?)
  |false=>none
 |none=>none
def CN:Option (FuncId×List AVal×List Nat×List Nat)→List Nat×List Nat
 |some (_,_,ids,rs)=>(ids,rs)
 |none=>([],[])
def H7:Option Pre→Option (FuncId×List AVal)
 |some (.CG f args _)=>some (f,nZ args)
 |_=>none
def sy(pr:List Nat)(H:List ah):Nat→List Nat→List Nat→Option (List Nat×List Nat)
 |_,[],seen=>some (seen,[])
 | 0,_::_,_=>none
 |n+1,b::todo,seen=>match seen.contains b with
  |true=>sy pr H n todo seen
  |false=>match pr.contains b with
   |true=>(sy pr H n todo (b::seen)).map fun p=>(p.1,b::p.2)
   |false=>match H[b]? with
    |some (.row _ _ rows)=>(sy pr H n ((if rows.all AVal.aW then[]else AVal.oP rows.flatten)++todo) (b::seen)).map fun p=>(p.1,b::p.2)
    |some (.loop _ _ _ A _ _ _)=>(sy pr H n (AVal.oP A++todo) (b::seen)).map fun p=>(p.1,b::p.2)
    |some (.iter m _ _ _)=>(sy pr H n (AVal.refs m++todo) (b::seen)).map fun p=>(p.1,b::p.2)
    |some _=>(sy pr H n todo (b::seen)).map fun p=>(p.1,b::p.2)
    |none=>none
def DQ(P:Program)[aD](cfg:fL)(pr:List Nat)(ai:Operand→AVal)(op:Op)(H:List ah):Option ((FuncId⊕Nat)×List AVal×List Nat×List Nat):=
 match op with
 | .call {callee:=.value f,args:=args,.. }=>match ai f with
  | .fn (.func n) p q=>match P.funcs[n]? with
   |some fn=>match fn.body.isNone||cfg.val n||cfg.fz n with
    |false=>match sy pr H 1000 (AVal.oP (p++args.toList.map ai++q)) []with
     |some (ids,rs)=>some (.inl n,p++args.toList.map ai++q,ids,rs)
     |none=>none
    |true=>none
   |none=>none
  | .jJ b=>match sy pr H 1000 (b::AVal.oP (args.toList.map ai)) []with
   |some (ids,rs)=>some (.inr b,args.toList.map ai,ids,rs)
   |none=>none
  |_=>none
 |_=>none
def BW(ids:List Nat)(H:List ah)(a:aQ)(H1:List ah)(k:dQ→List Nat→Bool→Prop)(kp:AVal→Prop):Prop:=
 match a with
 | .ret v=>match Nat.beq H1.length H.length with
  |true=>k {val:=v,eG:=ids.map fun i=>(i,H1.getD i .dead)} ids false
  |false=>match fP H ids (some (.ret v,H1))with
   |some (.ok e)=>Fq e fun e=>k e (e.eG.map (·.1)) (!e.news.isEmpty)
   |_=>False
 | .aZ v=>match v.flat with
  |true=>kp v
  |false=>False
def rD{ρ:Type}(P:Program)[gl:aD](X:Env P)(draw:Bool)(H0:List ah)(ops:Array Oper)(n0:Nat)(o:Oper)(nid:Nat)(g:G P ρ)(s:St)(k:G P ρ→eW→gL→Prop):Prop:=
 match g with
 | .skip (n+1) g'=>match fQ P X.cfg vA ops n0 o nid s with
  |some (r,f)=>k (G.less n g') r f
  |none=>Ey P ops o s g'
 | .op t kk=>jk ops s.A o=some true∧t.sN gl P X.cfg nid o.op (cQ s.A) s.H∧∀x,Fq (t.bz x) fun e=>sU s.A o.dst e.val fun A=>qv e s.H fun H=>
  k (kk x) (.ok {s with A:=A,H:=H}) (iG n0 t.ids (.bz e) (e.eG.map (·.1)) (!e.news.isEmpty))
 | .call c x kk=>jk ops s.A o=some true∧H7 ((ct P X.cfg nid (cQ s.A) o.op).run s.H)=some (c.f,c.args x)∧
  c.sh.all fun r=>match fQ P X.cfg (K3 (some (c.out r,[]))) ops n0 o nid s with
   |some (r',f)=>k (kk r) r' f
   |none=>Ey P ops o s (kk r)
 | .di c x kk=>jk ops s.A o=some true∧K4 s.H ((ct P X.cfg nid (cQ s.A) o.op).run s.H)=some (c.f,c.args x,c.heap x)∧
  c.sh.all fun r=>match fQ P X.cfg (K3 (some (c.out r,c.iA x r))) ops n0 o nid s with
   |some (r',f)=>k (kk r) r' f
   |none=>Ey P ops o s (kk r)
 | .aF c b v ex x kk=>jk ops s.A o=some true∧Ki ex s.H∧NR s.H b (sw P X.cfg (b::ex.map (·.b)) (cQ s.A) o.op)=some (c.f,AVal.uQ b v (c.args x),some ((c.blk x).mN v))∧
  c.sh.all fun r=>match c.out r with
   | .ret u=>sU s.A o.dst (u.y9 b v) fun A=>qv {val:=u.y9 b v,eG:=[(b,(c.qQ x r).mN v)]} s.H fun H=>k (kk r) (.ok {s with A:=A,H:=H})
    (iG n0 (CN (sw P X.cfg (b::ex.map (·.b)) (cQ s.A) o.op)).2 (.lI 0 [] []) (CN (sw P X.cfg (b::ex.map (·.b)) (cQ s.A) o.op)).1 false)
   | .aZ u=>k (kk r) (.aZ u {s with H:=(CN (sw P X.cfg (b::ex.map (·.b)) (cQ s.A) o.op)).1.foldl (fun H i=>H.set i .dead) s.H})
    (iG n0 (CN (sw P X.cfg (b::ex.map (·.b)) (cQ s.A) o.op)).2 (.lI 0 [] []) (CN (sw P X.cfg (b::ex.map (·.b)) (cQ s.A) o.op)).1 false)
 | .inl pr g'=>jk ops s.A o=some true∧Ki pr s.H∧match DQ P X.cfg (pr.map (·.b)) (cQ s.A) o.op s.H with
  |some (.inl f,args,ids,rs)=>uI (mask ids s.H) fun Hm=>X.N.fn f args Hm g' fun g2 a H1=>BW ids s.H a H1 (fun e ws nw=>sU s.A o.dst e.val fun A=>qv e s.H fun H=>k g2 (.ok {s with A:=A,H:=H}) (iG n0 rs (.lI 0 [] []) ws nw))
   (fun v=>k g2 (.aZ v {s with H:=ids.foldl (fun H i=>H.set i .dead) s.H}) (iG n0 rs (.lI 0 [] []) ids false))
  |some (.inr b,args,ids,rs)=>uI (mask ids s.H) fun Hm=>X.N.Bo b args Hm g' fun g2 a H1=>BW ids s.H a H1 (fun e ws nw=>sU s.A o.dst e.val fun A=>qv e s.H fun H=>k g2 (.ok {s with A:=A,H:=H}) (iG n0 rs (.lI 0 [] []) ws nw))
   (fun v=>k g2 (.aZ v {s with H:=ids.foldl (fun H i=>H.set i .dead) s.H}) (iG n0 rs (.lI 0 [] []) ids false))
  |none=>Ey P ops o s g'
 | .pick z seen kk=>match draw with
  |true=>False
  |false=>(match o.op with
   | .next it false=>jk ops s.A o=some true∧(cQ s.A it=.ptr z.b 0 0 0∧s.H[z.b]? =some (.iter (.mp z.mb) z.n seen z.n)∧s.H[z.mb]? =some (.map z.n z.es)∧
    (sU s.A o.dst (.cM [.sc (.bool false)]) fun A=>k (kk none) (.ok {s with A:=A}) ⟨[],[]⟩)∧
    ∀i,sU s.A o.dst (.cM [.sc (.bool true),.aq,.aq]) fun A=>qv {val:=nothing,eG:=[(z.b,.iter (.mp z.mb) z.n (seen++[i]) z.n)]} s.H fun H=>k (kk (some i)) (.ok {s with A:=A,H:=H}) ⟨[],[]⟩)
   |_=>False)
 | .grow z kk=>match draw with
  |true=>False
  |false=>(match o.op with
   | .call {callee:=.builtin .append,args:=args,argTypes:=ats}=>match ats[0]?,ats[1]?,args[0]?,args[1]? with
    |some ST,some XT,some sx,some x=>jk ops s.A o=some true∧s.H[nid]? =some .bt∧decide (args.size=2)=true∧Ex P ST XT=some (z.n,z.bytes)∧cQ s.A sx=.sl z.b z.ak z.n 0 z.len∧s.H[z.b]? =some (.row z.ak z.n (z.l.map z.enc))∧
     (elems (cQ s.A x)).run s.H=some (z.m.map z.enc)∧(∀x,(z.enc x).length=z.n)∧z.m.isEmpty=false∧
     (sU s.A o.dst (.sl z.b z.ak z.n 0 (z.l++z.m).length) fun A=>qv {val:=nothing,eG:=[(z.b,.row z.ak z.n ((z.l++z.m).map z.enc))]} s.H fun H=>k (kk true) (.ok {s with A:=A,H:=H}) ⟨[],[]⟩)∧
     (sU s.A o.dst (.sl nid 0 z.n 0 (z.l++z.m).length) fun A=>qv {val:=nothing,eG:=[(nid,.row 0 z.n ((z.l++z.m).map z.enc))]} s.H fun H=>k (kk false) (.ok {s with A:=A,H:=H}) ⟨[],[]⟩)
    |_,_,_,_=>False
   |_=>False)
 | .fail=>True
 | .stop=>Rv P X ops n0 o nid s k draw H0
 |g=>Ey P ops o s g
def xF{ρ:Type}(P:Program)[gl:aD](X:Env P)(draw:Bool)(H0:List ah)(ops:Array Oper)(n0:Nat)(o:Oper)(nid:Nat)(g:G P ρ)(s:St)(k:G P ρ→eW→gL→Prop):Prop:=
 match g with
 | .tidy l g'=>match draw with
  |true=>False
  |false=>jU H0 l s fun s'=>rD P X draw H0 ops n0 o nid g' s' k
 |g=>rD P X draw H0 ops n0 o nid g s k
def zG{ρ:Type}(P:Program)[aD](X:Env P)(draw:Bool)(H0:List ah)(ops:Array Oper)(n0:Nat):List (Oper×Nat)→G P ρ→St→(G P ρ→eW→List gL→Prop)→Prop
 | [],g,s,k=>k g (.ok s) []
 | (o,nid)::rest,g,s,k=>oR g s fun g s=>xF P X draw H0 ops n0 o nid g s fun g r f=>match r with
  | .ok ⟨A,H,D⟩=>iF A fun A=>iF H fun H=>iF D fun D=>zG P X draw H0 ops n0 rest g ⟨A,H,D⟩ fun g r fs=>k g r (f::fs)
  | .aZ v s'=>k g (.aZ v s') [f]
def sA{ρ:Type}(P:Program)[aD](X:Env P)(H0:List ah)(ops:Array Oper)(draw:Bool)(g:G P ρ)(s:St)(k:G P ρ→eW→Prop):Prop:=
 kj (nh ops.toList) fun c=>kj (if c=0 then 0 else pV s.H) fun t=>kj (c - t) fun m=>
 Ef s.H (List.replicate m .bt) fun H1=>
 kj H1.length fun n0=>zG P X draw H0 ops n0 (numbered (s.H.length - t) ops.toList) g {s with H:=H1} fun g r feet=>
  if !draw then k g r else
  if vt ops&&feet.length==ops.size&&indep ops (CheckFast.beforeF ops) feet then
   match r with
   | .ok s'=>k g (.ok s')
   | .aZ v s'=>if feet.all (fun f=>f.writes.isEmpty)then k g (.aZ v {s' with A:=ops.toList.foldl (fun A o=>iz A o.dst .aq) s'.A})else False
  else False
def DR{ρ:Type}(H0:List ah)(g:G P ρ)(s:St)(k:G P ρ→St→Prop):Prop:=match g with
 | .tidy l g'=>jU H0 l s fun s'=>k g' s'
 |g=>k g s
def CO{ρ:Type}(f:G P ρ→St→(G P ρ→bu→St→Prop)→Prop):Nat→G P ρ→St→(G P ρ→bu→St→Prop)→Prop
 | 0,_,_,_=>False
 |n+1,g,s,k=>f g s fun g o s'=>match o with
  | .normal=>CO f n g s' k
  |o=>k g o s'
def pg{σ:Type}{sh:Sh}(H0:List ah)(E:σ→St)(X:sh.El→bu×St)(g:G P (σ⊕sh.El))(o:bu)(s:St):Prop:=
 match g with
 | .done ts (.inl a)=>jU H0 ts s fun s'=>(o,s')=(bu.normal,E a)
 | .done ts (.inr t)=>match o with
  | .normal=>False
  |o=>jU H0 ts s fun s'=>(o,s')=X t
 | .fail=>True
 |_=>Pp P H0 o s E X
def CP{sh:Sh}(H0:List ah)(Y:sh.El→bu×St)(g:G P sh.El)(o:bu)(s:St):Prop:=
 match g with
 | .done ts t=>jU H0 ts s fun s'=>(o,s')=Y t
 | .fail=>True
 |_=>Qb P H0 o s Y
def CQ{ρ:Type}(P:Program)[aD](X:Env P)(H0:List ah)(c:Operand)(a b:Code)(wa wb:G P ρ→St→(G P ρ→bu→St→Prop)→Prop)(g:G P ρ)(s:St)(k:G P ρ→bu→St→Prop):Prop:=
 DR H0 g s fun g s=>oR g s fun g s=>match g with
  | .skip (n+1) g=>match cQ s.A c with
   | .sc (.bool true)=>wa (G.less n g) s k
   | .sc (.bool false)=>wb (G.less n g) s k
   |_=>False
  | .fail=>True
  |_=>P7 P X c a b s k H0
def Ae{ρ:Type}(id:Nat)(k:G P ρ→bu→St→Prop)(g:G P ρ)(o:bu)(s':St):Prop:=match o with
 | .exit id'=>if id'=id then k g .normal s' else k g (.exit id') s'
 |o=>k g o s'
def xG(P:Program)[aD](cfg:fL)(L:Nat)(fn:Func)(m:Option AVal)(s:St):Option (aQ×List ah):=
 match leave P cfg vA L s.D m s.H with
 |some (m',H')=>match ending P fn s.A m' H' with
  |some (.ret v,H1)=>some (.ret (jK v),H1)
  |some (.aZ v,H1)=>match v.flat with
   |true=>some (.aZ v,H1)
   |false=>none
  |none=>none
 |none=>none
def rE(P:Program)[aD](cfg:fL)(L:Nat)(fn:Func)(o:bu)(s:St):Option (aQ×List ah):=
 match o with
 | .normal=>xG P cfg L fn none s
 | .ret=>xG P cfg L fn none s
 | .aZ v=>xG P cfg L fn (some v) s
 | .exit _=>none
def CR{σ:Type}{sh:Sh}(N:zF P)(ro:Option Nat)(H0:List ah)(b:Code)(E:σ→St)(s:St)(Y:sh.El→bu×St)(g:G P (σ⊕sh.El))(f:G P (σ⊕sh.El)→Prop):Prop:=
 match g with
 | .v7 _ _ g=>N.lp ro H0 b g E s Y
 |g=>f g
def jR(P:Program)[aD](X:Env P)(H0:List ah):Code→{ρ:Type}→G P ρ→St→(G P ρ→bu→St→Prop)→Prop
 | .skip,_,g,s,k=>k g .normal s
 | .region _ ops draw,_,g,s,k=>match X.ro.isSome&&ops.toList.any z7 with
  |true=>False
  |false=>DR H0 g s fun g s=>sA P (X.at draw) H0 ops draw g s fun g r=>match r with
   | .ok s'=>k g .normal s'
   | .aZ v s'=>k g (.aZ v) s'
 | .seq a b,_,g,s,k=>jR P X H0 a g s fun g o s'=>match o with
  | .normal=>jR P X H0 b g s' k
  |o=>k g o s'
 | .cond c a b,_,g,s,k=>match g with
  | .join sh Y g1 kk=>CQ P X H0 c a b (fun g s k=>jR P X H0 a g s k) (fun g s k=>jR P X H0 b g s k) g1 s (CP H0 Y)∧sh.all fun t=>k (kk t) (Y t).1 (Y t).2
  |g=>CQ P X H0 c a b (fun g s k=>jR P X H0 a g s k) (fun g s k=>jR P X H0 b g s k) g s k
 | .block id b,_,g,s,k=>match g with
  | .join sh Y g1 kk=>jR P X H0 b g1 s (Ae id (CP H0 Y))∧sh.all fun t=>k (kk t) (Y t).1 (Y t).2
  |g=>jR P X H0 b g s (Ae id k)
 | .loop b,_,g,s,k=>match g with
  | .gT n g=>CO (fun g s k=>jR P X H0 b g s k) n g s k
  | .loop sh hd E Y a0 body kk=>(jU H0 hd s fun s'=>s'=E a0)∧(∀a,CR X.N X.ro H0 b E (E a) Y (body a) fun g=>jR P X H0 b g (E a) (pg H0 E Y))∧sh.all fun t=>k (kk t) (Y t).1 (Y t).2
  | .nL hs sh hd E Y a0 body kk=>(jU H0 hd s fun s'=>s'=E a0)∧(hs.all fun a=>CR X.N X.ro H0 b E (E a) Y (body a) fun g=>jR P X H0 b g (E a) (pg H0 E Y))∧sh.all fun t=>k (kk t) (Y t).1 (Y t).2
  | .fail=>True
  |_=>P8 P X b s k H0
 | .exit id,_,g,s,k=>k g (.exit id) s
 | .ret,_,g,s,k=>k g .ret s
 | .rangeFunc f ps assign body,_,g,s,k=>DR H0 g s fun g s=>match g with
  | .inl pr g=>(some true=some true)∧match cQ s.A f with
   | .fn (.func n) p q=>match BN X.ro 0 ps assign body s with
    |some (l,H1,D1)=>iF H1 fun H1=>Ki pr H1∧match sy (pr.map (·.b)) H1 1000 (AVal.oP (p++[.jJ l]++q)) []with
     |some (ids,_)=>uI (mask ids H1) fun Hm=>X.N.fn n (p++[.jJ l]++q) Hm g fun g2 a H2=>BW ids H1 a H2
      (fun e _ _=>qv e H1 fun H3=>match HM l D1 s H3 with
       |some (out,s')=>k g2 out s'
       |none=>False)
      (fun v=>k g2 (.aZ v) {s with H:=ids.foldl (fun H i=>H.set i .dead) H1,D:=D1})
     |none=>False
    |none=>False
   |_=>False
  | .fail=>True
  |_=>Po P X f ps assign body s k H0
 |_,_,_,_,_=>False
def DS(pr:List Nat)(n:Nat):Nat→List ah→Bool
 |_,[]=>true
 |i,x::xs=>(match pr.contains i with
  |true=>true
  |false=>vX n x)&&DS pr n (i+1) xs
def aQ.gH(n:Nat):aQ→Bool
 | .ret v=>v.gH n
 | .aZ _=>true
def OV(pr:List PR)(n:Nat)(a:aQ)(H1:List ah)(k:aQ→List ah→Prop):Prop:=
 Ki pr H1∧match a.gH n&&DS (pr.map (·.b)) n 0 (H1.take n)with
  |true=>iF (H1.take n) fun H=>k a H
  |false=>k a H1
def NS{ρ:Type}(P:Program)[aD](cfg:fL)(fn:Func)(H0:List ah)(g:G P ρ)(o:bu)(s:St)(k:G P ρ→aQ→List ah→Prop):Prop:=
 match g with
 | .tidy ts (.inl pr g)=>jU H0 ts s fun s=>match rE P cfg 10 fn o s with
  |some (a,H1)=>(some true=some true)∧OV pr H0.length a H1 (k g)
  |none=>False
 | .fail=>True
 |_=>P9 P fn o s H0 fun g pr o s=>match rE P cfg 10 fn o s with
  |some (a,H1)=>OV pr H0.length a H1 (k g)
  |none=>False
def OW(P:Program)[aD](cfg:fL)(nd:Bool)(N:zF P){ρ:Type}(f:FuncId)(args:List AVal)(H:List ah)(g:G P ρ)(k:G P ρ→aQ→List ah→Prop):Prop:=
 match g with
 | .di c x kk=>K2 P f args H c x kk k
 |g=>match P.funcs[f]? with
  |some fn=>match fn.body with
   |some c=>jR P ⟨cfg,none,N,nd⟩ H c g ⟨mM fn.ntmps args,H,[]⟩ fun g o s=>NS P cfg fn H g o s k
   |none=>False
  |none=>False
def NT{ρ:Type}(P:Program)[aD](b:Nat)(H0:List ah)(g:G P ρ)(o:bu)(s:St)(k:G P ρ→aQ→List ah→Prop):Prop:=
 match rA o with
 |some j=>match g with
  | .tidy ts g=>jU H0 ts s fun s=>match marked b (if j.isNone then .ready else .done) j s.H with
   |some H2=>k g (.ret (.sc (.bool j.isNone))) H2
   |none=>False
  | .fail=>True
  |_=>Qa P b o s H0 fun g s=>match marked b (if j.isNone then .ready else .done) j s.H with
   |some H2=>k g (.ret (.sc (.bool j.isNone))) H2
   |none=>False
 |none=>False
def NU(P:Program)[aD](cfg:fL)(nd:Bool)(N:zF P){ρ:Type}(b:Nat)(args:List AVal)(H:List ah)(g:G P ρ)(k:G P ρ→aQ→List ah→Prop):Prop:=
 match H[b]? with
 |some (.loop _ _ _ A ps assign body)=>match Nat.beq ps.length args.length with
  |true=>jR P ⟨cfg,some b,N,nd⟩ H assign g ⟨tj A ps args,H,[]⟩ fun g o s1=>match o with
   | .normal=>match s1.H[b]? with
    |some (.loop .ready pend1 fid1 A1 ps1 as1 bd1)=>iF (s1.H.set b (.loop .busy pend1 fid1 A1 ps1 as1 bd1)) fun H1=>
     jR P ⟨cfg,some b,N,nd⟩ H body g {s1 with H:=H1} fun g o s2=>NT P b H g o s2 k
    |_=>False
   |_=>False
  |false=>False
 |_=>False
inductive Mx (P:Program) [aD] (cfg:fL) (nd:Bool) (N:zF P) (ro:Option Nat) (H0:List ah) (b:Code) {σ:Type} {sh:Sh} (g:G P (σ⊕sh.El)) (E:σ→St) (s:St) (Y:sh.El→bu×St):Prop
 |mk (h:jR P ⟨cfg,ro,N,nd⟩ H0 b g s (pg H0 E Y)):Mx P cfg nd N ro H0 b g E s Y
def kS(P:Program)[aD](cfg:fL)(nd:Bool):Nat→zF P
 | 0=>Q3 P
 |n+1=>⟨OW P cfg nd (kS P cfg nd n),NU P cfg nd (kS P cfg nd n),fun ro H0 b g E s Y=>Mx P cfg nd (kS P cfg nd n) ro H0 b g E s Y⟩
def K5(P:Program)[aD](cfg:fL):Env P:=⟨cfg,none,kS P cfg false 9,false⟩
def Qc(P:Program)[aD](cfg:fL):Env P:=⟨cfg,none,kS P cfg true 9,true⟩
end
end Go.AM
end
section
namespace Go.AM
section
set_option linter.unusedSectionVars false
variable [aD] {P:Program} {g g':Gh} {w:World}
theorem BX(hst:∀k o,g.st k o→g'.st k o){c:Array Value}:∀(l:List AVal) (o:Nat),AVal.aW l=true→dU g w c l o→dU g' w c l o
 | [],_,_,_=>trivial
 |a::as,o,hp,h=>by
  simp only[AVal.aW,Bool.and_eq_true]at hp;obtain⟨⟨y,h1,h2,h3⟩,h4⟩:=h;exact⟨⟨y,h1,h2,k6 hst a y hp.1 h3⟩,BX hst as (o+1) hp.2 h4⟩
theorem tA(hst:∀k o,g.st k o→g'.st k o){c:Array Value}{sz:Nat}:∀(l:List (List AVal)) (o:Nat),l.all AVal.aW=true→gw g w c sz l o→gw g' w c sz l o
 | [],_,_,_=>trivial
 |r::rs,o,hp,h=>by
  simp only[List.all_cons,Bool.and_eq_true]at hp;exact⟨⟨h.1.1,BX hst r o hp.1 h.1.2⟩,tA hst rs (o+sz) hp.2 h.2⟩
mutual
theorem OX{b v:Nat}(hst:∀k o,g.st k o→g'.st k o)(hrho:∀x,g.ai b v=some x→g'.ai 0 0=some x):∀(a:AVal) (x:Value),a.tM=true→R g w (a.xu b v) x→R g' w a x
 | .sc _,x,_,hr=>by simpa[R,AVal.xu]using hr
 | .agg cs,x,hp,hr=>by
  simp only[R,AVal.tM,AVal.xu]at hr hp ⊢;obtain⟨vs,e,h1,hl⟩:=hr;exact⟨vs,e,h1,yl hst hrho cs vs hp hl⟩
 | .cM cs,x,hp,hr=>by
  simp only[R,AVal.tM,AVal.xu]at hr hp ⊢;obtain⟨vs,e,hl⟩:=hr;exact⟨vs,e,yl hst hrho cs vs hp hl⟩
 | .ptr b' v' i o,x,hp,hr=>by
  grind [R,AVal.tM,AVal.xu]
 | .cq cs o,x,_,hr=>by
  grind [R,AVal.xu,kI]
 | .sl b' v' sz o n,x,hp,hr=>by
  grind [R,AVal.tM,AVal.xu]
 | .ax rows,x,_,hr=>k6 hst _ x rfl (by simpa only[AVal.xu]using hr)
 | .fn f c d,x,hp,hr=>by
  simp only[R,AVal.tM,AVal.xu,Bool.and_eq_true]at hr hp ⊢;obtain⟨va,vb,e,h1,h2⟩:=hr;exact⟨va,vb,e,yl hst hrho c va hp.1 h1,yl hst hrho d vb hp.2 h2⟩
 | .gj t a,x,hp,hr=>by
  simp only[R,AVal.tM,AVal.xu]at hr hp ⊢;obtain⟨y,e,h1⟩:=hr;exact⟨y,e,OX hst hrho a y hp h1⟩
 | .mp _,_,hp,_=>by simp[AVal.tM]at hp
 | .jJ _,_,hp,_=>by simp[AVal.tM]at hp
 | .sa b' v' i o s n,x,hp,hr=>by
  grind [R,AVal.tM,AVal.xu]
 | .gQ i o,x,_,hr=>by simpa[R,AVal.xu]using hr
 | .emp,x,_,hr=>by simpa[R,AVal.xu]using hr
 | .nz _,x,_,hr=>by simpa[R,AVal.xu]using hr
 | .aq,x,_,_=>by simp[R]
theorem yl{b v:Nat}(hst:∀k o,g.st k o→g'.st k o)(hrho:∀x,g.ai b v=some x→g'.ai 0 0=some x):∀(a:List AVal) (x:List Value),AVal.ny a=true→RL g w (AVal.uQ b v a) x→RL g' w a x
 | [],x,_,hr=>by simpa[RL,AVal.uQ]using hr
 |a::as,x,hp,hr=>by
  simp only[RL,AVal.ny,AVal.uQ,Bool.and_eq_true]at hr hp ⊢;obtain⟨y,ys,e,h1,h2⟩:=hr;exact⟨y,ys,e,OX hst hrho a y hp.1 h1,yl hst hrho as ys hp.2 h2⟩
end
theorem ym{x:ah}(h:x.mD=true):∃sz rows,x=.row 0 sz rows∧rows.all AVal.aW=true:=by
 unfold ah.mD at h;grind
open Classical in
theorem bT.move{f:FuncId}{args:List AVal}{x x':ah}{r:aQ}(h:bT P f args [x] r [x'])(ha:AVal.ny args=true)(hx:x.mD=true)(hx':x'.mD=true)(hr:r.Bq=true)
 (b v:Nat) (H:List ah) (hb:H[b]? =some (x.mN v)) (hd:∀b',b'≠b→∀y,H[b']? =some y→y=.dead):bT P f (AVal.uQ b v args) H (r.y9 b v) (H.set b (x'.mN v)):=by
 obtain⟨sz,rows,rfl,hp⟩:=ym hx;obtain⟨sz',rows',rfl,hp'⟩:=ym hx';simp only[ah.mN]at hb ⊢;have hblt:b<H.length:=(List.getElem?_eq_some_iff.1 hb).1;refine⟨h.1,fun g w vs hi hl=>?_⟩
 let g':Gh:=⟨fun b' v'=>if b'=0∧v'=0 then g.ai b v else none,g.st⟩
 have h00:g'.ai 0 0=g.ai b v:=by simp[g']
 have hno:∀b' v',¬(b'=0∧v'=0)→g'.ai b' v'=none:=fun b' v' hc=>by simp[g',hc]
 have hst:∀k o,g.st k o→g'.st k o:=fun _ _ h=>h
 have hi':Inv g' [.row 0 sz rows] w:=by
  refine⟨fun b' y hy=>?_,fun b1 b2 y1 y2 v1 v2 k z z' e1 e2 _ _ _ _=>?_,fun b' v' hc=>?_,fun b' y v1 v2 hy hv hlt=>?_,fun b' y v1 k z o hy hv hk=>?_,hi.fh,fun i cs hc=>⟨(hi.dr i cs hc).1,kI hst _ _ _ (hi.dr i cs hc).1 (hi.dr i cs hc).2⟩⟩
  ·cases b' with
   |zero=>
    simp only[List.getElem?_cons_zero,Option.some.injEq]at hy;subst hy;rcases hi.good b _ hb with⟨k,c,e,h1,h2,h3,h4,h5⟩ |⟨h1,h2,h3⟩
    ·exact .inl ⟨k,c,e,by rw[h00];exact h1,h2,tA hst rows 0 hp h3,h4,h5⟩
    ·exact .inr ⟨h1,by rw[h00];exact h2,h3⟩
   |succ n=>simp at hy
  ·grind
  ·grind
  ·grind
  ·by_cases hc:b'=0∧v1=0
   ·obtain⟨rfl,rfl⟩:=hc;rw[h00]at hk;exact hi.free b _ v k z o hb rfl hk
   ·rw[hno _ _ hc]at hk;cases hk
 have hl':RL g' w args vs.toList:=yl hst (fun x hx=>by rw[h00];exact hx) _ _ ha hl
 refine(h.2 g' w vs hi' hl').mono fun e w' ⟨g1',hi1,hla,he⟩=>?_
 have hown:∀k,gz g' [.row 0 sz rows] k→gz g H k:=by
  rintro k ⟨b',y,v',z,hy,hv,hk⟩;by_cases hc:b'=0∧v'=0
  ·obtain⟨rfl,rfl⟩:=hc;rw[h00]at hk;exact⟨b,_,v,z,hb,rfl,hk⟩
  ·rw[hno _ _ hc]at hk;cases hk
 have hown':∀k,gz g H k→gz g' [.row 0 sz rows] k:=by
  rintro k ⟨b',y,v',z,hy,hv,hk⟩;by_cases hc:b'=b
  ·subst hc;rw[hb]at hy;cases hy;simp only[ah.live,Option.some.injEq]at hv;subst hv;exact⟨0,_,0,z,rfl,rfl,by rw[h00];exact hk⟩
  ·rw[hd b' hc y hy]at hv;cases hv
 let g1:Gh:=⟨fun b' v'=>if b'=b∧v'=v then g1'.ai 0 0 else g.ai b' v',g1'.st⟩
 have e00:g1.ai b v=g1'.ai 0 0:=by simp[g1]
 have eno:∀b' v',¬(b'=b∧v'=v)→g1.ai b' v'=g.ai b' v':=fun b' v' hc=>by simp[g1,hc]
 have hst1:∀k o,g1'.st k o→g1.st k o:=fun _ _ h=>h
 have hget:∀b',b'≠b→(H.set b (.row v sz' rows'))[b']? =H[b']? :=fun b' hc=>List.getElem?_set_ne (Ne.symm hc)
 have hself:(H.set b (.row v sz' rows'))[b]? =some (.row v sz' rows'):=List.getElem?_set_self hblt;have hinv1:Inv g1 (H.set b (.row v sz' rows')) w':=by
  refine⟨fun b' y hy=>?_,fun b1 b2 y1 y2 v1 v2 k z z' e1 e2 l1 l2 _ _=>?_,fun b' v' hc=>?_,fun b' y v1 v2 hy hv hlt=>?_,fun b' y v1 k z o hy hv hk=>?_,hi1.fh,fun i cs hc=>⟨(hi1.dr i cs hc).1,kI hst1 _ _ _ (hi1.dr i cs hc).1 (hi1.dr i cs hc).2⟩⟩
  ·by_cases hc:b'=b
   ·subst hc;rw[hself]at hy;cases hy;rcases hi1.good 0 _ rfl with⟨k,c,e,h1,h2,h3,h4,h5⟩ |⟨h1,h2,h3⟩
    ·exact .inl ⟨k,c,e,by rw[e00];exact h1,h2,tA hst1 rows' 0 hp' h3,h4,h5⟩
    ·exact .inr ⟨h1,by rw[e00];exact h2,h3⟩
   ·rw[hget b' hc]at hy;rw[hd b' hc y hy];trivial
  ·have key:∀(b':Nat) (y:ah) (v':Nat),(H.set b (.row v sz' rows'))[b']? =some y→y.live=some v'→b'=b:=by
    intro b' y v' hy hv;by_cases hc:b'=b
    ·exact hc
    ·rw[hget b' hc]at hy;rw[hd b' hc y hy]at hv;cases hv
   grind
  ·have hne:b'≠b:=by
    rintro rfl;rcases hc with hc |hc
    ·rw[hself]at hc;cases hc
    ·rw[List.length_set]at hc;omega
   rw[eno _ _ (fun hh=>hne hh.1)]
   refine hi.fresh b' v' ?_;grind
  ·by_cases hc:b'=b
   ·subst hc;rw[hself]at hy;cases hy;simp only[ah.live,Option.some.injEq]at hv;subst hv;rw[eno _ _ (by omega)]
    exact hi.next b' _ v v2 hb rfl hlt
   ·rw[hget b' hc]at hy;rw[hd b' hc y hy]at hv;cases hv
  ·by_cases hc:b'=b
   ·subst hc;rw[hself]at hy;cases hy;simp only[ah.live,Option.some.injEq]at hv;subst hv;rw[e00]at hk;exact hi1.free 0 _ 0 k z o rfl rfl hk
   ·rw[hget b' hc]at hy;rw[hd b' hc y hy]at hv;cases hv
 have hback:∀k,gz g1 (H.set b (.row v sz' rows')) k→gz g1' [.row 0 sz' rows'] k:=by
  rintro k ⟨b',y,v',z,hy,hv,hkz⟩;by_cases hc:b'=b
  ·subst hc;rw[hself]at hy;cases hy;simp only[ah.live,Option.some.injEq]at hv;subst hv;rw[e00]at hkz;exact⟨0,_,0,z,rfl,rfl,hkz⟩
  ·rw[hget b' hc]at hy;rw[hd b' hc y hy]at hv;cases hv
 refine⟨g1,hinv1,⟨⟨fun b' v' y hy=>?_,fun k o hk=>hla.ext.st k o hk,hla.ext.cell,hla.ext.shape⟩,hla.size,fun k hk ho=>hla.keep k hk fun hc=>ho (hown k hc),fun k hk ho=>?_,by grind,hla.os,hla.tape,hla.output,fun k o hk hs=>(hla.stk k o hk hs).imp_right fun h=>⟨hown k h.1,fun ho=>h.2 (hback k ho)⟩,fun b' hb'=>?_,fun b' v' k z hk=>?_⟩,?_⟩
 ·by_cases hc:b'=b∧v'=v
  ·obtain⟨rfl,rfl⟩:=hc;rw[e00];exact hla.ext.ai 0 0 y (by rw[h00];exact hy)
  ·rw[eno _ _ hc];exact hy
 ·refine hown k (hla.own k hk ?_);grind
 ·grind
 ·by_cases hc:b'=b∧v'=v
  ·obtain⟨rfl,rfl⟩:=hc;rw[e00]at hk;rcases hla.sQ 0 0 k z hk with⟨v1,z1,h1⟩ |h1
   ·grind
   ·exact .inr h1
  grind
 ·cases r with
  |ret u=>
   obtain⟨y,rfl,hy⟩:=he;have hq:(∃sz o n,u=.sl 0 0 sz o n)∨(u.pure=true∧u.y9 b v=u):=by
    cases u with
    |sl b1 v1 sz o n=>
     grind [aQ.Bq]
    |_=>exact .inr ⟨hr,rfl⟩
   rcases hq with⟨sz,o,n,rfl⟩ |⟨hp2,he2⟩
   ·refine⟨y,rfl,?_⟩;grind [AVal.y9,R]
   ·refine⟨y,rfl,?_⟩;grind [k6]
  |aZ u=>
   obtain⟨y,rfl,hy⟩:=he;exact⟨y,rfl,k7 _ _ hr hy⟩
open Classical in
theorem bT.Q5{f:FuncId}{args:List AVal}{x:ah}{r:aQ}(h:bT P f args [x] r [.dead])(ha:AVal.ny args=true)(hx:x.mD=true)(hr:r.Bq=true)
 (b v:Nat) (H:List ah) (hb:H[b]? =some (x.mN v)) (hd:∀b',b'≠b→∀y,H[b']? =some y→y=.dead):bT P f (AVal.uQ b v args) H (r.y9 b v) (H.set b .dead):=by
 obtain⟨sz,rows,rfl,hp⟩:=ym hx;simp only[ah.mN]at hb ⊢;have hblt:b<H.length:=(List.getElem?_eq_some_iff.1 hb).1;refine⟨h.1,fun g w vs hi hl=>?_⟩
 let g':Gh:=⟨fun b' v'=>if b'=0∧v'=0 then g.ai b v else none,g.st⟩
 have h00:g'.ai 0 0=g.ai b v:=by simp[g']
 have hno:∀b' v',¬(b'=0∧v'=0)→g'.ai b' v'=none:=fun b' v' hc=>by simp[g',hc]
 have hst:∀k o,g.st k o→g'.st k o:=fun _ _ h=>h
 have hi':Inv g' [.row 0 sz rows] w:=by
  refine⟨fun b' y hy=>?_,fun b1 b2 y1 y2 v1 v2 k z z' e1 e2 _ _ _ _=>?_,fun b' v' hc=>?_,fun b' y v1 v2 hy hv hlt=>?_,fun b' y v1 k z o hy hv hk=>?_,hi.fh,fun i cs hc=>⟨(hi.dr i cs hc).1,kI hst _ _ _ (hi.dr i cs hc).1 (hi.dr i cs hc).2⟩⟩
  ·cases b' with
   |zero=>
    simp only[List.getElem?_cons_zero,Option.some.injEq]at hy;subst hy;rcases hi.good b _ hb with⟨k,c,e,h1,h2,h3,h4,h5⟩ |⟨h1,h2,h3⟩
    ·exact .inl ⟨k,c,e,by rw[h00];exact h1,h2,tA hst rows 0 hp h3,h4,h5⟩
    ·exact .inr ⟨h1,by rw[h00];exact h2,h3⟩
   |succ n=>simp at hy
  ·grind
  ·grind
  ·grind
  ·by_cases hc:b'=0∧v1=0
   ·obtain⟨rfl,rfl⟩:=hc;rw[h00]at hk;exact hi.free b _ v k z o hb rfl hk
   ·rw[hno _ _ hc]at hk;cases hk
 have hl':RL g' w args vs.toList:=yl hst (fun x hx=>by rw[h00];exact hx) _ _ ha hl
 refine(h.2 g' w vs hi' hl').mono fun e w' ⟨g1',hi1,hla,he⟩=>?_
 have hown:∀k,gz g' [.row 0 sz rows] k→gz g H k:=by
  rintro k ⟨b',y,v',z,hy,hv,hk⟩;by_cases hc:b'=0∧v'=0
  ·obtain⟨rfl,rfl⟩:=hc;rw[h00]at hk;exact⟨b,_,v,z,hb,rfl,hk⟩
  ·rw[hno _ _ hc]at hk;cases hk
 have hown':∀k,gz g H k→gz g' [.row 0 sz rows] k:=by
  rintro k ⟨b',y,v',z,hy,hv,hk⟩;by_cases hc:b'=b
  ·subst hc;rw[hb]at hy;cases hy;simp only[ah.live,Option.some.injEq]at hv;subst hv;exact⟨0,_,0,z,rfl,rfl,by rw[h00];exact hk⟩
  ·rw[hd b' hc y hy]at hv;cases hv
 let g1:Gh:=⟨fun b' v'=>if b'=b∧v'=v then g1'.ai 0 0 else g.ai b' v',g1'.st⟩
 have e00:g1.ai b v=g1'.ai 0 0:=by simp[g1]
 have eno:∀b' v',¬(b'=b∧v'=v)→g1.ai b' v'=g.ai b' v':=fun b' v' hc=>by simp[g1,hc]
 have hst1:∀k o,g1'.st k o→g1.st k o:=fun _ _ h=>h
 have hget:∀b',b'≠b→(H.set b .dead)[b']? =H[b']? :=fun b' hc=>List.getElem?_set_ne (Ne.symm hc)
 have hself:(H.set b .dead)[b]? =some .dead:=List.getElem?_set_self hblt;have hinv1:Inv g1 (H.set b .dead) w':=by
  refine⟨fun b' y hy=>?_,fun b1 b2 y1 y2 v1 v2 k z z' e1 e2 l1 l2 _ _=>?_,fun b' v' hc=>?_,fun b' y v1 v2 hy hv hlt=>?_,fun b' y v1 k z o hy hv hk=>?_,hi1.fh,fun i cs hc=>⟨(hi1.dr i cs hc).1,kI hst1 _ _ _ (hi1.dr i cs hc).1 (hi1.dr i cs hc).2⟩⟩
  ·by_cases hc:b'=b
   ·subst hc;rw[hself]at hy;cases hy
    trivial
   ·rw[hget b' hc]at hy;rw[hd b' hc y hy];trivial
  ·have key:∀(b':Nat) (y:ah) (v':Nat),(H.set b .dead)[b']? =some y→y.live=some v'→b'=b:=by
    intro b' y v' hy hv;by_cases hc:b'=b
    ·exact hc
    ·rw[hget b' hc]at hy;rw[hd b' hc y hy]at hv;cases hv
   grind
  ·have hne:b'≠b:=by
    rintro rfl;rcases hc with hc |hc
    ·rw[hself]at hc;cases hc
    ·rw[List.length_set]at hc;omega
   rw[eno _ _ (fun hh=>hne hh.1)]
   refine hi.fresh b' v' ?_;grind
  ·by_cases hc:b'=b
   ·subst hc;rw[hself]at hy;cases hy;cases hv
   ·rw[hget b' hc]at hy;rw[hd b' hc y hy]at hv;cases hv
  ·by_cases hc:b'=b
   ·subst hc;rw[hself]at hy;cases hy;cases hv
   ·rw[hget b' hc]at hy;rw[hd b' hc y hy]at hv;cases hv
 have hback:∀k,gz g1 (H.set b .dead) k→gz g1' [.dead] k:=by
  rintro k ⟨b',y,v',z,hy,hv,hkz⟩;by_cases hc:b'=b
  ·subst hc;rw[hself]at hy;cases hy;cases hv
  ·rw[hget b' hc]at hy;rw[hd b' hc y hy]at hv;cases hv
 refine⟨g1,hinv1,⟨⟨fun b' v' y hy=>?_,fun k o hk=>hla.ext.st k o hk,hla.ext.cell,hla.ext.shape⟩,hla.size,fun k hk ho=>hla.keep k hk fun hc=>ho (hown k hc),fun k hk ho=>?_,by grind,hla.os,hla.tape,hla.output,fun k o hk hs=>(hla.stk k o hk hs).imp_right fun h=>⟨hown k h.1,fun ho=>h.2 (hback k ho)⟩,fun b' hb'=>?_,fun b' v' k z hk=>?_⟩,?_⟩
 ·by_cases hc:b'=b∧v'=v
  ·obtain⟨rfl,rfl⟩:=hc;rw[e00];exact hla.ext.ai 0 0 y (by rw[h00];exact hy)
  ·rw[eno _ _ hc];exact hy
 ·refine hown k (hla.own k hk ?_);grind
 ·grind
 ·by_cases hc:b'=b∧v'=v
  ·obtain⟨rfl,rfl⟩:=hc;rw[e00]at hk;rcases hla.sQ 0 0 k z hk with⟨v1,z1,h1⟩ |h1
   ·grind
   ·exact .inr h1
  grind
 ·cases r with
  |ret u=>
   obtain⟨y,rfl,hy⟩:=he;have hq:(∃sz o n,u=.sl 0 0 sz o n)∨(u.pure=true∧u.y9 b v=u):=by
    cases u with
    |sl b1 v1 sz o n=>
     grind [aQ.Bq]
    |_=>exact .inr ⟨hr,rfl⟩
   rcases hq with⟨sz,o,n,rfl⟩ |⟨hp2,he2⟩
   ·refine⟨y,rfl,?_⟩;grind [AVal.y9,R]
   ·refine⟨y,rfl,?_⟩;grind [k6]
  |aZ u=>
   obtain⟨y,rfl,hy⟩:=he;exact⟨y,rfl,k7 _ _ hr hy⟩
theorem bT.Q6{f:FuncId}{args:List AVal}{x x':ah}{r:aQ}(h:bT P f args [x] r [x'])(ha:AVal.ny args=true)(hx:x.mD=true)(hx':x'.mD=true∨x'=.dead)(hr:r.Bq=true)
 (b v:Nat) (H:List ah) (hb:H[b]? =some (x.mN v)) (hd:∀b',b'≠b→∀y,H[b']? =some y→y=.dead):bT P f (AVal.uQ b v args) H (r.y9 b v) (H.set b (x'.mN v)):=by
 rcases hx' with hx' |rfl
 ·exact h.move ha hx hx' hr b v H hb hd
 ·exact h.Q5 ha hx hr b v H hb hd
theorem bT.frame{f:FuncId}{args:List AVal}{H:List ah}{r:aQ}{b:Nat}{y:ah}(h:bT P f args (mask [b] H) r ((mask [b] H).set b y))(hb:b<H.length):bT P f args H r (H.set b y):=by
 refine⟨h.1,fun g w vs hi hl=>(h.2 g w vs (pX hi [b]) hl).mono fun e w' ⟨g1,hi1,hla,he⟩=>?_⟩
 have hlen:((mask [b] H).set b y).length=H.length:=by rw[List.length_set,qI]
 have:=Inv.merge hi hi1 hla (by omega)
 have e1:merged [b] H ((mask [b] H).set b y)=H.set b y:=by
  simp only[merged,List.foldl_cons,List.foldl_nil];rw[List.getD_eq_getElem?_getD,List.getElem?_set_self (by rw[qI];exact hb)];rfl
 have e2:((mask [b] H).set b y).drop H.length=[]:=List.drop_of_length_le (by omega)
 rw[e1,e2,List.append_nil]at this;exact⟨g1,this.1,this.2,he⟩
mutual
theorem we(n:Nat):∀(v:AVal),v.pure=true→v.gH n=true
 | .sc _,_=>rfl
 | .agg cs,h=>by simp only[AVal.pure,AVal.gH]at h ⊢;exact lT n cs h
 | .cM cs,h=>by simp only[AVal.pure,AVal.gH]at h ⊢;exact lT n cs h
 | .ptr ..,h=>by simp[AVal.pure]at h
 | .cq ..,_=>rfl
 | .sl ..,h=>by simp[AVal.pure]at h
 | .ax _,_=>rfl
 | .fn f a b,h=>by
  simp only[AVal.pure,AVal.gH,Bool.and_eq_true]at h ⊢;exact⟨lT n a h.1,lT n b h.2⟩
 | .gj t v,h=>by simp only[AVal.pure,AVal.gH]at h ⊢;exact we n v h
 | .mp _,h=>by simp[AVal.pure]at h
 | .jJ _,h=>by simp[AVal.pure]at h
 | .sa ..,h=>by simp[AVal.pure]at h
 | .gQ ..,_=>rfl
 | .emp,_=>rfl
 | .nz _,_=>rfl
 | .aq,_=>rfl
theorem lT(n:Nat):∀(l:List AVal),AVal.aW l=true→AVal.oU n l=true
 | [],_=>rfl
 |a::as,h=>by
  simp only[AVal.aW,AVal.oU,Bool.and_eq_true]at h ⊢;exact⟨we n a h.1,lT n as h.2⟩
end
theorem bT.take{f:FuncId}{args:List AVal}{H H1:List ah}{a:aQ}(h:bT P f args H a H1)(h0:0<H.length)(ha:a.Bq=true)(hb:∀x∈H1.take H.length,x.mD=true∨x=.dead):bT P f args H a (H1.take H.length):=by
 refine⟨h.1,fun g w vs hi hl=>(h.2 g w vs hi hl).mono fun e w' ⟨g1,hi1,hla,he⟩=>?_⟩
 have hlen:(H1.take H.length).length=H.length:=by rw[List.length_take];have:=hla.len;omega
 have hK:H1.take H.length++H1.drop H.length=H1:=List.take_append_drop _ _;obtain⟨i1,i2⟩:=Inv.drop (n:=H.length) (K:=H1.take H.length) (L:=H1.drop H.length) hi (by rw[hK];exact hi1) (by rw[hK];exact hla) hlen rfl fun b x hx=>.inl (by
  rcases hb x (List.mem_of_getElem? hx)with hb |rfl
  ·grind [ym,vX,lT]
  ·rfl)
 refine⟨g1.upto H.length,i1,i2,?_⟩;cases a with
 |ret v=>
  obtain⟨x,rfl,hx⟩:=he;refine⟨x,rfl,?_⟩;by_cases hp:v.pure=true
  ·exact k6 (g:=g1) (g2:=g1.upto H.length) (fun _ _ h=>h) v x hp hx
  ·cases v<;>try exact absurd ha hp
   rename_i b ak sz o n;simp only[aQ.Bq,Bool.and_eq_true,beq_iff_eq]at ha;obtain⟨rfl,rfl⟩:=ha;simp only[R]at hx ⊢;rcases hx with hx |⟨k,cap,e,s,h1,h2⟩
   ·exact .inl hx
   ·exact .inr ⟨k,cap,e,s,by simpa[Gh.upto,h0]using h1,h2⟩
 |aZ v=>
  obtain⟨x,rfl,hx⟩:=he;exact⟨x,rfl,k7 v x ha hx⟩
theorem DU{pr:List Nat}{n:Nat}:∀{L:List ah} {i:Nat},DS pr n i L=true→∀(b:Nat) (x:ah),L[b]? =some x→pr.contains (i+b)=true∨vX n x=true
 | [],_,_,b,x,h=>by simp at h
 |y::ys,i,hl,0,x,h=>by
  grind [DS]
 |y::ys,i,hl,b+1,x,h=>by
  simp only[DS,Bool.and_eq_true]at hl;have:=DU hl.2 b x (by simpa using h)
  grind
theorem bT.trim{f:FuncId}{args:List AVal}{H H1:List ah}{a:aQ}{pr:List Nat}(h:bT P f args H a H1)(hpan:∀v,a=.aZ v→v.flat=true)(ha:a.gH H.length=true)(hl:DS pr H.length 0 (H1.take H.length)=true)
 (hp:∀i,pr.contains i=true→∃x,H1[i]? =some x∧uR x=true):bT P f args H a (H1.take H.length):=by
 refine⟨h.1,fun g w vs hi hl'=>(h.2 g w vs hi hl').mono fun e w' ⟨g1,hi1,hla,he⟩=>?_⟩
 have hlen:(H1.take H.length).length=H.length:=by rw[List.length_take];have:=hla.len;omega
 have hK:H1.take H.length++H1.drop H.length=H1:=List.take_append_drop _ _;obtain⟨i1,i2⟩:=Inv.drop (n:=H.length) (K:=H1.take H.length) (L:=H1.drop H.length) hi (by rw[hK];exact hi1) (by rw[hK];exact hla) hlen rfl fun b x hx=>.inl (by
  rcases DU hl b x hx with hc |hc
  ·grind [za,vX,lT,we]
  ·exact hc)
 refine⟨g1.upto H.length,i1,i2,?_⟩;cases a with
 |ret v=>
  obtain⟨x,rfl,hx⟩:=he;exact⟨x,rfl,nV (n:=H.length) (g:=g1) (g2:=g1.upto H.length) (fun _ _ h=>h) (fun b ak x hb he=>by grind [Gh.upto]) v x ha hx⟩
 |aZ v=>
  obtain⟨x,rfl,hx⟩:=he;exact⟨x,rfl,k7 v x (hpan v rfl) hx⟩
mutual
theorem OY{b:Nat}:∀(a:AVal) (x:Value),R g w a x→R g w (a.but b) x
 | .sc _,x,hr=>by simpa only[AVal.but]using hr
 | .agg cs,x,hr=>by
  simp only[R,AVal.but]at hr ⊢;obtain⟨vs,e,h1,hl⟩:=hr;exact⟨vs,e,h1,Af cs vs hl⟩
 | .cM cs,x,hr=>by
  simp only[R,AVal.but]at hr ⊢;obtain⟨vs,e,hl⟩:=hr;exact⟨vs,e,Af cs vs hl⟩
 | .ptr ..,x,hr=>by
  grind [AVal.but,R]
 | .cq ..,x,hr=>by simpa only[AVal.but]using hr
 | .sl ..,x,hr=>by
  grind [AVal.but,R]
 | .ax _,x,hr=>by simpa only[AVal.but]using hr
 | .fn f c d,x,hr=>by
  simp only[R,AVal.but]at hr ⊢;obtain⟨va,vb,e,h1,h2⟩:=hr;exact⟨va,vb,e,Af c va h1,Af d vb h2⟩
 | .gj t a,x,hr=>by
  simp only[R,AVal.but]at hr ⊢;obtain⟨y,e,h1⟩:=hr;exact⟨y,e,OY a y h1⟩
 | .mp _,_,_=>by simp[AVal.but,R]
 | .jJ _,_,_=>by simp[AVal.but,R]
 | .sa ..,x,hr=>by
  grind [AVal.but,R]
 | .gQ ..,x,hr=>by simpa only[AVal.but]using hr
 | .emp,x,hr=>by simpa only[AVal.but]using hr
 | .nz _,x,hr=>by simpa only[AVal.but]using hr
 | .aq,x,_=>by simp[AVal.but,R]
theorem Af{b:Nat}:∀(a:List AVal) (x:List Value),RL g w a x→RL g w (AVal.yj b a) x
 | [],x,hr=>by simpa[RL,AVal.yj]using hr
 |a::as,x,hr=>by
  simp only[RL,AVal.yj]at hr ⊢;obtain⟨y,ys,e,h1,h2⟩:=hr;exact⟨y,ys,e,OY a y h1,Af as ys h2⟩
end
theorem bT.but{b:Nat}{f:FuncId}{args:List AVal}{H H1:List ah}{r:aQ}(h:bT P f (AVal.yj b args) H r H1):bT P f args H r H1:=
 ⟨h.1,fun g w vs hi hl=>h.2 g w vs hi (Af _ _ hl)⟩
end
end Go.AM
end
section
namespace Go.AM
section
set_option linter.unusedSectionVars false
variable [aD] {P:Program} {cfg:fL} {X:Env P}
theorem sB:gM P vA:=⟨fun _ _ _ _ _ h=>by simp[vA]at h,fun _ _ _ _ _ h=>by simp[vA]at h⟩
open Classical in
noncomputable def qy(f:FuncId)(args:List AVal)(H:List ah)(r:aQ)(H1:List ah):kq:=
 ⟨fun f' args' H'=>if f'=f∧args'=args∧H'=H then some (r,H1)else none,fun _ _ _=>none⟩
theorem zc{f:FuncId}{args:List AVal}{H H1:List ah}{r:aQ}(h:bT P f args H r H1):gM P (qy f args H r H1):=by
 refine⟨fun f' args' H' r' H1' hr=>?_,fun _ _ _ _ _ h=>by simp[qy]at h⟩
 simp only[qy]at hr;split at hr
 ·rename_i hc;obtain⟨rfl,rfl,rfl⟩:=hc;simp only[Option.some.injEq,Prod.mk.injEq]at hr;obtain⟨rfl,rfl⟩:=hr;exact h
 ·cases hr
open Classical in
noncomputable def Ag(f:FuncId)(args:List AVal)(r:aQ):kq:=
 ⟨fun f' args' H=>if f'=f∧args'=args∧H=[]then some (r,[])else none,fun _ _ _=>none⟩
theorem K6{f:FuncId}{args:List AVal}{r:aQ}(h:kr P f args r):gM P (Ag f args r):=by
 refine⟨fun f' args' H r' H1 hr=>?_,fun _ _ _ _ _ h=>by simp[Ag]at h⟩
 simp only[Ag]at hr;split at hr
 ·rename_i hc;obtain⟨rfl,rfl,rfl⟩:=hc;simp only[Option.some.injEq,Prod.mk.injEq]at hr;obtain⟨rfl,rfl⟩:=hr;exact h
 ·cases hr
def Ez(P:Program)[aD](b:Nat)(args:List AVal)(H:List ah)(r:aQ)(H1:List ah):Prop:=
 ∀g w (vs:Array Value) k sz,Inv g H w→RL g w args vs.toList→g.ai b 0=some (k,sz)→
  ∃rec,w.heap[k]? =some (.loop rec)∧vs.size=rec.params.size∧RoundIn Fence.wide 0 P k rec.fn (nj rec vs) rec.assign rec.body w (fC g H w r H1)
open Classical in
noncomputable def BZ(b:Nat)(args:List AVal)(H:List ah)(r:aQ)(H1:List ah):kq:=
 ⟨fun _ _ _=>none,fun b' args' H'=>if b'=b∧args'=args∧H'=H then some (r,H1)else none⟩
theorem My{b:Nat}{args:List AVal}{H H1:List ah}{r:aQ}(h:Ez P b args H r H1):gM P (BZ b args H r H1):=by
 refine⟨fun _ _ _ _ _ h=>by simp[BZ]at h,fun b' args' H' r' H1' hr=>?_⟩
 simp only[BZ]at hr;split at hr
 ·rename_i hc;obtain⟨rfl,rfl,rfl⟩:=hc;simp only[Option.some.injEq,Prod.mk.injEq]at hr;obtain⟨rfl,rfl⟩:=hr;exact h
 ·cases hr
theorem Ez.wk{b:Nat}{args:List AVal}{H H1:List ah}{r:aQ}(h:Ez P b (nZ args) H r H1):Ez P b args H r H1:=
 fun g w vs k sz hi hl hk=>h g w vs k sz hi (wH _ _ hl) hk
structure pn(P:Program)[aD](N:zF P):Prop where
 fn:∀{ρ:Type} {n:Nat} {f:FuncId} {args:List AVal} {H:List ah} {g:G P ρ} {k:G P ρ→aQ→List ah→Prop} {r:ρ},N.fn f args H g k→g.run n=some r→
  ∃g' a H1,k g' a H1∧g'.run n=some r∧bT P f args H a H1
 Bo:∀{ρ:Type} {n:Nat} {b:Nat} {args:List AVal} {H:List ah} {g:G P ρ} {k:G P ρ→aQ→List ah→Prop} {r:ρ},N.Bo b args H g k→g.run n=some r→
  ∃g' a H1,k g' a H1∧g'.run n=some r∧Ez P b args H a H1
 lp:∀{σ:Type} {sh:Sh} {n:Nat} {ro:Option Nat} {H0:List ah} {b:Code} {g:G P (σ⊕sh.El)} {E:σ→St} {s:St} {Y:sh.El→bu×St} {q:σ⊕sh.El},N.lp ro H0 b g E s Y→g.run n=some q→
  ∃(g':G P (σ⊕sh.El)) (o:bu) (s':St),pg H0 E Y g' o s'∧g'.run n=some q∧∀fro g0 w0,Inv g0 H0 w0→oD g0 ro fro→fH P fro g0 H0 w0 b s fun o1 s1=>o1=o∧s1=s'
variable {ops:Array Oper} {n0 nid:Nat} {o:Oper} {s:St}
theorem B0{orc orc':kq}(h:jk ops s.A o=some true→∀pre,(ct P cfg nid (cQ s.A) o.op).run s.H=some pre→finish orc s.H pre=finish orc' s.H pre):
 fQ P cfg orc ops n0 o nid s=fQ P cfg orc' ops n0 o nid s:=by
 grind [fQ]
theorem mS{n:Nat}{ρ:Type}{r:ρ}:∀{g:G P ρ} {s:St} {k:G P ρ→St→Prop},oR g s k→g.run n=some r→∃g',k g' s∧g'.run n=some r
 | .br d c t f,s,k,h,hr=>by
  simp only[oR,o5]at h;obtain⟨hd,h1,h2⟩:=h;have hset:s.A.set d (.sc (.bool c))=s.A:=by
   apply List.ext_getElem?;intro j;by_cases hj:d=j
   ·grind
   ·rw[List.getElem?_set_ne hj]
  cases c with
  |true=>
   rw[hset]at h1;simp only[G.run,if_true]at hr;exact mS h1 hr
  |false=>
   rw[hset]at h2;simp only[G.run,Bool.false_eq_true,if_false]at hr;exact mS h2 hr
 | .Dn d ik x c t f,s,k,h,hr=>by
  simp only[oR,o5]at h;obtain⟨hd,h1,h2⟩:=h;by_cases hx:x=c
  ·subst hx;have hset:s.A.set d (.sc (.int ik x))=s.A:=by
    apply List.ext_getElem?;intro j;by_cases hj:d=j
    ·grind
    ·rw[List.getElem?_set_ne hj]
   rw[hset]at h1;simp only[G.run,if_true]at hr;exact mS h1 hr
  ·simp only[G.run,hx,if_false]at hr;exact mS h2 hr
 | .sp c t f,s,k,h,hr=>by
  simp only[oR]at h;cases c with
  |true=>
   simp only[G.run,if_true]at hr;exact mS h.1 hr
  |false=>
   simp only[G.run,Bool.false_eq_true,if_false]at hr;exact mS h.2 hr
 | .fail,s,k,h,hr=>by simp[G.run]at hr
 | .stop,s,k,h,hr=>by simp[G.run]at hr
 | .done ..,s,k,h,hr=>⟨_,h,hr⟩
 | .skip ..,s,k,h,hr=>⟨_,h,hr⟩
 | .op ..,s,k,h,hr=>⟨_,h,hr⟩
 | .call ..,s,k,h,hr=>⟨_,h,hr⟩
 | .di ..,s,k,h,hr=>⟨_,h,hr⟩
 | .aF ..,s,k,h,hr=>⟨_,h,hr⟩
 | .tidy ..,s,k,h,hr=>⟨_,h,hr⟩
 | .loop ..,s,k,h,hr=>⟨_,h,hr⟩
 | .nL ..,s,k,h,hr=>⟨_,h,hr⟩
 | .gT ..,s,k,h,hr=>⟨_,h,hr⟩
 | .v7 ..,s,k,h,hr=>⟨_,h,hr⟩
 | .join ..,s,k,h,hr=>⟨_,h,hr⟩
 | .inl ..,s,k,h,hr=>⟨_,h,hr⟩
theorem Ju{x:Option Pre}{f:FuncId}{args:List AVal}(h:H7 x=some (f,args)):∃args' own,x=some (.CG f args' own)∧nZ args'=args:=by
 unfold H7 at h;grind
theorem kr.wk{f:FuncId}{args:List AVal}{r:aQ}(h:kr P f (nZ args) r):kr P f args r:=
 ⟨h.1,fun g w vs hi hl=>h.2 g w vs hi (wH _ _ hl)⟩
theorem K7{H:List ah}{x:Option Pre}{f:FuncId}{args:List AVal}{H1:List ah}(h:K4 H x=some (f,args,H1)):∃args' ids,x=some (.lI f args' ids)∧nZ args'=args∧mask ids H=H1:=by
 unfold K4 at h;grind
theorem yo{ids:List Nat}{H:List ah}(hp:∀i,ids.contains i=true→∃x,H[i]? =some x∧uR x=true):
 ∀(n:Nat) (l seen:List Nat),CM ids l=true→l.length≤n→(closure n l seen).run H=some (zb l seen)∧(closure n l seen).reads H=vB l seen
 |_,[],_,_,_=>by simp[closure,Rd.run,Rd.reads,zb,vB]
 | 0,_::_,_,_,h=>by simp at h
 |n+1,c::cs,seen,h,hl=>by
  simp only[CM,Bool.and_eq_true]at h;simp only[List.length_cons]at hl;simp only[closure,zb,vB];cases hc:seen.contains c with
  |true=>
   simp only[if_true];exact yo hp n cs seen h.2 (by omega)
  |false=>
   obtain⟨x,hb,hpb⟩:=hp c h.1;obtain⟨q1,q2⟩:=yo hp n cs (c::seen) h.2 (by omega)
   grind [za,Rd.run,Rd.reads]
theorem B4{ids:List Nat}:∀(l seen:List Nat),CM ids l=true→(∀i∈seen,ids.contains i=true)→∀i∈zb l seen,ids.contains i=true
 | [],_,_,hs,i,hi=>hs i hi
 |c::cs,seen,h,hs,i,hi=>by
  simp only[CM,Bool.and_eq_true]at h;simp only[zb]at hi;cases hc:seen.contains c with
  |true=>rw[hc]at hi;exact B4 cs seen h.2 hs i hi
  |false=>
   rw[hc]at hi;refine B4 cs (c::seen) h.2 (fun j hj=>?_) i hi
   grind
theorem mE{α β:Type}{H:List ah}:∀{m:Rd α} {f:α→β} {x:α},m.run H=some x→(m.bind fun y=>.done (f y)).run H=some (f x)∧(m.bind fun y=>.done (f y)).reads H=m.reads H
 | .done a,f,x,h=>by grind [Rd.run,Rd.bind,Rd.reads]
 | .get b k,f,x,h=>by
  simp only[Rd.run]at h;split at h
  ·rename_i y hy;have:=mE (f:=f) h;simp[Rd.bind,Rd.run,Rd.reads,hy,this]
  ·cases h
theorem H8{ids:List Nat}{ai:Operand→AVal}{op:Op}{nid:Nat}{H:List ah}{f:FuncId}{args:List AVal}{js rs:List Nat}(h:sw P cfg ids ai op=some (f,args,js,rs))
 (hp:∀i,ids.contains i=true→∃x,H[i]? =some x∧uR x=true):
 (ct P cfg nid ai op).run H=some (.lI f args js)∧(ct P cfg nid ai op).reads H=rs∧∀i∈js,ids.contains i=true:=by
 unfold sw at h;split at h
 ·rename_i g _ _ _;split at h
  ·rename_i n p q hg;split at h
   ·rename_i fn hfn;split at h
    ·rename_i hc;simp only[Bool.or_eq_false_iff]at hc;dsimp only at h;split at h
     ·rename_i ho;simp only[Option.some.injEq,Prod.mk.injEq]at h;simp only[Bool.and_eq_true]at ho;have ho2:=Nat.le_of_ble_eq_true ho.2;obtain⟨rfl,rfl,rfl,rfl⟩:=h;obtain⟨q1,q2⟩:=yo hp 1000 _ [] ho.1 (by omega)
      simp only[ct,hg,hfn,hc.1.1,Bool.false_eq_true,if_false,qH,hc.1.2,hc.2];exact⟨(mE q1).1,(mE q1).2.trans q2,B4 _ [] ho.1 (by simp)⟩
     ·cases h
    ·cases h
   ·cases h
  ·cases h
 ·cases h
theorem Mz{H:List ah}{b:Nat}{x:Option (FuncId×List AVal×List Nat×List Nat)}{f:FuncId}{args:List AVal}{y:Option ah}(h:NR H b x=some (f,args,y)):∃args' ids rs,x=some (f,args',ids,rs)∧AVal.yj b (nZ args')=args∧H[b]? =y∧ids.contains b=true:=by
 unfold NR at h;grind
theorem Ah:∀{l:List PR} {H:List ah},Ki l H→∀i,(l.map (·.b)).contains i=true→∃x,H[i]? =some x∧uR x=true
 | [],_,_,i,h=>by simp at h
 |p::ps,H,hc,i,h=>by
  simp only[List.map_cons,List.contains_cons,Bool.or_eq_true,beq_iff_eq]at h;rcases h with rfl |h
  ·exact⟨_,hc.1,p.pf⟩
  ·exact Ah hc.2 i h
theorem bT.wk{f:FuncId}{args:List AVal}{H H1:List ah}{r:aQ}(h:bT P f (nZ args) H r H1):bT P f args H r H1:=
 ⟨h.1,fun g w vs hi hl=>h.2 g w vs hi (wH _ _ hl)⟩
theorem qb{pr:List Nat}{H:List ah}(hp:∀i,pr.contains i=true→∃x,H[i]? =some x∧uR x=true):
 ∀(n:Nat) (l seen ids rs:List Nat),sy pr H n l seen=some (ids,rs)→(closure n l seen).run H=some ids∧(closure n l seen).reads H=rs
 |_,[],seen,ids,rs,h=>by
  grind [sy,closure,Rd.run,Rd.reads]
 | 0,_::_,_,_,_,h=>by simp[sy]at h
 |n+1,b::todo,seen,ids,rs,h=>by
  simp only[sy]at h;simp only[closure];cases hc:seen.contains b with
  |true=>
   rw[hc]at h;simp only[if_true];exact qb hp n todo seen ids rs h
  |false=>
   rw[hc]at h;simp only[Bool.false_eq_true,if_false];cases hpr:pr.contains b with
   |true=>
    rw[hpr]at h;simp only[Option.map_eq_some_iff,Prod.exists,Prod.mk.injEq]at h;obtain⟨ids',rs',h,rfl,rfl⟩:=h;obtain⟨x,hb,hpb⟩:=hp b hpr;obtain⟨q1,q2⟩:=qb hp n todo (b::seen) _ _ h;grind [za,Rd.run,Rd.reads]
   |false=>
    rw[hpr]at h;simp only at h;split at h
    ·rename_i v sz rows hb;simp only[Option.map_eq_some_iff,Prod.exists,Prod.mk.injEq]at h;obtain⟨ids',rs',h,rfl,rfl⟩:=h;obtain⟨q1,q2⟩:=qb hp n _ (b::seen) _ _ h;grind [Rd.run,Rd.reads]
    ·rename_i hb;simp only[Option.map_eq_some_iff,Prod.exists,Prod.mk.injEq]at h;obtain⟨ids',rs',h,rfl,rfl⟩:=h;obtain⟨q1,q2⟩:=qb hp n _ (b::seen) _ _ h;grind [Rd.run,Rd.reads]
    ·rename_i hb;simp only[Option.map_eq_some_iff,Prod.exists,Prod.mk.injEq]at h;obtain⟨ids',rs',h,rfl,rfl⟩:=h;obtain⟨q1,q2⟩:=qb hp n _ (b::seen) _ _ h;grind [Rd.run,Rd.reads]
    ·rename_i x hx hl hit hb;simp only[Option.map_eq_some_iff,Prod.exists,Prod.mk.injEq]at h;obtain⟨ids',rs',h,rfl,rfl⟩:=h;obtain⟨q1,q2⟩:=qb hp n _ (b::seen) _ _ h;grind [Rd.run,Rd.reads]
    ·cases h
def H9:FuncId⊕Nat→List AVal→List Nat→Pre
 | .inl f,args,ids=>.lI f args ids
 | .inr b,args,ids=>.round b args ids
theorem Kj{cfg:fL}{pr:List Nat}{ai:Operand→AVal}{op:Op}{H:List ah}{t:FuncId⊕Nat}{args:List AVal}{ids rs:List Nat}(hp:∀i,pr.contains i=true→∃x,H[i]? =some x∧uR x=true)
 (h:DQ P cfg pr ai op H=some (t,args,ids,rs)):(ct P cfg nid ai op).run H=some (H9 t args ids)∧(ct P cfg nid ai op).reads H=rs:=by
 unfold DQ at h;split at h
 ·rename_i g _ _ _;split at h
  ·rename_i n p q hg;split at h
   ·rename_i fn hfn;split at h
    ·rename_i hc;simp only[Bool.or_eq_false_iff]at hc;split at h
     ·rename_i ids' rs' hcl;simp only[Option.some.injEq,Prod.mk.injEq]at h;obtain⟨rfl,rfl,rfl,rfl⟩:=h;obtain⟨q1,q2⟩:=qb hp _ _ _ _ _ hcl;simp only[ct,hg,hfn,hc.1.1,Bool.false_eq_true,if_false,qH,hc.1.2,hc.2];exact⟨(mE q1).1,(mE q1).2.trans q2⟩
     ·cases h
    ·cases h
   ·cases h
  ·rename_i b hg;split at h
   ·rename_i ids' rs' hcl;simp only[Option.some.injEq,Prod.mk.injEq]at h;obtain⟨rfl,rfl,rfl,rfl⟩:=h;obtain⟨q1,q2⟩:=qb hp _ _ _ _ _ hcl;simp only[ct,hg];exact⟨(mE q1).1,(mE q1).2.trans q2⟩
   ·cases h
  ·cases h
 ·cases h
theorem vC{ids:List Nat}{H H1:List ah}{a:aQ}{k:dQ→List Nat→Bool→Prop}{kp:AVal→Prop}(h:BW ids H a H1 k kp):
 (∃e,fP H ids (some (a,H1))=some (.ok e)∧k e (e.eG.map (·.1)) (!e.news.isEmpty))∨(∃v,fP H ids (some (a,H1))=some (.aZ v ids)∧kp v):=by
 unfold BW at h;split at h
 ·rename_i v;split at h
  ·rename_i hl;have hl:=Nat.eq_of_beq_eq_true hl;refine .inl ⟨{val:=v,eG:=ids.map fun i=>(i,H1.getD i .dead)},?_,?_⟩
   ·grind [fP]
   ·simpa[List.map_map,Function.comp_def]using h
  grind [mg]
 grind [fP]
theorem lU(hNe:pn P X.N){n:Nat}{ρ:Type}{r:ρ}{g:G P ρ}{draw:Bool}{H0:List ah}{k:G P ρ→eW→gL→Prop}(h:rD P X draw H0 ops n0 o nid g s k)(hr:g.run n=some r):
 ∃orc,gM P orc∧∃res f g',fQ P X.cfg orc ops n0 o nid s=some (res,f)∧k g' res f∧g'.run n=some r:=by
 unfold rD at h;split at h
 ·rename_i m g';split at h
  ·rename_i res f hs;exact⟨vA,sB,res,f,_,hs,h,by rw[G.H6];simpa[G.run]using hr⟩
  ·exact nomatch h
 ·rename_i X t kk;obtain⟨hw,hc,hk⟩:=h;simp only[G.run]at hr;cases hx:t.run with
  |none=>rw[hx]at hr;cases hr
  |some x=>
   rw[hx]at hr;obtain⟨h1,h2⟩:=t.sound _ _ _ _ _ _ _ hc x hx;have hk:=hk x;simp only[mg,hG,fB]at hk;refine⟨vA,sB,_,_,kk x,?_,hk,by simpa using hr⟩
   grind [fQ,finish,mg,hG,fB]
 ·rename_i c x kk;obtain⟨hw,hc,hk⟩:=h;simp only[G.run]at hr;cases hx:c.S n x with
  |none=>rw[hx]at hr;cases hr
  |some q=>
   rw[hx]at hr;have hk:=(c.sh.cA _).1 hk q;obtain⟨args',own,hp,he⟩:=Ju hc;split at hk
   ·rename_i res f hs;refine⟨Ag c.f args' (c.out q),K6 (kr.wk (by rw[he];exact c.ok n x q hx)),res,f,kk q,?_,hk,by simpa using hr⟩
    rw[← hs];refine B0 fun _ pre hpre=>?_
    rw[hp]at hpre;simp only[Option.some.injEq]at hpre;subst hpre;simp[finish,gm,Ag,K3]
   ·exact nomatch hk
 ·rename_i c x kk;obtain⟨hw,hc,hk⟩:=h;simp only[G.run]at hr;cases hx:c.S n x with
  |none=>rw[hx]at hr;cases hr
  |some q=>
   rw[hx]at hr;have hk:=(c.sh.cA _).1 hk q;obtain⟨args',ids,hp,he,hm⟩:=K7 hc;split at hk
   ·rename_i res f hs;refine⟨qy c.f args' (c.heap x) (c.out q) (c.iA x q),zc (bT.wk (by rw[he];exact c.ok n x q hx)),res,f,kk q,?_,hk,by simpa using hr⟩
    rw[← hs];refine B0 fun _ pre hpre=>?_
    rw[hp]at hpre;simp only[Option.some.injEq]at hpre;subst hpre;simp[finish,gm,dy,qy,K3,hm]
   ·exact nomatch hk
 ·rename_i c b v ex x kk;obtain⟨hw,hex,hc,hk⟩:=h;simp only[G.run]at hr;cases hx:c.S n x with
  |none=>rw[hx]at hr;cases hr
  |some q=>
   rw[hx]at hr;have hk:=(c.sh.cA _).1 hk q;obtain⟨args',ids,rs,hp,he,hb,hbi⟩:=Mz hc;obtain⟨bsz,brows,hbx,hbp⟩:=ym (c.b0 x);have hpure:∀i,(b::ex.map (·.b)).contains i=true→∃x,s.H[i]? =some x∧uR x=true:=by
    intro i hi;simp only[List.contains_cons,Bool.or_eq_true,beq_iff_eq]at hi;rcases hi with rfl |hi
    ·exact⟨.row v bsz brows,by rw[hb,hbx];rfl,hbp⟩
    ·exact Ah hex i hi
   have hcall:=hp;obtain⟨hp,hrd,hsub⟩:=H8 (nid:=nid) (H:=s.H) hp hpure;have hlt:∀i∈ids,i<s.H.length:=fun i hi=>by
    grind
   have hblt:b<s.H.length:=(List.getElem?_eq_some_iff.1 hb).1
   let H':=mask ids s.H
   have hl':H'.length=s.H.length:=qI _ _;have hmb:(mask [b] H')[b]? =some ((c.blk x).mN v):=by rw[Aa (by simp),Aa hbi];exact hb
   have hmd:∀b',b'≠b→∀y,(mask [b] H')[b']? =some y→y=.dead:=by
    intro b' hne y hy;rcases rB hy with⟨h1,_⟩ |⟨_,h2,_⟩
    ·grind
    ·exact h2
   have href:=bT.frame (bT.Q6 (c.ok n x q hx) (c.a0 x) (c.b0 x) (c.b1 x q) (c.r0 q) b v (mask [b] H') hmb hmd) (by omega)
   have horc:=zc (P:=P) (bT.wk (args:=args') (bT.but (b:=b) (by rw[he];exact href)))
   refine⟨_,horc,?_⟩;have hlen:(H'.set b ((c.qQ x q).mN v)).length=s.H.length:=by rw[List.length_set,qI]
   have hdrop:(H'.set b ((c.qQ x q).mN v)).drop s.H.length=[]:=List.drop_of_length_le (by rw[hlen];exact Nat.le_refl _)
   have hid:CN (sw P X.cfg (b::ex.map (·.b)) (cQ s.A) o.op)=(ids,rs):=by rw[hcall];rfl
   cases ho:c.out q with
   |ret u=>
    rw[ho]at hk;simp only[hG,fB,hid]at hk;refine⟨_,_,kk q,?_,hk,by simpa using hr⟩
    have happ:∀val news,news=[]→dQ.apply {val:=val,eG:=ids.map fun i=>(i,(H'.set b ((c.qQ x q).mN v)).getD i .dead),news:=news} s.H=dQ.apply {val:=u.y9 b v,eG:=[(b,(c.qQ x q).mN v)]} s.H:=by
     intro val news hn;subst hn;simp only[dQ.apply,List.append_nil,List.foldl_cons,List.foldl_nil,List.foldl_map];apply List.ext_getElem?;intro j;rw[vv,List.getElem?_set];by_cases hj:b=j
     ·grind
     ·grind [Aa]
    unfold fQ;rw[hw];simp only[hp,hrd,finish,gm,dy,qy,and_self,if_true,aQ.y9,fP,hlen,Nat.le_refl,hdrop,ite_self,mg,hG,fB,List.isEmpty_nil,Bool.not_true,H'];simp only[iG,wC];rw[happ _ _ rfl];simp_all
   |aZ u=>
    rw[ho]at hk;have hfl:u.flat=true:=by have:=c.r0 q;rw[ho]at this;exact this
    simp only[hid]at hk;refine⟨_,_,kk q,?_,hk,by simpa using hr⟩
    unfold fQ;rw[hw];simp only[hp,hrd,finish,gm,dy,qy,and_self,if_true,aQ.y9,fP,hfl,H'];simp only[iG,wC]
 ·rename_i pr g';obtain⟨hw,hpr,hc⟩:=h;simp only[G.run]at hr;have hpure:=Ah hpr;split at hc
  ·rename_i f args ids rs hx;obtain⟨hp,hrd⟩:=Kj (nid:=nid) hpure hx;simp only[H9]at hp;simp only[dy]at hc;obtain⟨g2,a,H1,hk,hr2,hfn⟩:=hNe.fn hc hr;refine⟨_,zc hfn,?_⟩;rcases vC hk with⟨e,hm,hk⟩ |⟨v,hm,hk⟩
   ·simp only[hG,fB]at hk;refine⟨_,_,g2,?_,hk,hr2⟩;unfold fQ;rw[hw];simp only[hp,hrd,finish,gm,dy,qy,and_self,if_true,hm,mg,hG,fB];simp only[iG,wC]
   ·refine⟨_,_,g2,?_,hk,hr2⟩;unfold fQ;rw[hw];simp only[hp,hrd,finish,gm,dy,qy,and_self,if_true,hm];simp only[iG,wC]
  ·rename_i b args ids rs hx;obtain⟨hp,hrd⟩:=Kj (nid:=nid) hpure hx;simp only[H9]at hp;simp only[dy]at hc;obtain⟨g2,a,H1,hk,hr2,hfn⟩:=hNe.Bo hc hr;refine⟨_,My hfn,?_⟩;rcases vC hk with⟨e,hm,hk⟩ |⟨v,hm,hk⟩
   ·simp only[hG,fB]at hk;refine⟨_,_,g2,?_,hk,hr2⟩;unfold fQ;rw[hw];simp only[hp,hrd,finish,gm,dy,BZ,and_self,if_true,hm,mg,hG,fB];simp only[iG,wC]
   ·refine⟨_,_,g2,?_,hk,hr2⟩;unfold fQ;rw[hw];simp only[hp,hrd,finish,gm,dy,BZ,and_self,if_true,hm];simp only[iG,wC]
  ·exact nomatch hc
 ·simp[G.run]at hr
 ·simp[G.run]at hr
 ·simp[G.run]at hr
 ·exact nomatch h
 ·exact nomatch h
theorem yp{orc orc':Nat→kq}:∀(l:List (Oper×Nat)) (i:Nat) (s:St),(∀j,i≤j→orc j=orc' j)→lS P X.cfg orc ops n0 i l s=lS P X.cfg orc' ops n0 i l s
 | [],_,_,_=>rfl
 | (o,nid)::rest,i,s,h=>by
  simp only[lS,h i (Nat.le_refl _)];split
  ·rw[yp rest (i+1) _ fun j hj=>h j (by omega)]
  ·rfl
  ·rfl
theorem Jv(hNe:pn P X.N){n:Nat}{ρ:Type}{r:ρ}{g:G P ρ}{H0:List ah}{k:G P ρ→eW→gL→Prop}(h:xF P X true H0 ops n0 o nid g s k)(hr:g.run n=some r):
 ∃orc,gM P orc∧∃res f g',fQ P X.cfg orc ops n0 o nid s=some (res,f)∧k g' res f∧g'.run n=some r:=by
 unfold xF at h;grind [lU]
theorem EA(hNe:pn P X.N){n:Nat}{ρ:Type}{r:ρ}{H0:List ah}:∀(l:List (Oper×Nat)) (i:Nat) (g:G P ρ) (s:St) (k:G P ρ→eW→List gL→Prop),zG P X true H0 ops n0 l g s k→g.run n=some r→
 ∃orcs:Nat→kq,(∀j,gM P (orcs j))∧∃res fs g',lS P X.cfg orcs ops n0 i l s=some (res,fs)∧k g' res fs∧g'.run n=some r
 | [],i,g,s,k,h,hr=>⟨fun _=>vA,fun _=>sB,.ok s,[],g,rfl,h,hr⟩
 | (o,nid)::rest,i,g,s,k,h,hr=>by
  simp only[zG]at h;obtain⟨g1,h,hr⟩:=mS h hr;obtain⟨orc,ho,res,f,g2,hs,h,hr⟩:=Jv hNe h hr;cases res with
  |ok s'=>
   obtain⟨A,H,D⟩:=s';simp only[dX]at h;obtain⟨orcs,hos,res,fs,g3,hrun,hk,hr⟩:=EA hNe rest (i+1) g2 _ _ h hr;refine⟨fun j=>if j=i then orc else orcs j,fun j=>(by grind:gM P (if j=i then orc else orcs j)),res,f::fs,g3,?_,hk,hr⟩
   grind [lS,yp]
  |aZ v s'=>
   exact⟨fun _=>orc,fun _=>ho,.aZ v s',[f],g2,by simp only[lS,hs],h,hr⟩
theorem G1(hNe:pn P X.N){n:Nat}{ρ:Type}{r:ρ}{H0:List ah}{g:G P ρ}{s:St}{k:G P ρ→eW→Prop}(h:sA P X H0 ops true g s k)(hr:g.run n=some r):
 ∃orcs:Nat→kq,(∀j,gM P (orcs j))∧∃res g',uj P X.cfg orcs ops true s=some res∧k g' res∧g'.run n=some r:=by
 simp only[sA,gZ,ry]at h;obtain⟨orcs,ho,res,fs,g',hrun,hk,hr⟩:=EA hNe _ 0 _ _ _ h hr;refine⟨orcs,ho,?_⟩;simp only[uj,gZ,ry,hrun];grind
theorem Gi(keep:List Nat):∀(A:List AVal) (i j:Nat),(v8 keep i A)[j]? =(A[j]?).map fun a=>match keep.contains (i+j)with |true=>a |false=>.aq
 | [],_,_=>by simp[v8]
 |a::as,i,0=>rfl
 |a::as,i,j+1=>by
  simp only[v8,List.getElem?_cons_succ];rw[Gi keep as (i+1) j,show i+1+j=i+(j+1)by omega]
theorem Pq{g:Gh}{w:World}{keep:List Nat}{A:List AVal}{vs:List Value}(h:RL g w A vs):RL g w (v8 keep 0 A) vs:=by
 obtain⟨h1,h2⟩:=dR _ _ h;have hlen:(v8 keep 0 A).length=A.length:=by
  have:∀(A:List AVal) (i:Nat),(v8 keep i A).length=A.length:=by
   intro A;induction A with
   |nil=>intro i;rfl
   |cons a as ih=>intro i;simp[v8,ih]
  exact this A 0
 grind [uC,Gi,R]
theorem Ia:∀{l:List PU} {H:List ah},Kh l H→BV (l.map (·.b)) H
 | [],_,_=>fun _ h=>by simp at h
 |p::ps,H,h=>by
  intro b hb x hx;simp only[List.map_cons,List.mem_cons]at hb;rcases hb with rfl |hb
  ·rw[h.1]at hx;cases hx;exact p.pf
  ·exact Ia h.2 b hb x hx
theorem Kk:∀(l:List AVal),(nZ l).length=l.length
 | []=>rfl
 |_::l=>by simp[nZ,Kk l]
theorem MA{g:Gh}{w:World}:∀(l:List (List AVal)) (k o sz:Nat),RR g w l k o sz→RR g w (l.map nZ) k o sz
 | [],_,_,_,_=>by simp[RR]
 |r::rs,k,o,sz,h=>by
  simp only[RR,List.map_cons]at h ⊢;exact⟨⟨by rw[Kk];exact h.1.1,tU _ h.1.2.1,HZ _ _ _ h.1.2.2⟩,MA rs k (o+sz) sz h.2⟩
theorem NV{g:Gh}{w:World}{rows:List (List AVal)}{x:Value}(h:R g w (.ax rows) x):R g w (.ax (rows.map nZ)) x:=by
 simp only[R,List.length_map]at h ⊢;obtain⟨a,cap,e,h1,h2⟩:=h;refine⟨a,cap,e,h1,?_⟩;rcases h2 with h2 |⟨k,off,sz,ha,hr⟩
 ·exact .inl h2
 ·exact .inr ⟨k,off,sz,ha,MA _ _ _ _ hr⟩
theorem dI{H0:List ah}:∀{ts:List TS} {s:St} {k:St→Prop},aX ts=true→jU H0 ts s k→∃s',iN H0 s s'∧k s'
 | [],s,k,_,h=>⟨s,.refl _ _,h⟩
 | .keep l::ts,s,k,hok,h=>by
  simp only[jU,dX]at h;obtain⟨s',h1,h2⟩:=dI (by simpa only[aX]using hok) h
  exact⟨s',iN.trans (s1:={s with A:=v8 l 0 s.A}) (fun _ _ g a w _ hl hs=>⟨g,⟨hs.inv,Pq hs.tmps,hs.defs⟩,hl⟩) h1,h2⟩
 | .wk p::ts,s,k,hok,h=>by
  simp only[jU]at h;split at h
  ·rename_i s1 hw;obtain⟨s',h1,h2⟩:=dI (by simpa only[aX]using hok) h
   exact⟨s',(NN hw).trans h1,h2⟩
  ·exact h.elim
 | .own p sz::ts,s,k,hok,h=>by
  simp only[jU]at h;split at h
  ·rename_i s1 hw;obtain⟨s',h1,h2⟩:=dI (by simpa only[aX]using hok) h
   exact⟨s',(Mu hw).trans h1,h2⟩
  ·exact h.elim
 | .gR z::ts,s,k,hok,h=>by
  simp only[jU]at h;simp only[aX,Bool.and_eq_true,decide_eq_true_eq]at hok;obtain⟨q1,q2,h⟩:=h;split at h
  ·rename_i s1 hw;obtain⟨s',h1,h2⟩:=dI hok.2 h;exact⟨s',(Mv ⟨z.b,z.ak,z.sz,by rw[q1,hok.1],q2,z.pf⟩ hw).trans h1,h2⟩
  ·exact h.elim
 | .OU z::ts,s,k,hok,h=>by
  simp only[jU]at h;obtain⟨q1,h⟩:=h;obtain⟨s',h1,h2⟩:=dI (by simpa only[aX]using hok) h
  refine⟨s',iN.trans (s1:=AR s (.ax z.rows') z.p) (fun _ _ g a w _ hl hs=>?_) h1,h2⟩
  obtain⟨p1,p2⟩:=xE q1 hs (v':=.ax z.rows') fun x hx=>by rw[← z.pf];exact NV hx
  exact⟨g,p1,hl.trans p2⟩
 | .cut bl bump pu::ts,s,k,hok,h=>by
  simp only[jU,dX]at h;obtain⟨q1,h⟩:=h;split at h
  ·rename_i A H D hw;obtain⟨s',h1,h2⟩:=dI (by simpa only[aX]using hok) h
   exact⟨s',(NL (Ia q1) hw).trans h1,h2⟩
  ·exact h.elim
theorem Jw(hNe:pn P X.N){n:Nat}{ρ:Type}{r:ρ}{g:G P ρ}{H0:List ah}{k:G P ρ→eW→gL→Prop}(h:xF P X false H0 ops n0 o nid g s k)(hr:g.run n=some r):
 ∃s2,iN H0 s s2∧∃orc,gM P orc∧∃res f g',fQ P X.cfg orc ops n0 o nid s2=some (res,f)∧k g' res f∧g'.run n=some r:=by
 unfold xF at h;split at h
 ·grind [G.run,dI,lU]
 ·exact⟨s,.refl _ _,lU hNe h hr⟩
theorem EB(hNe:pn P X.N){n:Nat}{ρ:Type}{r:ρ}{H0:List ah}:∀(l:List (Oper×Nat)) (i:Nat) (g:G P ρ) (s:St) (k:G P ρ→eW→List gL→Prop),zG P X false H0 ops n0 l g s k→g.run n=some r→
 (∀(j:Nat),(l[j]?).map (fun(p:Oper×Nat)=>p.1)=(ops.toList.drop i)[j]?)→∃g' res fs,k g' res fs∧g'.run n=some r∧
 ∀(fro:Option Nat),(∀(k:Nat) (o:Oper),ops[k]? =some o→Calm fro o)→∀(gg:Gh) (ww:World) (Q:Exit→Act→World→Prop),Inv gg H0 ww→∀(g1:Gh) (a:Act) (w:World),ff g1 s a w→aU gg H0 ww g1 s.H w→qJ Q gg H0 ww res→wpOpsIn (Fr fro) 0 P ops Q (List.range' i l.length) a w
 | [],i,g,s,k,h,hr,_=>⟨g,.ok s,[],h,hr,fun _ _ _ _ _ _ g1 a w hs hl hp=>hp g1 a w hs hl⟩
 | (o,nid)::rest,i,g,s,k,h,hr,hj=>by
  have hi:ops[i]? =some o:=by
   have:=hj 0;simp at this;exact this.symm
  simp only[zG]at h;obtain⟨g',h,hr⟩:=mS h hr;obtain⟨s2,hw2,orc,ho,res,f,g3,hst,h,hr⟩:=Jw hNe h hr;cases res with
  |ok s'=>
   obtain⟨A,H,D⟩:=s';simp only[dX]at h;obtain⟨g4,res4,fs4,hk4,hr4,hwp⟩:=EB hNe rest (i+1) g3 ⟨A,H,D⟩ _ h hr (fun j=>by
    have:=hj (j+1);grind)
   refine⟨g4,res4,_,hk4,hr4,fun fro hcalm gg ww Q hi0 g1 a w hs hl hp=>?_⟩
   simp only[List.length_cons,List.range'_succ,wpOpsIn_cons];obtain⟨g2,hs2,hl2⟩:=hw2 gg ww g1 a w hi0 hl hs;exact pZ ho hs2 hi (hcalm i o hi) hst fun g5 a' w' hs' hla=>hwp fro hcalm gg ww Q hi0 g5 a' w' hs' (hl2.trans hla) hp
  |aZ v s'=>
   refine⟨g3,.aZ v s',_,h,hr,fun fro hcalm gg ww Q hi0 g1 a w hs hl hp=>?_⟩
   simp only[List.length_cons,List.range'_succ,wpOpsIn_cons];obtain⟨g2,hs2,hl2⟩:=hw2 gg ww g1 a w hi0 hl hs;exact pZ ho hs2 hi (hcalm i o hi) hst fun g' w' x hv hs' hla hx=>hp g' a w' x hv hs' (hl2.trans hla) hx
theorem G2(hNe:pn P X.N){H0:List ah}{n:Nat}{ρ:Type}{r:ρ}{id:Nat}{g:G P ρ}{s:St}{k:G P ρ→eW→Prop}(h:sA P X H0 ops false g s k)(hr:g.run n=some r):
 ∃g' res,k g' res∧g'.run n=some r∧∀(fro:Option Nat),(∀(k:Nat) (o:Oper),ops[k]? =some o→Calm fro o)→∀(gg:Gh) (ww:World),Inv gg H0 ww→fH P fro gg H0 ww (.region id ops false) s fun o s'=>o=(CL res).1∧s'=(CL res).2:=by
 simp only[sA,gZ,ry]at h;generalize (if nh ops.toList=0 then 0 else pV s.H)=t0 at h
 generalize nh ops.toList - t0=m0 at h;generalize s.H.length - t0=f0 at h;obtain⟨g',res,fs,hk,hr',hwp⟩:=EB hNe _ 0 _ _ _ h hr (fun j=>by rw[rC];simp)
 simp only[Bool.not_false,if_true]at hk;refine⟨g',res,hk,hr',fun fro hcalm gg ww hi0 Q g1 a w hs hl hp=>?_⟩
 obtain⟨i1,i2⟩:=hs.inv.reserve m0;have hs0:ff g1 {s with H:=s.H++List.replicate m0 .bt} a w:=⟨i1,hs.tmps,hs.defs⟩;refine wpIn_region ?_;rw[List.range_eq_range'];have:=hwp fro hcalm gg ww Q hi0 g1 a w hs0 (hl.trans i2) (by
  have:=hp _ _ ⟨rfl,rfl⟩;cases res with
  |ok s'=>exact this
  |aZ v s'=>exact this)
 grind [uN]
theorem AW{H0:List ah}{n:Nat}{ρ:Type}{r:ρ}{g:G P ρ}{s:St}{k:G P ρ→St→Prop}(h:DR H0 g s k)(hr:g.run n=some r):∃s' g',iN H0 s s'∧k g' s'∧g'.run n=some r:=by
 unfold DR at h;split at h
 ·grind [G.run,dI]
 ·exact⟨s,g,.refl _ _,h,hr⟩
theorem Gj{n:Nat}{σ:Type}{sh:Sh}{H0:List ah}{E:σ→St}{X:sh.El→bu×St}{g:G P (σ⊕sh.El)}{o:bu}{s:St}{q:σ⊕sh.El}(h:pg H0 E X g o s)(hr:g.run n=some q):
 ∃s',iN H0 s s'∧match q with | .inl a=>o=.normal∧s'=E a | .inr t=>o≠ .normal∧(o,s')=X t:=by
 unfold pg at h;split at h
 ·grind [G.run,dI]
 ·grind [G.run,dI]
 ·simp[G.run]at hr
 ·exact nomatch h
def Ib(P:Program)[aD](H0:List ah)(ro:Option Nat)(b:Code):Nat→St→bu→St→Prop
 | 0,_,_,_=>False
 |n+1,s,o,s'=>∃o1 s1,(∀fro g0 w0,Inv g0 H0 w0→oD g0 ro fro→fH P fro g0 H0 w0 b s fun o2 s2=>o2=o1∧s2=s1)∧
  match o1 with
  | .normal=>Ib P H0 ro b n s1 o s'
  |o1=>o1=o∧s1=s'
theorem Gk{ro:Option Nat}{H0:List ah}{b:Code}{n:Nat}{ρ:Type}{r:ρ}{k:G P ρ→bu→St→Prop}
 (ih:∀(g:G P ρ) (s:St) (k:G P ρ→bu→St→Prop),jR P X H0 b g s k→g.run n=some r→∃g' o s',k g' o s'∧g'.run n=some r∧∀fro g0 w0,Inv g0 H0 w0→oD g0 ro fro→fH P fro g0 H0 w0 b s fun o1 s1=>o1=o∧s1=s'):
 ∀(m:Nat) (g:G P ρ) (s:St),CO (fun g s k=>jR P X H0 b g s k) m g s k→g.run n=some r→∃g' o s',k g' o s'∧g'.run n=some r∧o≠ .normal∧Ib P H0 ro b m s o s'
 | 0,_,_,h,_=>h.elim
 |m+1,g,s,h,hr=>by
  simp only[CO]at h;obtain⟨g1,o1,s1,hk,hr1,hd⟩:=ih g s _ h hr;cases o1 with
  |normal=>
   obtain⟨g',o,s',h1,h2,h3,h4⟩:=Gk ih m g1 s1 hk hr1;exact⟨g',o,s',h1,h2,h3,.normal,s1,hd,h4⟩
  |exit id=>exact⟨g1,_,s1,hk,hr1,(fun h=>(by cases h)),_,s1,hd,rfl,rfl⟩
  |ret=>exact⟨g1,_,s1,hk,hr1,(fun h=>(by cases h)),_,s1,hd,rfl,rfl⟩
  |aZ v=>exact⟨g1,_,s1,hk,hr1,(fun h=>(by cases h)),_,s1,hd,rfl,rfl⟩
theorem vD{ro fro:Option Nat}{g0:Gh}{ops:Array Oper}(hro:oD g0 ro fro)(h:(ro.isSome&&ops.toList.any z7)=false):∀(k:Nat) (o:Oper),ops[k]? =some o→Calm fro o:=by
 intro k o hk;cases ro with
 |none=>
  cases fro with
  |none=>exact .inl rfl
  |some k=>exact hro.elim
 |some b=>
  right;grind
theorem fH.post{fro:Option Nat}{g0:Gh}{H0:List ah}{w0:World}(hi0:Inv g0 H0 w0){c:Code}{s s1 s2:St}{o:bu}(hw:iN H0 s1 s2)(h:fH P fro g0 H0 w0 c s fun o1 s'=>o1=o∧s'=s1):
 fH P fro g0 H0 w0 c s fun o1 s'=>o1=o∧s'=s2:=
 fun Q g a w hs hl hk=>h Q g a w hs hl fun o' s' ⟨e1,e2⟩=>by grind [fG.weak]
theorem Gl{H0:List ah}{sh:Sh}{Y:sh.El→bu×St}{n:Nat}{g:G P sh.El}{o:bu}{s:St}{t:sh.El}(h:CP H0 Y g o s)(hr:g.run n=some t):∃s',iN H0 s s'∧(o,s')=Y t:=by
 unfold CP at h;split at h
 ·grind [G.run,dI]
 ·simp[G.run]at hr
 ·exact nomatch h
theorem Kl{ρ:Type}{n:Nat}{f:FuncId}{args:List AVal}{H:List ah}{c:wV P}{x:c.X}{kk:c.sh.El→G P ρ}{k:G P ρ→aQ→List ah→Prop}{r:ρ}(h:K2 P f args H c x kk k)(hr:(G.di c x kk).run n=some r):
 ∃g' a H1,k g' a H1∧g'.run n=some r∧bT P f args H a H1:=by
 obtain⟨_,he,h⟩:=h;simp only[Option.some.injEq,Prod.mk.injEq]at he;obtain⟨rfl,ha,rfl⟩:=he;obtain⟨q,hq,hr⟩:=Option.bind_eq_some_iff.1 (show(c.S n x).bind (fun q=>(kk q).run n)=some r from hr)
 refine⟨kk q,c.out q,c.iA x q,(c.sh.cA _).1 h q,hr,bT.wk ?_⟩;rw[ha];exact c.ok n x q hq
theorem vE:pn P (tN P):=by
 refine⟨fun h hr=>?_,fun h=>h.elim,fun h=>h.elim⟩
 simp only[tN]at h;split at h
 ·exact Kl h hr
 ·exact h.elim
theorem Q7(hNe:pn P X.N)(draw:Bool):pn P (X.at draw).N:=by
 grind [Env.at,vE]
theorem Qd(draw:Bool):(X.at draw).cfg=X.cfg:=by unfold Env.at;split<;>rfl
theorem Gm(hNe:pn P X.N){H0:List ah}{n:Nat}{σ:Type}{sh:Sh}{b:Code}{E:σ→St}{s:St}{Y:sh.El→bu×St}{q:σ⊕sh.El}{f:G P (σ⊕sh.El)→Prop}
 (ih:∀g,f g→g.run n=some q→∃(g':G P (σ⊕sh.El)) (o:bu) (s':St),pg H0 E Y g' o s'∧g'.run n=some q∧∀fro g0 w0,Inv g0 H0 w0→oD g0 X.ro fro→fH P fro g0 H0 w0 b s fun o1 s1=>o1=o∧s1=s')
 {g:G P (σ⊕sh.El)} (h:CR X.N X.ro H0 b E s Y g f) (hr:g.run n=some q):
 ∃(g':G P (σ⊕sh.El)) (o:bu) (s':St),pg H0 E Y g' o s'∧g'.run n=some q∧∀fro g0 w0,Inv g0 H0 w0→oD g0 X.ro fro→fH P fro g0 H0 w0 b s fun o1 s1=>o1=o∧s1=s':=by
 unfold CR at h;split at h
 ·exact hNe.lp h (by simpa[G.run]using hr)
 ·exact ih _ h hr
theorem xW(hm:P.follows .mixedOrders=true)(hNe:pn P X.N){H0:List ah}{n:Nat}:∀(c:Code) {ρ:Type} (r:ρ) (g:G P ρ) (s:St) (k:G P ρ→bu→St→Prop),jR P X H0 c g s k→g.run n=some r→
 ∃g' o s',k g' o s'∧g'.run n=some r∧∀fro g0 w0,Inv g0 H0 w0→oD g0 X.ro fro→fH P fro g0 H0 w0 c s fun o1 s1=>o1=o∧s1=s':=by
 intro c;induction c with
 |skip=>intro ρ r g s k h hr;exact⟨g,.normal,s,h,hr,fun _ _ _ _ _=>.skip ⟨rfl,rfl⟩⟩
 |region id ops draw=>
  intro ρ r g s k h hr;simp only[jR]at h;split at h
  ·exact h.elim
  rename_i hoff;obtain⟨s1,g1,hw,h,hr⟩:=AW h hr;cases draw with
  |false=>
   obtain⟨g',res,hk,hr',hd⟩:=G2 hNe (id:=id) h hr;cases res with
   |ok s'=>exact⟨g',.normal,s',hk,hr',fun fro g0 w0 hi hro=>.weak hi hw (hd fro (vD hro hoff) g0 w0 hi)⟩
   |aZ v s'=>exact⟨g',.aZ v,s',hk,hr',fun fro g0 w0 hi hro=>.weak hi hw (hd fro (vD hro hoff) g0 w0 hi)⟩
  |true=>
   obtain⟨orcs,ho,res,g',hreg,h,hr⟩:=G1 (Q7 hNe true) h hr;rw[Qd]at hreg;cases res with
   |ok s'=>exact⟨g',.normal,s',h,hr,fun fro g0 w0 hi hro=>.weak hi hw (.region hm ho (vD hro hoff) hreg ⟨rfl,rfl⟩)⟩
   |aZ v s'=>exact⟨g',.aZ v,s',h,hr,fun fro g0 w0 hi hro=>.weak hi hw (.region hm ho (vD hro hoff) hreg ⟨rfl,rfl⟩)⟩
 |seq a b iha ihb=>
  intro ρ r g s k h hr;simp only[jR]at h;obtain⟨g1,o1,s1,h1,hr1,d1⟩:=iha r g s _ h hr;cases o1 with
  |normal=>
   obtain⟨g2,o2,s2,h2,hr2,d2⟩:=ihb r g1 s1 k h1 hr1;refine⟨g2,o2,s2,h2,hr2,fun fro g0 w0 hi hro=>.seq ((d1 fro g0 w0 hi hro).mono fun o s' ⟨e1,e2⟩=>?_)⟩
   grind
  |exit id=>exact⟨g1,_,s1,h1,hr1,fun fro g0 w0 hi hro=>.seq ((d1 fro g0 w0 hi hro).mono fun o s' ⟨e1,e2⟩=>by grind)⟩
  |ret=>exact⟨g1,_,s1,h1,hr1,fun fro g0 w0 hi hro=>.seq ((d1 fro g0 w0 hi hro).mono fun o s' ⟨e1,e2⟩=>by grind)⟩
  |aZ v=>exact⟨g1,_,s1,h1,hr1,fun fro g0 w0 hi hro=>.seq ((d1 fro g0 w0 hi hro).mono fun o s' ⟨e1,e2⟩=>by grind)⟩
 |cond c a b iha ihb=>
  have main:∀{ρ:Type} (r:ρ) (g:G P ρ) (s:St) (k:G P ρ→bu→St→Prop),CQ P X H0 c a b (fun g s k=>jR P X H0 a g s k) (fun g s k=>jR P X H0 b g s k) g s k→g.run n=some r→
   ∃g' o s',k g' o s'∧g'.run n=some r∧∀fro g0 w0,Inv g0 H0 w0→oD g0 X.ro fro→fH P fro g0 H0 w0 (.cond c a b) s fun o1 s1=>o1=o∧s1=s':=by
   intro ρ r g s k h hr;unfold CQ at h;obtain⟨s1,g1,hw,h,hr⟩:=AW h hr;obtain⟨g1,h,hr⟩:=mS h hr;split at h
   ·rename_i m g2;have hr2:(G.less m g2).run n=some r:=by rw[G.H6];simpa[G.run]using hr
    split at h
    ·rename_i hc;obtain⟨g',o,s',h1,h2,d⟩:=iha r _ _ k h hr2;exact⟨g',o,s',h1,h2,fun fro g0 w0 hi hro=>.weak hi hw (.cond true hc (d fro g0 w0 hi hro))⟩
    ·rename_i hc;obtain⟨g',o,s',h1,h2,d⟩:=ihb r _ _ k h hr2;exact⟨g',o,s',h1,h2,fun fro g0 w0 hi hro=>.weak hi hw (.cond false hc (d fro g0 w0 hi hro))⟩
    ·exact h.elim
   ·simp[G.run]at hr
   ·exact nomatch h
  intro ρ r g s k h hr;simp only[jR]at h;split at h
  ·rename_i sh Y g1 kk;obtain⟨t,ht,hr⟩:=Option.bind_eq_some_iff.1 (show(g1.run n).bind (fun t=>(kk t).run n)=some r from hr)
   obtain⟨g',o,s',h1,h2,d⟩:=main t g1 s _ h.1 ht;obtain⟨s'',hw,e⟩:=Gl h1 h2;have e1:o=(Y t).1:=congrArg Prod.fst e;have e2:s''=(Y t).2:=congrArg Prod.snd e;refine⟨kk t,(Y t).1,(Y t).2,(sh.cA _).1 h.2 t,hr,fun fro g0 w0 hi hro=>?_⟩
   rw[← e1,← e2];exact(d fro g0 w0 hi hro).post hi hw
  ·exact main r g s k h hr
 |block id b ih=>
  have main:∀{ρ:Type} (r:ρ) (g:G P ρ) (s:St) (k:G P ρ→bu→St→Prop),jR P X H0 b g s (Ae id k)→g.run n=some r→
   ∃g' o s',k g' o s'∧g'.run n=some r∧∀fro g0 w0,Inv g0 H0 w0→oD g0 X.ro fro→fH P fro g0 H0 w0 (.block id b) s fun o1 s1=>o1=o∧s1=s':=by
   intro ρ r g s k h hr;obtain⟨g1,o1,s1,h1,hr1,d1⟩:=ih r g s _ h hr;refine⟨g1,behind id o1,s1,?_,hr1,fun fro g0 w0 hi hro=>.block ((d1 fro g0 w0 hi hro).mono fun o s' ⟨e1,e2⟩=>by grind)⟩
   unfold Ae at h1;cases o1 with
   |exit id'=>
    grind [behind]
   |normal=>exact h1
   |ret=>exact h1
   |aZ v=>exact h1
  intro ρ r g s k h hr;simp only[jR]at h;split at h
  ·rename_i sh Y g1 kk;obtain⟨t,ht,hr⟩:=Option.bind_eq_some_iff.1 (show(g1.run n).bind (fun t=>(kk t).run n)=some r from hr)
   obtain⟨g',o,s',h1,h2,d⟩:=main t g1 s _ h.1 ht;obtain⟨s'',hw,e⟩:=Gl h1 h2;have e1:o=(Y t).1:=congrArg Prod.fst e;have e2:s''=(Y t).2:=congrArg Prod.snd e;refine⟨kk t,(Y t).1,(Y t).2,(sh.cA _).1 h.2 t,hr,fun fro g0 w0 hi hro=>?_⟩
   rw[← e1,← e2];exact(d fro g0 w0 hi hro).post hi hw
  ·exact main r g s k h hr
 |loop b ih=>
  intro ρ r g s k h hr;simp only[jR]at h;split at h
  ·rename_i m g1;simp only[G.run]at hr;obtain⟨g',o,s',h1,h2,hne,hrd⟩:=Gk (ro:=X.ro) (fun g s k h hr=>ih r g s k h hr) m g1 s h hr
   refine⟨g',o,s',h1,h2,fun fro g0 w0 hi hro=>.loop hi (n:=m) (s0:=s) (fun m s=>Ib P H0 X.ro b m s o s') (fun s h=>h.elim) (.refl _ _) hrd ?_⟩
   rintro m s1 ⟨o1,s2,hd,hx⟩;refine(hd fro g0 w0 hi hro).mono fun o3 s3 ⟨e1,e2⟩=>?_
   subst e1;subst e2;refine⟨s3,.refl _ _,?_⟩;grind
  ·rename_i σ sh hd E Y a0 body kk;obtain⟨h0,hb,hx⟩:=h;simp only[G.run,Option.ite_none_right_eq_some]at hr;obtain⟨hok,hr⟩:=hr;cases ht:cE (fun a=>(body a).run n) n a0 with
   |none=>rw[ht]at hr;cases hr
   |some t=>
    rw[ht]at hr;have hx:=(sh.cA _).1 hx t;obtain⟨_,h0,rfl⟩:=dI hok h0;refine⟨kk t,(Y t).1,(Y t).2,hx,by simpa using hr,fun fro g0 w0 hi hro=>.loop hi (n:=n) (s0:=E a0) (fun m s1=>∃a,s1=E a∧cE (fun a=>(body a).run n) m a=some t) (fun s ⟨a,_,h⟩=>by simp[cE]at h) h0 ⟨a0,rfl,ht⟩ ?_⟩
    rintro m s1 ⟨a,rfl,hit⟩;simp only[cE]at hit;cases hq:(body a).run n with
    |none=>rw[hq]at hit;cases hit
    |some q=>
     rw[hq]at hit;obtain⟨g',o',s',h',hr',d'⟩:=Gm hNe (fun g h hr=>ih q g (E a) _ h hr) (hb a) hq
     refine(d' fro g0 w0 hi hro).mono fun o2 s2 ⟨e1,e2⟩=>?_
     grind [Gj]
  ·rename_i hsh sh hd E Y a0 body kk;obtain⟨h0,hb,hx⟩:=h;have hb:=(hsh.cA _).1 hb;simp only[G.run,Option.ite_none_right_eq_some]at hr;obtain⟨hok,hr⟩:=hr;cases ht:cE (fun a=>(body a).run n) n a0 with
   |none=>rw[ht]at hr;cases hr
   |some t=>
    rw[ht]at hr;have hx:=(sh.cA _).1 hx t;obtain⟨_,h0,rfl⟩:=dI hok h0;refine⟨kk t,(Y t).1,(Y t).2,hx,by simpa using hr,fun fro g0 w0 hi hro=>.loop hi (n:=n) (s0:=E a0) (fun m s1=>∃a,s1=E a∧cE (fun a=>(body a).run n) m a=some t) (fun s ⟨a,_,h⟩=>by simp[cE]at h) h0 ⟨a0,rfl,ht⟩ ?_⟩
    rintro m s1 ⟨a,rfl,hit⟩;simp only[cE]at hit;cases hq:(body a).run n with
    |none=>rw[hq]at hit;cases hit
    |some q=>
     rw[hq]at hit;obtain⟨g',o',s',h',hr',d'⟩:=Gm hNe (fun g h hr=>ih q g (E a) _ h hr) (hb a) hq
     refine(d' fro g0 w0 hi hro).mono fun o2 s2 ⟨e1,e2⟩=>?_
     grind [Gj]
  ·simp[G.run]at hr
  ·exact nomatch h
 |exit id=>intro ρ r g s k h hr;exact⟨g,_,s,h,hr,fun _ _ _ _ _=>.exit ⟨rfl,rfl⟩⟩
 |ret=>intro ρ r g s k h hr;exact⟨g,_,s,h,hr,fun _ _ _ _ _=>.ret ⟨rfl,rfl⟩⟩
 |rangeFunc x ps as bd=>
  intro ρ r g s k h hr;simp only[jR]at h;obtain⟨s1,g1,hw,h,hr⟩:=AW h hr;split at h
  ·rename_i pr g2;obtain⟨_,h⟩:=h;simp only[G.run]at hr;split at h
   ·rename_i f p q hf;split at h
    ·rename_i l H1 D1 hen;rw[dX]at h;obtain⟨hpr,h⟩:=h;split at h
     ·rename_i ids rs hcl;simp only[dy]at h;obtain⟨hq,_⟩:=qb (Ah hpr) _ _ _ _ _ hcl;obtain⟨g3,a,H2,hk,hr3,hfn⟩:=hNe.fn h hr;have ho:=zc hfn;have hran:∀out s',z6 (qy f (p++[.jJ l]++q) (mask ids H1) a H2) X.ro 0 (cQ s1.A x) ps as bd s1=some (out,s')→∀fro g0 w0,Inv g0 H0 w0→oD g0 X.ro fro→fH P fro g0 H0 w0 (.rangeFunc x ps as bd) s fun o1 s1=>o1=out∧s1=s':=by
       intro out s' hra fro g0 w0 hi hro;refine .weak hi hw fun Q g a w hs hl hp=>?_
       exact Di ho (hro.mono hl.ext) hra hs ((hp out s' ⟨rfl,rfl⟩).later hl)
      rcases vC hk with⟨e,hm,hk⟩ |⟨v,hm,hk⟩
      ·simp only[fB]at hk;split at hk
       ·rename_i out s' hend;refine⟨g3,out,s',hk,hr3,hran out s' ?_⟩;simp only[z6,hf,hen,dX,hq,finish,gm,dy,qy,and_self,if_true,hm,mg,fB,hend]
       ·exact hk.elim
      ·refine⟨g3,_,_,hk,hr3,hran _ _ ?_⟩;simp only[z6,hf,hen,dX,hq,finish,gm,dy,qy,and_self,if_true,hm]
     ·exact h.elim
    ·exact h.elim
   ·exact h.elim
  ·simp[G.run]at hr
  ·exact nomatch h
 |_=>intro ρ r g s k h hr;exact h.elim
theorem k8{F:Fence}{fn:Func}{tmps:Array Value}{R R':Ending→World→Prop}(hR:∀e w,R e w→R' e w):∀{ds:List Deferred} {m:Nat} {u:FrameMode} {w:World},LeavesInM F m P fn tmps R ds u w→LeavesInM F m P fn tmps R' ds u w
 | [],m,u,w,h=>by
  cases u with
  |run=>exact h
  |returning=>obtain⟨v,h1,h2⟩:=h;exact⟨v,h1,hR _ _ h2⟩
  |panicking chain=>exact hR _ _ h
 |d::ds,m,u,w,h=>by
  obtain⟨hrun,h⟩:=h;refine⟨hrun,?_⟩;rcases h with⟨r,w',htar,htake,hrest⟩ |⟨hn,fv,cap,f,args,htar,hinv,hlead,hcall⟩
  ·exact .inl ⟨r,w',htar,htake,k8 hR hrest⟩
  ·refine .inr ⟨hn,fv,cap,f,args,htar,hinv,hlead,hcall.mono fun e u' w' h=>?_⟩
   cases e with
   |returned v=>exact k8 hR h
   |panicked chain=>exact k8 hR h
   |outgrown=>exact hR _ _ h
theorem Gn{L:Nat}{fn:Func}{m:Option AVal}{s:St}{r':aQ}{H1:List ah}(h:xG P cfg L fn m s=some (r',H1)):
 ∃m' H' r,leave P cfg vA L s.D m s.H=some (m',H')∧ending P fn s.A m' H'=some (r,H1)∧(∀v,r=.ret v→r'=.ret (jK v))∧(∀v,r=.aZ v→r'=.aZ v):=by
 grind [xG]
theorem bT.of(hm : P.follows .mixedOrders = true)(hN : ∀ (f : FuncId) (fn : Func), P.funcs[f]? = some fn → fn.name ≠ "runtime.NumGoroutine"){L : Nat}{f : FuncId}{fn : Func}{c : Code}{args : List AVal}{H0 H1 : List ah}{a : aQ}{o : bu}{s s' : St}
 (hf:P.funcs[f]? =some fn) (hb:fn.body=some c) (hd:∀g0 w0,Inv g0 H0 w0→fH P none g0 H0 w0 c ⟨mM fn.ntmps args,H0,[]⟩ fun o1 s1=>o1=o∧s1=s) (hwk:iN H0 s s') (hlo:rE P cfg L fn o s'=some (a,H1)):bT P f args H0 a H1:=by
 refine⟨⟨fn,c,hf,hb,hN f fn hf⟩,fun gh w vs hi hl=>callsIn_wide.1 (callsIn_of_wp_marks (F:=Fr none) (n:=0) hf hb trivial ?_)⟩
 have hsim:ff gh ⟨mM fn.ntmps args,H0,[]⟩ {tmps:=vs++Array.replicate (fn.ntmps - vs.size) undef,defers:=[]} w:=⟨hi,vz hl _,rfl⟩;refine hd gh w hi _ gh _ w hsim (aU.refl _ _ _) fun o1 s1 ⟨e1,e2⟩=>?_
 subst e1;subst e2;refine fG.weak hi hwk ?_;have key:∀(m:Option AVal) (u:FrameMode),xG P cfg L fn m s'=some (a,H1)→∀g' a' w',ff g' s' a' w'→aU gh H0 w g' s'.H w'→nX g' w' m u→
  LeavesInM (Fr none) 0 P fn a'.tmps (fC gh H0 w a H1) a'.defers u w':=by
  intro m u hla g' a' w' hs' hlat hmo;obtain⟨m',H',rr,h1,h2,h3,h4⟩:=Gn hla;refine k8 ?_ (lJ hm hN sB s'.D a'.defers m u s'.H g' w' m' H' hs'.defs hs'.inv hs'.tmps hmo h1 h2 hlat);rintro e w2 ⟨g2,hi2,hla2,he2⟩;refine⟨g2,hi2,hla2,?_⟩;cases rr with
  |ret v=>rw[h3 v rfl];obtain⟨x,rfl,hx⟩:=he2;exact⟨x,rfl,CK _ _ hx⟩
  |aZ v=>rw[h4 v rfl];exact he2
 cases o1 with
 |normal=>exact fun g' a' w' hs' hlat=>key none .returning hlo g' a' w' hs' hlat rfl
 |ret=>exact fun g' a' w' hs' hlat=>key none .returning hlo g' a' w' hs' hlat rfl
 |exit id=>simp[rE]at hlo
 |aZ v=>exact fun g' a' w' x hv hs' hlat hrx=>key (some v) (.panicking [{v:=x,recovered:=false}]) hlo g' a' w' hs' hlat ⟨hv,x,rfl,hrx⟩
theorem AX{L:Nat}{fn:Func}{m:Option AVal}{s:St}{a:aQ}{H1:List ah}(h:xG P cfg L fn m s=some (a,H1)):∀v,a=.aZ v→v.flat=true:=by
 grind [xG]
theorem Dq{L:Nat}{fn:Func}{o:bu}{s:St}{a:aQ}{H1:List ah}(h:rE P cfg L fn o s=some (a,H1)):∀v,a=.aZ v→v.flat=true:=by
 cases o with
 |normal=>exact AX h
 |ret=>exact AX h
 |exit id=>simp[rE]at h
 |aZ v=>exact AX h
theorem AY{nd : Bool}(hm : P.follows .mixedOrders = true)(hN : ∀ (f : FuncId) (fn : Func), P.funcs[f]? = some fn → fn.name ≠ "runtime.NumGoroutine") : ∀ d, pn P (kS P cfg nd d)
 | 0=>⟨fun h=>h.elim,fun h=>h.elim,fun h=>h.elim⟩
 |d+1=>by
  have ih:=AY (nd:=nd) hm hN d;constructor
  ·intro ρ n f args H g k r h hr;simp only[kS,OW]at h;split at h
   ·exact Kl h hr
   split at h
   ·rename_i fn hf;split at h
    ·rename_i c hb;obtain⟨g1,o,s1,h,hr,hd⟩:=xW (X:=⟨cfg,none,kS P cfg nd d,nd⟩) hm ih c r g _ _ h hr;unfold NS at h;split at h
     ·rename_i ts pr g2;simp only[G.run,Option.ite_none_right_eq_some]at hr;obtain⟨s',hw,h⟩:=dI hr.1 h;split at h
      ·rename_i a H1 hla;have hfn:=bT.of hm hN hf hb (fun g0 w0 hi=>hd none g0 w0 hi trivial) hw hla
       obtain⟨_,hpr,h⟩:=h;grind [dX,bT.trim,Dq,Ah]
      ·exact h.elim
     ·simp[G.run]at hr
     ·exact nomatch h
    ·exact h.elim
   ·exact h.elim
  ·intro ρ n b args H g k r h hr;simp only[kS,NU]at h;split at h
   ·rename_i st pend fid A ps assign body hb;split at h
    ·rename_i hlen;have hlen:=Nat.eq_of_beq_eq_true hlen;obtain⟨g1,o1,s1,h,hr,hd1⟩:=xW (X:=⟨cfg,some b,kS P cfg nd d,nd⟩) hm ih assign r g _ _ h hr;split at h
     ·split at h
      ·rename_i pend1 fid1 A1 ps1 as1 bd1 hb1;rw[dX]at h;obtain⟨g2,o2,s2,h,hr,hd2⟩:=xW (X:=⟨cfg,some b,kS P cfg nd d,nd⟩) hm ih body r g1 _ _ h hr;unfold NT at h;split at h
       ·rename_i j hj;split at h
        ·rename_i ts g3;simp only[G.run,Option.ite_none_right_eq_some]at hr;obtain⟨s3,hw,h⟩:=dI hr.1 h;split at h
         ·rename_i H2 hmk;refine⟨g3,_,H2,h,hr.2,fun gh w vs k sz hi hl hk=>?_⟩
          obtain⟨k0,tmps0,dk0,fn0,q1,q2,q3⟩:=hi.good b _ hb;rw[hk]at q1;simp only[Option.some.injEq,Prod.mk.injEq]at q1;obtain⟨rfl,rfl⟩:=q1;have hvs:=(dR _ _ hl).1;refine⟨_,q2,by grind,?_⟩
          rw[yf _ ps vs rfl];have hsim:ff gh ⟨tj A ps args,H,[]⟩ {tmps:=(ps.zip vs.toList).foldl (fun(tmps:Array Value) (p:Tmp×Value)=>tmps.setIfInBounds p.1 p.2) tmps0,defers:=[]} w:=
           ⟨hi,y8 ps args A _ tmps0 q3 hl,rfl⟩
          refine roundIn_of_wpIn trivial ?_;refine hd1 (some k) gh w hi ⟨0,hk⟩ _ gh _ w hsim (aU.refl _ _ _) fun oo ss ⟨e1,e2⟩=>?_
          subst e1;subst e2;intro gg1 a1 w1 hs1 hla1;have hk1:=hla1.ext.ai _ _ _ hk;obtain⟨k1,tmps1,dk1,fn1,u1,u2,u3⟩:=hs1.inv.good b _ hb1;rw[hk1]at u1;simp only[Option.some.injEq,Prod.mk.injEq]at u1;obtain⟨rfl,-⟩:=u1;refine⟨_,run_beginRound u2 rfl,?_⟩;obtain⟨i2,l2⟩:=hs1.inv.put (y:=.loop .busy pend1 fid1 A1 ps1 as1 bd1)
           (ob:=.loop {state:=.busy,pending:=pend1,fn:=fn1,tmps:=tmps1,params:=ps1.toArray,assign:=as1,body:=bd1,defers:=dk1}) hb1 rfl hk1 rfl (tr u2)
           fun hext=>⟨_,tmps1,dk1,fn1,hk1,World.putObj_heap_same (Array.getElem?_eq_some_iff.1 u2).1,bR hext _ _ u3⟩
          have hsim2:ff gg1 {ss with H:=ss.H.set b (.loop .busy pend1 fid1 A1 ps1 as1 bd1)} a1 (w1.putObj k (.loop {state:=.busy,pending:=pend1,fn:=fn1,tmps:=tmps1,params:=ps1.toArray,assign:=as1,body:=bd1,defers:=dk1})):=
           ⟨i2,bR l2.ext _ _ hs1.tmps,eA l2.ext _ _ hs1.defs⟩
          refine hd2 (some k) gh w hi ⟨0,hk⟩ _ gg1 a1 _ hsim2 (hla1.trans l2) fun oo2 ss2 ⟨e1,e2⟩=>?_
          subst e1;subst e2;refine fG.weak hi hw ?_;have hend:∀g' a' w',ff g' s3 a' w'→aU gh H w g' s3.H w'→
           ∃v w'',(Instr.endRound k j).run P w'=.ok v w''∧fC gh H w (.ret (.sc (.bool j.isNone))) H2 (.returned v) w'':=by
           intro g' a' w' hs' hla';obtain⟨rr,e1,e2,e3⟩:=yg hs'.inv (hla'.ext.ai _ _ _ hk) hmk;exact⟨_,_,run_endRound j e1,g',e2,hla'.trans e3,_,rfl,by simp[R]⟩
          cases oo2 with
          |normal=>
           simp only[rA,Option.some.injEq]at hj;subst hj;exact fun g' a' w' h1 h2=>hend g' a' w' h1 h2
          |ret=>
           simp only[rA,Option.some.injEq]at hj;subst hj;exact fun g' a' w' h1 h2=>hend g' a' w' h1 h2
          |exit id=>
           simp only[rA,Option.some.injEq]at hj;subst hj;exact fun g' a' w' h1 h2=>hend g' a' w' h1 h2
          |aZ v=>cases hj
         ·exact h.elim
        ·simp[G.run]at hr
        ·exact nomatch h
       ·exact h.elim
      ·exact h.elim
     ·exact h.elim
    ·exact h.elim
   ·exact h.elim
  ·intro σ sh n ro H0 b g E s Y q h hr;obtain⟨h⟩:=h;exact xW (X:=⟨cfg,ro,kS P cfg nd d,nd⟩) hm ih b q g s _ h hr
end
end Go.AM
end
section
namespace Go.AM
section
set_option linter.unusedSectionVars false
variable [aD] {P:Program} {cfg:fL}
def AZ(P:Program)[aD](cfg:fL)(L:Nat)(fn:Func)(m:Option AVal)(s:St):Option aQ:=
 match leave P cfg vA L s.D m s.H with
 |some (m',H')=>match ending P fn s.A m' H' with
  |some (.ret v,H1)=>match(snap ko v).run H1 with
   |some v'=>some (.ret (jK v'))
   |none=>none
  |some (.aZ v,_)=>match v.flat with
   |true=>some (.aZ v)
   |false=>none
  |none=>none
 |none=>none
def EC(P:Program)[aD](cfg:fL)(L:Nat)(fn:Func)(o:bu)(s:St):Option aQ:=
 match o with
 | .normal=>AZ P cfg L fn none s
 | .ret=>AZ P cfg L fn none s
 | .aZ v=>AZ P cfg L fn (some v) s
 | .exit _=>none
def Fv{ρ:Type}(P:Program)[aD](cfg:fL)(L:Nat)(fn:Func)(out:ρ→aQ)(g:G P ρ)(o:bu)(s:St):Prop:=
 match g with
 | .done ts r=>jU [] ts s fun s=>EC P cfg L fn o s=some (out r)
 | .fail=>True
 |_=>Q4 P fn o s out
def Qe{ρ:Type}(P:Program)[aD](cfg:fL)(L:Nat)(f:FuncId)(args:List AVal)(out:ρ→aQ)(g:G P ρ):Prop:=
 match P.funcs[f]? with
 |some fn=>match fn.body with
  |some c=>jR P (K5 P cfg) [] c g ⟨mM fn.ntmps args,[],[]⟩ fun g o s=>Fv P cfg L fn out g o s
  |none=>False
 |none=>False
def OZ{ρ:Type}(out:ρ→aQ)(r:ρ):Prop:=some (out r)=some (out r)
theorem NW{n L:Nat}{ρ:Type}{fn:Func}{out:ρ→aQ}{g:G P ρ}{o:bu}{s:St}{r:ρ}(h:Fv P cfg L fn out g o s)(hr:g.run n=some r):∃s',iN [] s s'∧EC P cfg L fn o s'=some (out r):=by
 unfold Fv at h;split at h
 ·simp only[G.run,Option.ite_none_right_eq_some,Option.some.injEq]at hr;obtain⟨hok,rfl⟩:=hr;exact dI hok h
 ·simp[G.run]at hr
 ·exact nomatch h
theorem ED{g g':Gh}{w w':World}{H1:List ah}{r r':aQ}{e:Ending}(hi:Inv g [] w)(hi':Inv g' H1 w')(hla:aU g [] w g' H1 w')(hl:(∀v,r=.ret v→∃v',(snap ko v).run H1=some v'∧r'=.ret (jK v'))∧(∀v,r=.aZ v→v.flat=true∧r'=.aZ v))
 (he:OT g' w' r e):fC g [] w r' [] e w':=by
 refine⟨gR g' H1,hi'.gR,⟨⟨fun b ak x hx=>?_,fun k o hk=>.inl (hla.ext.st k o hk),hla.ext.cell,hla.ext.shape⟩,hla.size,hla.keep,fun k _ ho=>absurd ho fM,Nat.le_refl _,hla.os,hla.tape,hla.output,fun k o hk hst=>?_,fun b hb=>by simp at hb,fun b ak k z h=>by cases h⟩,?_⟩
 ·rw[hi.fresh b ak (.inr (by simp))]at hx;cases hx
 ·rcases hst with hst |hst
  ·exact(hla.stk k o hk hst).imp_right fun h=>absurd h.1 fM
  ·exact absurd (hla.own k hk hst) fM
 ·cases r with
  |ret v=>
   obtain⟨v',hs,rfl⟩:=hl.1 v rfl;obtain⟨x,rfl,hr⟩:=he;exact⟨x,rfl,CK _ _ (pW hi' _ _ _ _ hs hr).1⟩
  |aZ v=>
   obtain⟨hf,rfl⟩:=hl.2 v rfl;obtain⟨x,rfl,hr⟩:=he;exact⟨x,rfl,k7 _ _ hf hr⟩
theorem Gp{L:Nat}{fn:Func}{m:Option AVal}{s:St}{r':aQ}(h:AZ P cfg L fn m s=some r'):
 ∃m' H' r H1,leave P cfg vA L s.D m s.H=some (m',H')∧ending P fn s.A m' H'=some (r,H1)∧(∀v,r=.ret v→∃v',(snap ko v).run H1=some v'∧r'=.ret (jK v'))∧(∀v,r=.aZ v→v.flat=true∧r'=.aZ v):=by
 unfold AZ at h;split at h
 ·rename_i m' H' hl;split at h
  ·rename_i v H1 he;split at h
   ·rename_i v' hs;simp only[Option.some.injEq]at h;subst h;refine⟨m',H',_,H1,hl,he,?_,?_⟩
    ·intro u hu;cases hu;exact⟨v',hs,rfl⟩
    ·intro u hu;cases hu
   ·cases h
  ·rename_i v H1 he;split at h
   ·rename_i hf;simp only[Option.some.injEq]at h;subst h;refine⟨m',H',_,H1,hl,he,?_,?_⟩
    ·intro u hu;cases hu
    ·intro u hu;cases hu;exact⟨hf,rfl⟩
   ·cases h
  ·cases h
 ·cases h
theorem MB(hm : P.follows .mixedOrders = true)(hN : ∀ (f : FuncId) (fn : Func), P.funcs[f]? = some fn → fn.name ≠ "runtime.NumGoroutine"){L : Nat}{f : FuncId}{args : List AVal}{ρ : Type}{out : ρ → aQ}{g : G P ρ}
 (h:Qe P cfg L f args out g) {n:Nat} {r:ρ} (hr:g.run n=some r):kr P f args (out r):=by
 unfold Qe at h;split at h
 ·rename_i fn hf;split at h
  ·rename_i c hb;refine⟨⟨fn,c,hf,hb,hN f fn hf⟩,fun gh w vs hi hl=>callsIn_wide.1 (callsIn_of_wp_marks (F:=Fr none) (n:=0) hf hb trivial ?_)⟩
   have hsim:ff gh ⟨mM fn.ntmps args,[],[]⟩ {tmps:=vs++Array.replicate (fn.ntmps - vs.size) undef,defers:=[]} w:=⟨hi,vz hl _,rfl⟩;obtain⟨g',o,s1,h',hr',hd⟩:=xW (X:=K5 P cfg) hm (AY hm hN 9) c r g _ _ h hr;obtain⟨s',hwk,hlo⟩:=NW h' hr';refine hd none gh w hi trivial _ gh _ w hsim (aU.refl _ _ _) fun o1 s1 ⟨e1,e2⟩=>?_
   subst e1;subst e2;refine fG.weak hi hwk ?_;have key:∀(m:Option AVal) (u:FrameMode),AZ P cfg L fn m s'=some (out r)→∀g' a' w',ff g' s' a' w'→aU gh [] w g' s'.H w'→nX g' w' m u→
    LeavesInM (Fr none) 0 P fn a'.tmps (fC gh [] w (out r) []) a'.defers u w':=by
    intro m u hla g' a' w' hs' hlat hmo;obtain⟨m',H',rr,H1,h1,h2,h3⟩:=Gp hla;refine k8 ?_ (lJ hm hN sB s'.D a'.defers m u s'.H g' w' m' H' hs'.defs hs'.inv hs'.tmps hmo h1 h2 hlat);rintro e w2 ⟨g2,hi2,hla2,he2⟩;exact ED hi hi2 hla2 h3 he2
   cases o1 with
   |normal=>exact fun g' a' w' hs' hlat=>key none .returning hlo g' a' w' hs' hlat rfl
   |ret=>exact fun g' a' w' hs' hlat=>key none .returning hlo g' a' w' hs' hlat rfl
   |exit id=>simp[EC]at hlo
   |aZ v=>exact fun g' a' w' x hv hs' hlat hrx=>key (some v) (.panicking [{v:=x,recovered:=false}]) hlo g' a' w' hs' hlat ⟨hv,x,rfl,hrx⟩
  ·exact h.elim
 ·exact h.elim
inductive Qf (P:Program) [aD] {ρ:Type} (fn:Func) (o:bu) (s:St) (H0:List ah) (out:ρ→aQ×List ah):Prop
def K8(n:Nat):Option (aQ×List ah)→Option (aQ×List ah)
 |some (a,H)=>some (a,H.take n)
 |none=>none
def K9{ρ:Type}(P:Program)[aD](cfg:fL)(L:Nat)(fn:Func)(H0:List ah)(out:ρ→aQ×List ah)(g:G P ρ)(o:bu)(s:St):Prop:=
 match g with
 | .done ts r=>jU H0 ts s fun s=>K8 H0.length (rE P cfg L fn o s)=some (out r)
 | .fail=>True
 |_=>Qf P fn o s H0 out
def La{ρ:Type}(P:Program)[aD](cfg:fL)(L:Nat)(f:FuncId)(args:List AVal)(H0:List ah)(out:ρ→aQ×List ah)(g:G P ρ):Prop:=
 match P.funcs[f]? with
 |some fn=>match fn.body with
  |some c=>jR P (K5 P cfg) H0 c g ⟨mM fn.ntmps args,H0,[]⟩ fun g o s=>K9 P cfg L fn H0 out g o s
  |none=>False
 |none=>False
def Hl{ρ:Type}(out:ρ→aQ×List ah)(r:ρ):Prop:=some (out r)=some (out r)
theorem MC{n L:Nat}{ρ:Type}{fn:Func}{H0:List ah}{out:ρ→aQ×List ah}{g:G P ρ}{o:bu}{s:St}{r:ρ}(h:K9 P cfg L fn H0 out g o s)(hr:g.run n=some r):∃s',iN H0 s s'∧K8 H0.length (rE P cfg L fn o s')=some (out r):=by
 unfold K9 at h;split at h
 ·simp only[G.run,Option.ite_none_right_eq_some,Option.some.injEq]at hr;obtain⟨hok,rfl⟩:=hr;exact dI hok h
 ·simp[G.run]at hr
 ·exact nomatch h
theorem EE(hm : P.follows .mixedOrders = true)(hN : ∀ (f : FuncId) (fn : Func), P.funcs[f]? = some fn → fn.name ≠ "runtime.NumGoroutine"){L : Nat}{f : FuncId}{args : List AVal}{H0 : List ah}{ρ : Type}{out : ρ → aQ × List ah}{g : G P ρ}
 (h:La P cfg L f args H0 out g) {n:Nat} {r:ρ} (hr:g.run n=some r) (h0:0<H0.length) (ha:(out r).1.Bq=true) (hrow:∀x∈(out r).2,x.mD=true∨x=.dead):bT P f args H0 (out r).1 (out r).2:=by
 unfold La at h;split at h
 ·rename_i fn hf;split at h
  ·rename_i c hb;obtain⟨g',o,s1,h',hr',hd⟩:=xW (X:=K5 P cfg) hm (AY hm hN 9) c r g _ _ h hr;obtain⟨s',hwk,hlo⟩:=MC h' hr';cases hl:rE P cfg L fn o s' with
   |none=>rw[hl]at hlo;cases hlo
   |some p=>
    obtain⟨a,H1⟩:=p;rw[hl]at hlo;simp only[K8,Option.some.injEq]at hlo;have:=bT.of hm hN hf hb (fun g0 w0 hi=>hd none g0 w0 hi trivial) hwk hl
    rw[← hlo]at ha hrow ⊢;exact bT.take this h0 ha hrow
  ·exact h.elim
 ·exact h.elim
class Plain (P:Program):Prop where
 mixed:P.follows .mixedOrders=true
 names : ∀ (f : FuncId) (fn : Func), P.funcs[f]? = some fn → fn.name ≠ "runtime.NumGoroutine"
def aK.of[hp:Plain P](cfg:fL)(L:Nat)(f:FuncId)(X:Type)(args:X→List AVal)(sh:Sh)(out:sh.El→aQ)(g:X→G P sh.El)(h:∀x,Qe P cfg L f (args x) out (g x)=(g x).fR (OZ out)):aK P where
 f:=f
 X:=X
 args:=args
 sh:=sh
 out:=out
 S:=fun n x=>(g x).run n
 ok:=fun _ x _ hr=>MB hp.mixed hp.names (by rw[h x];exact G.bZ (fun _=>rfl) (g x)) hr
def dN.ofVar[hp:Plain P](cfg:fL)(L:Nat)(f:FuncId)(X:Type)(args:X→List AVal)(τ:Type)(sz:Nat)(enc:τ→List AVal)(b:X→τ)(sh:Sh)(out:sh.El→aQ)(bo:sh.El→τ)(g:X→G P sh.El)
 (he:∀a,AVal.aW (enc a)=true) (ha:∀x,AVal.ny (args x)=true) (hr:sh.all fun r=>(out r).Bq=true)
 (h:∀x,La P cfg L f (args x) [.row 0 sz [enc (b x)]] (fun r=>(out r,[.row 0 sz [enc (bo r)]])) (g x)=(g x).fR (Hl fun r=>(out r,[.row 0 sz [enc (bo r)]]))):dN P where
 f:=f
 X:=X
 args:=args
 blk:=fun x=>.row 0 sz [enc (b x)]
 sh:=sh
 out:=out
 qQ:=fun _ r=>.row 0 sz [enc (bo r)]
 S:=fun n x=>(g x).run n
 a0:=ha
 b0:=fun x=>by simp[ah.mD,he]
 b1:=fun _ r=>.inl (by simp[ah.mD,he])
 r0:=fun r=>(sh.cA _).1 hr r
 ok:=fun _ x r hr'=>EE hp.mixed hp.names (out:=fun r=>(out r,[.row 0 sz [enc (bo r)]])) (by rw[h x];exact G.bZ (fun _=>rfl) (g x)) hr' (Nat.zero_lt_succ _) ((sh.cA _).1 hr r) fun y hy=>by
  simp only[List.mem_singleton]at hy;subst hy;exact .inl (by simp[ah.mD,he])
def dN.tB[hp:Plain P](cfg:fL)(L:Nat)(f:FuncId)(X:Type)(args:X→List AVal)(τ:Type)(sz:Nat)(enc:τ→List AVal)(b:X→List τ)(sh:Sh)(out:sh.El→aQ)(bo:sh.El→List τ)(g:X→G P sh.El)
 (he:∀a,AVal.aW (enc a)=true) (ha:∀x,AVal.ny (args x)=true) (hr:sh.all fun r=>(out r).Bq=true)
 (h:∀x,La P cfg L f (args x) [.row 0 sz ((b x).map enc)] (fun r=>(out r,[.row 0 sz ((bo r).map enc)])) (g x)=(g x).fR (Hl fun r=>(out r,[.row 0 sz ((bo r).map enc)]))):dN P where
 f:=f
 X:=X
 args:=args
 blk:=fun x=>.row 0 sz ((b x).map enc)
 sh:=sh
 out:=out
 qQ:=fun _ r=>.row 0 sz ((bo r).map enc)
 S:=fun n x=>(g x).run n
 a0:=ha
 b0:=fun x=>by simp[ah.mD,he]
 b1:=fun _ r=>.inl (by simp[ah.mD,he])
 r0:=fun r=>(sh.cA _).1 hr r
 ok:=fun _ x r hr'=>EE hp.mixed hp.names (out:=fun r=>(out r,[.row 0 sz ((bo r).map enc)])) (by rw[h x];exact G.bZ (fun _=>rfl) (g x)) hr' (Nat.zero_lt_succ _) ((sh.cA _).1 hr r) fun y hy=>by
  simp only[List.mem_singleton]at hy;subst hy;exact .inl (by simp[ah.mD,he])
end
end Go.AM
end
section
namespace Go.AM
def yq(P:Program)(T:TypeId):Option Nat:=match P.underlying T with
 |some (.slice e)=>dG P e
 |_=>none
def intOf:AVal→Option Int
 | .sc (.int _ n)=>some n
 |_=>none
theorem oa{v:AVal}{n:Int}(h:intOf v=some n):∃k,v=.sc (.int k n):=by
 unfold intOf at h;grind
def ku{X:Type}(l:List X)(i:Int):Option X:=if 0≤i then l[i.toNat]? else none
theorem tC{P:Program}{T:TypeId}{n:Nat}(h:yq P T=some n):∃e,P.underlying T=some (.slice e)∧dG P e=some n:=by
 grind [yq]
section
set_option linter.unusedSectionVars false
set_option linter.unusedSimpArgs false
def cc{X:Type}(l:List X)(enc:X→List AVal)(n:Nat)(i:Int):qx X where
 run:=ku l i
 bz x:={val:=.cq (enc x) 0}
 ids:=[]
 sN gl P cfg nid op ai H:=match op with
  | .indexAddr T a b=>ai a=.ax (l.map enc)∧intOf (ai b)=some i∧yq P T=some n∧∀x,(enc x).length=n
  |_=>False
 kR:=AVal.ax (l.map enc)=AVal.ax (l.map enc)∧some i=some i∧some n=some n∧∀_:X,n=n
 holds:=⟨rfl,rfl,rfl,fun _=>rfl⟩
 sound gl P cfg nid op ai H h x hx:=by
  cases op<;>try exact h.elim
  rename_i T a b;obtain⟨h1,h2,h3,h4⟩:=h;obtain⟨k,h2⟩:=oa h2;obtain⟨e,e1,e2⟩:=tC h3;unfold ku at hx;split at hx
  ·rename_i h0;simp[ct,dY,dh,h2,h1,pR,e1,e2,h0,hx,h4,yields,Rd.bind,Rd.run,Rd.reads]
  ·cases hx
def bI{X:Type}(l:List X)(enc:X→List AVal):qx Unit where
 run:=some ()
 bz _:={val:=.sc (.int .i64 l.length)}
 ids:=[]
 sN gl P cfg nid op ai H:=match op with
  | .call {callee:=.builtin .len,args,argTypes}=>match argTypes[0]?,args[0]? with
   |some T,some x=> @Eq Bool (yq P T).isSome true∧ai x=.ax (l.map enc)
   |_,_=>False
  |_=>False
 kR:=(@Eq Bool true true)∧AVal.ax (l.map enc)=AVal.ax (l.map enc)
 holds:=⟨by rfl,by rfl⟩
 sound gl P cfg nid op ai H h x hx:=by
  split at h
  ·split at h
   ·rename_i args argTypes _ _ T x hT ha;obtain⟨h1,h2⟩:=h;obtain⟨n,hn⟩:=Option.isSome_iff_exists.1 h1;obtain⟨e,e1,e2⟩:=tC hn;grind [ct,dY,dh,vn,Rd.bind,Rd.run,Rd.reads]
   ·exact h.elim
  ·exact h.elim
def MD(P:Program)(T:TypeId):Option (Nat×Nat×Bool):=match P.info? T with
 |some i=>some (i.size,i.bytes,ox i)
 |none=>none
def yt(P:Program)(T:TypeId):Option (Nat×Nat×Bool):=match P.underlying T with
 |some (.slice e)=>MD P e
 |_=>none
theorem wX{P:Program}{T:TypeId}{n by_:Nat}{z:Bool}(h:yt P T=some (n,by_,z)):∃e i,P.underlying T=some (.slice e)∧P.info? e=some i∧i.size=n∧i.bytes=by_∧ox i=z:=by
 grind [yt,MD]
theorem run_bind'{α β:Type}{H:List ah}{m:Rd α}{f:α→Rd β}{x:α}(h:m.run H=some x):(m.bind f).run H=(f x).run H:=by
 induction m with
 |fail=>simp[Rd.run]at h
 |done a=>simp[Rd.run]at h;subst h;rfl
 |get b k ih=>
  grind [Rd.run,Rd.bind]
def vF{X:Type}(len:Nat)(l m:List X)(enc:X→List AVal)(n by_ b ak nid0:Nat)(eids:List Nat):qx Unit where
 run:=if len=l.length∧roomy (l.length+m.length) by_=true then some ()else none
 bz _:={val:=.sl b (ak+1) n 0 (l++m).length,eG:=[(b,.row (ak+1) n ((l++m).map enc))]}
 ids:=nid0::(eids++[b])
 sN gl P cfg nid op ai H:=match op with
  | .call {callee:=.builtin .append,args,argTypes}=>match argTypes[0]?,argTypes[1]?,args[0]?,args[1]? with
   |some ST,some XT,some s,some x=>nid=nid0∧H[nid]? =some .bt∧decide (args.size=2)=true∧yt P ST=some (n,by_,true)∧(yq P XT).isSome=true∧decide (0<n)=true∧ai s=.sl b ak n 0 len∧H[b]? =some (.row ak n (l.map enc))∧
    (elems (ai x)).run H=some (m.map enc)∧(elems (ai x)).reads H=eids∧∀x,(enc x).length=n
   |_,_,_,_=>False
  |_=>False
 kR:=nid0=nid0∧some ah.bt=some ah.bt∧ @Eq Bool true true∧some (n,by_,true)=some (n,by_,true)∧ @Eq Bool true true∧ @Eq Bool true true∧AVal.sl b ak n 0 len=AVal.sl b ak n 0 len∧some (ah.row ak n (l.map enc))=some (ah.row ak n (l.map enc))∧
  some (m.map enc)=some (m.map enc)∧eids=eids∧∀_:X,n=n
 holds:=by simp
 sound gl P cfg nid op ai H h x hx:=by
  split at h
  ·split at h
   ·rename_i args argTypes _ _ _ _ ST XT sx x hT hX hs hxx;obtain⟨rfl,hunb,h0,h1,h2,h3,h4,h5,h6,h6',h7⟩:=h;obtain⟨e,i,e1,e2,e3,e4,e5⟩:=wX h1;obtain⟨n2,hn2⟩:=Option.isSome_iff_exists.1 h2;obtain⟨e',e6,_⟩:=tC hn2;simp only[decide_eq_true_eq]at h0 h3;split at hx
    ·rename_i hroom;obtain⟨rfl,hroom⟩:=hroom;have hz:i.size≠0:=by omega
     have hall:(m.map enc).all (fun r=>r.length==i.size)=true:=by
      simp only[List.all_map,List.all_eq_true];intro y _;simp[h7,e3]
     have hop:ct P cfg nid ai (.call {callee:=.builtin .append,args:=args,argTypes:=argTypes})=.get nid fun
      | .bt=>(xS P nid ST XT (ai sx) (ai x)).bind fun e=>.done (.bz e)
      |_=>.fail:=by
      simp only[ct,dY,if_true,dh,hT,hX,hs,hxx,h0];congr 1
     have hap:xS P nid ST XT (ai sx) (ai x)=(elems (ai x)).bind fun new=>.get b fun
      | .row v sz rows=>if v=ak then(if 0=0∧l.length≤rows.length∧sz=i.size∧roomy (l.length+new.length) i.bytes=true∧new.all (fun r=>r.length==i.size)=true∧ox i=true then
       .done {val:=.sl b (ak+1) sz 0 (l.length+new.length),eG:=[(b,.row (ak+1) sz (KB l.length rows++new))]}else .fail)else .fail
      |_=>.fail:=by
      rw[h4];unfold xS;rw[e1,e6];simp only[e2,hz,if_false];congr 1
      funext new
      simp only[Rd.bind,rowOf];congr 1
      funext y
      cases y with
      |row v sz rows=>grind [Rd.bind]
      |_=>rfl
     rw[hop,hap];simp only[Rd.run,Rd.reads,hunb];have hb:∀{β:Type} (f:dQ→Rd β) (g:List (List AVal)→Rd dQ),(((elems (ai x)).bind g).bind f)=(elems (ai x)).bind fun n=>(g n).bind f:=by
      intro β f g;generalize elems (ai x)=q;induction q with
      |fail=>rfl
      |done a=>rfl
      |get b k ih=>simp only[Rd.bind,ih]
     grind [run_bind',AN,Rd.bind,Rd.run,Rd.reads,J3]
    ·cases hx
   ·exact h.elim
  ·exact h.elim
def bare:AVal→Bool
 | .sc (.slice none 0 0)=>true
 | .emp=>true
 |_=>false
def aL(m n b ak:Nat)(i:Int):qx Unit where
 run:=if 0≤i∧i<m then some ()else none
 bz _:={val:=.ptr b ak i.toNat 0}
 ids:=[]
 sN gl P cfg nid op ai H:=match op with
  | .indexAddr T a c=>ai a=.sl b ak n 0 m∧intOf (ai c)=some i∧yq P T=some n
  |_=>False
 kR:=AVal.sl b ak n 0 m=AVal.sl b ak n 0 m∧some i=some i∧some n=some n
 holds:=⟨rfl,rfl,rfl⟩
 sound gl P cfg nid op ai H h x hx:=by
  cases op<;>try exact h.elim
  rename_i T a c;obtain⟨h1,h2,h3⟩:=h;obtain⟨k,h2⟩:=oa h2;obtain⟨e,e1,e2⟩:=tC h3;split at hx
  ·rename_i h0;simp[ct,dY,dh,h2,h1,pR,e1,e2,h0.1,h0.2,yields,Rd.bind,Rd.run,Rd.reads]
  ·cases hx
def cw{X:Type}(l:List X)(enc:X→List AVal)(n b ak i o:Nat)(val:X→AVal):qx X where
 run:=l[i]?
 bz x:={val:=val x}
 ids:=[b]
 sN gl P cfg nid op ai H:=match op with
  | .load T a=>ai a=.ptr b ak i o∧H[b]? =some (.row ak n (l.map enc))∧∀x,nS P T (enc x) o=some (val x)
  |_=>False
 kR:=AVal.ptr b ak i o=AVal.ptr b ak i o∧some (ah.row ak n (l.map enc))=some (ah.row ak n (l.map enc))∧∀x,some (val x)=some (val x)
 holds:=⟨rfl,rfl,fun _=>rfl⟩
 sound gl P cfg nid op ai H h x hx:=by
  cases op<;>try exact h.elim
  rename_i T a;obtain⟨h1,h2,h3⟩:=h;simp[ct,dY,dh,h1,AA,rowOf,h2,hx,h3,yields,Rd.bind,Rd.run,Rd.reads]
def iq{X:Type}(l:List X)(enc:X→List AVal)(n b ak i o:Nat)(y:X→X):qx X where
 run:=l[i]?
 bz x:={val:=nothing,eG:=[(b,.row ak n ((l.set i (y x)).map enc))]}
 ids:=[b]
 sN gl P cfg nid op ai H:=match op with
  | .store T a v=>ai a=.ptr b ak i o∧H[b]? =some (.row ak n (l.map enc))∧∀x,(vm P T (ai v)).bind (CA (enc x) o)=some (enc (y x))
  |_=>False
 kR:=AVal.ptr b ak i o=AVal.ptr b ak i o∧some (ah.row ak n (l.map enc))=some (ah.row ak n (l.map enc))∧∀x,some (enc (y x))=some (enc (y x))
 holds:=⟨rfl,rfl,fun _=>rfl⟩
 sound gl P cfg nid op ai H h x hx:=by
  cases op<;>try exact h.elim
  rename_i T a v;obtain⟨h1,h2,h3⟩:=h;obtain⟨vs,h4,h5⟩:=Option.bind_eq_some_iff.1 (h3 x);simp[ct,dY,dh,h1,Bx,rowOf,h2,hx,h4,h5,Rd.bind,Rd.run,Rd.reads,List.map_set]
def zH{X:Type}(d:X)(enc:X→List AVal)(n by_ nid0:Nat)(k:Int):qx Unit where
 run:=if 0≤k∧roomy k.toNat by_=true then some ()else none
 bz _:={val:=.sl nid0 0 n 0 (List.replicate k.toNat d).length,eG:=[(nid0,.row 0 n ((List.replicate k.toNat d).map enc))]}
 ids:=[nid0]
 sN gl P cfg nid op ai H:=match op with
  | .makeSlice T a c=>nid=nid0∧H[nid]? =some .bt∧intOf (ai a)=some k∧intOf (ai c)=some k∧yt P T=some (n,by_,true)∧(match P.underlying T with |some (.slice e)=>kg P e |_=>none)=some (enc d)∧(enc d).length=n∧decide (0<n)=true
  |_=>False
 kR:=nid0=nid0∧some ah.bt=some ah.bt∧some k=some k∧some k=some k∧some (n,by_,true)=some (n,by_,true)∧some (enc d)=some (enc d)∧n=n∧ @Eq Bool true true
 holds:=by simp
 sound gl P cfg nid op ai H h x hx:=by
  cases op<;>try exact h.elim
  rename_i T a c;obtain⟨rfl,hunb,h1,h2,h3,h4,h5,h6⟩:=h;obtain⟨k1,h1⟩:=oa h1;obtain⟨k2,h2⟩:=oa h2;obtain⟨e,i,e1,e2,e3,e4,e5⟩:=wX h3;rw[e1]at h4;simp only at h4;simp only[decide_eq_true_eq]at h6;split at hx
  ·rename_i h0;have hop:pS P nid T (ai a) (ai c)=some {val:=.sl nid 0 i.size 0 k.toNat,eG:=[(nid,.row 0 i.size (List.replicate k.toNat (enc d)))]}:=by
    rw[h1,h2];simp only[pS,e1,e2,h4];rw[if_pos ⟨h0.1,Int.le_refl _,by rw[e4];exact h0.2,by rw[h5,e3],by omega⟩]
   simp[ct,dY,dh,hop,uA,Rd.bind,Rd.run,Rd.reads,hunb,e3]
  ·cases hx
def yu(d m:Nat):Option Int→Option Nat
 |none=>some d
 |some i=>if 0≤i∧i≤m then some i.toNat else none
def NX{X:Type}(l:List X)(enc:X→List AVal)(n:Nat)(lo hi:Option Int):qx (Nat×Nat) where
 run:=(yu l.length l.length hi).bind fun h=>(yu 0 h lo).map fun k=>(k,h)
 bz x:={val:=.ax (((l.take x.2).drop x.1).map enc)}
 ids:=[]
 sN gl P cfg nid op ai H:=match op with
  | .slice T a lo' hi' none=>ai a=.ax (l.map enc)∧(lo'.map fun x=>intOf (ai x))=lo.map some∧(hi'.map fun x=>intOf (ai x))=hi.map some∧yq P T=some n∧∀x,(enc x).length=n
  |_=>False
 kR:=AVal.ax (l.map enc)=AVal.ax (l.map enc)∧lo.map some=lo.map some∧hi.map some=hi.map some∧some n=some n∧∀_:X,n=n
 holds:=⟨rfl,rfl,rfl,rfl,fun _=>rfl⟩
 sound gl P cfg nid op ai H h x hx:=by
  cases op<;>try exact h.elim
  rename_i T a lo' hi' mx;cases mx with
  |some _=>exact h.elim
  |none=>
   obtain⟨h1,h2,h3,h4,h5⟩:=h;obtain⟨e,e1,e2⟩:=tC h4;have hb:∀(d m:Nat) (x':Option Operand) (x:Option Int),(x'.map fun x=>intOf (ai x))=x.map some→nu d m (x'.map ai)=yu d m x:=by
    intro d m x' x hx;cases x'<;>cases x<;>simp at hx
    ·rfl
    ·grind [oa,nu,yu]
   obtain⟨hh,q1,q2⟩:=Option.bind_eq_some_iff.1 hx;obtain⟨k,q3,rfl⟩:=Option.map_eq_some_iff.1 q2;have hall:(l.map enc).all (fun r=>dG P e==some r.length)=true:=by
    simp only[List.all_map,List.all_eq_true];intro y _;simp[h5,e2]
   have hop:Bz P T (ai a) (lo'.map ai) (hi'.map ai)=some (.ax (((l.map enc).take hh).drop k)):=by
    unfold Bz;rw[h1];simp only[e1,vn];rw[hb _ _ _ _ h3,List.length_map,q1];simp only[Option.bind_some];rw[hb _ _ _ _ h2,q3];rw[Option.bind_some,if_pos (by rw[hall,e2];rfl)]
   simp[ct,dY,dh,hop,yields,Rd.bind,Rd.run,Rd.reads,List.map_take,List.map_drop]
def Ic(op:BinOp)(k k':IntKind)(a b:Int)(ok:Bool)(v:AVal)(h:ok=true→∀(P:Program) (T:TypeId),DE P op T (.sc (.int k a)) (.sc (.int k' b))=some v):qx Unit where
 run:=if ok then some ()else none
 bz _:={val:=v}
 ids:=[]
 sN gl P cfg nid o ai H:=match o with
  | .binOp op' T x y _=>op'=op∧ai x=.sc (.int k a)∧ai y=.sc (.int k' b)∧(match y with | .const (.int _ _)=>true | .tmp _=>true |_=>false)=true
  |_=>False
 kR:=op=op∧AVal.sc (.int k a)=AVal.sc (.int k a)∧AVal.sc (.int k' b)=AVal.sc (.int k' b)∧ @Eq Bool true true
 holds:=⟨rfl,rfl,rfl,rfl⟩
 sound gl P cfg nid o ai H h' x hx:=by
  cases o<;>try exact h'.elim
  rename_i op' T x y yT;obtain⟨rfl,h1,h2,h3⟩:=h';cases ok with
  |false=>cases hx
  |true=>
   have hb:=h rfl P T;rw[← h1,← h2]at hb;split at h3
   ·simp[ct,dY,dh,vo,hb,yields,Rd.bind,Rd.run,Rd.reads]
   ·simp[ct,dY,dh,vo,hb,yields,Rd.bind,Rd.run,Rd.reads]
   ·cases h3
def Fw(k:IntKind)(a b:Int):qx Unit:=Ic .rem k k a b (decide (b≠0)) (.sc (.int k (a.tmod b))) fun h P T=>by
 grind [DE,CB]
def DV(k k':IntKind)(a b:Int):qx Unit:=Ic .shl k k' a b (decide (0≤b)) (.sc (.int k (k.wrap (a*2 ^ (min b.toNat k.bits))))) fun h P T=>by
 grind [DE]
def Km(P:Program)(T:TypeId):Option (Nat×Nat):=match P.underlying T with
 |some (.array n e)=>(dG P e).map fun s=>(n,s)
 |_=>none
def Lb(b ak j o n s:Nat)(i:Int):qx Unit where
 run:=if 0≤i∧i<n then some ()else none
 bz _:={val:=.ptr b ak j (o+i.toNat*s)}
 ids:=[]
 sN gl P cfg nid op ai H:=match op with
  | .indexAddr T a c=>ai a=.ptr b ak j o∧intOf (ai c)=some i∧Km P T=some (n,s)
  |_=>False
 kR:=AVal.ptr b ak j o=AVal.ptr b ak j o∧some i=some i∧some (n,s)=some (n,s)
 holds:=⟨rfl,rfl,rfl⟩
 sound gl P cfg nid op ai H h x hx:=by
  cases op<;>try exact h.elim
  rename_i T a c;obtain⟨h1,h2,h3⟩:=h;obtain⟨k,h2⟩:=oa h2;unfold Km at h3;split at h3
  ·rename_i n' e hu;obtain⟨s',hs,he⟩:=Option.map_eq_some_iff.1 h3;simp only[Prod.mk.injEq]at he;obtain⟨rfl,rfl⟩:=he;split at hx
   ·rename_i h0;have hop:pR P T (ai a) i=some (.ptr b ak j (o+i.toNat*s')):=by
     rw[h1];unfold pR;rw[hu];simp only[if_pos h0,hs,Option.bind_some,xR]
    simp[ct,dY,dh,h2,hop,yields,Rd.bind,Rd.run,Rd.reads]
   ·cases hx
  ·cases h3
def Qg{X:Type}(l:List X)(c:X→AVal)(b ak sz o:Nat):qx X where
 run:=l[o]?
 bz x:={val:=c x}
 ids:=[b]
 sN gl P cfg nid op ai H:=match op with
  | .load T a=>ai a=.ptr b ak 0 o∧H[b]? =some (.row ak sz [l.map c])∧gD P T=false∧(P.underlying T).isSome=true
  |_=>False
 kR:=AVal.ptr b ak 0 o=AVal.ptr b ak 0 o∧some (ah.row ak sz [l.map c])=some (ah.row ak sz [l.map c])∧ @Eq Bool false false∧ @Eq Bool true true
 holds:=⟨rfl,rfl,rfl,rfl⟩
 sound gl P cfg nid op ai H h x hx:=by
  cases op<;>try exact h.elim
  rename_i T a;obtain⟨h1,h2,h3,h4⟩:=h;simp[ct,dY,dh,h1,AA,rowOf,h2,nS,h3,h4,hx,yields,Rd.bind,Rd.run,Rd.reads]
def Ro{X:Type}(l:List X)(c:X→AVal)(b ak sz o:Nat)(y:X):qx Unit where
 run:=if o<l.length then some ()else none
 bz _:={val:=nothing,eG:=[(b,.row ak sz [(l.set o y).map c])]}
 ids:=[b]
 sN gl P cfg nid op ai H:=match op with
  | .store T a v=>ai a=.ptr b ak 0 o∧H[b]? =some (.row ak sz [l.map c])∧vm P T (ai v)=some [c y]
  |_=>False
 kR:=AVal.ptr b ak 0 o=AVal.ptr b ak 0 o∧some (ah.row ak sz [l.map c])=some (ah.row ak sz [l.map c])∧some [c y]=some [c y]
 holds:=⟨rfl,rfl,rfl⟩
 sound gl P cfg nid op ai H h x hx:=by
  cases op<;>try exact h.elim
  rename_i T a v;obtain⟨h1,h2,h3⟩:=h;split at hx
  ·rename_i h0;have hle:o+1≤l.length:=h0;simp[ct,dY,dh,h1,Bx,rowOf,h2,h3,CA,hle,putAt,Rd.bind,Rd.run,Rd.reads,List.map_set]
  ·cases hx
section
variable {K V:Type}
def au(ek:K→AVal)(ev:V→AVal):Nat→List (K×V)→List (AVal×AVal×Nat)
 |_,[]=>[]
 |n,p::ps=>(ek p.1,ev p.2,n)::au ek ev (n+1) ps
def bf(eq:K→K→Bool)(k:K):List (K×V)→Nat→Option (Nat×V)
 | [],_=>none
 |p::ps,i=>if eq k p.1 then some (i,p.2)else bf eq k ps (i+1)
def bP(eq:K→K→Bool)(k:K)(v:V)(m:List (K×V)):List (K×V):=match bf eq k m 0 with
 |some (i,_)=>m.set i (k,v)
 |none=>m++[(k,v)]
theorem uS{ks:List Kd}{ag:Bool}{ek:K→AVal}{ev:V→AVal}{eq:K→K→Bool}(hag:∀k,nT (ek k)=ag)(heq:∀k k',dB ks (ek k).cells (ek k').cells=some (eq k k'))(k:K):
 ∀(m:List (K×V)) (n i:Nat),tH ks ag (ek k) (au ek ev n m) i=some ((bf eq k m i).map fun p=>(p.1,ev p.2,n+(p.1 - i)))
 | [],n,i=>rfl
 |p::ps,n,i=>by
  simp only[au,tH,hag,if_true,heq,bf];cases h:eq k p.1 with
  |true=>simp
  |false=>
   simp only[Bool.false_eq_true,if_false];rw[uS hag heq k ps (n+1) (i+1)];congr 1;have hge:∀(m:List (K×V)) (i:Nat) (q:Nat×V),bf eq k m i=some q→i≤q.1:=by
    intro m;induction m with
    |nil=>intro i q h;simp[bf]at h
    |cons p ps ih=>
     grind [bf]
   cases hf:bf eq k ps (i+1)with
   |none=>rfl
   |some q=>
    grind
theorem wg(ek:K→AVal)(ev:V→AVal):∀(m:List (K×V)) (n:Nat),(au ek ev n m).length=m.length
 | [],_=>rfl
 |_::ps,n=>by simp[au,wg ek ev ps]
theorem Dr(ek:K→AVal)(ev:V→AVal):∀(m m':List (K×V)) (n:Nat),au ek ev n (m++m')=au ek ev n m++au ek ev (n+m.length) m'
 | [],m',n=>by simp[au]
 |p::ps,m',n=>by simp[au,Dr ek ev ps,Nat.add_assoc,Nat.add_comm 1]
theorem Ie(ek:K→AVal)(ev:V→AVal):∀(m:List (K×V)) (n i:Nat) (p:K×V),au ek ev n (m.set i p)=(au ek ev n m).set i (ek p.1,ev p.2,n+i)
 | [],n,i,p=>rfl
 |q::ps,n,0,p=>by simp[au]
 |q::ps,n,i+1,p=>by simp[au,Ie ek ev ps,Nat.add_assoc,Nat.add_comm 1]
def ze(P:Program)(T:TypeId):Option (Option (List Kd)×Bool×Option AVal):=match P.underlying T with
 |some (.map K E)=>some (ej P 9 K,gD P K,AB P E)
 |_=>none
def mT(m:List (K×V))(k:K)(ek:K→AVal)(ev:V→AVal)(eq:K→K→Bool)(d:V)(ks:List Kd)(ag ok:Bool)(b:Nat):qx Unit where
 run:=some ()
 bz _:={val:=match ok with
  |true=>.cM [ev (((bf eq k m 0).map (·.2)).getD d),.sc (.bool (bf eq k m 0).isSome)]
  |false=>ev (((bf eq k m 0).map (·.2)).getD d)}
 ids:=[b]
 sN gl P cfg nid op ai H:=match op with
  | .lookup T x i ok'=>ok'=ok∧ai x=.mp b∧ai i=ek k∧H[b]? =some (.map m.length (au ek ev 0 m))∧ze P T=some (some ks,ag,some (ev d))∧(∀k,nT (ek k)=ag)∧∀k k',dB ks (ek k).cells (ek k').cells=some (eq k k')
  |_=>False
 kR:=ok=ok∧AVal.mp b=AVal.mp b∧ek k=ek k∧some (ah.map m.length (au ek ev 0 m))=some (ah.map m.length (au ek ev 0 m))∧some (some ks,ag,some (ev d))=some (some ks,ag,some (ev d))∧(∀_:K,ag=ag)∧∀k k',some (eq k k')=some (eq k k')
 holds:=⟨rfl,rfl,rfl,rfl,rfl,fun _=>rfl,fun _ _=>rfl⟩
 sound gl P cfg nid op ai H h x hx:=by
  cases op<;>try exact h.elim
  rename_i T a i ok';obtain⟨rfl,h1,h2,h3,h4,h5,h6⟩:=h;unfold ze at h4;split at h4
  ·rename_i TK TE hu;simp only[Option.some.injEq,Prod.mk.injEq]at h4;obtain⟨t1,t2,t3⟩:=h4;have hk:mA P TK (ek k)=some ks:=by simp[mA,t1,h5,t2]
   have hf:=uS (ev:=ev) (eq:=eq) h5 h6 k m 0 0;simp only[ct,dY,dh,xU,hu,h2,hk,h1,mapOf,Rd.bind,Rd.run,Rd.reads,h3,h6,t2,hf,t3,if_false,Bool.false_eq_true];cases hfm:bf eq k m 0 with
   |none=>grind
   |some q=>grind
  ·cases h4
def mh(m:List (K×V))(k:K)(v:V)(ek:K→AVal)(ev:V→AVal)(eq:K→K→Bool)(ks:List Kd)(ag:Bool)(b:Nat):qx Unit where
 run:=some ()
 bz _:={val:=nothing,eG:=[(b,.map (bP eq k v m).length (au ek ev 0 (bP eq k v m)))]}
 ids:=[b]
 sN gl P cfg nid op ai H:=match op with
  | .mapUpdate T x i y=>ai x=.mp b∧ai i=ek k∧ai y=ev v∧H[b]? =some (.map m.length (au ek ev 0 m))∧(ze P T).map (fun t=>(t.1,t.2.1))=some (some ks,ag)∧(∀k,nT (ek k)=ag)∧∀k k',dB ks (ek k).cells (ek k').cells=some (eq k k')
  |_=>False
 kR:=AVal.mp b=AVal.mp b∧ek k=ek k∧ev v=ev v∧some (ah.map m.length (au ek ev 0 m))=some (ah.map m.length (au ek ev 0 m))∧some (some ks,ag)=some (some ks,ag)∧(∀_:K,ag=ag)∧∀k k',some (eq k k')=some (eq k k')
 holds:=⟨rfl,rfl,rfl,rfl,rfl,fun _=>rfl,fun _ _=>rfl⟩
 sound gl P cfg nid op ai H h x hx:=by
  cases op<;>try exact h.elim
  rename_i T a i y;obtain⟨h1,h2,hy,h3,h4,h5,h6⟩:=h;obtain⟨t,h4,ht⟩:=Option.map_eq_some_iff.1 h4;unfold ze at h4;split at h4
  ·rename_i TK TE hu;simp only[Option.some.injEq]at h4;subst h4;simp only[Prod.mk.injEq]at ht;obtain⟨t1,t2⟩:=ht;have hk:mA P TK (ek k)=some ks:=by simp[mA,t1,h5,t2]
   have hf:=uS (ev:=ev) (eq:=eq) h5 h6 k m 0 0;simp only[ct,dY,dh,uz,hu,h2,hk,h1,mapOf,Rd.bind,Rd.run,Rd.reads,h3,h6,t2,hf,hy,if_false,Bool.false_eq_true];cases hfm:bf eq k m 0 with
   |none=>simp[Rd.bind,Rd.run,Rd.reads,bP,hfm,Dr,au]
   |some q=>simp[Rd.bind,Rd.run,Rd.reads,bP,hfm,Ie,wg]
  ·cases h4
end
end
def cI(k:IntKind)(n:Int):AVal:=.sc (.int k n)
def cL{α:Type}(enc:α→List AVal)(l:List α):AVal:=.ax (l.map enc)
def eI(k:IntKind)(n:Int):List AVal:=[.sc (.int k n)]
def eB(b:Bool):List AVal:=[.sc (.bool b)]
def eS(s:ByteArray):List AVal:=[.sc (.string s)]
def eL{α:Type}(enc:α→List AVal)(l:List α):List AVal:=[.ax (l.map enc)]
structure V2(α:Type) where
 (a0 a1:α)
def Ig{α:Type}(c:α→AVal)(x:V2 α):List AVal:=[c x.a0,c x.a1]
structure V8(α:Type) where
 (a0 a1 a2 a3 a4 a5 a6 a7:α)
def um{α:Type}(c:α→AVal)(x:V8 α):List AVal:=[c x.a0,c x.a1,c x.a2,c x.a3,c x.a4,c x.a5,c x.a6,c x.a7]
structure dn(α:Type) where
 (a0 a1 a2 a3 a4 a5 a6 a7 a8 a9:α)
def zI{α:Type}(c:α→AVal)(x:dn α):List AVal:=[c x.a0,c x.a1,c x.a2,c x.a3,c x.a4,c x.a5,c x.a6,c x.a7,c x.a8,c x.a9]
theorem Fx{X:Type}(l:List X)(enc:X→List AVal)(h:∀x,AVal.aW (enc x)=true):(l.map enc).all AVal.aW=true:=by
 grind
def cG{X:Type}(b ak sz:Nat)(l:List X)(enc:X→List AVal)(h:∀x,AVal.aW (enc x)=true):PU:=⟨b,.row ak sz (l.map enc),Fx l enc h⟩
theorem Fy{K V:Type}(ek:K→AVal)(ev:V→AVal)(h:∀k,(ek k).pure=true)(h':∀v,(ev v).pure=true):∀(m:List (K×V)) (n:Nat),(au ek ev n m).all (fun p=>p.1.pure&&p.2.1.pure)=true
 | [],_=>rfl
 |p::ps,n=>by simp[au,h,h',Fy ek ev h h' ps (n+1)]
def gN{K V:Type}(b:Nat)(m:List (K×V))(ek:K→AVal)(ev:V→AVal)(h:∀k,(ek k).pure=true)(h':∀v,(ev v).pure=true):PU:=⟨b,.map m.length (au ek ev 0 m),Fy ek ev h h' m 0⟩
def gA{X:Type}(p:Pl)(b ak sz n:Nat)(l:List X)(enc:X→List AVal)(h:∀x,AVal.aW (enc x)=true):FZ:=⟨p,b,ak,sz,n,l.map enc,Fx l enc h⟩
def xH{X:Type}(b ak sz:Nat)(l:List X)(c:X→AVal)(h:∀x,(c x).pure=true):PU:=⟨b,.row ak sz [l.map c],by
 have:∀l:List X,AVal.aW (l.map c)=true:=by
  intro l;induction l with
  |nil=>rfl
  |cons x xs ih=>grind [AVal.aW]
 simp[qK,this]⟩
def A0{X:Type}(b ak sz:Nat)(l:List X)(enc:X→List AVal)(h:∀x,AVal.aW (enc x)=true):PR:=PR.ofRow b ak sz (l.map enc) (Fx l enc h)
def qd{K V:Type}(b:Nat)(m:List (K×V))(ek:K→AVal)(ev:V→AVal)(h:∀k,(ek k).pure=true)(h':∀v,(ev v).pure=true):PR:=⟨b,.map m.length (au ek ev 0 m),Fy ek ev h h' m 0⟩
end Go.AM
end
