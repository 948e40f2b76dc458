/- Parts put together. No conditions. -/
import Derived.Test.YtiohninblcifpaaGreatDoorAb
import Derived.ProofKit
import Derived.OpenShut
import Derived.JoinedCond
import Derived.LaidLaws
set_option linter.unusedSectionVars false
set_option linter.unusedSimpArgs false
section
namespace Go.AM
open Go.ChangeShapes Go.WideShapes Go.ChangeAt Go.RowKit
def Gh.bare(w:World):Gh:={ah:=fun _ _=>none,st:=fun k _=>k<w.heap.size}
section
variable [aB]
theorem Gh.NJ(w:World)(hg:mS (Gh.bare w) w):Inv (Gh.bare w) [] w:=
 ⟨fun b x h=>by simp at h,fun b b' x x' v v' k z z' h=>by simp at h,fun b aj _=>rfl,fun b x v ver' h=>by simp at h,fun b x v k z o h=>by simp at h,fun _ _ h=>h,hg⟩
theorem Ji{w w':World}{g':Gh}{H':List aa}(h:aO (Gh.bare w) [] w g' H' w'):Below w.heap.size w w':=
 ⟨h.os,h.tape.1,h.output,h.size,fun k hk=>h.keep k hk dW⟩
end
section
variable {H:Type} {enc:TypeId×Value→H} {P:Program}
theorem GP{f:Func}{s:ChangeSpec}{apart fresh handsOn again:Bool}{W W':World}{args:Array Value}{v:Value}{ds gs:List (DataW H)}{before pa pv:List MemPlace}
 (hW:DataW.Whole enc P f.params.toList s.vars apart W args.toList ds gs before)
 (hres:∀(b:Nat) (sp:Nat→Bool) (hd:Bool),DataW.TrodAll enc P W' b sp hd f.resultTypes.toList (v.resultList f.resultTypes.size) (s.fn H (ds++gs)).results [])
 (hargs:∀sp:Nat→Bool,(∀p∈before,sp p.block=true)→DataW.TrodAll enc P W' 0 sp true f.params.toList args.toList (s.fn H (ds++gs)).args pa)
 (hvars:∀sp:Nat→Bool,(∀p∈before,sp p.block=true)→DataW.TrodVars enc P W' sp s.vars (s.fn H (ds++gs)).vars pv)
 (hps:before=pa++pv) (hb:Below W.heap.size W W')
 (hok:∀(j:Nat) (t:TypeId) (r:Value),f.resultTypes[j]? =some t→(v.resultList f.resultTypes.size)[j]? =some r→Value.okWide P W' .any 0 t r):
 s.post enc P f apart fresh handsOn again W args v W':=by
 have hold:∀p∈before,(fun b=>decide (b<W.heap.size)) p.block=true:=fun p hp=>by simpa using hW.lt p hp
 have hlt:=hW.lt;refine⟨ds,gs,before,[],pa,pv,hW,hres _ _ _,hargs _ hold,hvars _ hold,World.keptBut_mono (fun p hp=>⟨hp,?_⟩) (hb.frame (· ∈before)),fun _=>?_⟩
 ·rw[hps,List.mem_append]at hp;exact Or.inr hp
 ·obtain⟨_,_,_,_,_,hz,hn⟩:=hW;refine⟨hok,_,_,([]++pa)++pv,⟨[]++pa,pv,trodAll_append (hargs _ (fun _ _=>rfl)) (hres _ _ _),hvars _ (fun _ _=>rfl),rfl,?_,?_⟩,?_⟩
  ·intro b off hp;have hm:MemPlace.cell b off∈before:=by rw[hps];simpa using hp
   rw[hb.frozen (hlt _ hm)];exact hz b off hm
  ·intro ha;have:=hn ha;rw[hps]at this;simpa using this
  ·intro p hp _;rw[hps];simpa using hp
end
end Go.AM
end
section
namespace Go.AM
structure Entry where
 f:FuncId
 args:List AVal
 res:AVal
def zD(f:FuncId)(args:List AVal):List Entry→Option AVal
 | []=>none
 |e::es=>if e.f==f&&ta e.args args then some e.res else zD f args es
def Ap[aB](P:Program)(cfg:dZ)(tbl:List Entry)(loops:Nat):Nat→iV
 | 0=>⟨fun _ _ _=>none,fun _ _ _=>none⟩
 |n+1=>⟨fun f args H=>match(match H with | []=>zD f args tbl |_=>none)with
  |some r=>some (.ret r,[])
  |none=>DV P cfg (Ap P cfg tbl loops n) loops f args H,roundOf P cfg (Ap P cfg tbl loops n) loops⟩
section
variable [aB] {P:Program} {cfg:dZ}
def Fp(P:Program)(e:Entry):Prop:=
 (∃ fn c, P.funcs[e.f]? = some fn ∧ fn.body = some c ∧ fn.name ≠ "runtime.NumGoroutine") ∧
 ∀g w (vs:Array Value),Inv g [] w→RL g w e.args vs.toList→Calls P e.f vs w (dJ g [] w (.ret e.res) [])
def Aq(P:Program)(tbl:List Entry):Prop:=∀e∈tbl,Fp P e
theorem Aq.nil:Aq P []:=fun _ h=>by cases h
theorem Aq.cons{e:Entry}{tbl:List Entry}(h:Fp P e)(h':Aq P tbl):Aq P (e::tbl):=fun x hx=>by
 rcases List.mem_cons.1 hx with rfl |hx
 ·exact h
 ·exact h' x hx
theorem Bz{f:FuncId}{args:List AVal}{r:AVal}:∀{tbl:List Entry},zD f args tbl=some r→∃e∈tbl,e.f=f∧e.args=args∧e.res=r
 | [],h=>by simp[zD]at h
 |e::es,h=>by
  simp only[zD]at h;split at h
  ·rename_i hc;simp only[Bool.and_eq_true,beq_iff_eq]at hc;simp only[Option.some.injEq]at h;exact⟨e,by simp,hc.1,o9 _ _ hc.2,h⟩
  ·obtain⟨e',h1,h2⟩:=Bz h;exact⟨e',List.mem_cons_of_mem _ h1,h2⟩
theorem yV(hm : P.follows .mixedOrders = true)(hN : ∀ (f : FuncId) (fn : Func), P.funcs[f]? = some fn → fn.name ≠ "runtime.NumGoroutine"){tbl : List Entry}(ht : Aq P tbl)(loops : Nat) : ∀ n, fL P (Ap P cfg tbl loops n)
 | 0=>⟨fun _ _ _ _ _ h=>by simp[Ap]at h,fun _ _ _ _ _ h=>by simp[Ap]at h⟩
 |n+1=>by
  refine⟨fun f args H r H1 h=>?_,fun _ _ _ _ _ h=>GO hm (yV hm hN ht loops n) h⟩
  simp only[Ap]at h;split at h
  ·rename_i v hv;simp only[Option.some.injEq,Prod.mk.injEq]at h;obtain⟨rfl,rfl⟩:=h;cases H with
   |nil=>
    obtain⟨e,he,rfl,rfl,rfl⟩:=Bz hv;exact ht e he
   |cons x xs=>cases hv
  ·exact HQ hm hN (yV hm hN ht loops n) h
def HR(orc:iV)(e:Entry):Bool:=match orc.fn e.f e.args []with
 |some (.ret v,H1)=>match(snap iU v).run H1 with
  |some v'=>same v' e.res
  |none=>false
 |_=>false
theorem NK{orc:iV}(ho:fL P orc){e:Entry}(h:HR orc e=true):Fp P e:=by
 unfold HR at h;split at h
 ·rename_i v H1 hc;split at h
  ·rename_i v' hs;have:=uq _ _ h;subst this;obtain⟨h1,h2⟩:=ho.fn _ _ _ _ _ hc;refine⟨h1,fun g w vs hi hl=>(h2 g w vs hi hl).mono ?_⟩
   rintro en w' ⟨g',hi',hla,x,rfl,hr⟩;obtain⟨r1,r2⟩:=nJ hi' _ _ _ _ hs hr;refine⟨fP g' H1,hi'.fP,⟨⟨fun b aj x hx=>?_,fun k o hk=>.inl (hla.ext.st k o hk),hla.ext.cell,hla.ext.shape⟩,hla.size,hla.keep,fun k _ ho=>absurd ho dW,Nat.le_refl _,hla.os,hla.tape,hla.output,fun k o hk hst=>?_,fun b hb=>by simp at hb,fun b aj k z h=>by cases h⟩,x,rfl,r1⟩
   ·rw[hi.fresh b aj (.inr (by simp))]at hx;cases hx
   ·rcases hst with hst |hst
    ·exact(hla.stk k o hk hst).imp_right fun h=>absurd h.1 dW
    ·exact absurd (hla.own k hk hst) dW
  ·cases h
 ·cases h
end
end Go.AM
end
section
namespace Go.AM
def litVal:Lit→Option Value
 | .bool b=>some (.bool b)
 | .int k n=>some (.int k n)
 | .string l=>some (.string ⟨l.toArray⟩)
 |_=>none
mutual
def vc{H:Type}:DataW H→Option (List Value)
 | .lit l=>(litVal l).map fun v=>[v]
 | .agg ds=>vw ds
 |_=>none
def vw{H:Type}:List (DataW H)→Option (List Value)
 | []=>some []
 |d::ds=>match vc d,vw ds with
  |some a,some b=>some (a++b)
  |_,_=>none
end
section
variable {H:Type} {enc:TypeId×Value→H} {P:Program} {w:World} {base:Nat} {sp:Nat→Bool} {held:Bool}
theorem tn{t n:Nat}(h:cz P t=some n):P.cellsOf t=n:=by
 unfold cz at h;simp[Program.cellsOf,h]
theorem F6{s:Nat}{cs:List Value}{F:List Value→Option (DataW H×List MemPlace)}(hF:∀c x v,F c=some x→vc x.1=some v→c=v):∀(xs:List (DataW H×List MemPlace)) (off:Nat) (vs:List Value),
 (∀i,i<xs.length→F ((cs.drop (off+i*s)).take s)=xs[i]?)→vw (xs.map (·.1))=some vs→(cs.drop off).take (xs.length*s)=vs
 | [],off,vs,_,h=>by simp[vw]at h;simp[h]
 |x::xs,off,vs,hx,h=>by
  simp only[List.map_cons,vw]at h;split at h
  ·rename_i a b ha hb;simp only[Option.some.injEq]at h;subst h;have h0:=hx 0 (by simp)
   simp only[Nat.zero_mul,Nat.add_zero,List.getElem?_cons_zero]at h0;have e0:=hF _ _ _ h0 ha;have e1:=F6 hF xs (off+s) b (fun i hi=>by
    have:=hx (i+1) (by simpa using hi)
    rw[List.getElem?_cons_succ]at this;rw[← this,Nat.add_mul,Nat.one_mul];congr 3;omega) hb
   rw[List.length_cons,Nat.add_mul,Nat.one_mul,Nat.add_comm,List.take_add,e0,List.drop_drop,e1]
  ·cases h
theorem C1{K:TypeId→Option (List Kd)}{cs:List Value}{F:TypeId→List Value→Option (DataW H×List MemPlace)}(hF:∀t ks c x v,K t=some ks→F t c=some x→vc x.1=some v→c=v):
 ∀(fl:List Field) (off:Nat) (ks:List Kd) (xs:List (DataW H×List MemPlace)) (vs:List Value),cV.kindsFields P K fl off=some ks→xs.length=fl.length→
  (∀(i:Nat) (f:Field),fl[i]? =some f→F f.type ((cs.drop f.offset).take (P.cellsOf f.type))=xs[i]?)→vw (xs.map (·.1))=some vs→(cs.drop off).take ks.length=vs
 | [],off,ks,xs,vs,hk,hl,_,h=>by
  grind [cV.kindsFields,vw]
 |f::fl,off,ks,[],vs,_,hl,_,_=>by simp at hl
 |f::fl,off,ks,x::xs,vs,hk,hl,hx,h=>by
  simp only[cV.kindsFields]at hk;split at hk
  ·rename_i hc;split at hk
   ·rename_i k1 hk1;split at hk
    ·rename_i hsz;obtain⟨k2,hk2,rfl⟩:=Option.map_eq_some_iff.1 hk;simp only[beq_iff_eq]at hsz;simp only[List.map_cons,vw]at h;split at h
     ·rename_i a b ha hb;simp only[Option.some.injEq]at h;subst h;have h0:=hx 0 f (by simp)
      simp only[List.getElem?_cons_zero]at h0;have e0:=hF _ _ _ _ _ hk1 h0 ha;rw[hc.2,tn hsz]at e0;have e1:=C1 hF fl (off+k1.length) k2 xs b hk2 (by simpa using hl) (fun i f' hf=>by
       have:=hx (i+1) f' (by simpa using hf)
       simpa using this) hb
      rw[List.length_append,List.take_add,e0,List.drop_drop,e1]
     ·cases h
    ·cases hk
   ·cases hk
  ·cases hk
theorem F7:∀(d t:Nat) (ks:List Kd) (fuel:Nat) (cs:List Value) (x:DataW H×List MemPlace) (vs:List Value),cV P d t=some ks→DataW.trod enc P w base sp held fuel t cs=some x→vc x.1=some vs→cs=vs
 | 0,_,_,_,_,_,_,hk,_,_=>by simp[cV]at hk
 |d+1,t,ks,fuel,cs,x,vs,hk,h,hv=>by
  have ih:=F7 d;simp only[cV]at hk;split at hk
  ·rename_i hu;have:∃b,cs=[.bool b]∧x=(.lit (.bool b),[]):=by
    cases fuel with
    |zero=>simp[DataW.trod]at h
    |succ n=>
     unfold DataW.trod at h;grind
   grind [vc,litVal]
  ·rename_i k hu;obtain⟨n,rfl,rfl,_⟩:=DataW.trod_int hu h;simpa[vc,litVal]using hv
  ·rename_i hu;obtain⟨s,rfl,rfl,_⟩:=DataW.trod_string hu h;simpa[vc,litVal]using hv
  ·rename_i fs hu;split at hk
   ·cases hk
   ·split at hk
    ·rename_i ks' hks;split at hk
     ·rename_i hsz;simp only[Option.some.injEq]at hk;subst hk;simp only[beq_iff_eq]at hsz;obtain⟨xs,n,rfl,rfl,hl,hxl,hget⟩:=DataW.trod_struct hu h;simp only[vc]at hv;have:=C1 (P:=P) (cs:=cs) (K:=cV P d) (F:=fun t c=>DataW.trod enc P w base sp held n t c) (fun t ks c x v hk hf hv=>ih t ks n c x v hk hf hv) fs.toList 0 ks' xs vs hks (by simpa using hxl) (fun i f hf=>hget i f (by simpa using hf)) hv
      grind [tn]
     ·cases hk
    ·cases hk
  ·rename_i n e hu;split at hk
   ·rename_i ks' hks;split at hk
    ·rename_i hsz;simp only[Bool.and_eq_true,beq_iff_eq]at hsz;obtain⟨xs,m,rfl,rfl,hl,hxl,hget⟩:=DataW.trod_array hu h;simp only[vc]at hv;rw[tn hsz.1]at hget;have:=F6 (s:=ks'.length) (cs:=cs) (F:=fun c=>DataW.trod enc P w base sp held m e c) (fun c x v hf hv=>ih e ks' m c x v hks hf hv) xs 0 vs (fun i hi=>by
      grind) hv
     grind [tn]
    ·cases hk
   ·cases hk
  ·cases hk
theorem KQ{name:String}{d:DataW Unit}{rest:List (String×DataW Unit)}{g t:Nat}{ks:List Kd}{vs:List Value}(hg:P.globalNamed name=some g)(hty:(P.globals[g]?).map (·.type)=some t)(hk:cV P 9 t=some ks)(hv:vc d=some vs)
 (h:laidMet P ((name,d)::rest) w):w.var? P name=some vs.toArray:=by
 obtain⟨ps,⟨g',t',cs,fuel,p,q,hg',ht',hvar,hd,_,_⟩,_⟩:=h;obtain rfl:=Option.some.inj (hg.symm.trans hg');obtain rfl:=Option.some.inj (hty.symm.trans ht');have:=F7 _ _ _ _ _ _ _ hk hd hv;rw[hvar,← this]
theorem Mi[gl:aB]{name:String}{g:Nat}{vs:List Value}(hg:P.globalNamed name=some g)(hvar:w.var? P name=some vs.toArray)(h1:vs.all (·.oneCell')=true)(hgl:∀i cs,gl.default.cells i=some cs→i=g∧cs=vs.map .sc):mS (Gh.bare w) w:=by
 intro i cs hi;obtain⟨rfl,rfl⟩:=hgl i cs hi;refine⟨?_,yo fun j x hx=>?_⟩
 ·exact o7.2 fun x hx=>by
   obtain⟨v,_,rfl⟩:=List.mem_map.1 hx;rfl
 ·rw[List.getElem?_map]at hx;obtain⟨v,hv,rfl⟩:=Option.map_eq_some_iff.1 hx;have hc:=World.var?_cell hg hvar j;rw[List.getElem?_toArray,hv]at hc;have hlt:i<w.heap.size:=by
   apply Decidable.byContradiction;intro hn;simp[World.cell?,Array.getElem?_eq_none (Nat.le_of_not_lt hn)]at hc
  rw[Nat.zero_add];exact⟨hlt,v,hc,List.all_eq_true.1 h1 v (List.mem_of_getElem? hv),by simp[R]⟩
end
end Go.AM
end
section
namespace Go.AM
abbrev Ren:=Nat→Nat→Option (Nat×Nat)
namespace AVal
mutual
def iH(f:Ren):AVal→AVal
 | .sc v=>.sc v
 | .agg cs=>.agg (mA f cs)
 | .bW cs=>.bW (mA f cs)
 | .ptr b aj i o=>match f b aj with
  |some (b',ver')=>.ptr b' ver' i o
  |none=>.av
 | .bL cs o=>.bL cs o
 | .sl b aj sz o n=>match f b aj with
  |some (b',ver')=>.sl b' ver' sz o n
  |none=>.av
 | .aC rows=>.aC rows
 | .fn g a b=>.fn g (mA f a) (mA f b)
 | .eE t v=>.eE t (iH f v)
 | .mp b=>match f b 0 with
  |some (b',0)=>.mp b'
  |_=>.av
 | .gZ b=>match f b 0 with
  |some (b',0)=>.gZ b'
  |_=>.av
 | .sa b aj i o s n=>match f b aj with
  |some (b',ver')=>.sa b' ver' i o s n
  |none=>.av
 | .fO i o=>.fO i o
 | .emp=>.emp
 | .nz b=>.nz b
 | .av=>.av
def mA(f:Ren):List AVal→List AVal
 | []=>[]
 |a::as=>iH f a::mA f as
end
theorem C2(f:Ren):∀(l:List AVal),(mA f l).length=l.length
 | []=>rfl
 |_::as=>by simp[mA,C2 f as]
end AVal
section
variable [aB] {g g':Gh} {w:World} {f:Ren}
mutual
theorem D7(hst:∀k o,g.st k o→g'.st k o)(hf:∀b v b' v' x,f b v=some (b',v')→g.ah b v=some x→g'.ah b' v'=some x):∀(v:AVal) (x:Value),R g w v x→R g' w (v.iH f) x
 | .sc _,x,hr=>by simpa[R,AVal.iH]using hr
 | .agg cs,x,hr=>by
  simp only[R,AVal.iH]at hr ⊢;obtain⟨vs,e,h1,hl⟩:=hr;exact⟨vs,e,h1,qS hst hf cs vs hl⟩
 | .bW cs,x,hr=>by
  simp only[R,AVal.iH]at hr ⊢;obtain⟨vs,e,hl⟩:=hr;exact⟨vs,e,qS hst hf cs vs hl⟩
 | .ptr b aj i o,x,hr=>by
  grind [R,AVal.iH]
 | .bL cs o,x,hr=>by
  grind [R,AVal.iH,jC]
 | .sl b aj sz o n,x,hr=>by
  grind [R,AVal.iH]
 | .aC rows,x,hr=>by
  simp only[R,AVal.iH]at hr ⊢;obtain⟨a,cap,e,hle,hr⟩:=hr;refine⟨a,cap,e,hle,?_⟩;rcases hr with h0 |⟨k,off,sz,ha,hc⟩
  ·exact .inl h0
  ·exact .inr ⟨k,off,sz,ha,Cs hst rows k off sz hc⟩
 | .fn _ a b,x,hr=>by
  simp only[R,AVal.iH]at hr ⊢;obtain⟨va,vb,e,h1,h2⟩:=hr;exact⟨va,vb,e,qS hst hf a va h1,qS hst hf b vb h2⟩
 | .eE t v,x,hr=>by
  simp only[R,AVal.iH]at hr ⊢;obtain⟨y,e,h1⟩:=hr;exact⟨y,e,D7 hst hf v y h1⟩
 | .mp b,x,hr=>by
  grind [R,AVal.iH]
 | .gZ b,x,hr=>by
  grind [R,AVal.iH]
 | .sa b aj i o s n,x,hr=>by
  grind [R,AVal.iH]
 | .fO i o,x,hr=>by simpa[R,AVal.iH]using hr
 | .emp,x,hr=>by simpa[R,AVal.iH]using hr
 | .nz _,x,hr=>by simpa[R,AVal.iH]using hr
 | .av,x,_=>by simp[R,AVal.iH]
theorem qS(hst:∀k o,g.st k o→g'.st k o)(hf:∀b v b' v' x,f b v=some (b',v')→g.ah b v=some x→g'.ah b' v'=some x):∀(v:List AVal) (x:List Value),RL g w v x→RL g' w (AVal.mA f v) x
 | [],x,hr=>by simpa[RL,AVal.mA]using hr
 |a::as,x,hr=>by
  simp only[RL,AVal.mA]at hr ⊢;obtain⟨y,ys,e,h1,h2⟩:=hr;exact⟨y,ys,e,D7 hst hf a y h1,qS hst hf as ys h2⟩
end
def HS(f:Ren):aa→aa→Prop
 | .row _ sz rows,.row _ sz' rows'=>sz'=sz∧((rows'=rows∧rows.all AVal.aQ=true)∨rows'=rows.map (AVal.mA f))
 | .map c es,.map c' es'=>c'=c∧((es'=es∧es.all (fun p=>p.1.pure&&p.2.1.pure)=true)∨es'=es.map fun p=>(p.1.iH f,p.2.1.iH f,p.2.2))
 | .loop st pend fid A ps as bd,.loop st' pend' fid' A' ps' as' bd'=>st'=st∧pend'=pend∧fid'=fid∧ps'=ps∧as'=as∧bd'=bd∧A'=AVal.mA f A
 | .defs,.defs=>True
 | .iter m since seen stepped,.iter m' since' seen' stepped'=>since'=since∧seen'=seen∧stepped'=stepped∧m'=m.iH f
 |_,_=>False
structure KR(g g':Gh)(H H':List aa)(f:Ren):Prop where
 st:g'.st=g.st
 ah:∀b v b' v' x,f b v=some (b',v')→g.ah b v=some x→g'.ah b' v'=some x
 blk:∀(b':Nat) (x':aa),H'[b']? =some x'→x'.live=none∨∃b x v v',H[b]? =some x∧x.live=some v∧x'.live=some v'∧f b v=some (b',v')∧g'.ah b' v'=g.ah b v∧HS f x x'
 fresh:∀b' v,(H'[b']? =some .aV∨H'.length≤b')→g'.ah b' v=none
 next:∀(b':Nat) (x':aa) v v',H'[b']? =some x'→x'.live=some v→v<v'→g'.ah b' v'=none
theorem NL{H H':List aa}(h:KR g g' H H' f){b b' v v':Nat}{x x':aa}(hg:Good g w b x)(hv:x.live=some v)(hv':x'.live=some v')(hr:g'.ah b' v'=g.ah b v)(hb:HS f x x'):Good g' w b' x':=by
 have hst:∀k o,g.st k o→g'.st k o:=fun k o h'=>by rw[h.st];exact h'
 cases x<;>cases x'<;>simp only[HS]at hb<;>try exact hb.elim
 case row.row aj sz rows ver' sz' rows'=>
  simp only[aa.live,Option.some.injEq]at hv hv';subst hv;subst hv';obtain⟨rfl,hb⟩:=hb;rcases hg with⟨k,c,e,h1,h2,h3,h4,h5⟩ |⟨rfl,h2,h3⟩
  ·rcases hb with⟨rfl,hp⟩ |rfl
   ·refine .inl ⟨k,c,e,hr.trans h1,h2,gP _ _ fun j r hj=>?_,h4,h5⟩
    obtain⟨r1,r2⟩:=ck _ _ _ _ h3 hj;obtain⟨vs,v1,v2,v3,v4⟩:=dV r2;exact⟨r1,di (oC hst _ _ (List.all_eq_true.1 hp r (List.mem_of_getElem? hj)) v3) v2 v4⟩
   ·refine .inl ⟨k,c,e,hr.trans h1,h2,gP _ _ fun j r hj=>?_,by simpa using h4,h5⟩
    rw[List.getElem?_map]at hj;obtain⟨r0,hj0,rfl⟩:=Option.map_eq_some_iff.1 hj;obtain⟨r1,r2⟩:=ck _ _ _ _ h3 hj0;obtain⟨vs,v1,v2,v3,v4⟩:=dV r2;exact⟨by rw[AVal.C2,r1],di (qS hst h.ah _ _ v3) v2 v4⟩
  ·rcases hb with⟨rfl,_⟩ |rfl
   ·exact .inr ⟨rfl,hr.trans h2,h3⟩
   ·exact .inr ⟨rfl,hr.trans h2,h3⟩
 case map.map c es c' es'=>
  simp only[aa.live,Option.some.injEq]at hv hv';subst hv;subst hv';obtain⟨rfl,hb⟩:=hb;obtain⟨k,ents,h1,h2,h3⟩:=hg;refine⟨k,ents,hr.trans h1,h2,?_⟩;grind [lN,vq,kI,D7,h.ah]
 case loop.loop=>
  simp only[aa.live,Option.some.injEq]at hv hv';subst hv;subst hv';obtain⟨rfl,rfl,rfl,rfl,rfl,rfl,rfl⟩:=hb;obtain⟨k,tmps,dk,fn,h1,h2,h3⟩:=hg;exact⟨k,tmps,dk,fn,hr.trans h1,h2,qS hst h.ah _ _ h3⟩
 case iter.iter=>
  simp only[aa.live,Option.some.injEq]at hv hv';subst hv;subst hv';obtain⟨rfl,rfl,rfl,rfl⟩:=hb;obtain⟨k,mo,h1,h2,h3⟩:=hg;exact⟨k,mo,hr.trans h1,h2,D7 hst h.ah _ _ h3⟩
 case defs.defs=>
  simp only[aa.live,Option.some.injEq]at hv hv';subst hv;subst hv';obtain⟨k,h1,h2⟩:=hg;exact⟨k,hr.trans h1,h2⟩
theorem Inv.iH{H H':List aa}(hi:Inv g H w)(h:KR g g' H H' f):Inv g' H' w:=by
 have hst:∀k o,g.st k o→g'.st k o:=fun k o h'=>by rw[h.st];exact h'
 refine⟨?_,?_,h.fresh,h.next,?_,?_,hi.cD.st hst⟩
 ·intro b' x' hb';rcases h.blk b' x' hb' with hl |⟨b,x,v,v',h1,h2,h3,h4,h5,h6⟩
  ·cases x'<;>simp[aa.live]at hl<;>trivial
  ·exact NL h (hi.good b x h1) h2 h3 h5 h6
 ·intro b1 b2 x1 x2 v1 v2 k z1 z2 hb1 hb2 l1 l2 k1 k2;rcases h.blk b1 x1 hb1 with hl |⟨c1,y1,u1,u1',p1,p2,p3,p4,p5,p6⟩
  ·rw[l1]at hl;cases hl
  ·rcases h.blk b2 x2 hb2 with hl |⟨c2,y2,u2,u2',q1,q2,q3,q4,q5,q6⟩
   ·rw[l2]at hl;cases hl
   ·rw[l1]at p3;cases p3;rw[l2]at q3;cases q3;rw[p5]at k1;rw[q5]at k2;have:=hi.inj c1 c2 y1 y2 u1 u2 k z1 z2 p1 q1 p2 q2 k1 k2;grind
 ·intro b' x' v k z o hb' hl hk hs;rcases h.blk b' x' hb' with hl' |⟨b,x,u,u',p1,p2,p3,p4,p5,p6⟩
  ·rw[hl]at hl';cases hl'
  ·rw[hl]at p3;cases p3;rw[p5]at hk;rw[h.st]at hs;exact hi.free b x u k z o p1 p2 hk hs
 ·intro k o hs;rw[h.st]at hs;exact hi.dU k o hs
end
def gD[aB](H0:List aa)(s s':St):Prop:=
 ∀(g0:Gh) (w0:World) (g:Gh) (a:Act) (w:World),Inv g0 H0 w0→aO g0 H0 w0 g s.H w→dF g s a w→∃g',dF g' s' a w∧aO g0 H0 w0 g' s'.H w
theorem gD.refl[aB](H0:List aa)(s:St):gD H0 s s:=fun _ _ g _ _ _ hl hs=>⟨g,hs,hl⟩
theorem gD.trans[aB]{H0:List aa}{s s1 s2:St}(h:gD H0 s s1)(h':gD H0 s1 s2):gD H0 s s2:=fun g0 w0 g a w hi hl hs=>
 let⟨g1,hs1,hl1⟩:=h g0 w0 g a w hi hl hs
 h' g0 w0 g1 a w hi hl1 hs1
def aa.qT:aa→Option Nat
 | .row v _ _=>some v
 |_=>none
def oF:aa→Bool
 | .row _ _ rows=>rows.all AVal.aQ
 | .map _ es=>es.all fun p=>p.1.pure&&p.2.1.pure
 |_=>true
def BA(pu:List Nat)(H:List aa):Prop:=∀b∈pu,∀x,H[b]? =some x→oF x=true
def mL(b:Nat):List Nat→Nat→Option Nat
 | [],_=>none
 |c::cs,j=>match c==b with
  |true=>some j
  |false=>mL b cs (j+1)
def wU:List Nat→Bool
 | []=>true
 |c::cs=> !cs.contains c&&wU cs
def lS(bump:List Nat)(H0 H:List aa)(b:Nat):Option (Nat×Nat):=
 match bump.contains b with
 |true=>match(H0[b]?).bind aa.qT,(H[b]?).bind aa.qT with
  |some v0,some v1=>some (v0,v1)
  |_,_=>none
 |false=>none
def qB(H0:List aa)(b:Nat):Bool:=match H0[b]? with
 |some .aV=>false
 |some _=>true
 |none=>false
theorem JW{H0:List aa}{b:Nat}(h:qB H0 b=true):b<H0.length:=by
 grind [qB]
theorem D8{H0:List aa}{b:Nat}(h:qB H0 b=false):H0[b]? =some .aV∨H0.length≤b:=by
 grind [qB]
def oN(bl bump:List Nat)(H0 H:List aa):Ren:=fun b v=>
 match qB H0 b with
 |true=>match lS bump H0 H b with
  |some (v0,v1)=>if v=v1 then some (b,v0+1)else none
  |none=>some (b,v)
 |false=>match mL b bl 0 with
  |some j=>if(H[b]?).bind aa.live=some v then some (H0.length+j,0)else none
  |none=>none
def hU(f:Ren)(p:Bool)(v':Option Nat):aa→aa
 | .row v sz rows=>.row (v'.getD v) sz (match p with |true=>rows |false=>rows.map (AVal.mA f))
 | .map c es=>.map c (match p with |true=>es |false=>es.map fun p=>(p.1.iH f,p.2.1.iH f,p.2.2))
 | .loop st pend fid A ps as bd=>.loop st pend fid (AVal.mA f A) ps as bd
 | .iter m since seen stepped=>.iter (m.iH f) since seen stepped
 |x=>x
def mZ(f:Ren)(pu bump:List Nat)(H0 H:List aa):Nat→List aa→List aa
 |_,[]=>[]
 |b,x::xs=>(match qB H0 b with |true=>hU f (pu.contains b) ((lS bump H0 H b).map (·.1+1)) x |false=>.aV)::mZ f pu bump H0 H (b+1) xs
def Du(f:Ren):List qz→Option (List qz)
 | []=>some []
 | .call h args::ds=>(Du f ds).map (.call h (AVal.mA f args):: ·)
 | .mark b::ds=>if f b 0=some (b,0)then(Du f ds).map (.mark b:: ·)else none
def NM(bl bump pu:List Nat)(H0:List aa)(s:St):Option St:=
 match wU bl&&bl.all (fun b=> !qB H0 b&&decide (b<s.H.length))with
 |true=>match Du (oN bl bump H0 s.H) s.D with
  |some D=>some ⟨AVal.mA (oN bl bump H0 s.H) s.A,mZ (oN bl bump H0 s.H) pu bump H0 s.H 0 (s.H.take H0.length)++bl.map (fun b=>hU (oN bl bump H0 s.H) (pu.contains b) (some 0) (s.H.getD b .dead)),D⟩
  |none=>none
 |false=>none
theorem sG:∀{bl:List Nat} {b i j:Nat},mL b bl i=some j→i≤j∧bl[j - i]? =some b
 | [],b,i,j,h=>by simp[mL]at h
 |c::cs,b,i,j,h=>by
  simp only[mL]at h;split at h
  ·grind
  ·obtain⟨h1,h2⟩:=sG h;grind
theorem yW:∀{bl:List Nat} {b j:Nat} (i:Nat),wU bl=true→bl[j]? =some b→mL b bl i=some (i+j)
 | [],b,j,i,_,h=>by simp at h
 |c::cs,b,0,i,_,h=>by simp at h;subst h;simp[mL]
 |c::cs,b,j+1,i,hn,h=>by
  simp only[wU,Bool.and_eq_true,Bool.not_eq_true']at hn;simp only[List.getElem?_cons_succ]at h;have hne:(c==b)=false:=by
   apply beq_false_of_ne;rintro rfl;have:=List.mem_of_getElem? h;simp[this]at hn
  simp only[mL,hne];rw[yW (i+1) hn.2 h,show i+1+j=i+(j+1)by omega]
theorem yX(f:Ren)(pu bump:List Nat)(H0 H:List aa):∀(l:List aa) (b j:Nat),(mZ f pu bump H0 H b l)[j]? =(l[j]?).map fun x=>match qB H0 (b+j)with |true=>hU f (pu.contains (b+j)) ((lS bump H0 H (b+j)).map (·.1+1)) x |false=>.aV
 | [],b,j=>by simp[mZ]
 |x::xs,b,0=>by simp[mZ]
 |x::xs,b,j+1=>by
  simp only[mZ,List.getElem?_cons_succ];rw[yX f pu bump H0 H xs (b+1) j,show b+1+j=b+(j+1)by omega]
theorem oG(f:Ren)(p:Bool)(v':Option Nat)(x:aa):(hU f p v' x).live=match x with | .row v _ _=>some (v'.getD v) |x=>x.live:=by cases x<;>rfl
theorem wq(f:Ren)(p:Bool)(v':Option Nat){x:aa}(hp:p=true→oF x=true)(hl:x.live≠none):HS f x (hU f p v' x):=by
 cases x with
 |row v sz rows=>
  refine⟨rfl,?_⟩;cases p with
  |true=>exact .inl ⟨rfl,hp rfl⟩
  |false=>exact .inr rfl
 |map c es=>
  refine⟨rfl,?_⟩;cases p with
  |true=>exact .inl ⟨rfl,hp rfl⟩
  |false=>exact .inr rfl
 |loop=>exact⟨rfl,rfl,rfl,rfl,rfl,rfl,rfl⟩
 |defs=>trivial
 |iter=>exact⟨rfl,rfl,rfl,rfl⟩
 |aV=>exact absurd rfl hl
 |dead=>exact absurd rfl hl
def mB(bl bump:List Nat)(H0 H:List aa)(g:Gh):Gh:=
 {ah:=fun b v=>match decide (b<H0.length)with
  |true=>match qB H0 b with
   |true=>match lS bump H0 H b with
    |some (v0,v1)=>if v≤v0 then g.ah b v else if v=v0+1 then g.ah b v1 else none
    |none=>g.ah b v
   |false=>none
  |false=>match bl[b - H0.length]? with
   |some c=>if v=0 then(match(H[c]?).bind aa.live with |some u=>g.ah c u |none=>none)else none
   |none=>none
  st:=g.st}
theorem C3{x:aa}{v:Nat}(h:x.qT=some v):x.live=some v:=by cases x<;>simp[aa.qT]at h<;>simp[aa.live,h]
theorem qU{bump:List Nat}{H0 H:List aa}{b v0 v1:Nat}(h:lS bump H0 H b=some (v0,v1)):(∃x0,H0[b]? =some x0∧x0.qT=some v0)∧∃x1,H[b]? =some x1∧x1.qT=some v1:=by
 grind [lS]
theorem NN[aB]{bl bump pu:List Nat}{H0:List aa}{s s':St}(D9:BA pu s.H)(h:NM bl bump pu H0 s=some s'):gD H0 s s':=by
 intro g0 w0 g a w hi0 hl hs;unfold NM at h;split at h
 ·rename_i hc;simp only[Bool.and_eq_true,List.all_eq_true,decide_eq_true_eq,Bool.not_eq_true']at hc;obtain⟨hnd,hbl⟩:=hc;split at h
  ·rename_i D hD;simp only[Option.some.injEq]at h;subst h;have hlen:H0.length≤s.H.length:=hl.len;have htl:(s.H.take H0.length).length=H0.length:=by simp;omega
   have hrl:(mZ (oN bl bump H0 s.H) pu bump H0 s.H 0 (s.H.take H0.length)).length=H0.length:=by
    have:∀(l:List aa) (b:Nat),(mZ (oN bl bump H0 s.H) pu bump H0 s.H b l).length=l.length:=by
     intro l;induction l with
     |nil=>intro b;rfl
     |cons x xs ih=>intro b;simp[mZ,ih]
    rw[this,htl]
   have side:∀(b':Nat) (x':aa),(mZ (oN bl bump H0 s.H) pu bump H0 s.H 0 (s.H.take H0.length)++bl.map (fun b=>hU (oN bl bump H0 s.H) (pu.contains b) (some 0) (s.H.getD b .dead)))[b']? =some x'→
    (b'<H0.length∧qB H0 b'=true∧∃x,s.H[b']? =some x∧x'=hU (oN bl bump H0 s.H) (pu.contains b') ((lS bump H0 s.H b').map (·.1+1)) x)∨
    (b'<H0.length∧qB H0 b'=false∧x'=.aV)∨
    (H0.length≤b'∧∃b x,bl[b' - H0.length]? =some b∧s.H[b]? =some x∧x'=hU (oN bl bump H0 s.H) (pu.contains b) (some 0) x):=by
    intro b' x' hx;by_cases hb:b'<H0.length
    ·grind [yX,qB]
    ·grind
   have hpure:∀b x,s.H[b]? =some x→pu.contains b=true→oF x=true:=fun b x hx hc=>D9 b (by simpa using hc) x hx
   have ok:KR g (mB bl bump H0 s.H g) s.H (mZ (oN bl bump H0 s.H) pu bump H0 s.H 0 (s.H.take H0.length)++bl.map (fun b=>hU (oN bl bump H0 s.H) (pu.contains b) (some 0) (s.H.getD b .dead))) (oN bl bump H0 s.H):=by
    refine⟨rfl,?_,?_,?_,?_⟩
    ·intro b v b' v' x hf hr;unfold oN at hf;split at hf
     ·grind [JW,mB]
     ·rename_i hlt;split at hf
      ·rename_i j hj;split at hf
       ·rename_i hv;simp only[Option.some.injEq,Prod.mk.injEq]at hf;obtain⟨rfl,rfl⟩:=hf;obtain⟨_,hj⟩:=sG hj;have h1:decide (H0.length+j<H0.length)=false:=by simp
        simp only[mB,h1,Nat.add_sub_cancel_left];grind
       ·cases hf
      ·cases hf
    ·intro b' x' hx;rcases side b' x' hx with⟨hlt,hold,x,h1,rfl⟩ |⟨_,_,rfl⟩ |⟨hge,b,x,h1,h2,rfl⟩
     ·by_cases hlv:x.live=none
      ·grind [oG,aa.live]
      ·right;obtain⟨v,hv⟩:=Option.ne_none_iff_exists'.1 hlv;have hlt':decide (b'<H0.length)=true:=by simpa using hlt
       cases hbu:lS bump H0 s.H b' with
       |none=>
        refine⟨b',x,v,v,h1,hv,?_,by simp only[oN,hold,hbu],by simp only[mB,hlt',hold,hbu],wq _ _ _ (hpure _ _ h1) hlv⟩
        grind [oG,aa.live]
       |some p=>
        obtain⟨v0,v1⟩:=p;obtain⟨_,x1,q1,q2⟩:=qU hbu;rw[h1]at q1;cases q1;have:v=v1:=by rw[C3 q2]at hv;cases hv;rfl
        subst this;refine⟨b',x,v,v0+1,h1,hv,?_,by simp only[oN,hold,hbu,if_true],?_,wq _ _ _ (hpure _ _ h1) hlv⟩
        ·grind [oG,aa.qT]
        grind [mB]
     ·exact .inl rfl
     ·by_cases hlv:x.live=none
      ·grind [oG,aa.live]
      ·right;obtain⟨v,hv⟩:=Option.ne_none_iff_exists'.1 hlv;have hbge:=(hbl b (List.mem_of_getElem? h1)).1;have hlt2:decide (b'<H0.length)=false:=by simp;omega
       refine⟨b,x,v,0,h2,hv,?_,?_,?_,wq _ _ _ (hpure _ _ h2) hlv⟩
       ·rw[oG];cases x<;>simp[aa.live]at hv ⊢
       ·simp only[oN,hbge,yW 0 hnd h1,Nat.zero_add];grind
       grind [mB]
    ·intro b' v hb;rcases hb with hb |hb
     ·rcases side b' _ hb with⟨hlt,hold,x,h1,hx⟩ |⟨hlt,hold,_⟩ |⟨hge,b,x,h1,h2,hx⟩
      ·have hx':x=.aV:=by cases x<;>simp[hU]at hx;rfl
       subst hx';have hlt':decide (b'<H0.length)=true:=by simpa using hlt
       have hbu:lS bump H0 s.H b'=none:=by
        cases hbu:lS bump H0 s.H b' with
        |none=>rfl
        |some p=>
         grind [qU,aa.qT]
       simp only[mB,hlt',hold,hbu];exact hs.inv.fresh b' v (.inl h1)
      ·grind [mB]
      ·have hx':x=.aV:=by cases x<;>simp[hU]at hx;rfl
       grind [mB,aa.live]
     grind [mB]
    ·intro b' x' v v' hx hv hlt;rcases side b' x' hx with⟨hlb,hold,x,h1,rfl⟩ |⟨_,_,rfl⟩ |⟨hge,b,x,h1,h2,rfl⟩
     ·have hlt':decide (b'<H0.length)=true:=by simpa using hlb
      rw[oG]at hv;cases hbu:lS bump H0 s.H b' with
      |none=>
       simp only[mB,hlt',hold,hbu];rw[hbu]at hv;refine hs.inv.next b' x v v' h1 ?_ hlt;grind [aa.live]
      |some p=>
       grind [qU,mB,aa.qT]
     ·cases hv
     grind [mB]
   refine⟨mB bl bump H0 s.H g,⟨hs.inv.iH ok,qS (g:=g) (g':=mB bl bump H0 s.H g) (fun _ _ h=>h) ok.ah _ _ hs.tmps,?_⟩,?_⟩
   ·have key:∀(l l':List qz) (ds:List Deferred),Du (oN bl bump H0 s.H) l=some l'→RD g w l ds→RD (mB bl bump H0 s.H g) w l' ds:=by
     intro l;induction l with
     |nil=>intro l' ds h hd;simp[Du]at h;subst h;exact hd
     |cons d l ih=>
      intro l' ds h hd;obtain⟨d',ds',rfl,h1,h2⟩:=hd;cases d with
      |call f args=>
       simp only[Du,Option.map_eq_some_iff]at h;obtain⟨l2,h,rfl⟩:=h;obtain⟨cap,t1,t2⟩:=h1;exact⟨d',ds',rfl,⟨cap,t1,qS (g:=g) (g':=mB bl bump H0 s.H g) (fun _ _ h=>h) ok.ah _ _ t2⟩,ih _ _ h h2⟩
      |mark b=>
       simp only[Du]at h;split at h
       ·rename_i hb;obtain⟨l2,h0,rfl⟩:=Option.map_eq_some_iff.1 h;obtain⟨k,sz,t1,t2⟩:=h1;exact⟨d',ds',rfl,⟨k,sz,ok.ah _ _ _ _ _ hb t1,t2⟩,ih _ _ h0 h2⟩
       ·cases h
    exact key _ _ _ hD hs.defs
   ·refine⟨⟨?_,hl.ext.st,hl.ext.cell,hl.ext.shape⟩,hl.size,hl.keep,?_,by simp[hrl],hl.os,hl.tape,hl.output,fun k o hk hs=>?_,?_,?_⟩
    ·intro b v x hx;have hold:qB H0 b=true:=by
      cases ho:qB H0 b with
      |true=>rfl
      |false=>rw[hi0.fresh b v (D8 ho)]at hx;cases hx
     have hlt':decide (b<H0.length)=true:=by simpa using JW hold
     cases hbu:lS bump H0 s.H b with
     |none=>simp only[mB,hlt',hold,hbu];exact hl.ext.ah b v x hx
     |some p=>
      obtain⟨v0,v1⟩:=p;obtain⟨⟨x0,q1,q2⟩,_⟩:=qU hbu;simp only[mB,hlt',hold,hbu];have:v≤v0:=by
       apply Decidable.byContradiction;intro hn;rw[hi0.next b x0 v0 v q1 (C3 q2) (by omega)]at hx;cases hx
      rw[if_pos this];exact hl.ext.ah b v x hx
    ·rintro k hk ⟨b',x',v',z,h1,h2,h3⟩;rcases ok.blk b' x' h1 with hn |⟨b,x,v,v2,p1,p2,p3,p4,p5,p6⟩
     ·rw[h2]at hn;cases hn
     ·rw[h2]at p3;cases p3;rw[p5]at h3;exact hl.own k hk ⟨b,x,v,z,p1,p2,h3⟩
    ·rcases hl.stk k o hk hs with h1 |⟨h1,h2⟩
     ·exact .inl h1
     ·refine .inr ⟨h1,?_⟩;rintro⟨b',x',v',z,q1,q2,q3⟩;rcases ok.blk b' x' q1 with hn |⟨b,x,v,v2,p1,p2,p3,p4,p5,p6⟩
      ·rw[q2]at hn;cases hn
      ·rw[q2]at p3;cases p3;rw[p5]at q3;exact h2 ⟨b,x,v,z,p1,p2,q3⟩
    ·intro b hb;have hlt:b<H0.length:=(List.getElem?_eq_some_iff.1 hb).1;have hlt':decide (b<H0.length)=true:=by simpa using hlt
     obtain⟨d1,d2⟩:=hl.ru b hb;have hbu:lS bump H0 s.H b=none:=by
      cases hbu:lS bump H0 s.H b with
      |none=>rfl
      |some p=>
       grind [qU,aa.qT]
     have hold:qB H0 b=true:=by simp[qB,hb]
     refine⟨?_,fun aj=>by grind [mB]⟩
     rw[List.getElem?_append_left (by omega),yX,Nat.zero_add,List.getElem?_take,if_pos hlt,d1]
     simp only[Option.map_some,hold];rfl
    ·intro b' v' k z hr;simp only[mB]at hr;split at hr
     ·split at hr
      ·split at hr
       ·split at hr
        ·exact hl.qy b' _ k z hr
        ·split at hr
         ·exact hl.qy b' _ k z hr
         ·cases hr
       ·exact hl.qy b' _ k z hr
      ·cases hr
     ·split at hr
      ·rename_i c hcb;split at hr
       ·split at hr
        ·rcases hl.qy c _ k z hr with⟨u,z',hu⟩ |hn
         ·have:=(hbl c (List.mem_of_getElem? hcb)).1;rw[hi0.fresh c u (D8 this)]at hu;cases hu
         ·exact .inr hn
        ·cases hr
       ·cases hr
      ·cases hr
  ·cases h
 ·cases h
def Mj:AVal→AVal
 | .sc (.slice none 0 0)=>.aC []
 | .emp=>.aC []
 | .nz _=>.aC []
 |v=>v
mutual
def iP:AVal→AVal
 | .sc v=>Mj (.sc v)
 | .emp=>.aC []
 | .nz _=>.aC []
 | .agg cs=>.agg (lT cs)
 | .bW cs=>.bW (lT cs)
 | .fn f a b=>.fn f (lT a) (lT b)
 | .eE t v=>.eE t v
 | .bL cs o=>.bL (lT cs) o
 |v=>v
def lT:List AVal→List AVal
 | []=>[]
 |a::as=>iP a::lT as
end
section
variable [aB] {g:Gh} {w:World}
theorem G6{v:AVal}{x:Value}(h:R g w v x):R g w (Mj v) x:=by
 unfold Mj;grind [eY,R]
mutual
theorem NO:∀(v:AVal),v.pure=true→(iP v).pure=true
 | .sc v,h=>by
  simp only[iP,Mj];split<;>simp_all [AVal.pure]
 | .emp,_=>by simp[iP,AVal.pure]
 | .nz _,_=>by simp[iP,AVal.pure]
 | .agg cs,h=>by simp only[AVal.pure]at h;simp only[iP,AVal.pure,rL cs h]
 | .bW cs,h=>by simp only[AVal.pure]at h;simp only[iP,AVal.pure,rL cs h]
 | .fn f a b,h=>by simp only[AVal.pure,Bool.and_eq_true]at h;simp only[iP,AVal.pure,rL a h.1,rL b h.2,Bool.and_self]
 | .eE t v,h=>by simpa only[iP]using h
 | .bL cs o,_=>by simp[iP,AVal.pure]
 | .ptr ..,h=>by simpa only[iP]using h
 | .sl ..,h=>by simpa only[iP]using h
 | .aC _,h=>by simpa only[iP]using h
 | .mp _,h=>by simpa only[iP]using h
 | .gZ _,h=>by simpa only[iP]using h
 | .sa ..,h=>by simpa only[iP]using h
 | .fO ..,h=>by simpa only[iP]using h
 | .av,h=>by simpa only[iP]using h
theorem rL:∀(l:List AVal),AVal.aQ l=true→AVal.aQ (lT l)=true
 | [],_=>rfl
 |a::as,h=>by simp only[AVal.aQ,Bool.and_eq_true]at h;simp only[lT,AVal.aQ,NO a h.1,rL as h.2,Bool.and_self]
end
mutual
theorem Ea:∀(v:AVal) (x:Value),R g w v x→R g w (iP v) x
 | .sc v,x,h=>by simp only[iP];exact G6 h
 | .emp,x,h=>by simp only[iP];exact G6 (v:=.emp) h
 | .nz b,x,h=>by simp only[iP];exact G6 (v:=.nz b) h
 | .agg cs,x,h=>by
  simp only[iP,R]at h ⊢;obtain⟨vs,e,h1,hl⟩:=h;exact⟨vs,e,h1,vz cs vs hl⟩
 | .bW cs,x,h=>by
  simp only[iP,R]at h ⊢;obtain⟨vs,e,hl⟩:=h;exact⟨vs,e,vz cs vs hl⟩
 | .fn f a b,x,h=>by
  simp only[iP,R]at h ⊢;obtain⟨va,vb,e,h1,h2⟩:=h;exact⟨va,vb,e,vz a va h1,vz b vb h2⟩
 | .eE t v,x,h=>by simpa only[iP]using h
 | .bL cs o,x,h=>by
  simp only[iP,R]at h ⊢;obtain⟨k,off,e,hp,hc⟩:=h;exact⟨k,off,e,rL cs hp,HT cs k off hc⟩
 | .ptr ..,x,h=>by simpa only[iP]using h
 | .sl ..,x,h=>by simpa only[iP]using h
 | .aC _,x,h=>by simpa only[iP]using h
 | .mp _,x,h=>by simpa only[iP]using h
 | .gZ _,x,h=>by simpa only[iP]using h
 | .sa ..,x,h=>by simpa only[iP]using h
 | .fO ..,x,h=>by simpa only[iP]using h
 | .av,x,h=>by simpa only[iP]using h
theorem vz:∀(l:List AVal) (vs:List Value),RL g w l vs→RL g w (lT l) vs
 | [],vs,h=>by simpa only[lT]using h
 |a::as,vs,h=>by
  simp only[lT,RL]at h ⊢;obtain⟨y,ys,e,h1,h2⟩:=h;exact⟨y,ys,e,Ea a y h1,vz as ys h2⟩
theorem HT:∀(l:List AVal) (k o:Nat),RC g w l k o→RC g w (lT l) k o
 | [],k,o,h=>by simpa only[lT]using h
 |a::as,k,o,h=>by
  simp only[lT,RC]at h ⊢;obtain⟨⟨hs,y,hy,ho,hr⟩,h2⟩:=h;exact⟨⟨hs,y,hy,ho,Ea a y hr⟩,HT as k (o+1) h2⟩
end
theorem JX{A:List AVal}{vs:List Value}{d:Nat}{v v':AVal}(h:RL g w A vs)(hd:A[d]? =some v)(hv:∀x,R g w v x→R g w v' x):RL g w (A.set d v') vs:=by
 grind [cK,sX]
theorem Inv.Mk{H:List aa}(hi:Inv g H w){b aj sz i j:Nat}{rows:List (List AVal)}{cs:List AVal}{v v':AVal}(hb:H[b]? =some (.row aj sz rows))(hcs:rows[i]? =some cs)(hj:cs[j]? =some v)(hv:∀x,R g w v x→R g w v' x):
 Inv g (H.set b (.row aj sz (rows.set i (cs.set j v')))) w∧aO g H w g (H.set b (.row aj sz (rows.set i (cs.set j v')))) w:=by
 have hlt:b<H.length:=(List.getElem?_eq_some_iff.1 hb).1;have f:∀(b':Nat) (x':aa) (v1:Nat),(H.set b (.row aj sz (rows.set i (cs.set j v'))))[b']? =some x'→x'.live=some v1→∃x1,H[b']? =some x1∧x1.live=some v1:=by
  intro b' x' v1 h hl;rcases bE h with⟨rfl,he,_⟩ |⟨_,h⟩
  ·subst he;exact⟨_,hb,hl⟩
  ·exact⟨x',h,hl⟩
 refine⟨⟨?_,?_,?_,?_,?_,hi.dU,hi.cD⟩,⟨Ext.refl g w,Nat.le_refl _,fun _ _ _=>rfl,?_,by simp,rfl,⟨rfl,Nat.le_refl _⟩,rfl,fun _ _ _ h=>.inl h,?_,fun _ aj _ z h=>.inl ⟨aj,z,h⟩⟩⟩
 ·intro b' x h;rcases bE h with⟨rfl,he,_⟩ |⟨hne,h⟩
  ·subst he;rcases hi.good _ _ hb with⟨k,c,e,h1,h2,h3,h4,h5⟩ |⟨h1,_⟩
   ·refine .inl ⟨k,c,e,h1,h2,gP _ _ fun i' r hi'=>?_,by simpa using h4,h5⟩
    by_cases hii:i=i'
    ·subst hii;have hil:i<rows.length:=(List.getElem?_eq_some_iff.1 hcs).1;rw[List.getElem?_set_self hil]at hi';cases hi';obtain⟨r1,r2⟩:=ck _ _ _ _ h3 hcs;obtain⟨vs,v1,v2,v3,v4⟩:=dV r2;exact⟨by simpa using r1,di (JX v3 hj hv) v2 v4⟩
    ·rw[List.getElem?_set_ne hii]at hi';exact ck _ _ _ _ h3 hi'
   ·subst h1;simp at hcs
  ·exact hi.good b' x h
 ·intro b1 b2 x1 x2 v1 v2 k z1 z2 h1 h2 l1 l2 k1 k2;obtain⟨y1,p1,p2⟩:=f _ _ _ h1 l1;obtain⟨y2,q1,q2⟩:=f _ _ _ h2 l2;exact hi.inj b1 b2 y1 y2 v1 v2 k z1 z2 p1 q1 p2 q2 k1 k2
 ·intro b' v h;rcases h with h |h
  ·rcases bE h with⟨rfl,he,_⟩ |⟨_,h⟩
   ·cases he
   ·exact hi.fresh b' v (.inl h)
  ·exact hi.fresh b' v (.inr (by simpa using h))
 ·intro b' x v v' h hl hv;obtain⟨y1,p1,p2⟩:=f _ _ _ h hl;exact hi.next b' y1 v v' p1 p2 hv
 ·intro b' x v k z o h hl hk;obtain⟨y1,p1,p2⟩:=f _ _ _ h hl;exact hi.free b' y1 v k z o p1 p2 hk
 ·rintro k _ ⟨b',x,v,z,h,hl,hz⟩;obtain⟨y1,p1,p2⟩:=f _ _ _ h hl;exact⟨b',y1,v,z,p1,p2,hz⟩
 grind
end
inductive Pl where
 |s (d:Nat)
 |c (d j:Nat)
 |b (b j:Nat)
def rM(s:St):Pl→Option AVal
 | .s d=>s.A[d]?
 | .c d j=>match s.A[d]? with
  |some (.ptr b aj i o)=>match s.H[b]? with
   |some (.row v _ rows)=>match decide (v=aj)with
    |true=>(rows[i]?).bind fun cs=>cs[o+j]?
    |false=>none
   |_=>none
  |_=>none
 | .b b j=>match s.H[b]? with
  |some (.row _ _ rows)=>(rows[0]?).bind fun cs=>cs[j]?
  |_=>none
def Ar(s:St)(v':AVal):Pl→St
 | .s d=>{s with A:=s.A.set d v'}
 | .c d j=>match s.A[d]? with
  |some (.ptr b _ i o)=>match s.H[b]? with
   |some (.row v sz rows)=>{s with H:=s.H.set b (.row v sz (rows.set i ((rows.getD i []).set (o+j) v')))}
   |_=>s
  |_=>s
 | .b b j=>match s.H[b]? with
  |some (.row v sz rows)=>{s with H:=s.H.set b (.row v sz (rows.set 0 ((rows.getD 0 []).set j v')))}
  |_=>s
theorem wu[aB]{s:St}{p:Pl}{v v':AVal}(hp:rM s p=some v){g:Gh}{a:Act}{w:World}(hs:dF g s a w)(hv:∀x,R g w v x→R g w v' x):dF g (Ar s v' p) a w∧aO g s.H w g (Ar s v' p).H w:=by
 cases p with
 |s d=>exact⟨⟨hs.inv,JX hs.tmps hp hv,hs.defs⟩,aO.refl _ _ _⟩
 |c d j=>
  simp only[rM]at hp;split at hp
  ·rename_i b aj i o hd;split at hp
   ·rename_i v0 sz rows hb;split at hp
    ·obtain⟨cs,h1,h2⟩:=Option.bind_eq_some_iff.1 hp;obtain⟨i1,i2⟩:=hs.inv.Mk hb h1 h2 hv;have hgd:rows.getD i []=cs:=by rw[List.getD_eq_getElem?_getD,h1];rfl
     simp only[Ar,hd,hb,hgd];exact⟨⟨i1,bD i2.ext _ _ hs.tmps,dw i2.ext _ _ hs.defs⟩,i2⟩
    ·cases hp
   ·cases hp
  ·cases hp
 |b b j=>
  simp only[rM]at hp;split at hp
  ·rename_i v0 sz rows hb;obtain⟨cs,h1,h2⟩:=Option.bind_eq_some_iff.1 hp;obtain⟨i1,i2⟩:=hs.inv.Mk hb h1 h2 hv;have hgd:rows.getD 0 []=cs:=by rw[List.getD_eq_getElem?_getD,h1];rfl
   simp only[Ar,hb,hgd];exact⟨⟨i1,bD i2.ext _ _ hs.tmps,dw i2.ext _ _ hs.defs⟩,i2⟩
  ·cases hp
def P3(s:St)(p:Pl):Option St:=match rM s p with
 |some v=>some (Ar s (Mj v) p)
 |none=>none
theorem NP[aB]{H0:List aa}{s s':St}{p:Pl}(h:P3 s p=some s'):gD H0 s s':=by
 unfold P3 at h;split at h
 ·rename_i v hv;simp only[Option.some.injEq]at h;subst h;intro g0 w0 g a w _ hl hs;obtain⟨h1,h2⟩:=wu hv hs fun _=>G6
  exact⟨g,h1,hl.trans h2⟩
 ·cases h
def NQ(s:St)(p:Pl)(sz:Nat):Option St:=match rM s p,decide (0<sz)with
 |some (.sc (.slice none 0 0)),true=>some (Ar {s with H:=s.H++[.row 0 sz []]} (.sl s.H.length 0 sz 0 0) p)
 |some _,_=>some s
 |none,_=>none
theorem Ml[aB]{H0:List aa}{s s':St}{p:Pl}{sz:Nat}(h:NQ s p sz=some s'):gD H0 s s':=by
 unfold NQ at h;split at h
 ·rename_i hv hz;simp only[Option.some.injEq]at h;subst h;intro g0 w0 g a w _ hl hs;obtain⟨i1,i2⟩:=hs.inv.Ro (sz:=sz) (by simpa using hz)
  have hs1:dF g {s with H:=s.H++[.row 0 sz []]} a w:=⟨i1,bD i2.ext _ _ hs.tmps,dw i2.ext _ _ hs.defs⟩;have hv1:rM {s with H:=s.H++[.row 0 sz []]} p=some (.sc (.slice none 0 0)):=by
   cases p with
   |s d=>exact hv
   |c d j=>
    grind [rM]
   |b b j=>
    grind [rM]
  obtain⟨h1,h2⟩:=wu hv1 hs1 (v':=.sl s.H.length 0 sz 0 0) fun x hx=>by
   have:=eY hx;subst this;simp[R]
  exact⟨g,h1,(hl.trans i2).trans h2⟩
 ·grind [gD.refl]
 ·cases h
set_option linter.unusedVariables false in
theorem P4[aB]{g:Gh}{H:List aa}{w:World}{g0:Gh}{H0:List aa}{w0:World}(hi0:Inv g0 H0 w0)(hi:Inv g H w)(hl:aO g0 H0 w0 g H w){b aj sz:Nat}{rows:List (List AVal)}(hb:H[b]? =some (.row aj sz rows)):
 Inv {ah:=g.ah,st:=fun k o=>g.st k o∨∃z,g.ah b aj=some (k,z)} (H.set b .dead) w∧aO g0 H0 w0 {ah:=g.ah,st:=fun k o=>g.st k o∨∃z,g.ah b aj=some (k,z)} (H.set b .dead) w∧
 Ext g w {ah:=g.ah,st:=fun k o=>g.st k o∨∃z,g.ah b aj=some (k,z)} w:=by
 have hext:Ext g w {ah:=g.ah,st:=fun k o=>g.st k o∨∃z,g.ah b aj=some (k,z)} w:=⟨fun _ _ _ h=>h,fun _ _ h=>.inl h,fun _ _ _=>rfl,fun _ _ h=>h⟩
 have f:∀(b':Nat) (x':aa),(H.set b aa.dead)[b']? =some x'→x'=.dead∨(b'≠b∧H[b']? =some x'):=by
  intro b' x' h;rcases bE h with⟨rfl,he,_⟩ |⟨h1,h⟩
  ·exact .inl he
  ·exact .inr ⟨h1,h⟩
 refine⟨⟨?_,?_,?_,?_,?_,?_,hi.cD.mono hext⟩,⟨⟨hl.ext.ah,fun k o h=>.inl (hl.ext.st k o h),hl.ext.cell,hl.ext.shape⟩,hl.size,hl.keep,?_,by simpa using hl.len,hl.os,hl.tape,hl.output,?_,?_,hl.qy⟩,hext⟩
 ·intro b' x' h;rcases f _ _ h with rfl |⟨hne,h⟩
  ·trivial
  ·exact jf hext (hi.good b' x' h) (fun _ _ _ _ _=>rfl) fun _ _ h=>h
 ·intro b1 b2 x1 x2 v1 v2 k z1 z2 h1 h2 l1 l2;rcases f _ _ h1 with rfl |⟨_,h1⟩
  ·cases l1
  ·rcases f _ _ h2 with rfl |⟨_,h2⟩
   ·cases l2
   ·exact hi.inj b1 b2 x1 x2 v1 v2 k z1 z2 h1 h2 l1 l2
 ·grind [hi.fresh]
 ·intro b' x' v v' h hlv;rcases f _ _ h with rfl |⟨_,h⟩
  ·cases hlv
  ·exact hi.next b' x' v v' h hlv
 ·intro b' x' v k z o h hlv hk hs;rcases f _ _ h with rfl |⟨hne,h⟩
  ·cases hlv
  ·rcases hs with hs |⟨z',hz⟩
   ·exact hi.free b' x' v k z o h hlv hk hs
   ·exact hne (hi.inj b' b x' _ v aj k z z' h hb hlv rfl hk hz)
 ·intro k o hs;rcases hs with hs |⟨z,hz⟩
  ·exact hi.dU k o hs
  ·exact hi.o5 hb rfl hz
 ·rintro k hk ⟨b',x',v,z,h,hlv,hz⟩;rcases f _ _ h with rfl |⟨_,h⟩
  ·cases hlv
  ·exact hl.own k hk ⟨b',x',v,z,h,hlv,hz⟩
 ·rintro k o hk (hs |⟨z,hz⟩)
  ·rcases hl.stk k o hk hs with h1 |⟨h1,h2⟩
   ·exact .inl h1
   ·refine .inr ⟨h1,?_⟩;rintro⟨b',x',v,z,h,hlv,hz⟩;rcases f _ _ h with rfl |⟨_,h⟩
    ·cases hlv
    ·exact h2 ⟨b',x',v,z,h,hlv,hz⟩
  ·refine .inr ⟨hl.own k hk ⟨b,_,aj,z,hb,rfl,hz⟩,?_⟩;rintro⟨b',x',v,z',h,hlv,hz'⟩;rcases f _ _ h with rfl |⟨hne,h⟩
   ·cases hlv
   ·exact hne (hi.inj b' b x' _ v aj k z' z h hb hlv rfl hz' hz)
 ·intro b1 hb1;obtain⟨d1,d2⟩:=hl.ru b1 hb1;grind
def NR(_H0:List aa)(s:St)(p:Pl)(rows:List (List AVal)):Option St:=match rM s p with
 |some (.sl b aj sz 0 _)=>match s.H[b]? with
  |some (.row ver' sz' _)=>match decide (ver'=aj∧sz'=sz)with
   |true=>some (Ar {s with H:=s.H.set b .dead} (.aC rows) p)
   |false=>none
  |_=>none
 |_=>none
def QS(s:St)(p:Pl)(rows:List (List AVal)):Prop:=∃b aj sz,rM s p=some (.sl b aj sz 0 rows.length)∧s.H[b]? =some (.row aj sz rows)∧rows.all AVal.aQ=true
theorem Mm[aB]{H0:List aa}{s s':St}{p:Pl}{rows:List (List AVal)}(hok:QS s p rows)(h:NR H0 s p rows=some s'):gD H0 s s':=by
 obtain⟨b,aj,sz,h1,h2,h3⟩:=hok;unfold NR at h;rw[h1]at h;simp only at h;split at h
 ·rename_i ver' sz' rows' hb;rw[h2]at hb;simp only[Option.some.injEq,aa.row.injEq]at hb;obtain⟨rfl,rfl,rfl⟩:=hb;split at h
  ·simp only[Option.some.injEq]at h;subst h;intro g0 w0 g a w hi0 hl hs;obtain⟨i1,i2,i3⟩:=P4 hi0 hs.inv hl h2;have hs1:dF {ah:=g.ah,st:=fun k o=>g.st k o∨∃z,g.ah b aj=some (k,z)} {s with H:=s.H.set b .dead} a w:=⟨i1,bD i3 _ _ hs.tmps,dw i3 _ _ hs.defs⟩
   have key0:∀(l:List AVal) (j:Nat) (y:AVal),AVal.aQ l=true→l[j]? =some y→y.pure=true:=by
    intro l;induction l with
    |nil=>intro j y _ h;simp at h
    |cons c cs ih3=>
     grind [AVal.aQ]
   have hgp:rM {s with H:=s.H.set b .dead} p=some (.sl b aj sz 0 rows.length):=by
    cases p with
    |s d=>exact h1
    |c d j=>
     simp only[rM]at h1 ⊢;split at h1
     ·grind [aa.row.injEq,AVal.pure]
     ·cases h1
    |b b2 j=>
     grind [rM,aa.row.injEq,AVal.pure]
   obtain⟨q1,q2⟩:=wu hgp hs1 (v':=.aC rows) fun x hx=>by
    simp only[R]at hx ⊢;rcases hx with⟨hn,rfl⟩ |⟨k,cap,e',sz2,hk,rfl,hsh,hcs,hm,hmax⟩
    ·simp_all
    ·obtain⟨k',c,e,r1,r2,r3,r4,r5,r6⟩:=hs.inv.row b aj _ _ h2 hk;rw[hk]at r1;simp at r1;subst r1;refine⟨_,cap,rfl,by omega,.inr ⟨k,0*sz,sz,rfl,Ct fun i r hr=>?_⟩⟩
     obtain⟨t1,t2⟩:=ck _ _ _ _ r3 hr;grind [yo,kW,nX,hG]
   exact⟨_,q1,i2.trans q2⟩
  ·cases h
 ·cases h
end Go.AM
end
section
namespace Go.AM
def jl(n:Nat):List AVal:=List.replicate n .av
def ap(a b:List AVal):List AVal:=a++b
section
variable [aB] {P:Program} {cfg:dZ} {g:Gh} {H:List aa} {w:World} {fro:Option Nat}
def dR(P:Program)(fro:Option Nat)(g0:Gh)(H0:List aa)(w0:World)[aB](c:Code)(s:St)(Φ:aX→St→Prop):Prop:=
 ∀(Q:Exit→Act→World→Prop) (g:Gh) (a:Act) (w:World),dF g s a w→aO g0 H0 w0 g s.H w→(∀o s',Φ o s'→dQ Q g0 H0 w0 s' o)→c.wpIn (Fr fro) 0 P Q a w
variable {g0:Gh} {H0:List aa} {w0:World}
theorem dR.mono{c:Code}{s:St}{Φ Ψ:aX→St→Prop}(h:dR P fro g0 H0 w0 c s Φ)(hp:∀o s',Φ o s'→Ψ o s'):dR P fro g0 H0 w0 c s Ψ:=
 fun Q g a w hs hl hk=>h Q g a w hs hl fun o s' hf=>hk o s' (hp o s' hf)
theorem dR.skip{s:St}{Φ:aX→St→Prop}(h:Φ .normal s):dR P fro g0 H0 w0 .skip s Φ:=
 fun _ g a w hs hl hp=>wpIn_skip (hp _ _ h g a w hs hl)
theorem dR.exit{s:St}{Φ:aX→St→Prop}{id:Nat}(h:Φ (.exit id) s):dR P fro g0 H0 w0 (.exit id) s Φ:=
 fun _ g a w hs hl hp=>wpIn_exit (hp _ _ h g a w hs hl)
theorem dR.ret{s:St}{Φ:aX→St→Prop}(h:Φ .ret s):dR P fro g0 H0 w0 .ret s Φ:=
 fun _ g a w hs hl hp=>wpIn_ret (hp _ _ h g a w hs hl)
def Cv:dz→aX×St
 | .ok s=>(.normal,s)
 | .aR v s=>(.aR v,s)
theorem dR.region(hm:P.follows .mixedOrders=true){orcs:Nat→iV}(ho:∀k,fL P (orcs k)){id:Nat}{ops:Array Oper}{draw:Bool}{s:St}{r:dz}{Φ:aX→St→Prop}(hcalm:∀(k:Nat) (o:Oper),ops[k]? =some o→Calm fro o)
 (h:sD P cfg orcs ops draw s=some r) (hr:Φ (Cv r).1 (Cv r).2):dR P fro g0 H0 w0 (.region id ops draw) s Φ:=by
 intro Q g a w hs hl hp;cases r with
 |ok s'=>exact tj hm ho hcalm h hs (oE.later (r:=.ok s') (hp _ _ hr) hl)
 |aR v s'=>exact tj hm ho hcalm h hs (oE.later (r:=.aR v s') (hp _ _ hr) hl)
theorem dR.seq{a b:Code}{s:St}{Φ:aX→St→Prop}(h:dR P fro g0 H0 w0 a s fun o s'=>match o with | .normal=>dR P fro g0 H0 w0 b s' Φ |o=>Φ o s'):dR P fro g0 H0 w0 (.seq a b) s Φ:=by
 intro Q g x w hs hl hp;refine wpIn_seq (h _ g x w hs hl fun o s' hf=>?_)
 cases o with
 |normal=>exact fun g' a' w' hs' hla=>hf Q g' a' w' hs' hla hp
 |exit id=>exact hp _ _ hf
 |ret=>exact hp _ _ hf
 |aR v=>exact hp _ _ hf
theorem dR.cond{c:Operand}{a b:Code}{s:St}{Φ:aX→St→Prop}(z:Bool)(hc:bX s.A c=.sc (.bool z))(h:dR P fro g0 H0 w0 (if z then a else b) s Φ):dR P fro g0 H0 w0 (.cond c a b) s Φ:=by
 intro Q g x w hs hl hp;have hev:=hs.eval c;rw[hc]at hev;simp only[R]at hev;cases z with
 |true=>exact wpIn_cond_true hev (h Q g x w hs hl hp)
 |false=>exact wpIn_cond_false hev (h Q g x w hs hl hp)
def behind(id:Nat):aX→aX
 | .exit id'=>if id'=id then .normal else .exit id'
 |o=>o
theorem dR.block{id:Nat}{b:Code}{s:St}{Φ:aX→St→Prop}(h:dR P fro g0 H0 w0 b s fun o s'=>Φ (behind id o) s'):dR P fro g0 H0 w0 (.block id b) s Φ:=by
 intro Q g x w hs hl hp;refine wpIn_block (h _ g x w hs hl fun o s' hf=>?_)
 cases o with
 |normal=>exact fun g' a' w' hs' hla=>hp _ _ hf g' a' w' hs' hla
 |exit id'=>
  intro g' a' w' hs' hla;by_cases he:id'=id
  ·simp only[behind,he,if_true]at hf;simp only[Exit.inBlock,he,if_true];exact hp _ _ hf g' a' w' hs' hla
  ·simp only[behind,he,if_false]at hf;simp only[Exit.inBlock,he,if_false];exact hp _ _ hf g' a' w' hs' hla
 |ret=>exact fun g' a' w' hs' hla=>hp _ _ hf g' a' w' hs' hla
 |aR v=>exact fun g' a' w' x hv hs' hla hr=>hp _ _ hf g' a' w' x hv hs' hla hr
theorem dQ.weak{Q:Exit→Act→World→Prop}{g0:Gh}{H0:List aa}{w0:World}(hi0:Inv g0 H0 w0){s' s'':St}{o:aX}(hw:gD H0 s' s'')(h:dQ Q g0 H0 w0 s'' o):dQ Q g0 H0 w0 s' o:=by
 cases o with
 |normal=>exact fun g' a' w' hs hl'=>let⟨g2,h1,h2⟩:=hw g0 w0 g' a' w' hi0 hl' hs;h g2 a' w' h1 h2
 |exit id=>exact fun g' a' w' hs hl'=>let⟨g2,h1,h2⟩:=hw g0 w0 g' a' w' hi0 hl' hs;h g2 a' w' h1 h2
 |ret=>exact fun g' a' w' hs hl'=>let⟨g2,h1,h2⟩:=hw g0 w0 g' a' w' hi0 hl' hs;h g2 a' w' h1 h2
 |aR v=>exact fun g' a' w' x hv hs hl' hr=>let⟨g2,h1,h2⟩:=hw g0 w0 g' a' w' hi0 hl' hs;h g2 a' w' x hv h1 h2 (jU _ _ hv hr)
theorem dR.weak(hi0:Inv g0 H0 w0){c:Code}{s s1:St}{Φ:aX→St→Prop}(hw:gD H0 s s1)(h:dR P fro g0 H0 w0 c s1 Φ):dR P fro g0 H0 w0 c s Φ:=by
 intro Q g a w hs hl hp;obtain⟨g2,h1,h2⟩:=hw g0 w0 g a w hi0 hl hs;exact h Q g2 a w h1 h2 hp
theorem dR.loop(hi0:Inv g0 H0 w0){b:Code}{s s0:St}{n:Nat}{Φ:aX→St→Prop}(J:Nat→St→Prop)(h0:∀s,¬J 0 s)(hs0:gD H0 s s0)(hJ:J n s0)
 (hb:∀n s1,J (n+1) s1→dR P fro g0 H0 w0 b s1 fun o s2=>∃s3,gD H0 s2 s3∧match o with | .normal=>J n s3 |o=>Φ o s3):dR P fro g0 H0 w0 (.loop b) s Φ:=by
 intro Q gs a0 ws hs hl hp;have key:∀(n:Nat) (s1:St) (g:Gh) (a:Act) (w:World),J n s1→dF g s1 a w→aO g0 H0 w0 g s1.H w→
  ∀(fr:Frame) (k:List Item) (cs:List Frame),fr.roundOf=(Fr fro).round→∃e a' w',Q e a' w'∧ArrivesIn (Machine.fenced P (Fr fro)) P (lone (fr.atR a (.code b:: .inLoop b::k)) cs w) fr k cs e a' w':=by
  intro n;induction n with
  |zero=>grind
  |succ n ih=>
   intro s1 g a w hj hsim hla fr k cs hfr;have hstep:b.wpIn (Fr fro) 0 P (Exit.then (fun a' w'=>∀(fr:Frame) (k:List Item) (cs:List Frame),fr.roundOf=(Fr fro).round→∃e a2 w2,Q e a2 w2∧ArrivesIn (Machine.fenced P (Fr fro)) P (lone (fr.atR a' (.code b:: .inLoop b::k)) cs w') fr k cs e a2 w2) Q) a w:=by
    refine hb n s1 hj _ g a w hsim hla fun o s2 ⟨s3,hw,hf⟩=>?_
    cases o with
    |normal=>
     intro g' a' w' hs' hla';obtain⟨g2,h1,h2⟩:=hw g0 w0 g' a' w' hi0 hla' hs';exact ih s3 g2 a' w' hf h1 h2
    |exit id=>exact dQ.weak hi0 (o:=.exit id) hw (hp _ _ hf)
    |ret=>exact dQ.weak hi0 (o:=.ret) hw (hp _ _ hf)
    |aR v=>exact dQ.weak hi0 (o:=.aR v) hw (hp _ _ hf)
   obtain⟨e,a₁,w₁,hq,harr⟩:=hstep fr (.inLoop b::k) cs hfr trivial (Cu _ _);cases e with
   |normal=>
    obtain⟨e₂,a₂,w₂,hq₂,harr₂⟩:=hq fr k cs hfr;exact⟨e₂,a₂,w₂,hq₂,.of_steps (StepsIn.trans harr (.one (fenced_calm (n:=0) trivial (Cu _ _) rfl) stepR_inLoop)) harr₂⟩
   |exit id=>exact⟨_,a₁,w₁,hq,.pass (x:=.inLoop b) rfl (fun _ _=>.inl (by simp)) harr⟩
   |goto l=>exact⟨_,a₁,w₁,hq,.pass (x:=.inLoop b) rfl (fun _ _=>.inl (by simp)) harr⟩
   |ret=>exact⟨_,a₁,w₁,hq,.pass (x:=.inLoop b) rfl (fun _ _=>.inl (by simp)) harr⟩
   |panic ch=>exact⟨_,a₁,w₁,hq,.pass (x:=.inLoop b) rfl (fun _ _=>.inl (by simp)) harr⟩
   |outgrown=>exact⟨_,a₁,w₁,hq,.pass (x:=.inLoop b) rfl (fun _ _=>.inl (by simp)) harr⟩
 obtain⟨g1,h1,h2⟩:=hs0 g0 w0 gs a0 ws hi0 hl hs;intro fr k cs hfr _ hroom;obtain⟨e,a',w',hq,harr⟩:=key n s0 g1 a0 ws hJ h1 h2 fr k cs hfr;exact⟨e,a',w',hq,.of_steps (.one (fenced_calm trivial hroom rfl) stepR_loop) harr⟩
end
inductive Sh:Type 1 where
 |one (τ:Type)
 |two (a b:Sh)
def Sh.El:Sh→Type
 | .one τ=>τ
 | .two a b=>a.El⊕b.El
def Sh.all:(s:Sh)→(s.El→Prop)→Prop
 | .one _,p=>∀x,p x
 | .two a b,p=>a.all (fun x=>p (.inl x))∧b.all (fun x=>p (.inr x))
theorem Sh.bO:∀(s:Sh) (p:s.El→Prop),s.all p↔∀x,p x
 | .one _,p=>Iff.rfl
 | .two a b,p=>by
  simp only[Sh.all,Sh.bO a,Sh.bO b];exact⟨fun h x=>match x with | .inl y=>h.1 y | .inr y=>h.2 y,fun h=>⟨fun y=>h (.inl y),fun y=>h (.inr y)⟩⟩
namespace AVal
mutual
def we(b v:Nat):AVal→AVal
 | .sc x=>.sc x
 | .agg cs=>.agg (tq b v cs)
 | .bW cs=>.bW (tq b v cs)
 | .ptr _ _ i o=>.ptr b v i o
 | .bL cs o=>.bL cs o
 | .sl _ _ sz o n=>.sl b v sz o n
 | .aC rows=>.aC rows
 | .fn f c d=>.fn f (tq b v c) (tq b v d)
 | .eE t a=>.eE t (we b v a)
 | .mp x=>.mp x
 | .gZ x=>.gZ x
 | .sa _ _ i o s n=>.sa b v i o s n
 | .fO i o=>.fO i o
 | .emp=>.emp
 | .nz x=>.nz x
 | .av=>.av
def tq(b v:Nat):List AVal→List AVal
 | []=>[]
 |a::as=>we b v a::tq b v as
end
mutual
def rB:AVal→Bool
 | .sc _=>true
 | .agg cs=>lU cs
 | .bW cs=>lU cs
 | .ptr b v .. =>b==0&&v==0
 | .bL .. =>true
 | .sl b v .. =>b==0&&v==0
 | .aC _=>true
 | .fn _ c d=>lU c&&lU d
 | .eE _ a=>rB a
 | .mp _=>false
 | .gZ _=>false
 | .sa b v .. =>b==0&&v==0
 | .fO _ _=>true
 | .emp=>true
 | .nz _=>true
 | .av=>true
def lU:List AVal→Bool
 | []=>true
 |a::as=>rB a&&lU as
end
mutual
def but(b:Nat):AVal→AVal
 | .sc x=>.sc x
 | .agg cs=>.agg (wV b cs)
 | .bW cs=>.bW (wV b cs)
 | .ptr c v i o=>match Nat.beq c b with
  |true=>.ptr c v i o
  |false=>.av
 | .bL cs o=>.bL cs o
 | .sl c v sz o n=>match Nat.beq c b with
  |true=>.sl c v sz o n
  |false=>.av
 | .aC rows=>.aC rows
 | .fn f c d=>.fn f (wV b c) (wV b d)
 | .eE t a=>.eE t (but b a)
 | .mp _=>.av
 | .gZ _=>.av
 | .sa c v i o s n=>match Nat.beq c b with
  |true=>.sa c v i o s n
  |false=>.av
 | .fO i o=>.fO i o
 | .emp=>.emp
 | .nz x=>.nz x
 | .av=>.av
def wV(b:Nat):List AVal→List AVal
 | []=>[]
 |a::as=>but b a::wV b as
end
end AVal
def aa.kO:aa→Bool
 | .row aj _ rows=>aj==0&&rows.all AVal.aQ
 |_=>false
def aa.kJ(v:Nat):aa→aa
 | .row _ sz rows=>.row v sz rows
 |x=>x
def aM.Eb:aM→Bool
 | .ret v=>v.pure
 | .aR v=>v.flat
def AVal.yt(b v:Nat):AVal→AVal
 | .sl _ _ sz o n=>.sl b v sz o n
 |u=>u
def aM.yt(b v:Nat):aM→aM
 | .ret u=>.ret (u.yt b v)
 | .aR u=>.aR u
def aM.A0:aM→Bool
 | .ret (.sl b v _ _ _)=>b==0&&v==0
 | .ret u=>u.pure
 | .aR u=>u.flat
theorem aM.P5{r:aM}(h:r.Eb=true):r.A0=true:=by
 cases r with
 |ret u=>cases u<;>first |exact h |cases h
 |aR u=>exact h
def kP(P:Program)[aB](f:FuncId)(args:List AVal)(r:aM):Prop:=
 (∃ fn c, P.funcs[f]? = some fn ∧ fn.body = some c ∧ fn.name ≠ "runtime.NumGoroutine") ∧
 ∀g w (vs:Array Value),Inv g [] w→RL g w args vs.toList→Calls P f vs w (dJ g [] w r [])
def bF(P:Program)[aB](f:FuncId)(args:List AVal)(H:List aa)(r:aM)(H1:List aa):Prop:=
 (∃ fn c, P.funcs[f]? = some fn ∧ fn.body = some c ∧ fn.name ≠ "runtime.NumGoroutine") ∧
 ∀g w (vs:Array Value),Inv g H w→RL g w args vs.toList→Calls P f vs w (dJ g H w r H1)
structure tu(P:Program)[aB]:Type 1 where
 f:FuncId
 X:Type
 args:X→List AVal
 heap:X→List aa
 sh:Sh
 out:sh.El→aM
 fE:X→sh.El→List aa
 S:Nat→X→Option sh.El
 ok:∀n x r,S n x=some r→bF P f (args x) (heap x) (out r) (fE x r)
structure aA(P:Program)[aB]:Type 1 where
 f:FuncId
 X:Type
 args:X→List AVal
 sh:Sh
 out:sh.El→aM
 S:Nat→X→Option sh.El
 ok:∀n x r,S n x=some r→kP P f (args x) (out r)
structure dm(P:Program)[aB]:Type 1 where
 f:FuncId
 X:Type
 args:X→List AVal
 blk:X→aa
 sh:Sh
 out:sh.El→aM
 rN:X→sh.El→aa
 S:Nat→X→Option sh.El
 a0:∀x,AVal.lU (args x)=true
 b0:∀x,(blk x).kO=true
 b1:∀x r,(rN x r).kO=true∨rN x r=.dead
 r0:∀r,(out r).A0=true
 ok:∀n x r,S n x=some r→bF P f (args x) [blk x] (out r) [rN x r]
structure mI(X:Type) where
 run:Option X
 bf:X→cr
 ids:List Nat
 oc:aB→Program→dZ→Nat→Op→(Operand→AVal)→List aa→Prop
 iw:Prop
 holds:iw
 sound:∀(gl:aB) (P:Program) (cfg:dZ) (nid:Nat) (op:Op) (ah:Operand→AVal) (H:List aa),oc gl P cfg nid op ah H→∀x,run=some x→
  (bC P cfg nid ah op).run H=some (.bf (bf x))∧(bC P cfg nid ah op).reads H=ids
structure PU where
 b:Nat
 blk:aa
 pf:oF blk=true
def tv:aa→Bool
 | .row _ _ rows=>rows.all AVal.aQ
 | .map _ es=>es.all fun p=>p.1.pure&&p.2.1.pure
 |_=>false
theorem yu{x:aa}(h:tv x=true):(∃v sz rows,x=.row v sz rows∧rows.all AVal.aQ=true)∨∃c es,x=.map c es∧(es.all fun p=>p.1.pure&&p.2.1.pure)=true:=by
 unfold tv at h;grind
structure PR where
 b:Nat
 blk:aa
 pf:tv blk=true
def PR.ofRow(b aj sz:Nat)(rows:List (List AVal))(pf:rows.all AVal.aQ=true):PR:=⟨b,.row aj sz rows,pf⟩
structure FZ where
 p:Pl
 b:Nat
 aj:Nat
 sz:Nat
 n:Nat
 rows:List (List AVal)
 pf:rows.all AVal.aQ=true
structure PK where
 b:Nat
 mb:Nat
 n:Nat
 es:List (AVal×AVal×Nat)
 pf:es.length=n∧∀(i:Nat) p,es[i]? =some p→p.2.2=i
structure GK where
 {X:Type}
 l:List X
 m:List X
 enc:X→List AVal
 n:Nat
 bytes:Nat
 b:Nat
 aj:Nat
 len:Nat
def GK.ok(z:GK):Bool:=decide (z.len=z.l.length)&&roomy (z.l.length+z.m.length) z.bytes
def Ec(P:Program)(ST XT:TypeId):Option (Nat×Nat):=
 match P.underlying ST,P.underlying XT with
 |some (.slice e),some (.slice _)=>match P.info? e with
  |some i=>if decide (0<i.size)&&jA i then some (i.size,i.bytes)else none
  |none=>none
 |_,_=>none
structure RW where
 p:Pl
 rows:List (List AVal)
 rows':List (List AVal)
 pf:rows.map lT=rows'
inductive TS where
 |keep (l:List Nat)
 |wk (p:Pl)
 |own (p:Pl) (sz:Nat)
 |fP (z:FZ)
 |OP (z:RW)
 |cut (bl bump:List Nat) (pu:List PU)
inductive G (P:Program) [aB]:Type→Type 1 where
 |stop {ρ:Type}:G P ρ
 |done {ρ:Type} (ts:List TS) (r:ρ):G P ρ
 |fail {ρ:Type}:G P ρ
 |skip {ρ:Type} (n:Nat) (g:G P ρ):G P ρ
 |br {ρ:Type} (d:Tmp) (c:Bool) (t f:G P ρ):G P ρ
 |C4 {ρ:Type} (d:Tmp) (k:IntKind) (x c:Int) (t f:G P ρ):G P ρ
 |sp {ρ:Type} (c:Bool) (t f:G P ρ):G P ρ
 |op {ρ X:Type} (t:mI X) (k:X→G P ρ):G P ρ
 |call {ρ:Type} (c:aA P) (x:c.X) (k:c.sh.El→G P ρ):G P ρ
 |fM {ρ:Type} (c:tu P) (x:c.X) (k:c.sh.El→G P ρ):G P ρ
 |bk {ρ:Type} (c:dm P) (b v:Nat) (ex:List PR) (x:c.X) (k:c.sh.El→G P ρ):G P ρ
 |tidy {ρ:Type} (l:List TS) (g:G P ρ):G P ρ
 |loop {ρ σ:Type} (sh:Sh) (hd:List TS) (E:σ→St) (X:sh.El→aX×St) (a0:σ) (body:σ→G P (σ⊕sh.El)) (k:sh.El→G P ρ):G P ρ
 |rC {ρ:Type} (hs sh:Sh) (hd:List TS) (E:hs.El→St) (X:sh.El→aX×St) (a0:hs.El) (body:hs.El→G P (hs.El⊕sh.El)) (k:sh.El→G P ρ):G P ρ
 |fH {ρ:Type} (n:Nat) (g:G P ρ):G P ρ
 |ve {ρ:Type} (Q:Prop) (h:Q) (g:G P ρ):G P ρ
 |join {ρ:Type} (sh:Sh) (Y:sh.El→aX×St) (g:G P sh.El) (k:sh.El→G P ρ):G P ρ
 |pick {ρ:Type} (z:PK) (seen:List Nat) (k:Option Nat→G P ρ):G P ρ
 |grow {ρ:Type} (z:GK) (k:Bool→G P ρ):G P ρ
 |inl {ρ:Type} (pr:List PR) (g:G P ρ):G P ρ
def aK:List TS→Bool
 | []=>true
 | .fP z::ts=>decide (z.n=z.rows.length)&&aK ts
 |_::ts=>aK ts
def bI{σ τ:Type}(f:σ→Option (σ⊕τ)):Nat→σ→Option τ
 | 0,_=>none
 |n+1,a=>match f a with
  |some (.inl a')=>bI f n a'
  |some (.inr t)=>some t
  |none=>none
section
variable {P:Program} [aB]
def G.run(n:Nat):{ρ:Type}→G P ρ→Option ρ
 |_,.stop=>none
 |_,.done ts r=>if aK ts then some r else none
 |_,.fail=>none
 |_,.skip _ g=>g.run n
 |_,.br _ c t f=>if c then t.run n else f.run n
 |_,.C4 _ _ x c t f=>if x=c then t.run n else f.run n
 |_,.sp c t f=>if c then t.run n else f.run n
 |_,.op t k=>t.run.bind fun x=>(k x).run n
 |_,.call c x k=>(c.S n x).bind fun r=>(k r).run n
 |_,.fM c x k=>(c.S n x).bind fun r=>(k r).run n
 |_,.bk c _ _ _ x k=>(c.S n x).bind fun r=>(k r).run n
 |_,.tidy l g=>if aK l then g.run n else none
 |_,.loop _ hd _ _ a0 body k=>if aK hd then(bI (fun a=>(body a).run n) n a0).bind fun t=>(k t).run n else none
 |_,.rC _ _ hd _ _ a0 body k=>if aK hd then(bI (fun a=>(body a).run n) n a0).bind fun t=>(k t).run n else none
 |_,.fH _ g=>g.run n
 |_,.ve _ _ g=>g.run n
 |_,.join _ _ g k=>(g.run n).bind fun t=>(k t).run n
 |_,.pick _ _ _=>none
 |_,.grow _ _=>none
 |_,.inl _ g=>g.run n
def KS{σ:Type}{sh:Sh}(E:σ→St)(X:sh.El→aX×St):σ⊕sh.El→Prop
 | .inl a=>(aX.normal,E a)=(aX.normal,E a)
 | .inr t=>X t=X t
def QT{sh:Sh}(Y:sh.El→aX×St)(t:sh.El):Prop:=Y t=Y t
def Dv:List PU→Prop
 | []=>True
 |p::ps=>some p.blk=some p.blk∧Dv ps
def As:List PR→Prop
 | []=>True
 |p::ps=>some p.blk=some p.blk∧As ps
def lg:List TS→Prop→Prop
 | [],q=>q
 | .keep _::ts,q=>lg ts q
 | .wk _::ts,q=>lg ts q
 | .own _ _::ts,q=>lg ts q
 | .fP z::ts,q=>some (AVal.sl z.b z.aj z.sz 0 z.n)=some (AVal.sl z.b z.aj z.sz 0 z.n)∧some (aa.row z.aj z.sz z.rows)=some (aa.row z.aj z.sz z.rows)∧lg ts q
 | .cut _ _ pu::ts,q=>Dv pu∧lg ts q
 | .OP z::ts,q=>some (AVal.aC z.rows)=some (AVal.aC z.rows)∧lg ts q
omit [aB] in
theorem A2:∀(l:List PU),Dv l
 | []=>trivial
 |_::ps=>⟨rfl,A2 ps⟩
omit [aB] in
theorem vM:∀(l:List PR),As l
 | []=>trivial
 |_::ps=>⟨rfl,vM ps⟩
omit [aB] in
theorem gB{q:Prop}(h:q):∀(l:List TS),lg l q
 | []=>h
 | .keep _::ts=>gB h ts
 | .wk _::ts=>gB h ts
 | .own _ _::ts=>gB h ts
 | .fP _::ts=>⟨rfl,rfl,gB h ts⟩
 | .cut _ _ pu::ts=>⟨A2 pu,gB h ts⟩
 | .OP _::ts=>⟨rfl,gB h ts⟩
def G.eo:{ρ:Type}→(ρ→Prop)→G P ρ→Prop
 |_,_,.stop=>True
 |_,leaf,.done ts r=>lg ts (leaf r)
 |_,_,.fail=>True
 |_,leaf,.skip _ g=>g.eo leaf
 |_,leaf,.br _ c t f=>some (AVal.sc (.bool c))=some (AVal.sc (.bool c))∧t.eo leaf∧f.eo leaf
 |_,leaf,.C4 _ k x _ t f=>some (AVal.sc (.int k x))=some (AVal.sc (.int k x))∧t.eo leaf∧f.eo leaf
 |_,leaf,.sp _ t f=>t.eo leaf∧f.eo leaf
 |_,leaf,.op t k=>some true=some true∧t.iw∧∀x,(k x).eo leaf
 |_,leaf,.call c x k=>some true=some true∧some (c.f,c.args x)=some (c.f,c.args x)∧c.sh.all fun r=>(k r).eo leaf
 |_,leaf,.fM c x k=>some true=some true∧some (c.f,c.args x,c.heap x)=some (c.f,c.args x,c.heap x)∧c.sh.all fun r=>(k r).eo leaf
 |_,leaf,.bk c b v ex x k=>some true=some true∧As ex∧some (c.f,AVal.tq b v (c.args x),some ((c.blk x).kJ v))=some (c.f,AVal.tq b v (c.args x),some ((c.blk x).kJ v))∧c.sh.all fun r=>(k r).eo leaf
 |_,leaf,.tidy l g=>lg l (g.eo leaf)
 |_,leaf,.loop sh hd E X a0 body k=>lg hd (E a0=E a0)∧(∀a,(body a).eo (KS E X))∧sh.all fun t=>(k t).eo leaf
 |_,leaf,.rC hs sh hd E X a0 body k=>lg hd (E a0=E a0)∧(hs.all fun a=>(body a).eo (KS E X))∧sh.all fun t=>(k t).eo leaf
 |_,leaf,.fH _ g=>g.eo leaf
 |_,_,.ve Q _ _=>Q
 |_,leaf,.join sh Y g k=>g.eo (QT Y)∧sh.all fun t=>(k t).eo leaf
 |_,leaf,.pick z seen k=>some true=some true∧AVal.ptr z.b 0 0 0=AVal.ptr z.b 0 0 0∧some (aa.iter (.mp z.mb) z.n seen z.n)=some (aa.iter (.mp z.mb) z.n seen z.n)∧some (aa.map z.n z.es)=some (aa.map z.n z.es)∧(k none).eo leaf∧∀i,(k (some i)).eo leaf
 |_,leaf,.grow z k=>some true=some true∧some aa.aV=some aa.aV∧ @Eq Bool true true∧some (z.n,z.bytes)=some (z.n,z.bytes)∧AVal.sl z.b z.aj z.n 0 z.len=AVal.sl z.b z.aj z.n 0 z.len∧some (aa.row z.aj z.n (z.l.map z.enc))=some (aa.row z.aj z.n (z.l.map z.enc))∧some (z.m.map z.enc)=some (z.m.map z.enc)∧(∀_:z.X,z.n=z.n)∧ @Eq Bool false false∧(k true).eo leaf∧(k false).eo leaf
 |_,leaf,.inl pr g=>some true=some true∧As pr∧g.eo leaf
omit [aB] in
theorem C5{σ:Type}{sh:Sh}(E:σ→St)(X:sh.El→aX×St):∀r,KS E X r
 | .inl _=>rfl
 | .inr _=>rfl
theorem G.bH:∀{ρ:Type} {leaf:ρ→Prop} (_:∀r,leaf r) (g:G P ρ),g.eo leaf
 |_,_,_,.stop=>trivial
 |_,_,h,.done ts r=>gB (h r) ts
 |_,_,_,.fail=>trivial
 |_,_,h,.skip _ g=>G.bH h g
 |_,_,h,.br _ _ t f=>⟨rfl,G.bH h t,G.bH h f⟩
 |_,_,h,.C4 _ _ _ _ t f=>⟨rfl,G.bH h t,G.bH h f⟩
 |_,_,h,.sp _ t f=>⟨G.bH h t,G.bH h f⟩
 |_,_,h,.op t k=>⟨rfl,t.holds,fun x=>G.bH h (k x)⟩
 |_,_,h,.call c _ k=>⟨rfl,rfl,(c.sh.bO _).2 fun r=>G.bH h (k r)⟩
 |_,_,h,.fM c _ k=>⟨rfl,rfl,(c.sh.bO _).2 fun r=>G.bH h (k r)⟩
 |_,_,h,.bk c _ _ ex _ k=>⟨rfl,vM ex,rfl,(c.sh.bO _).2 fun r=>G.bH h (k r)⟩
 |_,_,h,.tidy l g=>gB (G.bH h g) l
 |_,_,h,.loop sh hd E X _ body k=>⟨gB rfl hd,fun a=>G.bH (C5 E X) (body a),(sh.bO _).2 fun t=>G.bH h (k t)⟩
 |_,_,h,.rC hs sh hd E X _ body k=>⟨gB rfl hd,(hs.bO _).2 fun a=>G.bH (C5 E X) (body a),(sh.bO _).2 fun t=>G.bH h (k t)⟩
 |_,_,h,.fH _ g=>G.bH h g
 |_,_,_,.ve _ q _=>q
 |_,_,h,.join sh _ g k=>⟨G.bH (fun _=>rfl) g,(sh.bO _).2 fun t=>G.bH h (k t)⟩
 |_,_,h,.pick _ _ k=>⟨rfl,rfl,rfl,rfl,G.bH h (k none),fun i=>G.bH h (k (some i))⟩
 |_,_,h,.grow _ k=>⟨rfl,rfl,rfl,rfl,rfl,rfl,rfl,fun _=>rfl,rfl,G.bH h (k true),G.bH h (k false)⟩
 |_,_,h,.inl pr g=>⟨rfl,vM pr,G.bH h g⟩
def G.less{ρ:Type}:Nat→G P ρ→G P ρ
 | 0,g=>g
 |n+1,g=>.skip (n+1) g
theorem G.HU{ρ:Type}(n m:Nat)(g:G P ρ):(G.less m g).run n=g.run n:=by cases m<;>simp[G.less,G.run]
end
structure yY(P:Program)[aB] where
 fn:{ρ:Type}→FuncId→List AVal→List aa→G P ρ→(G P ρ→aM→List aa→Prop)→Prop
 AY:{ρ:Type}→Nat→List AVal→List aa→G P ρ→(G P ρ→aM→List aa→Prop)→Prop
 lp:{σ:Type}→{sh:Sh}→Option Nat→List aa→Code→G P (σ⊕sh.El)→(σ→St)→St→(sh.El→aX×St)→Prop
structure Env(P:Program)[aB] where
 cfg:dZ
 ro:Option Nat
 N:yY P
 nd:Bool
def QU(P:Program)[aB]:yY P:=⟨fun _ _ _ _ _=>False,fun _ _ _ _ _=>False,fun _ _ _ _ _ _ _=>False⟩
def KT(P:Program)[aB]{ρ:Type}(f:FuncId)(args:List AVal)(H:List aa)(c:tu P)(x:c.X)(kk:c.sh.El→G P ρ)(k:G P ρ→aM→List aa→Prop):Prop:=
 some true=some true∧some (f,lT args,H)=some (c.f,c.args x,c.heap x)∧c.sh.all fun r=>k (kk r) (c.out r) (c.fE x r)
def rD(P:Program)[aB]:yY P:=⟨fun f args H g k=>match g with
 | .fM c x kk=>KT P f args H c x kk k
 |_=>False,fun _ _ _ _ _=>False,fun _ _ _ _ _ _ _=>False⟩
def Env.at{P:Program}[aB](X:Env P)(draw:Bool):Env P:=match draw&&X.nd with
 |true=>{X with N:=rD P}
 |false=>X
inductive Rq (P:Program) [aB] {ρ:Type} (X:Env P) (ops:Array Oper) (n0:Nat) (o:Oper) (nid:Nat) (s:St) (k:G P ρ→dz→fK→Prop) (draw:Bool) (H0:List aa):Prop
inductive P6 (P:Program) [aB] {ρ:Type} (X:Env P) (c:Operand) (a b:Code) (s:St) (k:G P ρ→aX→St→Prop) (H0:List aa):Prop
inductive P7 (P:Program) [aB] {ρ:Type} (X:Env P) (b:Code) (s:St) (k:G P ρ→aX→St→Prop) (H0:List aa):Prop
inductive Pj (P:Program) [aB] {ρ:Type} (X:Env P) (f:Operand) (ps:Array Tmp) (assign body:Code) (s:St) (k:G P ρ→aX→St→Prop) (H0:List aa):Prop
inductive QV (P:Program) [aB] {ρ:Type} (fn:Func) (o:aX) (s:St) (out:ρ→aM):Prop
inductive P8 (P:Program) [aB] {ρ:Type} (fn:Func) (o:aX) (s:St) (H0:List aa) (k:G P ρ→List PR→aX→St→Prop):Prop
inductive P9 (P:Program) [aB] {ρ:Type} (b:Nat) (o:aX) (s:St) (H0:List aa) (k:G P ρ→St→Prop):Prop
inductive Qa (P:Program) [aB] {sh:Sh} (H0:List aa) (o:aX) (s:St) (Y:sh.El→aX×St):Prop
inductive Pk (P:Program) [aB] {σ:Type} {sh:Sh} (H0:List aa) (o:aX) (s:St) (E:σ→St) (X:sh.El→aX×St):Prop
inductive Ed (P:Program) [aB] {ρ:Type} (ops:Array Oper) (o:Oper) (s:St) (g:G P ρ):Prop
def vf(keep:List Nat):Nat→List AVal→List AVal
 |_,[]=>[]
 |i,a::as=>(match keep.contains i with |true=>a |false=>.av)::vf keep (i+1) as
def JY:List PU→List aa→Prop
 | [],_=>True
 |p::ps,H=>H[p.b]? =some p.blk∧JY ps H
def JZ:List PR→List aa→Prop
 | [],_=>True
 |p::ps,H=>H[p.b]? =some p.blk∧JZ ps H
def iK(H0:List aa):List TS→St→(St→Prop)→Prop
 | [],s,k=>k s
 | .keep l::ts,s,k=>gw (vf l 0 s.A) fun A=>iK H0 ts {s with A:=A} k
 | .wk p::ts,s,k=>match P3 s p with
  |some s=>iK H0 ts s k
  |none=>False
 | .own p sz::ts,s,k=>match NQ s p sz with
  |some s=>iK H0 ts s k
  |none=>False
 | .fP z::ts,s,k=>rM s z.p=some (.sl z.b z.aj z.sz 0 z.n)∧s.H[z.b]? =some (.row z.aj z.sz z.rows)∧match NR H0 s z.p z.rows with
  |some s=>iK H0 ts s k
  |none=>False
 | .OP z::ts,s,k=>rM s z.p=some (.aC z.rows)∧iK H0 ts (Ar s (.aC z.rows') z.p) k
 | .cut bl bump pu::ts,s,k=>JY pu s.H∧match NM bl bump (pu.map (·.b)) H0 s with
  |some ⟨A,H,D⟩=>gw A fun A=>gw H fun H=>iK H0 ts ⟨A,H,D⟩ k
  |none=>False
section
variable {P:Program} [aB]
def mM{ρ:Type}:G P ρ→St→(G P ρ→St→Prop)→Prop
 | .br d c t f,s,k=>s.A[d]? =some (.sc (.bool c))∧(Ah s.A d (.sc (.bool true)) fun A=>mM t {s with A:=A} k)∧(Ah s.A d (.sc (.bool false)) fun A=>mM f {s with A:=A} k)
 | .C4 d ik x c t f,s,k=>s.A[d]? =some (.sc (.int ik x))∧(Ah s.A d (.sc (.int ik c)) fun A=>mM t {s with A:=A} k)∧mM f s k
 | .sp _ t f,s,k=>mM t s k∧mM f s k
 | .fail,_,_=>True
 |g,s,k=>k g s
def uy:iV:=⟨fun _ _ _=>none,fun _ _ _=>none⟩
def KU(r:Option (aM×List aa)):iV:=⟨fun _ _ _=>r,fun _ _ _=>none⟩
def KV(H:List aa):Option Pre→Option (FuncId×List AVal×List aa)
 |some (.jM f args ids)=>some (f,lT args,mask ids H)
 |_=>none
def Cw(ids:List Nat):List Nat→Bool
 | []=>true
 |c::cs=>ids.contains c&&Cw ids cs
def yw:List Nat→List Nat→List Nat
 | [],seen=>seen
 |b::todo,seen=>match seen.contains b with
  |true=>yw todo seen
  |false=>yw todo (b::seen)
def uz:List Nat→List Nat→List Nat
 | [],_=>[]
 |b::todo,seen=>match seen.contains b with
  |true=>uz todo seen
  |false=>b::uz todo (b::seen)
def qh(P:Program)[aB](cfg:dZ)(ids:List Nat)(ah:Operand→AVal):Op→Option (FuncId×List AVal×List Nat×List Nat)
 | .call {callee:=.value f,args:=args,.. }=>match ah f with
  | .fn (.func n) p q=>match P.funcs[n]? with
   |some fn=>match fn.body.isNone||cfg.val n||cfg.fz n with
    |false=>
     let l:=AVal.mK (p++args.toList.map ah++q)
     match Cw ids l&&Nat.ble l.length 900 with
     |true=>some (n,p++args.toList.map ah++q,yw l [],uz l [])
     |false=>none
    |true=>none
   |none=>none
  |_=>none
 |_=>none
def NS(H:List aa)(b:Nat):Option (FuncId×List AVal×List Nat×List Nat)→Option (FuncId×List AVal×Option aa)
 |some (f,args,ids,_)=>match ids.contains b with
  |true=>some (f,AVal.wV b (lT args),H[b]?)
  |false=>none
 |none=>none
def Cx:Option (FuncId×List AVal×List Nat×List Nat)→List Nat×List Nat
 |some (_,_,ids,rs)=>(ids,rs)
 |none=>([],[])
def HV:Option Pre→Option (FuncId×List AVal)
 |some (.Cq f args _)=>some (f,lT args)
 |_=>none
def qi(pr:List Nat)(H:List aa):Nat→List Nat→List Nat→Option (List Nat×List Nat)
 |_,[],seen=>some (seen,[])
 | 0,_::_,_=>none
 |n+1,b::todo,seen=>match seen.contains b with
  |true=>qi pr H n todo seen
  |false=>match pr.contains b with
   |true=>(qi pr H n todo (b::seen)).map fun p=>(p.1,b::p.2)
   |false=>match H[b]? with
    |some (.row _ _ rows)=>(qi pr H n ((if rows.all AVal.aQ then[]else AVal.mK rows.flatten)++todo) (b::seen)).map fun p=>(p.1,b::p.2)
    |some (.loop _ _ _ A _ _ _)=>(qi pr H n (AVal.mK A++todo) (b::seen)).map fun p=>(p.1,b::p.2)
    |some (.iter m _ _ _)=>(qi pr H n (AVal.refs m++todo) (b::seen)).map fun p=>(p.1,b::p.2)
    |some _=>(qi pr H n todo (b::seen)).map fun p=>(p.1,b::p.2)
    |none=>none
def Dw(P:Program)[aB](cfg:dZ)(pr:List Nat)(ah:Operand→AVal)(op:Op)(H:List aa):Option ((FuncId⊕Nat)×List AVal×List Nat×List Nat):=
 match op with
 | .call {callee:=.value f,args:=args,.. }=>match ah f with
  | .fn (.func n) p q=>match P.funcs[n]? with
   |some fn=>match fn.body.isNone||cfg.val n||cfg.fz n with
    |false=>match qi pr H 1000 (AVal.mK (p++args.toList.map ah++q)) []with
     |some (ids,rs)=>some (.inl n,p++args.toList.map ah++q,ids,rs)
     |none=>none
    |true=>none
   |none=>none
  | .gZ b=>match qi pr H 1000 (b::AVal.mK (args.toList.map ah)) []with
   |some (ids,rs)=>some (.inr b,args.toList.map ah,ids,rs)
   |none=>none
  |_=>none
 |_=>none
def BB(ids:List Nat)(H:List aa)(a:aM)(H1:List aa)(k:cr→List Nat→Bool→Prop)(kp:AVal→Prop):Prop:=
 match a with
 | .ret v=>match Nat.beq H1.length H.length with
  |true=>k {val:=v,dc:=ids.map fun i=>(i,H1.getD i .dead)} ids false
  |false=>match ee H ids (some (.ret v,H1))with
   |some (.ok e)=>Fl e fun e=>k e (e.dc.map (·.1)) (!e.news.isEmpty)
   |_=>False
 | .aR v=>match v.flat with
  |true=>kp v
  |false=>False
def pq{ρ:Type}(P:Program)[gl:aB](X:Env P)(draw:Bool)(H0:List aa)(ops:Array Oper)(n0:Nat)(o:Oper)(nid:Nat)(g:G P ρ)(s:St)(k:G P ρ→dz→fK→Prop):Prop:=
 match g with
 | .skip (n+1) g'=>match ej P X.cfg uy ops n0 o nid s with
  |some (r,f)=>k (G.less n g') r f
  |none=>Ed P ops o s g'
 | .op t kk=>gX ops s.A o=some true∧t.oc gl P X.cfg nid o.op (bX s.A) s.H∧∀x,Fl (t.bf x) fun e=>qA s.A o.dst e.val fun A=>nZ e s.H fun H=>
  k (kk x) (.ok {s with A:=A,H:=H}) (gx n0 t.ids (.bf e) (e.dc.map (·.1)) (!e.news.isEmpty))
 | .call c x kk=>gX ops s.A o=some true∧HV ((bC P X.cfg nid (bX s.A) o.op).run s.H)=some (c.f,c.args x)∧
  c.sh.all fun r=>match ej P X.cfg (KU (some (c.out r,[]))) ops n0 o nid s with
   |some (r',f)=>k (kk r) r' f
   |none=>Ed P ops o s (kk r)
 | .fM c x kk=>gX ops s.A o=some true∧KV s.H ((bC P X.cfg nid (bX s.A) o.op).run s.H)=some (c.f,c.args x,c.heap x)∧
  c.sh.all fun r=>match ej P X.cfg (KU (some (c.out r,c.fE x r))) ops n0 o nid s with
   |some (r',f)=>k (kk r) r' f
   |none=>Ed P ops o s (kk r)
 | .bk c b v ex x kk=>gX ops s.A o=some true∧JZ ex s.H∧NS s.H b (qh P X.cfg (b::ex.map (·.b)) (bX s.A) o.op)=some (c.f,AVal.tq b v (c.args x),some ((c.blk x).kJ v))∧
  c.sh.all fun r=>match c.out r with
   | .ret u=>qA s.A o.dst (u.yt b v) fun A=>nZ {val:=u.yt b v,dc:=[(b,(c.rN x r).kJ v)]} s.H fun H=>k (kk r) (.ok {s with A:=A,H:=H})
    (gx n0 (Cx (qh P X.cfg (b::ex.map (·.b)) (bX s.A) o.op)).2 (.jM 0 [] []) (Cx (qh P X.cfg (b::ex.map (·.b)) (bX s.A) o.op)).1 false)
   | .aR u=>k (kk r) (.aR u {s with H:=(Cx (qh P X.cfg (b::ex.map (·.b)) (bX s.A) o.op)).1.foldl (fun H i=>H.set i .dead) s.H})
    (gx n0 (Cx (qh P X.cfg (b::ex.map (·.b)) (bX s.A) o.op)).2 (.jM 0 [] []) (Cx (qh P X.cfg (b::ex.map (·.b)) (bX s.A) o.op)).1 false)
 | .inl pr g'=>gX ops s.A o=some true∧JZ pr s.H∧match Dw P X.cfg (pr.map (·.b)) (bX s.A) o.op s.H with
  |some (.inl f,args,ids,rs)=>s9 (mask ids s.H) fun Hm=>X.N.fn f args Hm g' fun g2 a H1=>BB ids s.H a H1 (fun e ws nw=>qA s.A o.dst e.val fun A=>nZ e s.H fun H=>k g2 (.ok {s with A:=A,H:=H}) (gx n0 rs (.jM 0 [] []) ws nw))
   (fun v=>k g2 (.aR v {s with H:=ids.foldl (fun H i=>H.set i .dead) s.H}) (gx n0 rs (.jM 0 [] []) ids false))
  |some (.inr b,args,ids,rs)=>s9 (mask ids s.H) fun Hm=>X.N.AY b args Hm g' fun g2 a H1=>BB ids s.H a H1 (fun e ws nw=>qA s.A o.dst e.val fun A=>nZ e s.H fun H=>k g2 (.ok {s with A:=A,H:=H}) (gx n0 rs (.jM 0 [] []) ws nw))
   (fun v=>k g2 (.aR v {s with H:=ids.foldl (fun H i=>H.set i .dead) s.H}) (gx n0 rs (.jM 0 [] []) ids false))
  |none=>Ed P ops o s g'
 | .pick z seen kk=>match draw with
  |true=>False
  |false=>(match o.op with
   | .next it false=>gX ops s.A o=some true∧(bX s.A it=.ptr z.b 0 0 0∧s.H[z.b]? =some (.iter (.mp z.mb) z.n seen z.n)∧s.H[z.mb]? =some (.map z.n z.es)∧
    (qA s.A o.dst (.bW [.sc (.bool false)]) fun A=>k (kk none) (.ok {s with A:=A}) ⟨[],[]⟩)∧
    ∀i,qA s.A o.dst (.bW [.sc (.bool true),.av,.av]) fun A=>nZ {val:=nothing,dc:=[(z.b,.iter (.mp z.mb) z.n (seen++[i]) z.n)]} s.H fun H=>k (kk (some i)) (.ok {s with A:=A,H:=H}) ⟨[],[]⟩)
   |_=>False)
 | .grow z kk=>match draw with
  |true=>False
  |false=>(match o.op with
   | .call {callee:=.builtin .append,args:=args,argTypes:=ats}=>match ats[0]?,ats[1]?,args[0]?,args[1]? with
    |some ST,some XT,some sx,some x=>gX ops s.A o=some true∧s.H[nid]? =some .aV∧decide (args.size=2)=true∧Ec P ST XT=some (z.n,z.bytes)∧bX s.A sx=.sl z.b z.aj z.n 0 z.len∧s.H[z.b]? =some (.row z.aj z.n (z.l.map z.enc))∧
     (elems (bX s.A x)).run s.H=some (z.m.map z.enc)∧(∀x,(z.enc x).length=z.n)∧z.m.isEmpty=false∧
     (qA s.A o.dst (.sl z.b z.aj z.n 0 (z.l++z.m).length) fun A=>nZ {val:=nothing,dc:=[(z.b,.row z.aj z.n ((z.l++z.m).map z.enc))]} s.H fun H=>k (kk true) (.ok {s with A:=A,H:=H}) ⟨[],[]⟩)∧
     (qA s.A o.dst (.sl nid 0 z.n 0 (z.l++z.m).length) fun A=>nZ {val:=nothing,dc:=[(nid,.row 0 z.n ((z.l++z.m).map z.enc))]} s.H fun H=>k (kk false) (.ok {s with A:=A,H:=H}) ⟨[],[]⟩)
    |_,_,_,_=>False
   |_=>False)
 | .fail=>True
 | .stop=>Rq P X ops n0 o nid s k draw H0
 |g=>Ed P ops o s g
def wv{ρ:Type}(P:Program)[gl:aB](X:Env P)(draw:Bool)(H0:List aa)(ops:Array Oper)(n0:Nat)(o:Oper)(nid:Nat)(g:G P ρ)(s:St)(k:G P ρ→dz→fK→Prop):Prop:=
 match g with
 | .tidy l g'=>match draw with
  |true=>False
  |false=>iK H0 l s fun s'=>pq P X draw H0 ops n0 o nid g' s' k
 |g=>pq P X draw H0 ops n0 o nid g s k
def yZ{ρ:Type}(P:Program)[aB](X:Env P)(draw:Bool)(H0:List aa)(ops:Array Oper)(n0:Nat):List (Oper×Nat)→G P ρ→St→(G P ρ→dz→List fK→Prop)→Prop
 | [],g,s,k=>k g (.ok s) []
 | (o,nid)::rest,g,s,k=>mM g s fun g s=>wv P X draw H0 ops n0 o nid g s fun g r f=>match r with
  | .ok ⟨A,H,D⟩=>gw A fun A=>gw H fun H=>gw D fun D=>yZ P X draw H0 ops n0 rest g ⟨A,H,D⟩ fun g r fs=>k g r (f::fs)
  | .aR v s'=>k g (.aR v s') [f]
def qj{ρ:Type}(P:Program)[aB](X:Env P)(H0:List aa)(ops:Array Oper)(draw:Bool)(g:G P ρ)(s:St)(k:G P ρ→dz→Prop):Prop:=
 iT (kZ ops.toList) fun c=>iT (if c=0 then 0 else nI s.H) fun t=>iT (c - t) fun m=>
 DR s.H (List.replicate m .aV) fun H1=>
 iT H1.length fun n0=>yZ P X draw H0 ops n0 (numbered (s.H.length - t) ops.toList) g {s with H:=H1} fun g r feet=>
  if !draw then k g r else
  if ur ops&&feet.length==ops.size&&indep ops (CheckFast.beforeF ops) feet then
   match r with
   | .ok s'=>k g (.ok s')
   | .aR v s'=>if feet.all (fun f=>f.writes.isEmpty)then k g (.aR v {s' with A:=ops.toList.foldl (fun A o=>gp A o.dst .av) s'.A})else False
  else False
def Dx{ρ:Type}(H0:List aa)(g:G P ρ)(s:St)(k:G P ρ→St→Prop):Prop:=match g with
 | .tidy l g'=>iK H0 l s fun s'=>k g' s'
 |g=>k g s
def Cy{ρ:Type}(f:G P ρ→St→(G P ρ→aX→St→Prop)→Prop):Nat→G P ρ→St→(G P ρ→aX→St→Prop)→Prop
 | 0,_,_,_=>False
 |n+1,g,s,k=>f g s fun g o s'=>match o with
  | .normal=>Cy f n g s' k
  |o=>k g o s'
def ng{σ:Type}{sh:Sh}(H0:List aa)(E:σ→St)(X:sh.El→aX×St)(g:G P (σ⊕sh.El))(o:aX)(s:St):Prop:=
 match g with
 | .done ts (.inl a)=>iK H0 ts s fun s'=>(o,s')=(aX.normal,E a)
 | .done ts (.inr t)=>match o with
  | .normal=>False
  |o=>iK H0 ts s fun s'=>(o,s')=X t
 | .fail=>True
 |_=>Pk P H0 o s E X
def Cz{sh:Sh}(H0:List aa)(Y:sh.El→aX×St)(g:G P sh.El)(o:aX)(s:St):Prop:=
 match g with
 | .done ts t=>iK H0 ts s fun s'=>(o,s')=Y t
 | .fail=>True
 |_=>Qa P H0 o s Y
def CA{ρ:Type}(P:Program)[aB](X:Env P)(H0:List aa)(c:Operand)(a b:Code)(wa wb:G P ρ→St→(G P ρ→aX→St→Prop)→Prop)(g:G P ρ)(s:St)(k:G P ρ→aX→St→Prop):Prop:=
 Dx H0 g s fun g s=>mM g s fun g s=>match g with
  | .skip (n+1) g=>match bX s.A c with
   | .sc (.bool true)=>wa (G.less n g) s k
   | .sc (.bool false)=>wb (G.less n g) s k
   |_=>False
  | .fail=>True
  |_=>P6 P X c a b s k H0
def zF{ρ:Type}(id:Nat)(k:G P ρ→aX→St→Prop)(g:G P ρ)(o:aX)(s':St):Prop:=match o with
 | .exit id'=>if id'=id then k g .normal s' else k g (.exit id') s'
 |o=>k g o s'
def wz(P:Program)[aB](cfg:dZ)(L:Nat)(fn:Func)(m:Option AVal)(s:St):Option (aM×List aa):=
 match leave P cfg uy L s.D m s.H with
 |some (m',H')=>match ending P fn s.A m' H' with
  |some (.ret v,H1)=>some (.ret (iP v),H1)
  |some (.aR v,H1)=>match v.flat with
   |true=>some (.aR v,H1)
   |false=>none
  |none=>none
 |none=>none
def pz(P:Program)[aB](cfg:dZ)(L:Nat)(fn:Func)(o:aX)(s:St):Option (aM×List aa):=
 match o with
 | .normal=>wz P cfg L fn none s
 | .ret=>wz P cfg L fn none s
 | .aR v=>wz P cfg L fn (some v) s
 | .exit _=>none
def CB{σ:Type}{sh:Sh}(N:yY P)(ro:Option Nat)(H0:List aa)(b:Code)(E:σ→St)(s:St)(Y:sh.El→aX×St)(g:G P (σ⊕sh.El))(f:G P (σ⊕sh.El)→Prop):Prop:=
 match g with
 | .ve _ _ g=>N.lp ro H0 b g E s Y
 |g=>f g
def iI(P:Program)[aB](X:Env P)(H0:List aa):Code→{ρ:Type}→G P ρ→St→(G P ρ→aX→St→Prop)→Prop
 | .skip,_,g,s,k=>k g .normal s
 | .region _ ops draw,_,g,s,k=>match X.ro.isSome&&ops.toList.any zA with
  |true=>False
  |false=>Dx H0 g s fun g s=>qj P (X.at draw) H0 ops draw g s fun g r=>match r with
   | .ok s'=>k g .normal s'
   | .aR v s'=>k g (.aR v) s'
 | .seq a b,_,g,s,k=>iI P X H0 a g s fun g o s'=>match o with
  | .normal=>iI P X H0 b g s' k
  |o=>k g o s'
 | .cond c a b,_,g,s,k=>match g with
  | .join sh Y g1 kk=>CA P X H0 c a b (fun g s k=>iI P X H0 a g s k) (fun g s k=>iI P X H0 b g s k) g1 s (Cz H0 Y)∧sh.all fun t=>k (kk t) (Y t).1 (Y t).2
  |g=>CA P X H0 c a b (fun g s k=>iI P X H0 a g s k) (fun g s k=>iI P X H0 b g s k) g s k
 | .block id b,_,g,s,k=>match g with
  | .join sh Y g1 kk=>iI P X H0 b g1 s (zF id (Cz H0 Y))∧sh.all fun t=>k (kk t) (Y t).1 (Y t).2
  |g=>iI P X H0 b g s (zF id k)
 | .loop b,_,g,s,k=>match g with
  | .fH n g=>Cy (fun g s k=>iI P X H0 b g s k) n g s k
  | .loop sh hd E Y a0 body kk=>(iK H0 hd s fun s'=>s'=E a0)∧(∀a,CB X.N X.ro H0 b E (E a) Y (body a) fun g=>iI P X H0 b g (E a) (ng H0 E Y))∧sh.all fun t=>k (kk t) (Y t).1 (Y t).2
  | .rC hs sh hd E Y a0 body kk=>(iK H0 hd s fun s'=>s'=E a0)∧(hs.all fun a=>CB X.N X.ro H0 b E (E a) Y (body a) fun g=>iI P X H0 b g (E a) (ng H0 E Y))∧sh.all fun t=>k (kk t) (Y t).1 (Y t).2
  | .fail=>True
  |_=>P7 P X b s k H0
 | .exit id,_,g,s,k=>k g (.exit id) s
 | .ret,_,g,s,k=>k g .ret s
 | .rangeFunc f ps assign body,_,g,s,k=>Dx H0 g s fun g s=>match g with
  | .inl pr g=>(some true=some true)∧match bX s.A f with
   | .fn (.func n) p q=>match Br X.ro 0 ps assign body s with
    |some (l,H1,D1)=>gw H1 fun H1=>JZ pr H1∧match qi (pr.map (·.b)) H1 1000 (AVal.mK (p++[.gZ l]++q)) []with
     |some (ids,_)=>s9 (mask ids H1) fun Hm=>X.N.fn n (p++[.gZ l]++q) Hm g fun g2 a H2=>BB ids H1 a H2
      (fun e _ _=>nZ e H1 fun H3=>match HF l D1 s H3 with
       |some (out,s')=>k g2 out s'
       |none=>False)
      (fun v=>k g2 (.aR v) {s with H:=ids.foldl (fun H i=>H.set i .dead) H1,D:=D1})
     |none=>False
    |none=>False
   |_=>False
  | .fail=>True
  |_=>Pj P X f ps assign body s k H0
 |_,_,_,_,_=>False
def Dy(pr:List Nat)(n:Nat):Nat→List aa→Bool
 |_,[]=>true
 |i,x::xs=>(match pr.contains i with
  |true=>true
  |false=>u9 n x)&&Dy pr n (i+1) xs
def aM.fG(n:Nat):aM→Bool
 | .ret v=>v.fG n
 | .aR _=>true
def OQ(pr:List PR)(n:Nat)(a:aM)(H1:List aa)(k:aM→List aa→Prop):Prop:=
 JZ pr H1∧match a.fG n&&Dy (pr.map (·.b)) n 0 (H1.take n)with
  |true=>gw (H1.take n) fun H=>k a H
  |false=>k a H1
def NT{ρ:Type}(P:Program)[aB](cfg:dZ)(fn:Func)(H0:List aa)(g:G P ρ)(o:aX)(s:St)(k:G P ρ→aM→List aa→Prop):Prop:=
 match g with
 | .tidy ts (.inl pr g)=>iK H0 ts s fun s=>match pz P cfg 10 fn o s with
  |some (a,H1)=>(some true=some true)∧OQ pr H0.length a H1 (k g)
  |none=>False
 | .fail=>True
 |_=>P8 P fn o s H0 fun g pr o s=>match pz P cfg 10 fn o s with
  |some (a,H1)=>OQ pr H0.length a H1 (k g)
  |none=>False
def OR(P:Program)[aB](cfg:dZ)(nd:Bool)(N:yY P){ρ:Type}(f:FuncId)(args:List AVal)(H:List aa)(g:G P ρ)(k:G P ρ→aM→List aa→Prop):Prop:=
 match g with
 | .fM c x kk=>KT P f args H c x kk k
 |g=>match P.funcs[f]? with
  |some fn=>match fn.body with
   |some c=>iI P ⟨cfg,none,N,nd⟩ H c g ⟨kH fn.ntmps args,H,[]⟩ fun g o s=>NT P cfg fn H g o s k
   |none=>False
  |none=>False
def NU{ρ:Type}(P:Program)[aB](b:Nat)(H0:List aa)(g:G P ρ)(o:aX)(s:St)(k:G P ρ→aM→List aa→Prop):Prop:=
 match pe o with
 |some j=>match g with
  | .tidy ts g=>iK H0 ts s fun s=>match marked b (if j.isNone then .ready else .done) j s.H with
   |some H2=>k g (.ret (.sc (.bool j.isNone))) H2
   |none=>False
  | .fail=>True
  |_=>P9 P b o s H0 fun g s=>match marked b (if j.isNone then .ready else .done) j s.H with
   |some H2=>k g (.ret (.sc (.bool j.isNone))) H2
   |none=>False
 |none=>False
def NV(P:Program)[aB](cfg:dZ)(nd:Bool)(N:yY P){ρ:Type}(b:Nat)(args:List AVal)(H:List aa)(g:G P ρ)(k:G P ρ→aM→List aa→Prop):Prop:=
 match H[b]? with
 |some (.loop _ _ _ A ps assign body)=>match Nat.beq ps.length args.length with
  |true=>iI P ⟨cfg,some b,N,nd⟩ H assign g ⟨qP A ps args,H,[]⟩ fun g o s1=>match o with
   | .normal=>match s1.H[b]? with
    |some (.loop .ready pend1 fid1 A1 ps1 as1 bd1)=>gw (s1.H.set b (.loop .busy pend1 fid1 A1 ps1 as1 bd1)) fun H1=>
     iI P ⟨cfg,some b,N,nd⟩ H body g {s1 with H:=H1} fun g o s2=>NU P b H g o s2 k
    |_=>False
   |_=>False
  |false=>False
 |_=>False
inductive Mn (P:Program) [aB] (cfg:dZ) (nd:Bool) (N:yY P) (ro:Option Nat) (H0:List aa) (b:Code) {σ:Type} {sh:Sh} (g:G P (σ⊕sh.El)) (E:σ→St) (s:St) (Y:sh.El→aX×St):Prop
 |mk (h:iI P ⟨cfg,ro,N,nd⟩ H0 b g s (ng H0 E Y)):Mn P cfg nd N ro H0 b g E s Y
def jo(P:Program)[aB](cfg:dZ)(nd:Bool):Nat→yY P
 | 0=>QU P
 |n+1=>⟨OR P cfg nd (jo P cfg nd n),NV P cfg nd (jo P cfg nd n),fun ro H0 b g E s Y=>Mn P cfg nd (jo P cfg nd n) ro H0 b g E s Y⟩
def KW(P:Program)[aB](cfg:dZ):Env P:=⟨cfg,none,jo P cfg false 9,false⟩
def Qb(P:Program)[aB](cfg:dZ):Env P:=⟨cfg,none,jo P cfg true 9,true⟩
end
end Go.AM
end
section
namespace Go.AM
section
variable [aB] {P:Program} {g g':Gh} {w:World}
theorem BC(hst:∀k o,g.st k o→g'.st k o){c:Array Value}:∀(l:List AVal) (o:Nat),AVal.aQ l=true→cS g w c l o→cS g' w c l o
 | [],_,_,_=>trivial
 |a::as,o,hp,h=>by
  simp only[AVal.aQ,Bool.and_eq_true]at hp;obtain⟨⟨y,h1,h2,h3⟩,h4⟩:=h;exact⟨⟨y,h1,h2,kI hst a y hp.1 h3⟩,BC hst as (o+1) hp.2 h4⟩
theorem qV(hst:∀k o,g.st k o→g'.st k o){c:Array Value}{sz:Nat}:∀(l:List (List AVal)) (o:Nat),l.all AVal.aQ=true→eX g w c sz l o→eX g' w c sz l o
 | [],_,_,_=>trivial
 |r::rs,o,hp,h=>by
  simp only[List.all_cons,Bool.and_eq_true]at hp;exact⟨⟨h.1.1,BC hst r o hp.1 h.1.2⟩,qV hst rs (o+sz) hp.2 h.2⟩
mutual
theorem OS{b v:Nat}(hst:∀k o,g.st k o→g'.st k o)(hrho:∀x,g.ah b v=some x→g'.ah 0 0=some x):∀(a:AVal) (x:Value),a.rB=true→R g w (a.we b v) x→R g' w a x
 | .sc _,x,_,hr=>by simpa[R,AVal.we]using hr
 | .agg cs,x,hp,hr=>by
  simp only[R,AVal.rB,AVal.we]at hr hp ⊢;obtain⟨vs,e,h1,hl⟩:=hr;exact⟨vs,e,h1,wW hst hrho cs vs hp hl⟩
 | .bW cs,x,hp,hr=>by
  simp only[R,AVal.rB,AVal.we]at hr hp ⊢;obtain⟨vs,e,hl⟩:=hr;exact⟨vs,e,wW hst hrho cs vs hp hl⟩
 | .ptr b' v' i o,x,hp,hr=>by
  grind [R,AVal.rB,AVal.we]
 | .bL cs o,x,_,hr=>by
  grind [R,AVal.we,jC]
 | .sl b' v' sz o n,x,hp,hr=>by
  grind [R,AVal.rB,AVal.we]
 | .aC rows,x,_,hr=>kI hst _ x rfl (by simpa only[AVal.we]using hr)
 | .fn f c d,x,hp,hr=>by
  simp only[R,AVal.rB,AVal.we,Bool.and_eq_true]at hr hp ⊢;obtain⟨va,vb,e,h1,h2⟩:=hr;exact⟨va,vb,e,wW hst hrho c va hp.1 h1,wW hst hrho d vb hp.2 h2⟩
 | .eE t a,x,hp,hr=>by
  simp only[R,AVal.rB,AVal.we]at hr hp ⊢;obtain⟨y,e,h1⟩:=hr;exact⟨y,e,OS hst hrho a y hp h1⟩
 | .mp _,_,hp,_=>by simp[AVal.rB]at hp
 | .gZ _,_,hp,_=>by simp[AVal.rB]at hp
 | .sa b' v' i o s n,x,hp,hr=>by
  grind [R,AVal.rB,AVal.we]
 | .fO i o,x,_,hr=>by simpa[R,AVal.we]using hr
 | .emp,x,_,hr=>by simpa[R,AVal.we]using hr
 | .nz _,x,_,hr=>by simpa[R,AVal.we]using hr
 | .av,x,_,_=>by simp[R]
theorem wW{b v:Nat}(hst:∀k o,g.st k o→g'.st k o)(hrho:∀x,g.ah b v=some x→g'.ah 0 0=some x):∀(a:List AVal) (x:List Value),AVal.lU a=true→RL g w (AVal.tq b v a) x→RL g' w a x
 | [],x,_,hr=>by simpa[RL,AVal.tq]using hr
 |a::as,x,hp,hr=>by
  simp only[RL,AVal.lU,AVal.tq,Bool.and_eq_true]at hr hp ⊢;obtain⟨y,ys,e,h1,h2⟩:=hr;exact⟨y,ys,e,OS hst hrho a y hp.1 h1,wW hst hrho as ys hp.2 h2⟩
end
theorem wX{x:aa}(h:x.kO=true):∃sz rows,x=.row 0 sz rows∧rows.all AVal.aQ=true:=by
 unfold aa.kO at h;grind
open Classical in
theorem bF.move{f:FuncId}{args:List AVal}{x x':aa}{r:aM}(h:bF P f args [x] r [x'])(ha:AVal.lU args=true)(hx:x.kO=true)(hx':x'.kO=true)(hr:r.A0=true)
 (b v:Nat) (H:List aa) (hb:H[b]? =some (x.kJ v)) (hd:∀b',b'≠b→∀y,H[b']? =some y→y=.dead):bF P f (AVal.tq b v args) H (r.yt b v) (H.set b (x'.kJ v)):=by
 obtain⟨sz,rows,rfl,hp⟩:=wX hx;obtain⟨sz',rows',rfl,hp'⟩:=wX hx';simp only[aa.kJ]at hb ⊢;have hblt:b<H.length:=(List.getElem?_eq_some_iff.1 hb).1;refine⟨h.1,fun g w vs hi hl=>?_⟩
 let g':Gh:=⟨fun b' v'=>if b'=0∧v'=0 then g.ah b v else none,g.st⟩
 have h00:g'.ah 0 0=g.ah b v:=by simp[g']
 have hno:∀b' v',¬(b'=0∧v'=0)→g'.ah b' v'=none:=fun b' v' hc=>by simp[g',hc]
 have hst:∀k o,g.st k o→g'.st k o:=fun _ _ h=>h
 have hi':Inv g' [.row 0 sz rows] w:=by
  refine⟨fun b' y hy=>?_,fun b1 b2 y1 y2 v1 v2 k z z' e1 e2 _ _ _ _=>?_,fun b' v' hc=>?_,fun b' y v1 v2 hy hv hlt=>?_,fun b' y v1 k z o hy hv hk=>?_,hi.dU,fun i cs hc=>⟨(hi.cD i cs hc).1,jC hst _ _ _ (hi.cD i cs hc).1 (hi.cD i cs hc).2⟩⟩
  ·cases b' with
   |zero=>
    simp only[List.getElem?_cons_zero,Option.some.injEq]at hy;subst hy;rcases hi.good b _ hb with⟨k,c,e,h1,h2,h3,h4,h5⟩ |⟨h1,h2,h3⟩
    ·exact .inl ⟨k,c,e,by rw[h00];exact h1,h2,qV hst rows 0 hp h3,h4,h5⟩
    ·exact .inr ⟨h1,by rw[h00];exact h2,h3⟩
   |succ n=>simp at hy
  ·grind
  ·grind
  ·grind
  ·by_cases hc:b'=0∧v1=0
   ·obtain⟨rfl,rfl⟩:=hc;rw[h00]at hk;exact hi.free b _ v k z o hb rfl hk
   ·rw[hno _ _ hc]at hk;cases hk
 have hl':RL g' w args vs.toList:=wW hst (fun x hx=>by rw[h00];exact hx) _ _ ha hl
 refine(h.2 g' w vs hi' hl').mono fun e w' ⟨g1',hi1,hla,he⟩=>?_
 have hown:∀k,fJ g' [.row 0 sz rows] k→fJ g H k:=by
  rintro k ⟨b',y,v',z,hy,hv,hk⟩;by_cases hc:b'=0∧v'=0
  ·obtain⟨rfl,rfl⟩:=hc;rw[h00]at hk;exact⟨b,_,v,z,hb,rfl,hk⟩
  ·rw[hno _ _ hc]at hk;cases hk
 have hown':∀k,fJ g H k→fJ g' [.row 0 sz rows] k:=by
  rintro k ⟨b',y,v',z,hy,hv,hk⟩;by_cases hc:b'=b
  ·subst hc;rw[hb]at hy;cases hy;simp only[aa.live,Option.some.injEq]at hv;subst hv;exact⟨0,_,0,z,rfl,rfl,by rw[h00];exact hk⟩
  ·rw[hd b' hc y hy]at hv;cases hv
 let g1:Gh:=⟨fun b' v'=>if b'=b∧v'=v then g1'.ah 0 0 else g.ah b' v',g1'.st⟩
 have e00:g1.ah b v=g1'.ah 0 0:=by simp[g1]
 have eno:∀b' v',¬(b'=b∧v'=v)→g1.ah b' v'=g.ah b' v':=fun b' v' hc=>by simp[g1,hc]
 have hst1:∀k o,g1'.st k o→g1.st k o:=fun _ _ h=>h
 have hget:∀b',b'≠b→(H.set b (.row v sz' rows'))[b']? =H[b']? :=fun b' hc=>List.getElem?_set_ne (Ne.symm hc)
 have hself:(H.set b (.row v sz' rows'))[b]? =some (.row v sz' rows'):=List.getElem?_set_self hblt;have hinv1:Inv g1 (H.set b (.row v sz' rows')) w':=by
  refine⟨fun b' y hy=>?_,fun b1 b2 y1 y2 v1 v2 k z z' e1 e2 l1 l2 _ _=>?_,fun b' v' hc=>?_,fun b' y v1 v2 hy hv hlt=>?_,fun b' y v1 k z o hy hv hk=>?_,hi1.dU,fun i cs hc=>⟨(hi1.cD i cs hc).1,jC hst1 _ _ _ (hi1.cD i cs hc).1 (hi1.cD i cs hc).2⟩⟩
  ·by_cases hc:b'=b
   ·subst hc;rw[hself]at hy;cases hy;rcases hi1.good 0 _ rfl with⟨k,c,e,h1,h2,h3,h4,h5⟩ |⟨h1,h2,h3⟩
    ·exact .inl ⟨k,c,e,by rw[e00];exact h1,h2,qV hst1 rows' 0 hp' h3,h4,h5⟩
    ·exact .inr ⟨h1,by rw[e00];exact h2,h3⟩
   ·rw[hget b' hc]at hy;rw[hd b' hc y hy];trivial
  ·have key:∀(b':Nat) (y:aa) (v':Nat),(H.set b (.row v sz' rows'))[b']? =some y→y.live=some v'→b'=b:=by
    intro b' y v' hy hv;by_cases hc:b'=b
    ·exact hc
    ·rw[hget b' hc]at hy;rw[hd b' hc y hy]at hv;cases hv
   grind
  ·have hne:b'≠b:=by
    rintro rfl;rcases hc with hc |hc
    ·rw[hself]at hc;cases hc
    ·rw[List.length_set]at hc;omega
   rw[eno _ _ (fun hh=>hne hh.1)]
   refine hi.fresh b' v' ?_;grind
  ·by_cases hc:b'=b
   ·subst hc;rw[hself]at hy;cases hy;simp only[aa.live,Option.some.injEq]at hv;subst hv;rw[eno _ _ (by omega)]
    exact hi.next b' _ v v2 hb rfl hlt
   ·rw[hget b' hc]at hy;rw[hd b' hc y hy]at hv;cases hv
  ·by_cases hc:b'=b
   ·subst hc;rw[hself]at hy;cases hy;simp only[aa.live,Option.some.injEq]at hv;subst hv;rw[e00]at hk;exact hi1.free 0 _ 0 k z o rfl rfl hk
   ·rw[hget b' hc]at hy;rw[hd b' hc y hy]at hv;cases hv
 have hback:∀k,fJ g1 (H.set b (.row v sz' rows')) k→fJ g1' [.row 0 sz' rows'] k:=by
  rintro k ⟨b',y,v',z,hy,hv,hkz⟩;by_cases hc:b'=b
  ·subst hc;rw[hself]at hy;cases hy;simp only[aa.live,Option.some.injEq]at hv;subst hv;rw[e00]at hkz;exact⟨0,_,0,z,rfl,rfl,hkz⟩
  ·rw[hget b' hc]at hy;rw[hd b' hc y hy]at hv;cases hv
 refine⟨g1,hinv1,⟨⟨fun b' v' y hy=>?_,fun k o hk=>hla.ext.st k o hk,hla.ext.cell,hla.ext.shape⟩,hla.size,fun k hk ho=>hla.keep k hk fun hc=>ho (hown k hc),fun k hk ho=>?_,by grind,hla.os,hla.tape,hla.output,fun k o hk hs=>(hla.stk k o hk hs).imp_right fun h=>⟨hown k h.1,fun ho=>h.2 (hback k ho)⟩,fun b' hb'=>?_,fun b' v' k z hk=>?_⟩,?_⟩
 ·by_cases hc:b'=b∧v'=v
  ·obtain⟨rfl,rfl⟩:=hc;rw[e00];exact hla.ext.ah 0 0 y (by rw[h00];exact hy)
  ·rw[eno _ _ hc];exact hy
 ·refine hown k (hla.own k hk ?_);grind
 ·grind
 ·by_cases hc:b'=b∧v'=v
  ·obtain⟨rfl,rfl⟩:=hc;rw[e00]at hk;rcases hla.qy 0 0 k z hk with⟨v1,z1,h1⟩ |h1
   ·grind
   ·exact .inr h1
  grind
 ·cases r with
  |ret u=>
   obtain⟨y,rfl,hy⟩:=he;have hq:(∃sz o n,u=.sl 0 0 sz o n)∨(u.pure=true∧u.yt b v=u):=by
    cases u with
    |sl b1 v1 sz o n=>
     grind [aM.A0]
    |_=>exact .inr ⟨hr,rfl⟩
   rcases hq with⟨sz,o,n,rfl⟩ |⟨hp2,he2⟩
   ·refine⟨y,rfl,?_⟩;grind [AVal.yt,R]
   ·refine⟨y,rfl,?_⟩;grind [kI]
  |aR u=>
   obtain⟨y,rfl,hy⟩:=he;exact⟨y,rfl,jU _ _ hr hy⟩
open Classical in
theorem bF.QW{f:FuncId}{args:List AVal}{x:aa}{r:aM}(h:bF P f args [x] r [.dead])(ha:AVal.lU args=true)(hx:x.kO=true)(hr:r.A0=true)
 (b v:Nat) (H:List aa) (hb:H[b]? =some (x.kJ v)) (hd:∀b',b'≠b→∀y,H[b']? =some y→y=.dead):bF P f (AVal.tq b v args) H (r.yt b v) (H.set b .dead):=by
 obtain⟨sz,rows,rfl,hp⟩:=wX hx;simp only[aa.kJ]at hb ⊢;have hblt:b<H.length:=(List.getElem?_eq_some_iff.1 hb).1;refine⟨h.1,fun g w vs hi hl=>?_⟩
 let g':Gh:=⟨fun b' v'=>if b'=0∧v'=0 then g.ah b v else none,g.st⟩
 have h00:g'.ah 0 0=g.ah b v:=by simp[g']
 have hno:∀b' v',¬(b'=0∧v'=0)→g'.ah b' v'=none:=fun b' v' hc=>by simp[g',hc]
 have hst:∀k o,g.st k o→g'.st k o:=fun _ _ h=>h
 have hi':Inv g' [.row 0 sz rows] w:=by
  refine⟨fun b' y hy=>?_,fun b1 b2 y1 y2 v1 v2 k z z' e1 e2 _ _ _ _=>?_,fun b' v' hc=>?_,fun b' y v1 v2 hy hv hlt=>?_,fun b' y v1 k z o hy hv hk=>?_,hi.dU,fun i cs hc=>⟨(hi.cD i cs hc).1,jC hst _ _ _ (hi.cD i cs hc).1 (hi.cD i cs hc).2⟩⟩
  ·cases b' with
   |zero=>
    simp only[List.getElem?_cons_zero,Option.some.injEq]at hy;subst hy;rcases hi.good b _ hb with⟨k,c,e,h1,h2,h3,h4,h5⟩ |⟨h1,h2,h3⟩
    ·exact .inl ⟨k,c,e,by rw[h00];exact h1,h2,qV hst rows 0 hp h3,h4,h5⟩
    ·exact .inr ⟨h1,by rw[h00];exact h2,h3⟩
   |succ n=>simp at hy
  ·grind
  ·grind
  ·grind
  ·by_cases hc:b'=0∧v1=0
   ·obtain⟨rfl,rfl⟩:=hc;rw[h00]at hk;exact hi.free b _ v k z o hb rfl hk
   ·rw[hno _ _ hc]at hk;cases hk
 have hl':RL g' w args vs.toList:=wW hst (fun x hx=>by rw[h00];exact hx) _ _ ha hl
 refine(h.2 g' w vs hi' hl').mono fun e w' ⟨g1',hi1,hla,he⟩=>?_
 have hown:∀k,fJ g' [.row 0 sz rows] k→fJ g H k:=by
  rintro k ⟨b',y,v',z,hy,hv,hk⟩;by_cases hc:b'=0∧v'=0
  ·obtain⟨rfl,rfl⟩:=hc;rw[h00]at hk;exact⟨b,_,v,z,hb,rfl,hk⟩
  ·rw[hno _ _ hc]at hk;cases hk
 have hown':∀k,fJ g H k→fJ g' [.row 0 sz rows] k:=by
  rintro k ⟨b',y,v',z,hy,hv,hk⟩;by_cases hc:b'=b
  ·subst hc;rw[hb]at hy;cases hy;simp only[aa.live,Option.some.injEq]at hv;subst hv;exact⟨0,_,0,z,rfl,rfl,by rw[h00];exact hk⟩
  ·rw[hd b' hc y hy]at hv;cases hv
 let g1:Gh:=⟨fun b' v'=>if b'=b∧v'=v then g1'.ah 0 0 else g.ah b' v',g1'.st⟩
 have e00:g1.ah b v=g1'.ah 0 0:=by simp[g1]
 have eno:∀b' v',¬(b'=b∧v'=v)→g1.ah b' v'=g.ah b' v':=fun b' v' hc=>by simp[g1,hc]
 have hst1:∀k o,g1'.st k o→g1.st k o:=fun _ _ h=>h
 have hget:∀b',b'≠b→(H.set b .dead)[b']? =H[b']? :=fun b' hc=>List.getElem?_set_ne (Ne.symm hc)
 have hself:(H.set b .dead)[b]? =some .dead:=List.getElem?_set_self hblt;have hinv1:Inv g1 (H.set b .dead) w':=by
  refine⟨fun b' y hy=>?_,fun b1 b2 y1 y2 v1 v2 k z z' e1 e2 l1 l2 _ _=>?_,fun b' v' hc=>?_,fun b' y v1 v2 hy hv hlt=>?_,fun b' y v1 k z o hy hv hk=>?_,hi1.dU,fun i cs hc=>⟨(hi1.cD i cs hc).1,jC hst1 _ _ _ (hi1.cD i cs hc).1 (hi1.cD i cs hc).2⟩⟩
  ·by_cases hc:b'=b
   ·subst hc;rw[hself]at hy;cases hy
    trivial
   ·rw[hget b' hc]at hy;rw[hd b' hc y hy];trivial
  ·have key:∀(b':Nat) (y:aa) (v':Nat),(H.set b .dead)[b']? =some y→y.live=some v'→b'=b:=by
    intro b' y v' hy hv;by_cases hc:b'=b
    ·exact hc
    ·rw[hget b' hc]at hy;rw[hd b' hc y hy]at hv;cases hv
   grind
  ·have hne:b'≠b:=by
    rintro rfl;rcases hc with hc |hc
    ·rw[hself]at hc;cases hc
    ·rw[List.length_set]at hc;omega
   rw[eno _ _ (fun hh=>hne hh.1)]
   refine hi.fresh b' v' ?_;grind
  ·by_cases hc:b'=b
   ·subst hc;rw[hself]at hy;cases hy;cases hv
   ·rw[hget b' hc]at hy;rw[hd b' hc y hy]at hv;cases hv
  ·by_cases hc:b'=b
   ·subst hc;rw[hself]at hy;cases hy;cases hv
   ·rw[hget b' hc]at hy;rw[hd b' hc y hy]at hv;cases hv
 have hback:∀k,fJ g1 (H.set b .dead) k→fJ g1' [.dead] k:=by
  rintro k ⟨b',y,v',z,hy,hv,hkz⟩;by_cases hc:b'=b
  ·subst hc;rw[hself]at hy;cases hy;cases hv
  ·rw[hget b' hc]at hy;rw[hd b' hc y hy]at hv;cases hv
 refine⟨g1,hinv1,⟨⟨fun b' v' y hy=>?_,fun k o hk=>hla.ext.st k o hk,hla.ext.cell,hla.ext.shape⟩,hla.size,fun k hk ho=>hla.keep k hk fun hc=>ho (hown k hc),fun k hk ho=>?_,by grind,hla.os,hla.tape,hla.output,fun k o hk hs=>(hla.stk k o hk hs).imp_right fun h=>⟨hown k h.1,fun ho=>h.2 (hback k ho)⟩,fun b' hb'=>?_,fun b' v' k z hk=>?_⟩,?_⟩
 ·by_cases hc:b'=b∧v'=v
  ·obtain⟨rfl,rfl⟩:=hc;rw[e00];exact hla.ext.ah 0 0 y (by rw[h00];exact hy)
  ·rw[eno _ _ hc];exact hy
 ·refine hown k (hla.own k hk ?_);grind
 ·grind
 ·by_cases hc:b'=b∧v'=v
  ·obtain⟨rfl,rfl⟩:=hc;rw[e00]at hk;rcases hla.qy 0 0 k z hk with⟨v1,z1,h1⟩ |h1
   ·grind
   ·exact .inr h1
  grind
 ·cases r with
  |ret u=>
   obtain⟨y,rfl,hy⟩:=he;have hq:(∃sz o n,u=.sl 0 0 sz o n)∨(u.pure=true∧u.yt b v=u):=by
    cases u with
    |sl b1 v1 sz o n=>
     grind [aM.A0]
    |_=>exact .inr ⟨hr,rfl⟩
   rcases hq with⟨sz,o,n,rfl⟩ |⟨hp2,he2⟩
   ·refine⟨y,rfl,?_⟩;grind [AVal.yt,R]
   ·refine⟨y,rfl,?_⟩;grind [kI]
  |aR u=>
   obtain⟨y,rfl,hy⟩:=he;exact⟨y,rfl,jU _ _ hr hy⟩
theorem bF.QX{f:FuncId}{args:List AVal}{x x':aa}{r:aM}(h:bF P f args [x] r [x'])(ha:AVal.lU args=true)(hx:x.kO=true)(hx':x'.kO=true∨x'=.dead)(hr:r.A0=true)
 (b v:Nat) (H:List aa) (hb:H[b]? =some (x.kJ v)) (hd:∀b',b'≠b→∀y,H[b']? =some y→y=.dead):bF P f (AVal.tq b v args) H (r.yt b v) (H.set b (x'.kJ v)):=by
 rcases hx' with hx' |rfl
 ·exact h.move ha hx hx' hr b v H hb hd
 ·exact h.QW ha hx hr b v H hb hd
theorem bF.frame{f:FuncId}{args:List AVal}{H:List aa}{r:aM}{b:Nat}{y:aa}(h:bF P f args (mask [b] H) r ((mask [b] H).set b y))(hb:b<H.length):bF P f args H r (H.set b y):=by
 refine⟨h.1,fun g w vs hi hl=>(h.2 g w vs (nK hi [b]) hl).mono fun e w' ⟨g1,hi1,hla,he⟩=>?_⟩
 have hlen:((mask [b] H).set b y).length=H.length:=by rw[List.length_set,oD]
 have:=Inv.merge hi hi1 hla (by omega)
 have e1:merged [b] H ((mask [b] H).set b y)=H.set b y:=by
  simp only[merged,List.foldl_cons,List.foldl_nil];rw[List.getD_eq_getElem?_getD,List.getElem?_set_self (by rw[oD];exact hb)];rfl
 have e2:((mask [b] H).set b y).drop H.length=[]:=List.drop_of_length_le (by omega)
 rw[e1,e2,List.append_nil]at this;exact⟨g1,this.1,this.2,he⟩
mutual
theorem vg(n:Nat):∀(v:AVal),v.pure=true→v.fG n=true
 | .sc _,_=>rfl
 | .agg cs,h=>by simp only[AVal.pure,AVal.fG]at h ⊢;exact jV n cs h
 | .bW cs,h=>by simp only[AVal.pure,AVal.fG]at h ⊢;exact jV n cs h
 | .ptr ..,h=>by simp[AVal.pure]at h
 | .bL ..,_=>rfl
 | .sl ..,h=>by simp[AVal.pure]at h
 | .aC _,_=>rfl
 | .fn f a b,h=>by
  simp only[AVal.pure,AVal.fG,Bool.and_eq_true]at h ⊢;exact⟨jV n a h.1,jV n b h.2⟩
 | .eE t v,h=>by simp only[AVal.pure,AVal.fG]at h ⊢;exact vg n v h
 | .mp _,h=>by simp[AVal.pure]at h
 | .gZ _,h=>by simp[AVal.pure]at h
 | .sa ..,h=>by simp[AVal.pure]at h
 | .fO ..,_=>rfl
 | .emp,_=>rfl
 | .nz _,_=>rfl
 | .av,_=>rfl
theorem jV(n:Nat):∀(l:List AVal),AVal.aQ l=true→AVal.mQ n l=true
 | [],_=>rfl
 |a::as,h=>by
  simp only[AVal.aQ,AVal.mQ,Bool.and_eq_true]at h ⊢;exact⟨vg n a h.1,jV n as h.2⟩
end
theorem bF.take{f:FuncId}{args:List AVal}{H H1:List aa}{a:aM}(h:bF P f args H a H1)(h0:0<H.length)(ha:a.A0=true)(hb:∀x∈H1.take H.length,x.kO=true∨x=.dead):bF P f args H a (H1.take H.length):=by
 refine⟨h.1,fun g w vs hi hl=>(h.2 g w vs hi hl).mono fun e w' ⟨g1,hi1,hla,he⟩=>?_⟩
 have hlen:(H1.take H.length).length=H.length:=by rw[List.length_take];have:=hla.len;omega
 have hK:H1.take H.length++H1.drop H.length=H1:=List.take_append_drop _ _;obtain⟨i1,i2⟩:=Inv.drop (n:=H.length) (K:=H1.take H.length) (L:=H1.drop H.length) hi (by rw[hK];exact hi1) (by rw[hK];exact hla) hlen rfl fun b x hx=>.inl (by
  rcases hb x (List.mem_of_getElem? hx)with hb |rfl
  ·grind [wX,u9,jV]
  ·rfl)
 refine⟨g1.upto H.length,i1,i2,?_⟩;cases a with
 |ret v=>
  obtain⟨x,rfl,hx⟩:=he;refine⟨x,rfl,?_⟩;by_cases hp:v.pure=true
  ·exact kI (g:=g1) (g2:=g1.upto H.length) (fun _ _ h=>h) v x hp hx
  ·cases v<;>try exact absurd ha hp
   rename_i b aj sz o n;simp only[aM.A0,Bool.and_eq_true,beq_iff_eq]at ha;obtain⟨rfl,rfl⟩:=ha;simp only[R]at hx ⊢;rcases hx with hx |⟨k,cap,e,s,h1,h2⟩
   ·exact .inl hx
   ·exact .inr ⟨k,cap,e,s,by simpa[Gh.upto,h0]using h1,h2⟩
 |aR v=>
  obtain⟨x,rfl,hx⟩:=he;exact⟨x,rfl,jU v x ha hx⟩
theorem Dz{pr:List Nat}{n:Nat}:∀{L:List aa} {i:Nat},Dy pr n i L=true→∀(b:Nat) (x:aa),L[b]? =some x→pr.contains (i+b)=true∨u9 n x=true
 | [],_,_,b,x,h=>by simp at h
 |y::ys,i,hl,0,x,h=>by
  grind [Dy]
 |y::ys,i,hl,b+1,x,h=>by
  simp only[Dy,Bool.and_eq_true]at hl;have:=Dz hl.2 b x (by simpa using h)
  grind
theorem bF.trim{f:FuncId}{args:List AVal}{H H1:List aa}{a:aM}{pr:List Nat}(h:bF P f args H a H1)(hpan:∀v,a=.aR v→v.flat=true)(ha:a.fG H.length=true)(hl:Dy pr H.length 0 (H1.take H.length)=true)
 (hp:∀i,pr.contains i=true→∃x,H1[i]? =some x∧tv x=true):bF P f args H a (H1.take H.length):=by
 refine⟨h.1,fun g w vs hi hl'=>(h.2 g w vs hi hl').mono fun e w' ⟨g1,hi1,hla,he⟩=>?_⟩
 have hlen:(H1.take H.length).length=H.length:=by rw[List.length_take];have:=hla.len;omega
 have hK:H1.take H.length++H1.drop H.length=H1:=List.take_append_drop _ _;obtain⟨i1,i2⟩:=Inv.drop (n:=H.length) (K:=H1.take H.length) (L:=H1.drop H.length) hi (by rw[hK];exact hi1) (by rw[hK];exact hla) hlen rfl fun b x hx=>.inl (by
  rcases Dz hl b x hx with hc |hc
  ·grind [yu,u9,jV,vg]
  ·exact hc)
 refine⟨g1.upto H.length,i1,i2,?_⟩;cases a with
 |ret v=>
  obtain⟨x,rfl,hx⟩:=he;exact⟨x,rfl,lP (n:=H.length) (g:=g1) (g2:=g1.upto H.length) (fun _ _ h=>h) (fun b aj x hb he=>by grind [Gh.upto]) v x ha hx⟩
 |aR v=>
  obtain⟨x,rfl,hx⟩:=he;exact⟨x,rfl,jU v x (hpan v rfl) hx⟩
mutual
theorem OT{b:Nat}:∀(a:AVal) (x:Value),R g w a x→R g w (a.but b) x
 | .sc _,x,hr=>by simpa only[AVal.but]using hr
 | .agg cs,x,hr=>by
  simp only[R,AVal.but]at hr ⊢;obtain⟨vs,e,h1,hl⟩:=hr;exact⟨vs,e,h1,zG cs vs hl⟩
 | .bW cs,x,hr=>by
  simp only[R,AVal.but]at hr ⊢;obtain⟨vs,e,hl⟩:=hr;exact⟨vs,e,zG cs vs hl⟩
 | .ptr ..,x,hr=>by
  grind [AVal.but,R]
 | .bL ..,x,hr=>by simpa only[AVal.but]using hr
 | .sl ..,x,hr=>by
  grind [AVal.but,R]
 | .aC _,x,hr=>by simpa only[AVal.but]using hr
 | .fn f c d,x,hr=>by
  simp only[R,AVal.but]at hr ⊢;obtain⟨va,vb,e,h1,h2⟩:=hr;exact⟨va,vb,e,zG c va h1,zG d vb h2⟩
 | .eE t a,x,hr=>by
  simp only[R,AVal.but]at hr ⊢;obtain⟨y,e,h1⟩:=hr;exact⟨y,e,OT a y h1⟩
 | .mp _,_,_=>by simp[AVal.but,R]
 | .gZ _,_,_=>by simp[AVal.but,R]
 | .sa ..,x,hr=>by
  grind [AVal.but,R]
 | .fO ..,x,hr=>by simpa only[AVal.but]using hr
 | .emp,x,hr=>by simpa only[AVal.but]using hr
 | .nz _,x,hr=>by simpa only[AVal.but]using hr
 | .av,x,_=>by simp[AVal.but,R]
theorem zG{b:Nat}:∀(a:List AVal) (x:List Value),RL g w a x→RL g w (AVal.wV b a) x
 | [],x,hr=>by simpa[RL,AVal.wV]using hr
 |a::as,x,hr=>by
  simp only[RL,AVal.wV]at hr ⊢;obtain⟨y,ys,e,h1,h2⟩:=hr;exact⟨y,ys,e,OT a y h1,zG as ys h2⟩
end
theorem bF.but{b:Nat}{f:FuncId}{args:List AVal}{H H1:List aa}{r:aM}(h:bF P f (AVal.wV b args) H r H1):bF P f args H r H1:=
 ⟨h.1,fun g w vs hi hl=>h.2 g w vs hi (zG _ _ hl)⟩
end
end Go.AM
end
section
namespace Go.AM
section
variable [aB] {P:Program} {cfg:dZ} {X:Env P}
theorem qk:fL P uy:=⟨fun _ _ _ _ _ h=>by simp[uy]at h,fun _ _ _ _ _ h=>by simp[uy]at h⟩
open Classical in
noncomputable def od(f:FuncId)(args:List AVal)(H:List aa)(r:aM)(H1:List aa):iV:=
 ⟨fun f' args' H'=>if f'=f∧args'=args∧H'=H then some (r,H1)else none,fun _ _ _=>none⟩
theorem yx{f:FuncId}{args:List AVal}{H H1:List aa}{r:aM}(h:bF P f args H r H1):fL P (od f args H r H1):=by
 refine⟨fun f' args' H' r' H1' hr=>?_,fun _ _ _ _ _ h=>by simp[od]at h⟩
 simp only[od]at hr;split at hr
 ·rename_i hc;obtain⟨rfl,rfl,rfl⟩:=hc;simp only[Option.some.injEq,Prod.mk.injEq]at hr;obtain⟨rfl,rfl⟩:=hr;exact h
 ·cases hr
open Classical in
noncomputable def zH(f:FuncId)(args:List AVal)(r:aM):iV:=
 ⟨fun f' args' H=>if f'=f∧args'=args∧H=[]then some (r,[])else none,fun _ _ _=>none⟩
theorem KX{f:FuncId}{args:List AVal}{r:aM}(h:kP P f args r):fL P (zH f args r):=by
 refine⟨fun f' args' H r' H1 hr=>?_,fun _ _ _ _ _ h=>by simp[zH]at h⟩
 simp only[zH]at hr;split at hr
 ·rename_i hc;obtain⟨rfl,rfl,rfl⟩:=hc;simp only[Option.some.injEq,Prod.mk.injEq]at hr;obtain⟨rfl,rfl⟩:=hr;exact h
 ·cases hr
def Ee(P:Program)[aB](b:Nat)(args:List AVal)(H:List aa)(r:aM)(H1:List aa):Prop:=
 ∀g w (vs:Array Value) k sz,Inv g H w→RL g w args vs.toList→g.ah b 0=some (k,sz)→
  ∃rec,w.heap[k]? =some (.loop rec)∧vs.size=rec.params.size∧RoundIn Fence.wide 0 P k rec.fn (k5 rec vs) rec.assign rec.body w (dJ g H w r H1)
open Classical in
noncomputable def BE(b:Nat)(args:List AVal)(H:List aa)(r:aM)(H1:List aa):iV:=
 ⟨fun _ _ _=>none,fun b' args' H'=>if b'=b∧args'=args∧H'=H then some (r,H1)else none⟩
theorem Mo{b:Nat}{args:List AVal}{H H1:List aa}{r:aM}(h:Ee P b args H r H1):fL P (BE b args H r H1):=by
 refine⟨fun _ _ _ _ _ h=>by simp[BE]at h,fun b' args' H' r' H1' hr=>?_⟩
 simp only[BE]at hr;split at hr
 ·rename_i hc;obtain⟨rfl,rfl,rfl⟩:=hc;simp only[Option.some.injEq,Prod.mk.injEq]at hr;obtain⟨rfl,rfl⟩:=hr;exact h
 ·cases hr
theorem Ee.wk{b:Nat}{args:List AVal}{H H1:List aa}{r:aM}(h:Ee P b (lT args) H r H1):Ee P b args H r H1:=
 fun g w vs k sz hi hl hk=>h g w vs k sz hi (vz _ _ hl) hk
structure nh(P:Program)[aB](N:yY P):Prop where
 fn:∀{ρ:Type} {n:Nat} {f:FuncId} {args:List AVal} {H:List aa} {g:G P ρ} {k:G P ρ→aM→List aa→Prop} {r:ρ},N.fn f args H g k→g.run n=some r→
  ∃g' a H1,k g' a H1∧g'.run n=some r∧bF P f args H a H1
 AY:∀{ρ:Type} {n:Nat} {b:Nat} {args:List AVal} {H:List aa} {g:G P ρ} {k:G P ρ→aM→List aa→Prop} {r:ρ},N.AY b args H g k→g.run n=some r→
  ∃g' a H1,k g' a H1∧g'.run n=some r∧Ee P b args H a H1
 lp:∀{σ:Type} {sh:Sh} {n:Nat} {ro:Option Nat} {H0:List aa} {b:Code} {g:G P (σ⊕sh.El)} {E:σ→St} {s:St} {Y:sh.El→aX×St} {q:σ⊕sh.El},N.lp ro H0 b g E s Y→g.run n=some q→
  ∃(g':G P (σ⊕sh.El)) (o:aX) (s':St),ng H0 E Y g' o s'∧g'.run n=some q∧∀fro g0 w0,Inv g0 H0 w0→mz g0 ro fro→dR P fro g0 H0 w0 b s fun o1 s1=>o1=o∧s1=s'
variable {ops:Array Oper} {n0 nid:Nat} {o:Oper} {s:St}
theorem BF{orc orc':iV}(h:gX ops s.A o=some true→∀pre,(bC P cfg nid (bX s.A) o.op).run s.H=some pre→finish orc s.H pre=finish orc' s.H pre):
 ej P cfg orc ops n0 o nid s=ej P cfg orc' ops n0 o nid s:=by
 grind [ej]
theorem kQ{n:Nat}{ρ:Type}{r:ρ}:∀{g:G P ρ} {s:St} {k:G P ρ→St→Prop},mM g s k→g.run n=some r→∃g',k g' s∧g'.run n=some r
 | .br d c t f,s,k,h,hr=>by
  simp only[mM,mU]at h;obtain⟨hd,h1,h2⟩:=h;have hset:s.A.set d (.sc (.bool c))=s.A:=by
   apply List.ext_getElem?;intro j;by_cases hj:d=j
   ·grind
   ·rw[List.getElem?_set_ne hj]
  cases c with
  |true=>
   rw[hset]at h1;simp only[G.run,if_true]at hr;exact kQ h1 hr
  |false=>
   rw[hset]at h2;simp only[G.run,Bool.false_eq_true,if_false]at hr;exact kQ h2 hr
 | .C4 d ik x c t f,s,k,h,hr=>by
  simp only[mM,mU]at h;obtain⟨hd,h1,h2⟩:=h;by_cases hx:x=c
  ·subst hx;have hset:s.A.set d (.sc (.int ik x))=s.A:=by
    apply List.ext_getElem?;intro j;by_cases hj:d=j
    ·grind
    ·rw[List.getElem?_set_ne hj]
   rw[hset]at h1;simp only[G.run,if_true]at hr;exact kQ h1 hr
  ·simp only[G.run,hx,if_false]at hr;exact kQ h2 hr
 | .sp c t f,s,k,h,hr=>by
  simp only[mM]at h;cases c with
  |true=>
   simp only[G.run,if_true]at hr;exact kQ h.1 hr
  |false=>
   simp only[G.run,Bool.false_eq_true,if_false]at hr;exact kQ h.2 hr
 | .fail,s,k,h,hr=>by simp[G.run]at hr
 | .stop,s,k,h,hr=>by simp[G.run]at hr
 | .done ..,s,k,h,hr=>⟨_,h,hr⟩
 | .skip ..,s,k,h,hr=>⟨_,h,hr⟩
 | .op ..,s,k,h,hr=>⟨_,h,hr⟩
 | .call ..,s,k,h,hr=>⟨_,h,hr⟩
 | .fM ..,s,k,h,hr=>⟨_,h,hr⟩
 | .bk ..,s,k,h,hr=>⟨_,h,hr⟩
 | .tidy ..,s,k,h,hr=>⟨_,h,hr⟩
 | .loop ..,s,k,h,hr=>⟨_,h,hr⟩
 | .rC ..,s,k,h,hr=>⟨_,h,hr⟩
 | .fH ..,s,k,h,hr=>⟨_,h,hr⟩
 | .ve ..,s,k,h,hr=>⟨_,h,hr⟩
 | .join ..,s,k,h,hr=>⟨_,h,hr⟩
 | .inl ..,s,k,h,hr=>⟨_,h,hr⟩
theorem Jj{x:Option Pre}{f:FuncId}{args:List AVal}(h:HV x=some (f,args)):∃args' own,x=some (.Cq f args' own)∧lT args'=args:=by
 unfold HV at h;grind
theorem kP.wk{f:FuncId}{args:List AVal}{r:aM}(h:kP P f (lT args) r):kP P f args r:=
 ⟨h.1,fun g w vs hi hl=>h.2 g w vs hi (vz _ _ hl)⟩
theorem KY{H:List aa}{x:Option Pre}{f:FuncId}{args:List AVal}{H1:List aa}(h:KV H x=some (f,args,H1)):∃args' ids,x=some (.jM f args' ids)∧lT args'=args∧mask ids H=H1:=by
 unfold KV at h;grind
theorem wY{ids:List Nat}{H:List aa}(hp:∀i,ids.contains i=true→∃x,H[i]? =some x∧tv x=true):
 ∀(n:Nat) (l seen:List Nat),Cw ids l=true→l.length≤n→(closure n l seen).run H=some (yw l seen)∧(closure n l seen).reads H=uz l seen
 |_,[],_,_,_=>by simp[closure,Rd.run,Rd.reads,yw,uz]
 | 0,_::_,_,_,h=>by simp at h
 |n+1,c::cs,seen,h,hl=>by
  simp only[Cw,Bool.and_eq_true]at h;simp only[List.length_cons]at hl;simp only[closure,yw,uz];cases hc:seen.contains c with
  |true=>
   simp only[if_true];exact wY hp n cs seen h.2 (by omega)
  |false=>
   obtain⟨x,hb,hpb⟩:=hp c h.1;obtain⟨q1,q2⟩:=wY hp n cs (c::seen) h.2 (by omega)
   grind [yu,Rd.run,Rd.reads]
theorem BG{ids:List Nat}:∀(l seen:List Nat),Cw ids l=true→(∀i∈seen,ids.contains i=true)→∀i∈yw l seen,ids.contains i=true
 | [],_,_,hs,i,hi=>hs i hi
 |c::cs,seen,h,hs,i,hi=>by
  simp only[Cw,Bool.and_eq_true]at h;simp only[yw]at hi;cases hc:seen.contains c with
  |true=>rw[hc]at hi;exact BG cs seen h.2 hs i hi
  |false=>
   rw[hc]at hi;refine BG cs (c::seen) h.2 (fun j hj=>?_) i hi
   grind
theorem kE{α β:Type}{H:List aa}:∀{m:Rd α} {f:α→β} {x:α},m.run H=some x→(m.bind fun y=>.done (f y)).run H=some (f x)∧(m.bind fun y=>.done (f y)).reads H=m.reads H
 | .done a,f,x,h=>by grind [Rd.run,Rd.bind,Rd.reads]
 | .get b k,f,x,h=>by
  simp only[Rd.run]at h;split at h
  ·rename_i y hy;have:=kE (f:=f) h;simp[Rd.bind,Rd.run,Rd.reads,hy,this]
  ·cases h
theorem HW{ids:List Nat}{ah:Operand→AVal}{op:Op}{nid:Nat}{H:List aa}{f:FuncId}{args:List AVal}{js rs:List Nat}(h:qh P cfg ids ah op=some (f,args,js,rs))
 (hp:∀i,ids.contains i=true→∃x,H[i]? =some x∧tv x=true):
 (bC P cfg nid ah op).run H=some (.jM f args js)∧(bC P cfg nid ah op).reads H=rs∧∀i∈js,ids.contains i=true:=by
 unfold qh at h;split at h
 ·rename_i g _ _ _;split at h
  ·rename_i n p q hg;split at h
   ·rename_i fn hfn;split at h
    ·rename_i hc;simp only[Bool.or_eq_false_iff]at hc;dsimp only at h;split at h
     ·rename_i ho;simp only[Option.some.injEq,Prod.mk.injEq]at h;simp only[Bool.and_eq_true]at ho;have ho2:=Nat.le_of_ble_eq_true ho.2;obtain⟨rfl,rfl,rfl,rfl⟩:=h;obtain⟨q1,q2⟩:=wY hp 1000 _ [] ho.1 (by omega)
      simp only[bC,hg,hfn,hc.1.1,Bool.false_eq_true,if_false,oB,hc.1.2,hc.2];exact⟨(kE q1).1,(kE q1).2.trans q2,BG _ [] ho.1 (by simp)⟩
     ·cases h
    ·cases h
   ·cases h
  ·cases h
 ·cases h
theorem Mp{H:List aa}{b:Nat}{x:Option (FuncId×List AVal×List Nat×List Nat)}{f:FuncId}{args:List AVal}{y:Option aa}(h:NS H b x=some (f,args,y)):∃args' ids rs,x=some (f,args',ids,rs)∧AVal.wV b (lT args')=args∧H[b]? =y∧ids.contains b=true:=by
 unfold NS at h;grind
theorem zI:∀{l:List PR} {H:List aa},JZ l H→∀i,(l.map (·.b)).contains i=true→∃x,H[i]? =some x∧tv x=true
 | [],_,_,i,h=>by simp at h
 |p::ps,H,hc,i,h=>by
  simp only[List.map_cons,List.contains_cons,Bool.or_eq_true,beq_iff_eq]at h;rcases h with rfl |h
  ·exact⟨_,hc.1,p.pf⟩
  ·exact zI hc.2 i h
theorem bF.wk{f:FuncId}{args:List AVal}{H H1:List aa}{r:aM}(h:bF P f (lT args) H r H1):bF P f args H r H1:=
 ⟨h.1,fun g w vs hi hl=>h.2 g w vs hi (vz _ _ hl)⟩
theorem nN{pr:List Nat}{H:List aa}(hp:∀i,pr.contains i=true→∃x,H[i]? =some x∧tv x=true):
 ∀(n:Nat) (l seen ids rs:List Nat),qi pr H n l seen=some (ids,rs)→(closure n l seen).run H=some ids∧(closure n l seen).reads H=rs
 |_,[],seen,ids,rs,h=>by
  grind [qi,closure,Rd.run,Rd.reads]
 | 0,_::_,_,_,_,h=>by simp[qi]at h
 |n+1,b::todo,seen,ids,rs,h=>by
  simp only[qi]at h;simp only[closure];cases hc:seen.contains b with
  |true=>
   rw[hc]at h;simp only[if_true];exact nN hp n todo seen ids rs h
  |false=>
   rw[hc]at h;simp only[Bool.false_eq_true,if_false];cases hpr:pr.contains b with
   |true=>
    rw[hpr]at h;simp only[Option.map_eq_some_iff,Prod.exists,Prod.mk.injEq]at h;obtain⟨ids',rs',h,rfl,rfl⟩:=h;obtain⟨x,hb,hpb⟩:=hp b hpr;obtain⟨q1,q2⟩:=nN hp n todo (b::seen) _ _ h;grind [yu,Rd.run,Rd.reads]
   |false=>
    rw[hpr]at h;simp only at h;split at h
    ·rename_i v sz rows hb;simp only[Option.map_eq_some_iff,Prod.exists,Prod.mk.injEq]at h;obtain⟨ids',rs',h,rfl,rfl⟩:=h;obtain⟨q1,q2⟩:=nN hp n _ (b::seen) _ _ h;grind [Rd.run,Rd.reads]
    ·rename_i hb;simp only[Option.map_eq_some_iff,Prod.exists,Prod.mk.injEq]at h;obtain⟨ids',rs',h,rfl,rfl⟩:=h;obtain⟨q1,q2⟩:=nN hp n _ (b::seen) _ _ h;grind [Rd.run,Rd.reads]
    ·rename_i hb;simp only[Option.map_eq_some_iff,Prod.exists,Prod.mk.injEq]at h;obtain⟨ids',rs',h,rfl,rfl⟩:=h;obtain⟨q1,q2⟩:=nN hp n _ (b::seen) _ _ h;grind [Rd.run,Rd.reads]
    ·rename_i x hx hl hit hb;simp only[Option.map_eq_some_iff,Prod.exists,Prod.mk.injEq]at h;obtain⟨ids',rs',h,rfl,rfl⟩:=h;obtain⟨q1,q2⟩:=nN hp n _ (b::seen) _ _ h;grind [Rd.run,Rd.reads]
    ·cases h
def HX:FuncId⊕Nat→List AVal→List Nat→Pre
 | .inl f,args,ids=>.jM f args ids
 | .inr b,args,ids=>.round b args ids
theorem J1{cfg:dZ}{pr:List Nat}{ah:Operand→AVal}{op:Op}{H:List aa}{t:FuncId⊕Nat}{args:List AVal}{ids rs:List Nat}(hp:∀i,pr.contains i=true→∃x,H[i]? =some x∧tv x=true)
 (h:Dw P cfg pr ah op H=some (t,args,ids,rs)):(bC P cfg nid ah op).run H=some (HX t args ids)∧(bC P cfg nid ah op).reads H=rs:=by
 unfold Dw at h;split at h
 ·rename_i g _ _ _;split at h
  ·rename_i n p q hg;split at h
   ·rename_i fn hfn;split at h
    ·rename_i hc;simp only[Bool.or_eq_false_iff]at hc;split at h
     ·rename_i ids' rs' hcl;simp only[Option.some.injEq,Prod.mk.injEq]at h;obtain⟨rfl,rfl,rfl,rfl⟩:=h;obtain⟨q1,q2⟩:=nN hp _ _ _ _ _ hcl;simp only[bC,hg,hfn,hc.1.1,Bool.false_eq_true,if_false,oB,hc.1.2,hc.2];exact⟨(kE q1).1,(kE q1).2.trans q2⟩
     ·cases h
    ·cases h
   ·cases h
  ·rename_i b hg;split at h
   ·rename_i ids' rs' hcl;simp only[Option.some.injEq,Prod.mk.injEq]at h;obtain⟨rfl,rfl,rfl,rfl⟩:=h;obtain⟨q1,q2⟩:=nN hp _ _ _ _ _ hcl;simp only[bC,hg];exact⟨(kE q1).1,(kE q1).2.trans q2⟩
   ·cases h
  ·cases h
 ·cases h
theorem uA{ids:List Nat}{H H1:List aa}{a:aM}{k:cr→List Nat→Bool→Prop}{kp:AVal→Prop}(h:BB ids H a H1 k kp):
 (∃e,ee H ids (some (a,H1))=some (.ok e)∧k e (e.dc.map (·.1)) (!e.news.isEmpty))∨(∃v,ee H ids (some (a,H1))=some (.aR v ids)∧kp v):=by
 unfold BB at h;split at h
 ·rename_i v;split at h
  ·rename_i hl;have hl:=Nat.eq_of_beq_eq_true hl;refine .inl ⟨{val:=v,dc:=ids.map fun i=>(i,H1.getD i .dead)},?_,?_⟩
   ·grind [ee]
   ·simpa[List.map_map,Function.comp_def]using h
  grind [kg]
 grind [ee]
theorem jW(hNe:nh P X.N){n:Nat}{ρ:Type}{r:ρ}{g:G P ρ}{draw:Bool}{H0:List aa}{k:G P ρ→dz→fK→Prop}(h:pq P X draw H0 ops n0 o nid g s k)(hr:g.run n=some r):
 ∃orc,fL P orc∧∃res f g',ej P X.cfg orc ops n0 o nid s=some (res,f)∧k g' res f∧g'.run n=some r:=by
 unfold pq at h;split at h
 ·rename_i m g';split at h
  ·rename_i res f hs;exact⟨uy,qk,res,f,_,hs,h,by rw[G.HU];simpa[G.run]using hr⟩
  ·exact nomatch h
 ·rename_i X t kk;obtain⟨hw,hc,hk⟩:=h;simp only[G.run]at hr;cases hx:t.run with
  |none=>rw[hx]at hr;cases hr
  |some x=>
   rw[hx]at hr;obtain⟨h1,h2⟩:=t.sound _ _ _ _ _ _ _ hc x hx;have hk:=hk x;simp only[kg,fU,dI]at hk;refine⟨uy,qk,_,_,kk x,?_,hk,by simpa using hr⟩
   grind [ej,finish,kg,fU,dI]
 ·rename_i c x kk;obtain⟨hw,hc,hk⟩:=h;simp only[G.run]at hr;cases hx:c.S n x with
  |none=>rw[hx]at hr;cases hr
  |some q=>
   rw[hx]at hr;have hk:=(c.sh.bO _).1 hk q;obtain⟨args',own,hp,he⟩:=Jj hc;split at hk
   ·rename_i res f hs;refine⟨zH c.f args' (c.out q),KX (kP.wk (by rw[he];exact c.ok n x q hx)),res,f,kk q,?_,hk,by simpa using hr⟩
    rw[← hs];refine BF fun _ pre hpre=>?_
    rw[hp]at hpre;simp only[Option.some.injEq]at hpre;subst hpre;simp[finish,eF,zH,KU]
   ·exact nomatch hk
 ·rename_i c x kk;obtain⟨hw,hc,hk⟩:=h;simp only[G.run]at hr;cases hx:c.S n x with
  |none=>rw[hx]at hr;cases hr
  |some q=>
   rw[hx]at hr;have hk:=(c.sh.bO _).1 hk q;obtain⟨args',ids,hp,he,hm⟩:=KY hc;split at hk
   ·rename_i res f hs;refine⟨od c.f args' (c.heap x) (c.out q) (c.fE x q),yx (bF.wk (by rw[he];exact c.ok n x q hx)),res,f,kk q,?_,hk,by simpa using hr⟩
    rw[← hs];refine BF fun _ pre hpre=>?_
    rw[hp]at hpre;simp only[Option.some.injEq]at hpre;subst hpre;simp[finish,eF,ct,od,KU,hm]
   ·exact nomatch hk
 ·rename_i c b v ex x kk;obtain⟨hw,hex,hc,hk⟩:=h;simp only[G.run]at hr;cases hx:c.S n x with
  |none=>rw[hx]at hr;cases hr
  |some q=>
   rw[hx]at hr;have hk:=(c.sh.bO _).1 hk q;obtain⟨args',ids,rs,hp,he,hb,hbi⟩:=Mp hc;obtain⟨bsz,brows,hbx,hbp⟩:=wX (c.b0 x);have hpure:∀i,(b::ex.map (·.b)).contains i=true→∃x,s.H[i]? =some x∧tv x=true:=by
    intro i hi;simp only[List.contains_cons,Bool.or_eq_true,beq_iff_eq]at hi;rcases hi with rfl |hi
    ·exact⟨.row v bsz brows,by rw[hb,hbx];rfl,hbp⟩
    ·exact zI hex i hi
   have hcall:=hp;obtain⟨hp,hrd,hsub⟩:=HW (nid:=nid) (H:=s.H) hp hpure;have hlt:∀i∈ids,i<s.H.length:=fun i hi=>by
    grind
   have hblt:b<s.H.length:=(List.getElem?_eq_some_iff.1 hb).1
   let H':=mask ids s.H
   have hl':H'.length=s.H.length:=oD _ _;have hmb:(mask [b] H')[b]? =some ((c.blk x).kJ v):=by rw[zC (by simp),zC hbi];exact hb
   have hmd:∀b',b'≠b→∀y,(mask [b] H')[b']? =some y→y=.dead:=by
    intro b' hne y hy;rcases pg hy with⟨h1,_⟩ |⟨_,h2,_⟩
    ·grind
    ·exact h2
   have href:=bF.frame (bF.QX (c.ok n x q hx) (c.a0 x) (c.b0 x) (c.b1 x q) (c.r0 q) b v (mask [b] H') hmb hmd) (by omega)
   have horc:=yx (P:=P) (bF.wk (args:=args') (bF.but (b:=b) (by rw[he];exact href)))
   refine⟨_,horc,?_⟩;have hlen:(H'.set b ((c.rN x q).kJ v)).length=s.H.length:=by rw[List.length_set,oD]
   have hdrop:(H'.set b ((c.rN x q).kJ v)).drop s.H.length=[]:=List.drop_of_length_le (by rw[hlen];exact Nat.le_refl _)
   have hid:Cx (qh P X.cfg (b::ex.map (·.b)) (bX s.A) o.op)=(ids,rs):=by rw[hcall];rfl
   cases ho:c.out q with
   |ret u=>
    rw[ho]at hk;simp only[fU,dI,hid]at hk;refine⟨_,_,kk q,?_,hk,by simpa using hr⟩
    have happ:∀val news,news=[]→cr.apply {val:=val,dc:=ids.map fun i=>(i,(H'.set b ((c.rN x q).kJ v)).getD i .dead),news:=news} s.H=cr.apply {val:=u.yt b v,dc:=[(b,(c.rN x q).kJ v)]} s.H:=by
     intro val news hn;subst hn;simp only[cr.apply,List.append_nil,List.foldl_cons,List.foldl_nil,List.foldl_map];apply List.ext_getElem?;intro j;rw[uv,List.getElem?_set];by_cases hj:b=j
     ·grind
     ·grind [zC]
    unfold ej;rw[hw];simp only[hp,hrd,finish,eF,ct,od,and_self,if_true,aM.yt,ee,hlen,Nat.le_refl,hdrop,ite_self,kg,fU,dI,List.isEmpty_nil,Bool.not_true,H'];simp only[gx,vr];rw[happ _ _ rfl];simp_all
   |aR u=>
    rw[ho]at hk;have hfl:u.flat=true:=by have:=c.r0 q;rw[ho]at this;exact this
    simp only[hid]at hk;refine⟨_,_,kk q,?_,hk,by simpa using hr⟩
    unfold ej;rw[hw];simp only[hp,hrd,finish,eF,ct,od,and_self,if_true,aM.yt,ee,hfl,H'];simp only[gx,vr]
 ·rename_i pr g';obtain⟨hw,hpr,hc⟩:=h;simp only[G.run]at hr;have hpure:=zI hpr;split at hc
  ·rename_i f args ids rs hx;obtain⟨hp,hrd⟩:=J1 (nid:=nid) hpure hx;simp only[HX]at hp;simp only[ct]at hc;obtain⟨g2,a,H1,hk,hr2,hfn⟩:=hNe.fn hc hr;refine⟨_,yx hfn,?_⟩;rcases uA hk with⟨e,hm,hk⟩ |⟨v,hm,hk⟩
   ·simp only[fU,dI]at hk;refine⟨_,_,g2,?_,hk,hr2⟩;unfold ej;rw[hw];simp only[hp,hrd,finish,eF,ct,od,and_self,if_true,hm,kg,fU,dI];simp only[gx,vr]
   ·refine⟨_,_,g2,?_,hk,hr2⟩;unfold ej;rw[hw];simp only[hp,hrd,finish,eF,ct,od,and_self,if_true,hm];simp only[gx,vr]
  ·rename_i b args ids rs hx;obtain⟨hp,hrd⟩:=J1 (nid:=nid) hpure hx;simp only[HX]at hp;simp only[ct]at hc;obtain⟨g2,a,H1,hk,hr2,hfn⟩:=hNe.AY hc hr;refine⟨_,Mo hfn,?_⟩;rcases uA hk with⟨e,hm,hk⟩ |⟨v,hm,hk⟩
   ·simp only[fU,dI]at hk;refine⟨_,_,g2,?_,hk,hr2⟩;unfold ej;rw[hw];simp only[hp,hrd,finish,eF,ct,BE,and_self,if_true,hm,kg,fU,dI];simp only[gx,vr]
   ·refine⟨_,_,g2,?_,hk,hr2⟩;unfold ej;rw[hw];simp only[hp,hrd,finish,eF,ct,BE,and_self,if_true,hm];simp only[gx,vr]
  ·exact nomatch hc
 ·simp[G.run]at hr
 ·simp[G.run]at hr
 ·simp[G.run]at hr
 ·exact nomatch h
 ·exact nomatch h
theorem wZ{orc orc':Nat→iV}:∀(l:List (Oper×Nat)) (i:Nat) (s:St),(∀j,i≤j→orc j=orc' j)→jT P X.cfg orc ops n0 i l s=jT P X.cfg orc' ops n0 i l s
 | [],_,_,_=>rfl
 | (o,nid)::rest,i,s,h=>by
  simp only[jT,h i (Nat.le_refl _)];split
  ·rw[wZ rest (i+1) _ fun j hj=>h j (by omega)]
  ·rfl
  ·rfl
theorem Jk(hNe:nh P X.N){n:Nat}{ρ:Type}{r:ρ}{g:G P ρ}{H0:List aa}{k:G P ρ→dz→fK→Prop}(h:wv P X true H0 ops n0 o nid g s k)(hr:g.run n=some r):
 ∃orc,fL P orc∧∃res f g',ej P X.cfg orc ops n0 o nid s=some (res,f)∧k g' res f∧g'.run n=some r:=by
 unfold wv at h;grind [jW]
theorem Ef(hNe:nh P X.N){n:Nat}{ρ:Type}{r:ρ}{H0:List aa}:∀(l:List (Oper×Nat)) (i:Nat) (g:G P ρ) (s:St) (k:G P ρ→dz→List fK→Prop),yZ P X true H0 ops n0 l g s k→g.run n=some r→
 ∃orcs:Nat→iV,(∀j,fL P (orcs j))∧∃res fs g',jT P X.cfg orcs ops n0 i l s=some (res,fs)∧k g' res fs∧g'.run n=some r
 | [],i,g,s,k,h,hr=>⟨fun _=>uy,fun _=>qk,.ok s,[],g,rfl,h,hr⟩
 | (o,nid)::rest,i,g,s,k,h,hr=>by
  simp only[yZ]at h;obtain⟨g1,h,hr⟩:=kQ h hr;obtain⟨orc,ho,res,f,g2,hs,h,hr⟩:=Jk hNe h hr;cases res with
  |ok s'=>
   obtain⟨A,H,D⟩:=s';simp only[cU]at h;obtain⟨orcs,hos,res,fs,g3,hrun,hk,hr⟩:=Ef hNe rest (i+1) g2 _ _ h hr;refine⟨fun j=>if j=i then orc else orcs j,fun j=>(by grind:fL P (if j=i then orc else orcs j)),res,f::fs,g3,?_,hk,hr⟩
   grind [jT,wZ]
  |aR v s'=>
   exact⟨fun _=>orc,fun _=>ho,.aR v s',[f],g2,by simp only[jT,hs],h,hr⟩
theorem GQ(hNe:nh P X.N){n:Nat}{ρ:Type}{r:ρ}{H0:List aa}{g:G P ρ}{s:St}{k:G P ρ→dz→Prop}(h:qj P X H0 ops true g s k)(hr:g.run n=some r):
 ∃orcs:Nat→iV,(∀j,fL P (orcs j))∧∃res g',sD P X.cfg orcs ops true s=some res∧k g' res∧g'.run n=some r:=by
 simp only[qj,fT,o8]at h;obtain⟨orcs,ho,res,fs,g',hrun,hk,hr⟩:=Ef hNe _ 0 _ _ _ h hr;refine⟨orcs,ho,?_⟩;simp only[sD,fT,o8,hrun];grind
theorem F8(keep:List Nat):∀(A:List AVal) (i j:Nat),(vf keep i A)[j]? =(A[j]?).map fun a=>match keep.contains (i+j)with |true=>a |false=>.av
 | [],_,_=>by simp[vf]
 |a::as,i,0=>rfl
 |a::as,i,j+1=>by
  simp only[vf,List.getElem?_cons_succ];rw[F8 keep as (i+1) j,show i+1+j=i+(j+1)by omega]
theorem Pm{g:Gh}{w:World}{keep:List Nat}{A:List AVal}{vs:List Value}(h:RL g w A vs):RL g w (vf keep 0 A) vs:=by
 obtain⟨h1,h2⟩:=cK _ _ h;have hlen:(vf keep 0 A).length=A.length:=by
  have:∀(A:List AVal) (i:Nat),(vf keep i A).length=A.length:=by
   intro A;induction A with
   |nil=>intro i;rfl
   |cons a as ih=>intro i;simp[vf,ih]
  exact this A 0
 grind [sX,F8,R]
theorem HY:∀{l:List PU} {H:List aa},JY l H→BA (l.map (·.b)) H
 | [],_,_=>fun _ h=>by simp at h
 |p::ps,H,h=>by
  intro b hb x hx;simp only[List.map_cons,List.mem_cons]at hb;rcases hb with rfl |hb
  ·rw[h.1]at hx;cases hx;exact p.pf
  ·exact HY h.2 b hb x hx
theorem J2:∀(l:List AVal),(lT l).length=l.length
 | []=>rfl
 |_::l=>by simp[lT,J2 l]
theorem Mq{g:Gh}{w:World}:∀(l:List (List AVal)) (k o sz:Nat),RR g w l k o sz→RR g w (l.map lT) k o sz
 | [],_,_,_,_=>by simp[RR]
 |r::rs,k,o,sz,h=>by
  simp only[RR,List.map_cons]at h ⊢;exact⟨⟨by rw[J2];exact h.1.1,rL _ h.1.2.1,HT _ _ _ h.1.2.2⟩,Mq rs k (o+sz) sz h.2⟩
theorem NW{g:Gh}{w:World}{rows:List (List AVal)}{x:Value}(h:R g w (.aC rows) x):R g w (.aC (rows.map lT)) x:=by
 simp only[R,List.length_map]at h ⊢;obtain⟨a,cap,e,h1,h2⟩:=h;refine⟨a,cap,e,h1,?_⟩;rcases h2 with h2 |⟨k,off,sz,ha,hr⟩
 ·exact .inl h2
 ·exact .inr ⟨k,off,sz,ha,Mq _ _ _ _ hr⟩
theorem cB{H0:List aa}:∀{ts:List TS} {s:St} {k:St→Prop},aK ts=true→iK H0 ts s k→∃s',gD H0 s s'∧k s'
 | [],s,k,_,h=>⟨s,.refl _ _,h⟩
 | .keep l::ts,s,k,hok,h=>by
  simp only[iK,cU]at h;obtain⟨s',h1,h2⟩:=cB (by simpa only[aK]using hok) h
  exact⟨s',gD.trans (s1:={s with A:=vf l 0 s.A}) (fun _ _ g a w _ hl hs=>⟨g,⟨hs.inv,Pm hs.tmps,hs.defs⟩,hl⟩) h1,h2⟩
 | .wk p::ts,s,k,hok,h=>by
  simp only[iK]at h;split at h
  ·rename_i s1 hw;obtain⟨s',h1,h2⟩:=cB (by simpa only[aK]using hok) h
   exact⟨s',(NP hw).trans h1,h2⟩
  ·exact h.elim
 | .own p sz::ts,s,k,hok,h=>by
  simp only[iK]at h;split at h
  ·rename_i s1 hw;obtain⟨s',h1,h2⟩:=cB (by simpa only[aK]using hok) h
   exact⟨s',(Ml hw).trans h1,h2⟩
  ·exact h.elim
 | .fP z::ts,s,k,hok,h=>by
  simp only[iK]at h;simp only[aK,Bool.and_eq_true,decide_eq_true_eq]at hok;obtain⟨q1,q2,h⟩:=h;split at h
  ·rename_i s1 hw;obtain⟨s',h1,h2⟩:=cB hok.2 h;exact⟨s',(Mm ⟨z.b,z.aj,z.sz,by rw[q1,hok.1],q2,z.pf⟩ hw).trans h1,h2⟩
  ·exact h.elim
 | .OP z::ts,s,k,hok,h=>by
  simp only[iK]at h;obtain⟨q1,h⟩:=h;obtain⟨s',h1,h2⟩:=cB (by simpa only[aK]using hok) h
  refine⟨s',gD.trans (s1:=Ar s (.aC z.rows') z.p) (fun _ _ g a w _ hl hs=>?_) h1,h2⟩
  obtain⟨p1,p2⟩:=wu q1 hs (v':=.aC z.rows') fun x hx=>by rw[← z.pf];exact NW hx
  exact⟨g,p1,hl.trans p2⟩
 | .cut bl bump pu::ts,s,k,hok,h=>by
  simp only[iK,cU]at h;obtain⟨q1,h⟩:=h;split at h
  ·rename_i A H D hw;obtain⟨s',h1,h2⟩:=cB (by simpa only[aK]using hok) h
   exact⟨s',(NN (HY q1) hw).trans h1,h2⟩
  ·exact h.elim
theorem Jl(hNe:nh P X.N){n:Nat}{ρ:Type}{r:ρ}{g:G P ρ}{H0:List aa}{k:G P ρ→dz→fK→Prop}(h:wv P X false H0 ops n0 o nid g s k)(hr:g.run n=some r):
 ∃s2,gD H0 s s2∧∃orc,fL P orc∧∃res f g',ej P X.cfg orc ops n0 o nid s2=some (res,f)∧k g' res f∧g'.run n=some r:=by
 unfold wv at h;split at h
 ·grind [G.run,cB,jW]
 ·exact⟨s,.refl _ _,jW hNe h hr⟩
theorem Eg(hNe:nh P X.N){n:Nat}{ρ:Type}{r:ρ}{H0:List aa}:∀(l:List (Oper×Nat)) (i:Nat) (g:G P ρ) (s:St) (k:G P ρ→dz→List fK→Prop),yZ P X false H0 ops n0 l g s k→g.run n=some r→
 (∀(j:Nat),(l[j]?).map (fun(p:Oper×Nat)=>p.1)=(ops.toList.drop i)[j]?)→∃g' res fs,k g' res fs∧g'.run n=some r∧
 ∀(fro:Option Nat),(∀(k:Nat) (o:Oper),ops[k]? =some o→Calm fro o)→∀(gg:Gh) (ww:World) (Q:Exit→Act→World→Prop),Inv gg H0 ww→∀(g1:Gh) (a:Act) (w:World),dF g1 s a w→aO gg H0 ww g1 s.H w→oE Q gg H0 ww res→wpOpsIn (Fr fro) 0 P ops Q (List.range' i l.length) a w
 | [],i,g,s,k,h,hr,_=>⟨g,.ok s,[],h,hr,fun _ _ _ _ _ _ g1 a w hs hl hp=>hp g1 a w hs hl⟩
 | (o,nid)::rest,i,g,s,k,h,hr,hj=>by
  have hi:ops[i]? =some o:=by
   have:=hj 0;simp at this;exact this.symm
  simp only[yZ]at h;obtain⟨g',h,hr⟩:=kQ h hr;obtain⟨s2,hw2,orc,ho,res,f,g3,hst,h,hr⟩:=Jl hNe h hr;cases res with
  |ok s'=>
   obtain⟨A,H,D⟩:=s';simp only[cU]at h;obtain⟨g4,res4,fs4,hk4,hr4,hwp⟩:=Eg hNe rest (i+1) g3 ⟨A,H,D⟩ _ h hr (fun j=>by
    have:=hj (j+1);grind)
   refine⟨g4,res4,_,hk4,hr4,fun fro hcalm gg ww Q hi0 g1 a w hs hl hp=>?_⟩
   simp only[List.length_cons,List.range'_succ,wpOpsIn_cons];obtain⟨g2,hs2,hl2⟩:=hw2 gg ww g1 a w hi0 hl hs;exact nM ho hs2 hi (hcalm i o hi) hst fun g5 a' w' hs' hla=>hwp fro hcalm gg ww Q hi0 g5 a' w' hs' (hl2.trans hla) hp
  |aR v s'=>
   refine⟨g3,.aR v s',_,h,hr,fun fro hcalm gg ww Q hi0 g1 a w hs hl hp=>?_⟩
   simp only[List.length_cons,List.range'_succ,wpOpsIn_cons];obtain⟨g2,hs2,hl2⟩:=hw2 gg ww g1 a w hi0 hl hs;exact nM ho hs2 hi (hcalm i o hi) hst fun g' w' x hv hs' hla hx=>hp g' a w' x hv hs' (hl2.trans hla) hx
theorem GR(hNe:nh P X.N){H0:List aa}{n:Nat}{ρ:Type}{r:ρ}{id:Nat}{g:G P ρ}{s:St}{k:G P ρ→dz→Prop}(h:qj P X H0 ops false g s k)(hr:g.run n=some r):
 ∃g' res,k g' res∧g'.run n=some r∧∀(fro:Option Nat),(∀(k:Nat) (o:Oper),ops[k]? =some o→Calm fro o)→∀(gg:Gh) (ww:World),Inv gg H0 ww→dR P fro gg H0 ww (.region id ops false) s fun o s'=>o=(Cv res).1∧s'=(Cv res).2:=by
 simp only[qj,fT,o8]at h;generalize (if kZ ops.toList=0 then 0 else nI s.H)=t0 at h
 generalize kZ ops.toList - t0=m0 at h;generalize s.H.length - t0=f0 at h;obtain⟨g',res,fs,hk,hr',hwp⟩:=Eg hNe _ 0 _ _ _ h hr (fun j=>by rw[pn];simp)
 simp only[Bool.not_false,if_true]at hk;refine⟨g',res,hk,hr',fun fro hcalm gg ww hi0 Q g1 a w hs hl hp=>?_⟩
 obtain⟨i1,i2⟩:=hs.inv.reserve m0;have hs0:dF g1 {s with H:=s.H++List.replicate m0 .aV} a w:=⟨i1,hs.tmps,hs.defs⟩;refine wpIn_region ?_;rw[List.range_eq_range'];have:=hwp fro hcalm gg ww Q hi0 g1 a w hs0 (hl.trans i2) (by
  have:=hp _ _ ⟨rfl,rfl⟩;cases res with
  |ok s'=>exact this
  |aR v s'=>exact this)
 grind [th]
theorem Au{H0:List aa}{n:Nat}{ρ:Type}{r:ρ}{g:G P ρ}{s:St}{k:G P ρ→St→Prop}(h:Dx H0 g s k)(hr:g.run n=some r):∃s' g',gD H0 s s'∧k g' s'∧g'.run n=some r:=by
 unfold Dx at h;split at h
 ·grind [G.run,cB]
 ·exact⟨s,g,.refl _ _,h,hr⟩
theorem F9{n:Nat}{σ:Type}{sh:Sh}{H0:List aa}{E:σ→St}{X:sh.El→aX×St}{g:G P (σ⊕sh.El)}{o:aX}{s:St}{q:σ⊕sh.El}(h:ng H0 E X g o s)(hr:g.run n=some q):
 ∃s',gD H0 s s'∧match q with | .inl a=>o=.normal∧s'=E a | .inr t=>o≠ .normal∧(o,s')=X t:=by
 unfold ng at h;split at h
 ·grind [G.run,cB]
 ·grind [G.run,cB]
 ·simp[G.run]at hr
 ·exact nomatch h
def HZ(P:Program)[aB](H0:List aa)(ro:Option Nat)(b:Code):Nat→St→aX→St→Prop
 | 0,_,_,_=>False
 |n+1,s,o,s'=>∃o1 s1,(∀fro g0 w0,Inv g0 H0 w0→mz g0 ro fro→dR P fro g0 H0 w0 b s fun o2 s2=>o2=o1∧s2=s1)∧
  match o1 with
  | .normal=>HZ P H0 ro b n s1 o s'
  |o1=>o1=o∧s1=s'
theorem Ga{ro:Option Nat}{H0:List aa}{b:Code}{n:Nat}{ρ:Type}{r:ρ}{k:G P ρ→aX→St→Prop}
 (ih:∀(g:G P ρ) (s:St) (k:G P ρ→aX→St→Prop),iI P X H0 b g s k→g.run n=some r→∃g' o s',k g' o s'∧g'.run n=some r∧∀fro g0 w0,Inv g0 H0 w0→mz g0 ro fro→dR P fro g0 H0 w0 b s fun o1 s1=>o1=o∧s1=s'):
 ∀(m:Nat) (g:G P ρ) (s:St),Cy (fun g s k=>iI P X H0 b g s k) m g s k→g.run n=some r→∃g' o s',k g' o s'∧g'.run n=some r∧o≠ .normal∧HZ P H0 ro b m s o s'
 | 0,_,_,h,_=>h.elim
 |m+1,g,s,h,hr=>by
  simp only[Cy]at h;obtain⟨g1,o1,s1,hk,hr1,hd⟩:=ih g s _ h hr;cases o1 with
  |normal=>
   obtain⟨g',o,s',h1,h2,h3,h4⟩:=Ga ih m g1 s1 hk hr1;exact⟨g',o,s',h1,h2,h3,.normal,s1,hd,h4⟩
  |exit id=>exact⟨g1,_,s1,hk,hr1,(fun h=>(by cases h)),_,s1,hd,rfl,rfl⟩
  |ret=>exact⟨g1,_,s1,hk,hr1,(fun h=>(by cases h)),_,s1,hd,rfl,rfl⟩
  |aR v=>exact⟨g1,_,s1,hk,hr1,(fun h=>(by cases h)),_,s1,hd,rfl,rfl⟩
theorem uB{ro fro:Option Nat}{g0:Gh}{ops:Array Oper}(hro:mz g0 ro fro)(h:(ro.isSome&&ops.toList.any zA)=false):∀(k:Nat) (o:Oper),ops[k]? =some o→Calm fro o:=by
 intro k o hk;cases ro with
 |none=>
  cases fro with
  |none=>exact .inl rfl
  |some k=>exact hro.elim
 |some b=>
  right;grind
theorem dR.post{fro:Option Nat}{g0:Gh}{H0:List aa}{w0:World}(hi0:Inv g0 H0 w0){c:Code}{s s1 s2:St}{o:aX}(hw:gD H0 s1 s2)(h:dR P fro g0 H0 w0 c s fun o1 s'=>o1=o∧s'=s1):
 dR P fro g0 H0 w0 c s fun o1 s'=>o1=o∧s'=s2:=
 fun Q g a w hs hl hk=>h Q g a w hs hl fun o' s' ⟨e1,e2⟩=>by grind [dQ.weak]
theorem Gb{H0:List aa}{sh:Sh}{Y:sh.El→aX×St}{n:Nat}{g:G P sh.El}{o:aX}{s:St}{t:sh.El}(h:Cz H0 Y g o s)(hr:g.run n=some t):∃s',gD H0 s s'∧(o,s')=Y t:=by
 unfold Cz at h;split at h
 ·grind [G.run,cB]
 ·simp[G.run]at hr
 ·exact nomatch h
theorem J3{ρ:Type}{n:Nat}{f:FuncId}{args:List AVal}{H:List aa}{c:tu P}{x:c.X}{kk:c.sh.El→G P ρ}{k:G P ρ→aM→List aa→Prop}{r:ρ}(h:KT P f args H c x kk k)(hr:(G.fM c x kk).run n=some r):
 ∃g' a H1,k g' a H1∧g'.run n=some r∧bF P f args H a H1:=by
 obtain⟨_,he,h⟩:=h;simp only[Option.some.injEq,Prod.mk.injEq]at he;obtain⟨rfl,ha,rfl⟩:=he;obtain⟨q,hq,hr⟩:=Option.bind_eq_some_iff.1 (show(c.S n x).bind (fun q=>(kk q).run n)=some r from hr)
 refine⟨kk q,c.out q,c.fE x q,(c.sh.bO _).1 h q,hr,bF.wk ?_⟩;rw[ha];exact c.ok n x q hq
theorem uC:nh P (rD P):=by
 refine⟨fun h hr=>?_,fun h=>h.elim,fun h=>h.elim⟩
 simp only[rD]at h;split at h
 ·exact J3 h hr
 ·exact h.elim
theorem QY(hNe:nh P X.N)(draw:Bool):nh P (X.at draw).N:=by
 grind [Env.at,uC]
theorem Qc(draw:Bool):(X.at draw).cfg=X.cfg:=by unfold Env.at;split<;>rfl
theorem Gc(hNe:nh P X.N){H0:List aa}{n:Nat}{σ:Type}{sh:Sh}{b:Code}{E:σ→St}{s:St}{Y:sh.El→aX×St}{q:σ⊕sh.El}{f:G P (σ⊕sh.El)→Prop}
 (ih:∀g,f g→g.run n=some q→∃(g':G P (σ⊕sh.El)) (o:aX) (s':St),ng H0 E Y g' o s'∧g'.run n=some q∧∀fro g0 w0,Inv g0 H0 w0→mz g0 X.ro fro→dR P fro g0 H0 w0 b s fun o1 s1=>o1=o∧s1=s')
 {g:G P (σ⊕sh.El)} (h:CB X.N X.ro H0 b E s Y g f) (hr:g.run n=some q):
 ∃(g':G P (σ⊕sh.El)) (o:aX) (s':St),ng H0 E Y g' o s'∧g'.run n=some q∧∀fro g0 w0,Inv g0 H0 w0→mz g0 X.ro fro→dR P fro g0 H0 w0 b s fun o1 s1=>o1=o∧s1=s':=by
 unfold CB at h;split at h
 ·exact hNe.lp h (by simpa[G.run]using hr)
 ·exact ih _ h hr
theorem wI(hm:P.follows .mixedOrders=true)(hNe:nh P X.N){H0:List aa}{n:Nat}:∀(c:Code) {ρ:Type} (r:ρ) (g:G P ρ) (s:St) (k:G P ρ→aX→St→Prop),iI P X H0 c g s k→g.run n=some r→
 ∃g' o s',k g' o s'∧g'.run n=some r∧∀fro g0 w0,Inv g0 H0 w0→mz g0 X.ro fro→dR P fro g0 H0 w0 c s fun o1 s1=>o1=o∧s1=s':=by
 intro c;induction c with
 |skip=>intro ρ r g s k h hr;exact⟨g,.normal,s,h,hr,fun _ _ _ _ _=>.skip ⟨rfl,rfl⟩⟩
 |region id ops draw=>
  intro ρ r g s k h hr;simp only[iI]at h;split at h
  ·exact h.elim
  rename_i hoff;obtain⟨s1,g1,hw,h,hr⟩:=Au h hr;cases draw with
  |false=>
   obtain⟨g',res,hk,hr',hd⟩:=GR hNe (id:=id) h hr;cases res with
   |ok s'=>exact⟨g',.normal,s',hk,hr',fun fro g0 w0 hi hro=>.weak hi hw (hd fro (uB hro hoff) g0 w0 hi)⟩
   |aR v s'=>exact⟨g',.aR v,s',hk,hr',fun fro g0 w0 hi hro=>.weak hi hw (hd fro (uB hro hoff) g0 w0 hi)⟩
  |true=>
   obtain⟨orcs,ho,res,g',hreg,h,hr⟩:=GQ (QY hNe true) h hr;rw[Qc]at hreg;cases res with
   |ok s'=>exact⟨g',.normal,s',h,hr,fun fro g0 w0 hi hro=>.weak hi hw (.region hm ho (uB hro hoff) hreg ⟨rfl,rfl⟩)⟩
   |aR v s'=>exact⟨g',.aR v,s',h,hr,fun fro g0 w0 hi hro=>.weak hi hw (.region hm ho (uB hro hoff) hreg ⟨rfl,rfl⟩)⟩
 |seq a b iha ihb=>
  intro ρ r g s k h hr;simp only[iI]at h;obtain⟨g1,o1,s1,h1,hr1,d1⟩:=iha r g s _ h hr;cases o1 with
  |normal=>
   obtain⟨g2,o2,s2,h2,hr2,d2⟩:=ihb r g1 s1 k h1 hr1;refine⟨g2,o2,s2,h2,hr2,fun fro g0 w0 hi hro=>.seq ((d1 fro g0 w0 hi hro).mono fun o s' ⟨e1,e2⟩=>?_)⟩
   grind
  |exit id=>exact⟨g1,_,s1,h1,hr1,fun fro g0 w0 hi hro=>.seq ((d1 fro g0 w0 hi hro).mono fun o s' ⟨e1,e2⟩=>by grind)⟩
  |ret=>exact⟨g1,_,s1,h1,hr1,fun fro g0 w0 hi hro=>.seq ((d1 fro g0 w0 hi hro).mono fun o s' ⟨e1,e2⟩=>by grind)⟩
  |aR v=>exact⟨g1,_,s1,h1,hr1,fun fro g0 w0 hi hro=>.seq ((d1 fro g0 w0 hi hro).mono fun o s' ⟨e1,e2⟩=>by grind)⟩
 |cond c a b iha ihb=>
  have main:∀{ρ:Type} (r:ρ) (g:G P ρ) (s:St) (k:G P ρ→aX→St→Prop),CA P X H0 c a b (fun g s k=>iI P X H0 a g s k) (fun g s k=>iI P X H0 b g s k) g s k→g.run n=some r→
   ∃g' o s',k g' o s'∧g'.run n=some r∧∀fro g0 w0,Inv g0 H0 w0→mz g0 X.ro fro→dR P fro g0 H0 w0 (.cond c a b) s fun o1 s1=>o1=o∧s1=s':=by
   intro ρ r g s k h hr;unfold CA at h;obtain⟨s1,g1,hw,h,hr⟩:=Au h hr;obtain⟨g1,h,hr⟩:=kQ h hr;split at h
   ·rename_i m g2;have hr2:(G.less m g2).run n=some r:=by rw[G.HU];simpa[G.run]using hr
    split at h
    ·rename_i hc;obtain⟨g',o,s',h1,h2,d⟩:=iha r _ _ k h hr2;exact⟨g',o,s',h1,h2,fun fro g0 w0 hi hro=>.weak hi hw (.cond true hc (d fro g0 w0 hi hro))⟩
    ·rename_i hc;obtain⟨g',o,s',h1,h2,d⟩:=ihb r _ _ k h hr2;exact⟨g',o,s',h1,h2,fun fro g0 w0 hi hro=>.weak hi hw (.cond false hc (d fro g0 w0 hi hro))⟩
    ·exact h.elim
   ·simp[G.run]at hr
   ·exact nomatch h
  intro ρ r g s k h hr;simp only[iI]at h;split at h
  ·rename_i sh Y g1 kk;obtain⟨t,ht,hr⟩:=Option.bind_eq_some_iff.1 (show(g1.run n).bind (fun t=>(kk t).run n)=some r from hr)
   obtain⟨g',o,s',h1,h2,d⟩:=main t g1 s _ h.1 ht;obtain⟨s'',hw,e⟩:=Gb h1 h2;have e1:o=(Y t).1:=congrArg Prod.fst e;have e2:s''=(Y t).2:=congrArg Prod.snd e;refine⟨kk t,(Y t).1,(Y t).2,(sh.bO _).1 h.2 t,hr,fun fro g0 w0 hi hro=>?_⟩
   rw[← e1,← e2];exact(d fro g0 w0 hi hro).post hi hw
  ·exact main r g s k h hr
 |block id b ih=>
  have main:∀{ρ:Type} (r:ρ) (g:G P ρ) (s:St) (k:G P ρ→aX→St→Prop),iI P X H0 b g s (zF id k)→g.run n=some r→
   ∃g' o s',k g' o s'∧g'.run n=some r∧∀fro g0 w0,Inv g0 H0 w0→mz g0 X.ro fro→dR P fro g0 H0 w0 (.block id b) s fun o1 s1=>o1=o∧s1=s':=by
   intro ρ r g s k h hr;obtain⟨g1,o1,s1,h1,hr1,d1⟩:=ih r g s _ h hr;refine⟨g1,behind id o1,s1,?_,hr1,fun fro g0 w0 hi hro=>.block ((d1 fro g0 w0 hi hro).mono fun o s' ⟨e1,e2⟩=>by grind)⟩
   unfold zF at h1;cases o1 with
   |exit id'=>
    grind [behind]
   |normal=>exact h1
   |ret=>exact h1
   |aR v=>exact h1
  intro ρ r g s k h hr;simp only[iI]at h;split at h
  ·rename_i sh Y g1 kk;obtain⟨t,ht,hr⟩:=Option.bind_eq_some_iff.1 (show(g1.run n).bind (fun t=>(kk t).run n)=some r from hr)
   obtain⟨g',o,s',h1,h2,d⟩:=main t g1 s _ h.1 ht;obtain⟨s'',hw,e⟩:=Gb h1 h2;have e1:o=(Y t).1:=congrArg Prod.fst e;have e2:s''=(Y t).2:=congrArg Prod.snd e;refine⟨kk t,(Y t).1,(Y t).2,(sh.bO _).1 h.2 t,hr,fun fro g0 w0 hi hro=>?_⟩
   rw[← e1,← e2];exact(d fro g0 w0 hi hro).post hi hw
  ·exact main r g s k h hr
 |loop b ih=>
  intro ρ r g s k h hr;simp only[iI]at h;split at h
  ·rename_i m g1;simp only[G.run]at hr;obtain⟨g',o,s',h1,h2,hne,hrd⟩:=Ga (ro:=X.ro) (fun g s k h hr=>ih r g s k h hr) m g1 s h hr
   refine⟨g',o,s',h1,h2,fun fro g0 w0 hi hro=>.loop hi (n:=m) (s0:=s) (fun m s=>HZ P H0 X.ro b m s o s') (fun s h=>h.elim) (.refl _ _) hrd ?_⟩
   rintro m s1 ⟨o1,s2,hd,hx⟩;refine(hd fro g0 w0 hi hro).mono fun o3 s3 ⟨e1,e2⟩=>?_
   subst e1;subst e2;refine⟨s3,.refl _ _,?_⟩;grind
  ·rename_i σ sh hd E Y a0 body kk;obtain⟨h0,hb,hx⟩:=h;simp only[G.run,Option.ite_none_right_eq_some]at hr;obtain⟨hok,hr⟩:=hr;cases ht:bI (fun a=>(body a).run n) n a0 with
   |none=>rw[ht]at hr;cases hr
   |some t=>
    rw[ht]at hr;have hx:=(sh.bO _).1 hx t;obtain⟨_,h0,rfl⟩:=cB hok h0;refine⟨kk t,(Y t).1,(Y t).2,hx,by simpa using hr,fun fro g0 w0 hi hro=>.loop hi (n:=n) (s0:=E a0) (fun m s1=>∃a,s1=E a∧bI (fun a=>(body a).run n) m a=some t) (fun s ⟨a,_,h⟩=>by simp[bI]at h) h0 ⟨a0,rfl,ht⟩ ?_⟩
    rintro m s1 ⟨a,rfl,hit⟩;simp only[bI]at hit;cases hq:(body a).run n with
    |none=>rw[hq]at hit;cases hit
    |some q=>
     rw[hq]at hit;obtain⟨g',o',s',h',hr',d'⟩:=Gc hNe (fun g h hr=>ih q g (E a) _ h hr) (hb a) hq
     refine(d' fro g0 w0 hi hro).mono fun o2 s2 ⟨e1,e2⟩=>?_
     grind [F9]
  ·rename_i hsh sh hd E Y a0 body kk;obtain⟨h0,hb,hx⟩:=h;have hb:=(hsh.bO _).1 hb;simp only[G.run,Option.ite_none_right_eq_some]at hr;obtain⟨hok,hr⟩:=hr;cases ht:bI (fun a=>(body a).run n) n a0 with
   |none=>rw[ht]at hr;cases hr
   |some t=>
    rw[ht]at hr;have hx:=(sh.bO _).1 hx t;obtain⟨_,h0,rfl⟩:=cB hok h0;refine⟨kk t,(Y t).1,(Y t).2,hx,by simpa using hr,fun fro g0 w0 hi hro=>.loop hi (n:=n) (s0:=E a0) (fun m s1=>∃a,s1=E a∧bI (fun a=>(body a).run n) m a=some t) (fun s ⟨a,_,h⟩=>by simp[bI]at h) h0 ⟨a0,rfl,ht⟩ ?_⟩
    rintro m s1 ⟨a,rfl,hit⟩;simp only[bI]at hit;cases hq:(body a).run n with
    |none=>rw[hq]at hit;cases hit
    |some q=>
     rw[hq]at hit;obtain⟨g',o',s',h',hr',d'⟩:=Gc hNe (fun g h hr=>ih q g (E a) _ h hr) (hb a) hq
     refine(d' fro g0 w0 hi hro).mono fun o2 s2 ⟨e1,e2⟩=>?_
     grind [F9]
  ·simp[G.run]at hr
  ·exact nomatch h
 |exit id=>intro ρ r g s k h hr;exact⟨g,_,s,h,hr,fun _ _ _ _ _=>.exit ⟨rfl,rfl⟩⟩
 |ret=>intro ρ r g s k h hr;exact⟨g,_,s,h,hr,fun _ _ _ _ _=>.ret ⟨rfl,rfl⟩⟩
 |rangeFunc x ps as bd=>
  intro ρ r g s k h hr;simp only[iI]at h;obtain⟨s1,g1,hw,h,hr⟩:=Au h hr;split at h
  ·rename_i pr g2;obtain⟨_,h⟩:=h;simp only[G.run]at hr;split at h
   ·rename_i f p q hf;split at h
    ·rename_i l H1 D1 hen;rw[cU]at h;obtain⟨hpr,h⟩:=h;split at h
     ·rename_i ids rs hcl;simp only[ct]at h;obtain⟨hq,_⟩:=nN (zI hpr) _ _ _ _ _ hcl;obtain⟨g3,a,H2,hk,hr3,hfn⟩:=hNe.fn h hr;have ho:=yx hfn;have hran:∀out s',zz (od f (p++[.gZ l]++q) (mask ids H1) a H2) X.ro 0 (bX s1.A x) ps as bd s1=some (out,s')→∀fro g0 w0,Inv g0 H0 w0→mz g0 X.ro fro→dR P fro g0 H0 w0 (.rangeFunc x ps as bd) s fun o1 s1=>o1=out∧s1=s':=by
       intro out s' hra fro g0 w0 hi hro;refine .weak hi hw fun Q g a w hs hl hp=>?_
       exact CZ ho (hro.mono hl.ext) hra hs ((hp out s' ⟨rfl,rfl⟩).later hl)
      rcases uA hk with⟨e,hm,hk⟩ |⟨v,hm,hk⟩
      ·simp only[dI]at hk;split at hk
       ·rename_i out s' hend;refine⟨g3,out,s',hk,hr3,hran out s' ?_⟩;simp only[zz,hf,hen,cU,hq,finish,eF,ct,od,and_self,if_true,hm,kg,dI,hend]
       ·exact hk.elim
      ·refine⟨g3,_,_,hk,hr3,hran _ _ ?_⟩;simp only[zz,hf,hen,cU,hq,finish,eF,ct,od,and_self,if_true,hm]
     ·exact h.elim
    ·exact h.elim
   ·exact h.elim
  ·simp[G.run]at hr
  ·exact nomatch h
 |_=>intro ρ r g s k h hr;exact h.elim
theorem jD{F:Fence}{fn:Func}{tmps:Array Value}{R R':Ending→World→Prop}(hR:∀e w,R e w→R' e w):∀{ds:List Deferred} {m:Nat} {u:FrameMode} {w:World},LeavesInM F m P fn tmps R ds u w→LeavesInM F m P fn tmps R' ds u w
 | [],m,u,w,h=>by
  cases u with
  |run=>exact h
  |returning=>obtain⟨v,h1,h2⟩:=h;exact⟨v,h1,hR _ _ h2⟩
  |panicking chain=>exact hR _ _ h
 |d::ds,m,u,w,h=>by
  obtain⟨hrun,h⟩:=h;refine⟨hrun,?_⟩;rcases h with⟨r,w',htar,htake,hrest⟩ |⟨hn,fv,cap,f,args,htar,hinv,hlead,hcall⟩
  ·exact .inl ⟨r,w',htar,htake,jD hR hrest⟩
  ·refine .inr ⟨hn,fv,cap,f,args,htar,hinv,hlead,hcall.mono fun e u' w' h=>?_⟩
   cases e with
   |returned v=>exact jD hR h
   |panicked chain=>exact jD hR h
   |outgrown=>exact hR _ _ h
theorem Gd{L:Nat}{fn:Func}{m:Option AVal}{s:St}{r':aM}{H1:List aa}(h:wz P cfg L fn m s=some (r',H1)):
 ∃m' H' r,leave P cfg uy L s.D m s.H=some (m',H')∧ending P fn s.A m' H'=some (r,H1)∧(∀v,r=.ret v→r'=.ret (iP v))∧(∀v,r=.aR v→r'=.aR v):=by
 grind [wz]
theorem bF.of(hm : P.follows .mixedOrders = true)(hN : ∀ (f : FuncId) (fn : Func), P.funcs[f]? = some fn → fn.name ≠ "runtime.NumGoroutine"){L : Nat}{f : FuncId}{fn : Func}{c : Code}{args : List AVal}{H0 H1 : List aa}{a : aM}{o : aX}{s s' : St}
 (hf:P.funcs[f]? =some fn) (hb:fn.body=some c) (hd:∀g0 w0,Inv g0 H0 w0→dR P none g0 H0 w0 c ⟨kH fn.ntmps args,H0,[]⟩ fun o1 s1=>o1=o∧s1=s) (hwk:gD H0 s s') (hlo:pz P cfg L fn o s'=some (a,H1)):bF P f args H0 a H1:=by
 refine⟨⟨fn,c,hf,hb,hN f fn hf⟩,fun gh w vs hi hl=>callsIn_wide.1 (callsIn_of_wp_marks (F:=Fr none) (n:=0) hf hb trivial ?_)⟩
 have hsim:dF gh ⟨kH fn.ntmps args,H0,[]⟩ {tmps:=vs++Array.replicate (fn.ntmps - vs.size) undef,defers:=[]} w:=⟨hi,ux hl _,rfl⟩;refine hd gh w hi _ gh _ w hsim (aO.refl _ _ _) fun o1 s1 ⟨e1,e2⟩=>?_
 subst e1;subst e2;refine dQ.weak hi hwk ?_;have key:∀(m:Option AVal) (u:FrameMode),wz P cfg L fn m s'=some (a,H1)→∀g' a' w',dF g' s' a' w'→aO gh H0 w g' s'.H w'→lR g' w' m u→
  LeavesInM (Fr none) 0 P fn a'.tmps (dJ gh H0 w a H1) a'.defers u w':=by
  intro m u hla g' a' w' hs' hlat hmo;obtain⟨m',H',rr,h1,h2,h3,h4⟩:=Gd hla;refine jD ?_ (jN hm hN qk s'.D a'.defers m u s'.H g' w' m' H' hs'.defs hs'.inv hs'.tmps hmo h1 h2 hlat);rintro e w2 ⟨g2,hi2,hla2,he2⟩;refine⟨g2,hi2,hla2,?_⟩;cases rr with
  |ret v=>rw[h3 v rfl];obtain⟨x,rfl,hx⟩:=he2;exact⟨x,rfl,Ea _ _ hx⟩
  |aR v=>rw[h4 v rfl];exact he2
 cases o1 with
 |normal=>exact fun g' a' w' hs' hlat=>key none .returning hlo g' a' w' hs' hlat rfl
 |ret=>exact fun g' a' w' hs' hlat=>key none .returning hlo g' a' w' hs' hlat rfl
 |exit id=>simp[pz]at hlo
 |aR v=>exact fun g' a' w' x hv hs' hlat hrx=>key (some v) (.panicking [{v:=x,recovered:=false}]) hlo g' a' w' hs' hlat ⟨hv,x,rfl,hrx⟩
theorem Av{L:Nat}{fn:Func}{m:Option AVal}{s:St}{a:aM}{H1:List aa}(h:wz P cfg L fn m s=some (a,H1)):∀v,a=.aR v→v.flat=true:=by
 grind [wz]
theorem C6{L:Nat}{fn:Func}{o:aX}{s:St}{a:aM}{H1:List aa}(h:pz P cfg L fn o s=some (a,H1)):∀v,a=.aR v→v.flat=true:=by
 cases o with
 |normal=>exact Av h
 |ret=>exact Av h
 |exit id=>simp[pz]at h
 |aR v=>exact Av h
theorem Aw{nd : Bool}(hm : P.follows .mixedOrders = true)(hN : ∀ (f : FuncId) (fn : Func), P.funcs[f]? = some fn → fn.name ≠ "runtime.NumGoroutine") : ∀ d, nh P (jo P cfg nd d)
 | 0=>⟨fun h=>h.elim,fun h=>h.elim,fun h=>h.elim⟩
 |d+1=>by
  have ih:=Aw (nd:=nd) hm hN d;constructor
  ·intro ρ n f args H g k r h hr;simp only[jo,OR]at h;split at h
   ·exact J3 h hr
   split at h
   ·rename_i fn hf;split at h
    ·rename_i c hb;obtain⟨g1,o,s1,h,hr,hd⟩:=wI (X:=⟨cfg,none,jo P cfg nd d,nd⟩) hm ih c r g _ _ h hr;unfold NT at h;split at h
     ·rename_i ts pr g2;simp only[G.run,Option.ite_none_right_eq_some]at hr;obtain⟨s',hw,h⟩:=cB hr.1 h;split at h
      ·rename_i a H1 hla;have hfn:=bF.of hm hN hf hb (fun g0 w0 hi=>hd none g0 w0 hi trivial) hw hla
       obtain⟨_,hpr,h⟩:=h;grind [cU,bF.trim,C6,zI]
      ·exact h.elim
     ·simp[G.run]at hr
     ·exact nomatch h
    ·exact h.elim
   ·exact h.elim
  ·intro ρ n b args H g k r h hr;simp only[jo,NV]at h;split at h
   ·rename_i st pend fid A ps assign body hb;split at h
    ·rename_i hlen;have hlen:=Nat.eq_of_beq_eq_true hlen;obtain⟨g1,o1,s1,h,hr,hd1⟩:=wI (X:=⟨cfg,some b,jo P cfg nd d,nd⟩) hm ih assign r g _ _ h hr;split at h
     ·split at h
      ·rename_i pend1 fid1 A1 ps1 as1 bd1 hb1;rw[cU]at h;obtain⟨g2,o2,s2,h,hr,hd2⟩:=wI (X:=⟨cfg,some b,jo P cfg nd d,nd⟩) hm ih body r g1 _ _ h hr;unfold NU at h;split at h
       ·rename_i j hj;split at h
        ·rename_i ts g3;simp only[G.run,Option.ite_none_right_eq_some]at hr;obtain⟨s3,hw,h⟩:=cB hr.1 h;split at h
         ·rename_i H2 hmk;refine⟨g3,_,H2,h,hr.2,fun gh w vs k sz hi hl hk=>?_⟩
          obtain⟨k0,tmps0,dk0,fn0,q1,q2,q3⟩:=hi.good b _ hb;rw[hk]at q1;simp only[Option.some.injEq,Prod.mk.injEq]at q1;obtain⟨rfl,rfl⟩:=q1;have hvs:=(cK _ _ hl).1;refine⟨_,q2,by grind,?_⟩
          rw[wS _ ps vs rfl];have hsim:dF gh ⟨qP A ps args,H,[]⟩ {tmps:=(ps.zip vs.toList).foldl (fun(tmps:Array Value) (p:Tmp×Value)=>tmps.setIfInBounds p.1 p.2) tmps0,defers:=[]} w:=
           ⟨hi,yq ps args A _ tmps0 q3 hl,rfl⟩
          refine roundIn_of_wpIn trivial ?_;refine hd1 (some k) gh w hi ⟨0,hk⟩ _ gh _ w hsim (aO.refl _ _ _) fun oo ss ⟨e1,e2⟩=>?_
          subst e1;subst e2;intro gg1 a1 w1 hs1 hla1;have hk1:=hla1.ext.ah _ _ _ hk;obtain⟨k1,tmps1,dk1,fn1,u1,u2,u3⟩:=hs1.inv.good b _ hb1;rw[hk1]at u1;simp only[Option.some.injEq,Prod.mk.injEq]at u1;obtain⟨rfl,-⟩:=u1;refine⟨_,run_beginRound u2 rfl,?_⟩;obtain⟨i2,l2⟩:=hs1.inv.put (y:=.loop .busy pend1 fid1 A1 ps1 as1 bd1)
           (ob:=.loop {state:=.busy,pending:=pend1,fn:=fn1,tmps:=tmps1,params:=ps1.toArray,assign:=as1,body:=bd1,defers:=dk1}) hb1 rfl hk1 rfl (qR u2)
           fun hext=>⟨_,tmps1,dk1,fn1,hk1,World.putObj_heap_same (Array.getElem?_eq_some_iff.1 u2).1,bD hext _ _ u3⟩
          have hsim2:dF gg1 {ss with H:=ss.H.set b (.loop .busy pend1 fid1 A1 ps1 as1 bd1)} a1 (w1.putObj k (.loop {state:=.busy,pending:=pend1,fn:=fn1,tmps:=tmps1,params:=ps1.toArray,assign:=as1,body:=bd1,defers:=dk1})):=
           ⟨i2,bD l2.ext _ _ hs1.tmps,dw l2.ext _ _ hs1.defs⟩
          refine hd2 (some k) gh w hi ⟨0,hk⟩ _ gg1 a1 _ hsim2 (hla1.trans l2) fun oo2 ss2 ⟨e1,e2⟩=>?_
          subst e1;subst e2;refine dQ.weak hi hw ?_;have hend:∀g' a' w',dF g' s3 a' w'→aO gh H w g' s3.H w'→
           ∃v w'',(Instr.endRound k j).run P w'=.ok v w''∧dJ gh H w (.ret (.sc (.bool j.isNone))) H2 (.returned v) w'':=by
           intro g' a' w' hs' hla';obtain⟨rr,e1,e2,e3⟩:=wT hs'.inv (hla'.ext.ah _ _ _ hk) hmk;exact⟨_,_,run_endRound j e1,g',e2,hla'.trans e3,_,rfl,by simp[R]⟩
          cases oo2 with
          |normal=>
           simp only[pe,Option.some.injEq]at hj;subst hj;exact fun g' a' w' h1 h2=>hend g' a' w' h1 h2
          |ret=>
           simp only[pe,Option.some.injEq]at hj;subst hj;exact fun g' a' w' h1 h2=>hend g' a' w' h1 h2
          |exit id=>
           simp only[pe,Option.some.injEq]at hj;subst hj;exact fun g' a' w' h1 h2=>hend g' a' w' h1 h2
          |aR v=>cases hj
         ·exact h.elim
        ·simp[G.run]at hr
        ·exact nomatch h
       ·exact h.elim
      ·exact h.elim
     ·exact h.elim
    ·exact h.elim
   ·exact h.elim
  ·intro σ sh n ro H0 b g E s Y q h hr;obtain⟨h⟩:=h;exact wI (X:=⟨cfg,ro,jo P cfg nd d,nd⟩) hm ih b q g s _ h hr
end
end Go.AM
end
section
namespace Go.AM
section
variable [aB] {P:Program} {cfg:dZ}
def Ay(P:Program)[aB](cfg:dZ)(L:Nat)(fn:Func)(m:Option AVal)(s:St):Option aM:=
 match leave P cfg uy L s.D m s.H with
 |some (m',H')=>match ending P fn s.A m' H' with
  |some (.ret v,H1)=>match(snap iU v).run H1 with
   |some v'=>some (.ret (iP v'))
   |none=>none
  |some (.aR v,_)=>match v.flat with
   |true=>some (.aR v)
   |false=>none
  |none=>none
 |none=>none
def Eh(P:Program)[aB](cfg:dZ)(L:Nat)(fn:Func)(o:aX)(s:St):Option aM:=
 match o with
 | .normal=>Ay P cfg L fn none s
 | .ret=>Ay P cfg L fn none s
 | .aR v=>Ay P cfg L fn (some v) s
 | .exit _=>none
def Fq{ρ:Type}(P:Program)[aB](cfg:dZ)(L:Nat)(fn:Func)(out:ρ→aM)(g:G P ρ)(o:aX)(s:St):Prop:=
 match g with
 | .done ts r=>iK [] ts s fun s=>Eh P cfg L fn o s=some (out r)
 | .fail=>True
 |_=>QV P fn o s out
def Qd{ρ:Type}(P:Program)[aB](cfg:dZ)(L:Nat)(f:FuncId)(args:List AVal)(out:ρ→aM)(g:G P ρ):Prop:=
 match P.funcs[f]? with
 |some fn=>match fn.body with
  |some c=>iI P (KW P cfg) [] c g ⟨kH fn.ntmps args,[],[]⟩ fun g o s=>Fq P cfg L fn out g o s
  |none=>False
 |none=>False
def OU{ρ:Type}(out:ρ→aM)(r:ρ):Prop:=some (out r)=some (out r)
theorem NX{n L:Nat}{ρ:Type}{fn:Func}{out:ρ→aM}{g:G P ρ}{o:aX}{s:St}{r:ρ}(h:Fq P cfg L fn out g o s)(hr:g.run n=some r):∃s',gD [] s s'∧Eh P cfg L fn o s'=some (out r):=by
 unfold Fq at h;split at h
 ·simp only[G.run,Option.ite_none_right_eq_some,Option.some.injEq]at hr;obtain⟨hok,rfl⟩:=hr;exact cB hok h
 ·simp[G.run]at hr
 ·exact nomatch h
theorem Ei{g g':Gh}{w w':World}{H1:List aa}{r r':aM}{e:Ending}(hi:Inv g [] w)(hi':Inv g' H1 w')(hla:aO g [] w g' H1 w')(hl:(∀v,r=.ret v→∃v',(snap iU v).run H1=some v'∧r'=.ret (iP v'))∧(∀v,r=.aR v→v.flat=true∧r'=.aR v))
 (he:OO g' w' r e):dJ g [] w r' [] e w':=by
 refine⟨fP g' H1,hi'.fP,⟨⟨fun b aj x hx=>?_,fun k o hk=>.inl (hla.ext.st k o hk),hla.ext.cell,hla.ext.shape⟩,hla.size,hla.keep,fun k _ ho=>absurd ho dW,Nat.le_refl _,hla.os,hla.tape,hla.output,fun k o hk hst=>?_,fun b hb=>by simp at hb,fun b aj k z h=>by cases h⟩,?_⟩
 ·rw[hi.fresh b aj (.inr (by simp))]at hx;cases hx
 ·rcases hst with hst |hst
  ·exact(hla.stk k o hk hst).imp_right fun h=>absurd h.1 dW
  ·exact absurd (hla.own k hk hst) dW
 ·cases r with
  |ret v=>
   obtain⟨v',hs,rfl⟩:=hl.1 v rfl;obtain⟨x,rfl,hr⟩:=he;exact⟨x,rfl,Ea _ _ (nJ hi' _ _ _ _ hs hr).1⟩
  |aR v=>
   obtain⟨hf,rfl⟩:=hl.2 v rfl;obtain⟨x,rfl,hr⟩:=he;exact⟨x,rfl,jU _ _ hf hr⟩
theorem Ge{L:Nat}{fn:Func}{m:Option AVal}{s:St}{r':aM}(h:Ay P cfg L fn m s=some r'):
 ∃m' H' r H1,leave P cfg uy L s.D m s.H=some (m',H')∧ending P fn s.A m' H'=some (r,H1)∧(∀v,r=.ret v→∃v',(snap iU v).run H1=some v'∧r'=.ret (iP v'))∧(∀v,r=.aR v→v.flat=true∧r'=.aR v):=by
 unfold Ay at h;split at h
 ·rename_i m' H' hl;split at h
  ·rename_i v H1 he;split at h
   ·rename_i v' hs;simp only[Option.some.injEq]at h;subst h;refine⟨m',H',_,H1,hl,he,?_,?_⟩
    ·intro u hu;cases hu;exact⟨v',hs,rfl⟩
    ·intro u hu;cases hu
   ·cases h
  ·rename_i v H1 he;split at h
   ·rename_i hf;simp only[Option.some.injEq]at h;subst h;refine⟨m',H',_,H1,hl,he,?_,?_⟩
    ·intro u hu;cases hu
    ·intro u hu;cases hu;exact⟨hf,rfl⟩
   ·cases h
  ·cases h
 ·cases h
theorem Mr(hm : P.follows .mixedOrders = true)(hN : ∀ (f : FuncId) (fn : Func), P.funcs[f]? = some fn → fn.name ≠ "runtime.NumGoroutine"){L : Nat}{f : FuncId}{args : List AVal}{ρ : Type}{out : ρ → aM}{g : G P ρ}
 (h:Qd P cfg L f args out g) {n:Nat} {r:ρ} (hr:g.run n=some r):kP P f args (out r):=by
 unfold Qd at h;split at h
 ·rename_i fn hf;split at h
  ·rename_i c hb;refine⟨⟨fn,c,hf,hb,hN f fn hf⟩,fun gh w vs hi hl=>callsIn_wide.1 (callsIn_of_wp_marks (F:=Fr none) (n:=0) hf hb trivial ?_)⟩
   have hsim:dF gh ⟨kH fn.ntmps args,[],[]⟩ {tmps:=vs++Array.replicate (fn.ntmps - vs.size) undef,defers:=[]} w:=⟨hi,ux hl _,rfl⟩;obtain⟨g',o,s1,h',hr',hd⟩:=wI (X:=KW P cfg) hm (Aw hm hN 9) c r g _ _ h hr;obtain⟨s',hwk,hlo⟩:=NX h' hr';refine hd none gh w hi trivial _ gh _ w hsim (aO.refl _ _ _) fun o1 s1 ⟨e1,e2⟩=>?_
   subst e1;subst e2;refine dQ.weak hi hwk ?_;have key:∀(m:Option AVal) (u:FrameMode),Ay P cfg L fn m s'=some (out r)→∀g' a' w',dF g' s' a' w'→aO gh [] w g' s'.H w'→lR g' w' m u→
    LeavesInM (Fr none) 0 P fn a'.tmps (dJ gh [] w (out r) []) a'.defers u w':=by
    intro m u hla g' a' w' hs' hlat hmo;obtain⟨m',H',rr,H1,h1,h2,h3⟩:=Ge hla;refine jD ?_ (jN hm hN qk s'.D a'.defers m u s'.H g' w' m' H' hs'.defs hs'.inv hs'.tmps hmo h1 h2 hlat);rintro e w2 ⟨g2,hi2,hla2,he2⟩;exact Ei hi hi2 hla2 h3 he2
   cases o1 with
   |normal=>exact fun g' a' w' hs' hlat=>key none .returning hlo g' a' w' hs' hlat rfl
   |ret=>exact fun g' a' w' hs' hlat=>key none .returning hlo g' a' w' hs' hlat rfl
   |exit id=>simp[Eh]at hlo
   |aR v=>exact fun g' a' w' x hv hs' hlat hrx=>key (some v) (.panicking [{v:=x,recovered:=false}]) hlo g' a' w' hs' hlat ⟨hv,x,rfl,hrx⟩
  ·exact h.elim
 ·exact h.elim
inductive Qe (P:Program) [aB] {ρ:Type} (fn:Func) (o:aX) (s:St) (H0:List aa) (out:ρ→aM×List aa):Prop
def KZ(n:Nat):Option (aM×List aa)→Option (aM×List aa)
 |some (a,H)=>some (a,H.take n)
 |none=>none
def K0{ρ:Type}(P:Program)[aB](cfg:dZ)(L:Nat)(fn:Func)(H0:List aa)(out:ρ→aM×List aa)(g:G P ρ)(o:aX)(s:St):Prop:=
 match g with
 | .done ts r=>iK H0 ts s fun s=>KZ H0.length (pz P cfg L fn o s)=some (out r)
 | .fail=>True
 |_=>Qe P fn o s H0 out
def K3{ρ:Type}(P:Program)[aB](cfg:dZ)(L:Nat)(f:FuncId)(args:List AVal)(H0:List aa)(out:ρ→aM×List aa)(g:G P ρ):Prop:=
 match P.funcs[f]? with
 |some fn=>match fn.body with
  |some c=>iI P (KW P cfg) H0 c g ⟨kH fn.ntmps args,H0,[]⟩ fun g o s=>K0 P cfg L fn H0 out g o s
  |none=>False
 |none=>False
def G7{ρ:Type}(out:ρ→aM×List aa)(r:ρ):Prop:=some (out r)=some (out r)
theorem Ms{n L:Nat}{ρ:Type}{fn:Func}{H0:List aa}{out:ρ→aM×List aa}{g:G P ρ}{o:aX}{s:St}{r:ρ}(h:K0 P cfg L fn H0 out g o s)(hr:g.run n=some r):∃s',gD H0 s s'∧KZ H0.length (pz P cfg L fn o s')=some (out r):=by
 unfold K0 at h;split at h
 ·simp only[G.run,Option.ite_none_right_eq_some,Option.some.injEq]at hr;obtain⟨hok,rfl⟩:=hr;exact cB hok h
 ·simp[G.run]at hr
 ·exact nomatch h
theorem Ej(hm : P.follows .mixedOrders = true)(hN : ∀ (f : FuncId) (fn : Func), P.funcs[f]? = some fn → fn.name ≠ "runtime.NumGoroutine"){L : Nat}{f : FuncId}{args : List AVal}{H0 : List aa}{ρ : Type}{out : ρ → aM × List aa}{g : G P ρ}
 (h:K3 P cfg L f args H0 out g) {n:Nat} {r:ρ} (hr:g.run n=some r) (h0:0<H0.length) (ha:(out r).1.A0=true) (hrow:∀x∈(out r).2,x.kO=true∨x=.dead):bF P f args H0 (out r).1 (out r).2:=by
 unfold K3 at h;split at h
 ·rename_i fn hf;split at h
  ·rename_i c hb;obtain⟨g',o,s1,h',hr',hd⟩:=wI (X:=KW P cfg) hm (Aw hm hN 9) c r g _ _ h hr;obtain⟨s',hwk,hlo⟩:=Ms h' hr';cases hl:pz P cfg L fn o s' with
   |none=>rw[hl]at hlo;cases hlo
   |some p=>
    obtain⟨a,H1⟩:=p;rw[hl]at hlo;simp only[KZ,Option.some.injEq]at hlo;have:=bF.of hm hN hf hb (fun g0 w0 hi=>hd none g0 w0 hi trivial) hwk hl
    rw[← hlo]at ha hrow ⊢;exact bF.take this h0 ha hrow
  ·exact h.elim
 ·exact h.elim
class Plain (P:Program):Prop where
 mixed:P.follows .mixedOrders=true
 names : ∀ (f : FuncId) (fn : Func), P.funcs[f]? = some fn → fn.name ≠ "runtime.NumGoroutine"
def aA.of[hp:Plain P](cfg:dZ)(L:Nat)(f:FuncId)(X:Type)(args:X→List AVal)(sh:Sh)(out:sh.El→aM)(g:X→G P sh.El)(h:∀x,Qd P cfg L f (args x) out (g x)=(g x).eo (OU out)):aA P where
 f:=f
 X:=X
 args:=args
 sh:=sh
 out:=out
 S:=fun n x=>(g x).run n
 ok:=fun _ x _ hr=>Mr hp.mixed hp.names (by rw[h x];exact G.bH (fun _=>rfl) (g x)) hr
def dm.ofVar[hp:Plain P](cfg:dZ)(L:Nat)(f:FuncId)(X:Type)(args:X→List AVal)(τ:Type)(sz:Nat)(enc:τ→List AVal)(b:X→τ)(sh:Sh)(out:sh.El→aM)(bo:sh.El→τ)(g:X→G P sh.El)
 (he:∀a,AVal.aQ (enc a)=true) (ha:∀x,AVal.lU (args x)=true) (hr:sh.all fun r=>(out r).A0=true)
 (h:∀x,K3 P cfg L f (args x) [.row 0 sz [enc (b x)]] (fun r=>(out r,[.row 0 sz [enc (bo r)]])) (g x)=(g x).eo (G7 fun r=>(out r,[.row 0 sz [enc (bo r)]]))):dm P where
 f:=f
 X:=X
 args:=args
 blk:=fun x=>.row 0 sz [enc (b x)]
 sh:=sh
 out:=out
 rN:=fun _ r=>.row 0 sz [enc (bo r)]
 S:=fun n x=>(g x).run n
 a0:=ha
 b0:=fun x=>by simp[aa.kO,he]
 b1:=fun _ r=>.inl (by simp[aa.kO,he])
 r0:=fun r=>(sh.bO _).1 hr r
 ok:=fun _ x r hr'=>Ej hp.mixed hp.names (out:=fun r=>(out r,[.row 0 sz [enc (bo r)]])) (by rw[h x];exact G.bH (fun _=>rfl) (g x)) hr' (Nat.zero_lt_succ _) ((sh.bO _).1 hr r) fun y hy=>by
  simp only[List.mem_singleton]at hy;subst hy;exact .inl (by simp[aa.kO,he])
def dm.qW[hp:Plain P](cfg:dZ)(L:Nat)(f:FuncId)(X:Type)(args:X→List AVal)(τ:Type)(sz:Nat)(enc:τ→List AVal)(b:X→List τ)(sh:Sh)(out:sh.El→aM)(bo:sh.El→List τ)(g:X→G P sh.El)
 (he:∀a,AVal.aQ (enc a)=true) (ha:∀x,AVal.lU (args x)=true) (hr:sh.all fun r=>(out r).A0=true)
 (h:∀x,K3 P cfg L f (args x) [.row 0 sz ((b x).map enc)] (fun r=>(out r,[.row 0 sz ((bo r).map enc)])) (g x)=(g x).eo (G7 fun r=>(out r,[.row 0 sz ((bo r).map enc)]))):dm P where
 f:=f
 X:=X
 args:=args
 blk:=fun x=>.row 0 sz ((b x).map enc)
 sh:=sh
 out:=out
 rN:=fun _ r=>.row 0 sz ((bo r).map enc)
 S:=fun n x=>(g x).run n
 a0:=ha
 b0:=fun x=>by simp[aa.kO,he]
 b1:=fun _ r=>.inl (by simp[aa.kO,he])
 r0:=fun r=>(sh.bO _).1 hr r
 ok:=fun _ x r hr'=>Ej hp.mixed hp.names (out:=fun r=>(out r,[.row 0 sz ((bo r).map enc)])) (by rw[h x];exact G.bH (fun _=>rfl) (g x)) hr' (Nat.zero_lt_succ _) ((sh.bO _).1 hr r) fun y hy=>by
  simp only[List.mem_singleton]at hy;subst hy;exact .inl (by simp[aa.kO,he])
end
end Go.AM
end
section
namespace Go.AM
def lV(P:Program)(T:TypeId):Option Nat:=match P.underlying T with
 |some (.slice e)=>cz P e
 |_=>none
def intOf:AVal→Option Int
 | .sc (.int _ n)=>some n
 |_=>none
theorem jO{v:AVal}{n:Int}(h:intOf v=some n):∃k,v=.sc (.int k n):=by
 unfold intOf at h;grind
def ez{X:Type}(l:List X)(i:Int):Option X:=if 0≤i then l[i.toNat]? else none
theorem gC{P:Program}{T:TypeId}{n:Nat}(h:lV P T=some n):∃e,P.underlying T=some (.slice e)∧cz P e=some n:=by
 grind [lV]
section
def bG{X:Type}(l:List X)(enc:X→List AVal)(n:Nat)(i:Int):mI X where
 run:=ez l i
 bf x:={val:=.bL (enc x) 0}
 ids:=[]
 oc gl P cfg nid op ah H:=match op with
  | .indexAddr T a b=>ah a=.aC (l.map enc)∧intOf (ah b)=some i∧lV P T=some n∧∀x,(enc x).length=n
  |_=>False
 iw:=AVal.aC (l.map enc)=AVal.aC (l.map enc)∧some i=some i∧some n=some n∧∀_:X,n=n
 holds:=⟨rfl,rfl,rfl,fun _=>rfl⟩
 sound gl P cfg nid op ah H h x hx:=by
  cases op<;>try exact h.elim
  rename_i T a b;obtain⟨h1,h2,h3,h4⟩:=h;obtain⟨k,h2⟩:=jO h2;obtain⟨e,e1,e2⟩:=gC h3;unfold ez at hx;split at hx
  ·rename_i h0;simp[bC,cA,bY,h2,h1,nF,e1,e2,h0,hx,h4,yields,Rd.bind,Rd.run,Rd.reads]
  ·cases hx
def bJ{X:Type}(l:List X)(enc:X→List AVal):mI Unit where
 run:=some ()
 bf _:={val:=.sc (.int .i64 l.length)}
 ids:=[]
 oc gl P cfg nid op ah H:=match op with
  | .call {callee:=.builtin .len,args,argTypes}=>match argTypes[0]?,args[0]? with
   |some T,some x=> @Eq Bool (lV P T).isSome true∧ah x=.aC (l.map enc)
   |_,_=>False
  |_=>False
 iw:=(@Eq Bool true true)∧AVal.aC (l.map enc)=AVal.aC (l.map enc)
 holds:=⟨by rfl,by rfl⟩
 sound gl P cfg nid op ah H h x hx:=by
  split at h
  ·split at h
   ·rename_i args argTypes _ _ T x hT ha;obtain⟨h1,h2⟩:=h;obtain⟨n,hn⟩:=Option.isSome_iff_exists.1 h1;obtain⟨e,e1,e2⟩:=gC hn;grind [bC,cA,bY,oW,Rd.bind,Rd.run,Rd.reads]
   ·exact h.elim
  ·exact h.elim
def Mt(P:Program)(T:TypeId):Option (Nat×Nat×Bool):=match P.info? T with
 |some i=>some (i.size,i.bytes,jA i)
 |none=>none
def rO(P:Program)(T:TypeId):Option (Nat×Nat×Bool):=match P.underlying T with
 |some (.slice e)=>Mt P e
 |_=>none
theorem oe{P:Program}{T:TypeId}{n by_:Nat}{z:Bool}(h:rO P T=some (n,by_,z)):∃e i,P.underlying T=some (.slice e)∧P.info? e=some i∧i.size=n∧i.bytes=by_∧jA i=z:=by
 grind [rO,Mt]
theorem run_bind'{α β:Type}{H:List aa}{m:Rd α}{f:α→Rd β}{x:α}(h:m.run H=some x):(m.bind f).run H=(f x).run H:=by
 induction m with
 |fail=>simp[Rd.run]at h
 |done a=>simp[Rd.run]at h;subst h;rfl
 |get b k ih=>
  grind [Rd.run,Rd.bind]
def oO{X:Type}(len:Nat)(l m:List X)(enc:X→List AVal)(n by_ b aj nid0:Nat)(eids:List Nat):mI Unit where
 run:=if len=l.length∧roomy (l.length+m.length) by_=true then some ()else none
 bf _:={val:=.sl b (aj+1) n 0 (l++m).length,dc:=[(b,.row (aj+1) n ((l++m).map enc))]}
 ids:=nid0::(eids++[b])
 oc gl P cfg nid op ah H:=match op with
  | .call {callee:=.builtin .append,args,argTypes}=>match argTypes[0]?,argTypes[1]?,args[0]?,args[1]? with
   |some ST,some XT,some s,some x=>nid=nid0∧H[nid]? =some .aV∧decide (args.size=2)=true∧rO P ST=some (n,by_,true)∧(lV P XT).isSome=true∧decide (0<n)=true∧ah s=.sl b aj n 0 len∧H[b]? =some (.row aj n (l.map enc))∧
    (elems (ah x)).run H=some (m.map enc)∧(elems (ah x)).reads H=eids∧∀x,(enc x).length=n
   |_,_,_,_=>False
  |_=>False
 iw:=nid0=nid0∧some aa.aV=some aa.aV∧ @Eq Bool true true∧some (n,by_,true)=some (n,by_,true)∧ @Eq Bool true true∧ @Eq Bool true true∧AVal.sl b aj n 0 len=AVal.sl b aj n 0 len∧some (aa.row aj n (l.map enc))=some (aa.row aj n (l.map enc))∧
  some (m.map enc)=some (m.map enc)∧eids=eids∧∀_:X,n=n
 holds:=by simp
 sound gl P cfg nid op ah H h x hx:=by
  split at h
  ·split at h
   ·rename_i args argTypes _ _ _ _ ST XT sx x hT hX hs hxx;obtain⟨rfl,hunb,h0,h1,h2,h3,h4,h5,h6,h6',h7⟩:=h;obtain⟨e,i,e1,e2,e3,e4,e5⟩:=oe h1;obtain⟨n2,hn2⟩:=Option.isSome_iff_exists.1 h2;obtain⟨e',e6,_⟩:=gC hn2;simp only[decide_eq_true_eq]at h0 h3;split at hx
    ·rename_i hroom;obtain⟨rfl,hroom⟩:=hroom;have hz:i.size≠0:=by omega
     have hall:(m.map enc).all (fun r=>r.length==i.size)=true:=by
      simp only[List.all_map,List.all_eq_true];intro y _;simp[h7,e3]
     have hop:bC P cfg nid ah (.call {callee:=.builtin .append,args:=args,argTypes:=argTypes})=.get nid fun
      | .aV=>(jB P nid ST XT (ah sx) (ah x)).bind fun e=>.done (.bf e)
      |_=>.fail:=by
      simp only[bC,cA,if_true,bY,hT,hX,hs,hxx,h0];congr 1
     have hap:jB P nid ST XT (ah sx) (ah x)=(elems (ah x)).bind fun new=>.get b fun
      | .row v sz rows=>if v=aj then(if 0=0∧l.length≤rows.length∧sz=i.size∧roomy (l.length+new.length) i.bytes=true∧new.all (fun r=>r.length==i.size)=true∧jA i=true then
       .done {val:=.sl b (aj+1) sz 0 (l.length+new.length),dc:=[(b,.row (aj+1) sz (Dj l.length rows++new))]}else .fail)else .fail
      |_=>.fail:=by
      rw[h4];unfold jB;rw[e1,e6];simp only[e2,hz,if_false];congr 1
      funext new
      simp only[Rd.bind,rowOf];congr 1
      funext y
      cases y with
      |row v sz rows=>grind [Rd.bind]
      |_=>rfl
     rw[hop,hap];simp only[Rd.run,Rd.reads,hunb];have hb:∀{β:Type} (f:cr→Rd β) (g:List (List AVal)→Rd cr),(((elems (ah x)).bind g).bind f)=(elems (ah x)).bind fun n=>(g n).bind f:=by
      intro β f g;generalize elems (ah x)=q;induction q with
      |fail=>rfl
      |done a=>rfl
      |get b k ih=>simp only[Rd.bind,ih]
     grind [run_bind',qf,Rd.bind,Rd.run,Rd.reads,zn]
    ·cases hx
   ·exact h.elim
  ·exact h.elim
def w9{X:Type}(len:Nat)(l m:List X)(enc:X→List AVal)(n by_ b aj nid0:Nat)(eids:List Nat):mI Unit where
 run:=if len≤l.length∧roomy (len+m.length) by_=true then some ()else none
 bf _:={val:=.sl b (aj+1) n 0 (l.take len++m).length,dc:=[(b,.row (aj+1) n ((l.take len++m).map enc))]}
 ids:=nid0::(eids++[b])
 oc gl P cfg nid op ah H:=match op with
  | .call {callee:=.builtin .append,args,argTypes}=>match argTypes[0]?,argTypes[1]?,args[0]?,args[1]? with
   |some ST,some XT,some s,some x=>nid=nid0∧H[nid]? =some .aV∧decide (args.size=2)=true∧rO P ST=some (n,by_,true)∧(lV P XT).isSome=true∧decide (0<n)=true∧ah s=.sl b aj n 0 len∧H[b]? =some (.row aj n (l.map enc))∧
    (elems (ah x)).run H=some (m.map enc)∧(elems (ah x)).reads H=eids∧∀x,(enc x).length=n
   |_,_,_,_=>False
  |_=>False
 iw:=nid0=nid0∧some aa.aV=some aa.aV∧ @Eq Bool true true∧some (n,by_,true)=some (n,by_,true)∧ @Eq Bool true true∧ @Eq Bool true true∧AVal.sl b aj n 0 len=AVal.sl b aj n 0 len∧some (aa.row aj n (l.map enc))=some (aa.row aj n (l.map enc))∧
  some (m.map enc)=some (m.map enc)∧eids=eids∧∀_:X,n=n
 holds:=by simp
 sound gl P cfg nid op ah H h x hx:=by
  split at h
  ·split at h
   ·rename_i args argTypes _ _ _ _ ST XT sx x hT hX hs hxx;obtain⟨rfl,hunb,h0,h1,h2,h3,h4,h5,h6,h6',h7⟩:=h;obtain⟨e,i,e1,e2,e3,e4,e5⟩:=oe h1;obtain⟨n2,hn2⟩:=Option.isSome_iff_exists.1 h2;obtain⟨e',e6,_⟩:=gC hn2;simp only[decide_eq_true_eq]at h0 h3;split at hx
    ·rename_i hroom;obtain⟨hlen,hroom⟩:=hroom;have hz:i.size≠0:=by omega
     have hall:(m.map enc).all (fun r=>r.length==i.size)=true:=by
      simp only[List.all_map,List.all_eq_true];intro y _;simp[h7,e3]
     have hop:bC P cfg nid ah (.call {callee:=.builtin .append,args:=args,argTypes:=argTypes})=.get nid fun
      | .aV=>(jB P nid ST XT (ah sx) (ah x)).bind fun e=>.done (.bf e)
      |_=>.fail:=by
      simp only[bC,cA,if_true,bY,hT,hX,hs,hxx,h0];congr 1
     have hap:jB P nid ST XT (ah sx) (ah x)=(elems (ah x)).bind fun new=>.get b fun
      | .row v sz rows=>if v=aj then(if 0=0∧len≤rows.length∧sz=i.size∧roomy (len+new.length) i.bytes=true∧new.all (fun r=>r.length==i.size)=true∧jA i=true then
       .done {val:=.sl b (aj+1) sz 0 (len+new.length),dc:=[(b,.row (aj+1) sz (Dj len rows++new))]}else .fail)else .fail
      |_=>.fail:=by
      rw[h4];unfold jB;rw[e1,e6];simp only[e2,hz,if_false];congr 1
      funext new
      simp only[Rd.bind,rowOf];congr 1
      funext y
      cases y with
      |row v sz rows=>grind [Rd.bind]
      |_=>rfl
     rw[hop,hap];simp only[Rd.run,Rd.reads,hunb];have hb:∀{β:Type} (f:cr→Rd β) (g:List (List AVal)→Rd cr),(((elems (ah x)).bind g).bind f)=(elems (ah x)).bind fun n=>(g n).bind f:=by
      intro β f g;generalize elems (ah x)=q;induction q with
      |fail=>rfl
      |done a=>rfl
      |get b k ih=>simp only[Rd.bind,ih]
     rw[hb,run_bind' h6,qf h6,h6'];simp only[Rd.bind,Rd.run,Rd.reads,h5,if_true];rw[if_pos ⟨trivial,by simpa using hlen,e3.symm,by simpa[e4]using hroom,hall,e5⟩]
     rw[zn _ _ (by simpa using hlen)]
     simp[Rd.bind,Rd.run,Rd.reads,List.map_take,Nat.min_eq_left hlen]
    ·cases hx
   ·exact h.elim
  ·exact h.elim
theorem Ek{X:Type}(l:List X)(enc:X→List AVal){x:AVal}{H:List aa}{b aj sz o n:Nat}(hx:x=.sl b aj sz o n)(hH:H[b]? =some (.row aj sz (l.map enc)))(hle:o+n≤l.length):
 (elems x).run H=some (((l.drop o).take n).map enc)∧(elems x).reads H=[b]:=by
 subst hx;simp[elems,rowOf,Rd.bind,Rd.run,Rd.reads,hH,hle,List.map_drop,List.map_take]
def oP{X:Type}(len:Nat)(l l2:List X)(b2 ver2 o2 n2:Nat)(enc:X→List AVal)(n by_ b aj nid0:Nat):mI Unit where
 run:=if(len=l.length∧o2+n2≤l2.length)∧roomy (l.length+n2) by_=true then some ()else none
 bf _:={val:=.sl b (aj+1) n 0 (l++(l2.drop o2).take n2).length,dc:=[(b,.row (aj+1) n ((l++(l2.drop o2).take n2).map enc))]}
 ids:=nid0::([b2]++[b])
 oc gl P cfg nid op ah H:=match op with
  | .call {callee:=.builtin .append,args,argTypes}=>match argTypes[0]?,argTypes[1]?,args[0]?,args[1]? with
   |some ST,some XT,some s,some x=>nid=nid0∧H[nid]? =some .aV∧decide (args.size=2)=true∧rO P ST=some (n,by_,true)∧(lV P XT).isSome=true∧decide (0<n)=true∧ah s=.sl b aj n 0 len∧H[b]? =some (.row aj n (l.map enc))∧
    ah x=.sl b2 ver2 n o2 n2∧H[b2]? =some (.row ver2 n (l2.map enc))∧∀x,(enc x).length=n
   |_,_,_,_=>False
  |_=>False
 iw:=nid0=nid0∧some aa.aV=some aa.aV∧ @Eq Bool true true∧some (n,by_,true)=some (n,by_,true)∧ @Eq Bool true true∧ @Eq Bool true true∧AVal.sl b aj n 0 len=AVal.sl b aj n 0 len∧some (aa.row aj n (l.map enc))=some (aa.row aj n (l.map enc))∧
  AVal.sl b2 ver2 n o2 n2=AVal.sl b2 ver2 n o2 n2∧some (aa.row ver2 n (l2.map enc))=some (aa.row ver2 n (l2.map enc))∧∀_:X,n=n
 holds:=by simp
 sound gl P cfg nid op ah H h x hx:=by
  split at h
  ·split at h
   ·rename_i args argTypes _ _ _ _ ST XT sx x hT hX hs hxx;obtain⟨rfl,hunb,h0,h1,h2,h3,h4,h5,h6,h6',h7⟩:=h;obtain⟨e,i,e1,e2,e3,e4,e5⟩:=oe h1;obtain⟨n9,hn2⟩:=Option.isSome_iff_exists.1 h2;obtain⟨e',e6,_⟩:=gC hn2;simp only[decide_eq_true_eq]at h0 h3;split at hx
    ·rename_i hroom;obtain⟨⟨rfl,hle2⟩,hroom⟩:=hroom;obtain⟨h6,h6'⟩:=Ek l2 enc h6 h6' hle2;obtain⟨m,hm⟩:∃m,m=(l2.drop o2).take n2:=⟨_,rfl⟩;have hml:m.length=n2:=by rw[hm,List.length_take,List.length_drop];omega
     rw[← hm]at h6 ⊢;rw[← hml]at hroom;have hz:i.size≠0:=by omega
     have hall:(m.map enc).all (fun r=>r.length==i.size)=true:=by
      simp only[List.all_map,List.all_eq_true];intro y _;simp[h7,e3]
     have hop:bC P cfg nid ah (.call {callee:=.builtin .append,args:=args,argTypes:=argTypes})=.get nid fun
      | .aV=>(jB P nid ST XT (ah sx) (ah x)).bind fun e=>.done (.bf e)
      |_=>.fail:=by
      simp only[bC,cA,if_true,bY,hT,hX,hs,hxx,h0];congr 1
     have hap:jB P nid ST XT (ah sx) (ah x)=(elems (ah x)).bind fun new=>.get b fun
      | .row v sz rows=>if v=aj then(if 0=0∧l.length≤rows.length∧sz=i.size∧roomy (l.length+new.length) i.bytes=true∧new.all (fun r=>r.length==i.size)=true∧jA i=true then
       .done {val:=.sl b (aj+1) sz 0 (l.length+new.length),dc:=[(b,.row (aj+1) sz (Dj l.length rows++new))]}else .fail)else .fail
      |_=>.fail:=by
      rw[h4];unfold jB;rw[e1,e6];simp only[e2,hz,if_false];congr 1
      funext new
      simp only[Rd.bind,rowOf];congr 1
      funext y
      cases y with
      |row v sz rows=>grind [Rd.bind]
      |_=>rfl
     rw[hop,hap];simp only[Rd.run,Rd.reads,hunb];have hb:∀{β:Type} (f:cr→Rd β) (g:List (List AVal)→Rd cr),(((elems (ah x)).bind g).bind f)=(elems (ah x)).bind fun n=>(g n).bind f:=by
      intro β f g;generalize elems (ah x)=q;induction q with
      |fail=>rfl
      |done a=>rfl
      |get b k ih=>simp only[Rd.bind,ih]
     grind [run_bind',qf,Rd.bind,Rd.run,Rd.reads,zn]
    ·cases hx
   ·exact h.elim
  ·exact h.elim
def oQ{X:Type}(len:Nat)(l l2:List X)(b2 ver2 o2 n2:Nat)(enc:X→List AVal)(n by_ b aj nid0:Nat):mI Unit where
 run:=if(len≤l.length∧o2+n2≤l2.length)∧roomy (len+n2) by_=true then some ()else none
 bf _:={val:=.sl b (aj+1) n 0 (l.take len++(l2.drop o2).take n2).length,dc:=[(b,.row (aj+1) n ((l.take len++(l2.drop o2).take n2).map enc))]}
 ids:=nid0::([b2]++[b])
 oc gl P cfg nid op ah H:=match op with
  | .call {callee:=.builtin .append,args,argTypes}=>match argTypes[0]?,argTypes[1]?,args[0]?,args[1]? with
   |some ST,some XT,some s,some x=>nid=nid0∧H[nid]? =some .aV∧decide (args.size=2)=true∧rO P ST=some (n,by_,true)∧(lV P XT).isSome=true∧decide (0<n)=true∧ah s=.sl b aj n 0 len∧H[b]? =some (.row aj n (l.map enc))∧
    ah x=.sl b2 ver2 n o2 n2∧H[b2]? =some (.row ver2 n (l2.map enc))∧∀x,(enc x).length=n
   |_,_,_,_=>False
  |_=>False
 iw:=nid0=nid0∧some aa.aV=some aa.aV∧ @Eq Bool true true∧some (n,by_,true)=some (n,by_,true)∧ @Eq Bool true true∧ @Eq Bool true true∧AVal.sl b aj n 0 len=AVal.sl b aj n 0 len∧some (aa.row aj n (l.map enc))=some (aa.row aj n (l.map enc))∧
  AVal.sl b2 ver2 n o2 n2=AVal.sl b2 ver2 n o2 n2∧some (aa.row ver2 n (l2.map enc))=some (aa.row ver2 n (l2.map enc))∧∀_:X,n=n
 holds:=by simp
 sound gl P cfg nid op ah H h x hx:=by
  split at h
  ·split at h
   ·rename_i args argTypes _ _ _ _ ST XT sx x hT hX hs hxx;obtain⟨rfl,hunb,h0,h1,h2,h3,h4,h5,h6,h6',h7⟩:=h;obtain⟨e,i,e1,e2,e3,e4,e5⟩:=oe h1;obtain⟨n9,hn2⟩:=Option.isSome_iff_exists.1 h2;obtain⟨e',e6,_⟩:=gC hn2;simp only[decide_eq_true_eq]at h0 h3;split at hx
    ·rename_i hroom;obtain⟨⟨hlen,hle2⟩,hroom⟩:=hroom;obtain⟨h6,h6'⟩:=Ek l2 enc h6 h6' hle2;obtain⟨m,hm⟩:∃m,m=(l2.drop o2).take n2:=⟨_,rfl⟩;have hml:m.length=n2:=by rw[hm,List.length_take,List.length_drop];omega
     rw[← hm]at h6 ⊢;rw[← hml]at hroom;have hz:i.size≠0:=by omega
     have hall:(m.map enc).all (fun r=>r.length==i.size)=true:=by
      simp only[List.all_map,List.all_eq_true];intro y _;simp[h7,e3]
     have hop:bC P cfg nid ah (.call {callee:=.builtin .append,args:=args,argTypes:=argTypes})=.get nid fun
      | .aV=>(jB P nid ST XT (ah sx) (ah x)).bind fun e=>.done (.bf e)
      |_=>.fail:=by
      simp only[bC,cA,if_true,bY,hT,hX,hs,hxx,h0];congr 1
     have hap:jB P nid ST XT (ah sx) (ah x)=(elems (ah x)).bind fun new=>.get b fun
      | .row v sz rows=>if v=aj then(if 0=0∧len≤rows.length∧sz=i.size∧roomy (len+new.length) i.bytes=true∧new.all (fun r=>r.length==i.size)=true∧jA i=true then
       .done {val:=.sl b (aj+1) sz 0 (len+new.length),dc:=[(b,.row (aj+1) sz (Dj len rows++new))]}else .fail)else .fail
      |_=>.fail:=by
      rw[h4];unfold jB;rw[e1,e6];simp only[e2,hz,if_false];congr 1
      funext new
      simp only[Rd.bind,rowOf];congr 1
      funext y
      cases y with
      |row v sz rows=>grind [Rd.bind]
      |_=>rfl
     rw[hop,hap];simp only[Rd.run,Rd.reads,hunb];have hb:∀{β:Type} (f:cr→Rd β) (g:List (List AVal)→Rd cr),(((elems (ah x)).bind g).bind f)=(elems (ah x)).bind fun n=>(g n).bind f:=by
      intro β f g;generalize elems (ah x)=q;induction q with
      |fail=>rfl
      |done a=>rfl
      |get b k ih=>simp only[Rd.bind,ih]
     rw[hb,run_bind' h6,qf h6,h6'];simp only[Rd.bind,Rd.run,Rd.reads,h5,if_true];rw[if_pos ⟨trivial,by simpa using hlen,e3.symm,by simpa[e4]using hroom,hall,e5⟩]
     rw[zn _ _ (by simpa using hlen)]
     simp[Rd.bind,Rd.run,Rd.reads,List.map_take,Nat.min_eq_left hlen]
    ·cases hx
   ·exact h.elim
  ·exact h.elim
def bare:AVal→Bool
 | .sc (.slice none 0 0)=>true
 | .emp=>true
 |_=>false
def ic(m n b aj:Nat)(i:Int):mI Unit where
 run:=if 0≤i∧i<m then some ()else none
 bf _:={val:=.ptr b aj i.toNat 0}
 ids:=[]
 oc gl P cfg nid op ah H:=match op with
  | .indexAddr T a c=>ah a=.sl b aj n 0 m∧intOf (ah c)=some i∧lV P T=some n
  |_=>False
 iw:=AVal.sl b aj n 0 m=AVal.sl b aj n 0 m∧some i=some i∧some n=some n
 holds:=⟨rfl,rfl,rfl⟩
 sound gl P cfg nid op ah H h x hx:=by
  cases op<;>try exact h.elim
  rename_i T a c;obtain⟨h1,h2,h3⟩:=h;obtain⟨k,h2⟩:=jO h2;obtain⟨e,e1,e2⟩:=gC h3;split at hx
  ·rename_i h0;simp[bC,cA,bY,h2,h1,nF,e1,e2,h0.1,h0.2,yields,Rd.bind,Rd.run,Rd.reads]
  ·cases hx
def qX{X:Type}(l:List X)(enc:X→List AVal)(n b aj i o:Nat)(val:X→AVal):mI X where
 run:=l[i]?
 bf x:={val:=val x}
 ids:=[b]
 oc gl P cfg nid op ah H:=match op with
  | .load T a=>ah a=.ptr b aj i o∧H[b]? =some (.row aj n (l.map enc))∧∀x,lM P T (enc x) o=some (val x)
  |_=>False
 iw:=AVal.ptr b aj i o=AVal.ptr b aj i o∧some (aa.row aj n (l.map enc))=some (aa.row aj n (l.map enc))∧∀x,some (val x)=some (val x)
 holds:=⟨rfl,rfl,fun _=>rfl⟩
 sound gl P cfg nid op ah H h x hx:=by
  cases op<;>try exact h.elim
  rename_i T a;obtain⟨h1,h2,h3⟩:=h;simp[bC,cA,bY,h1,Ad,rowOf,h2,hx,h3,yields,Rd.bind,Rd.run,Rd.reads]
def J4{X:Type}(l:List X)(enc:X→List AVal)(n b aj i o:Nat)(y:X→X):mI X where
 run:=l[i]?
 bf x:={val:=nothing,dc:=[(b,.row aj n ((l.set i (y x)).map enc))]}
 ids:=[b]
 oc gl P cfg nid op ah H:=match op with
  | .store T a v=>ah a=.ptr b aj i o∧H[b]? =some (.row aj n (l.map enc))∧∀x,(uk P T (ah v)).bind (Cj (enc x) o)=some (enc (y x))
  |_=>False
 iw:=AVal.ptr b aj i o=AVal.ptr b aj i o∧some (aa.row aj n (l.map enc))=some (aa.row aj n (l.map enc))∧∀x,some (enc (y x))=some (enc (y x))
 holds:=⟨rfl,rfl,fun _=>rfl⟩
 sound gl P cfg nid op ah H h x hx:=by
  cases op<;>try exact h.elim
  rename_i T a v;obtain⟨h1,h2,h3⟩:=h;obtain⟨vs,h4,h5⟩:=Option.bind_eq_some_iff.1 (h3 x);simp[bC,cA,bY,h1,Be,rowOf,h2,hx,h4,h5,Rd.bind,Rd.run,Rd.reads,List.map_set]
def Qf{X:Type}(d:X)(enc:X→List AVal)(n by_ nid0:Nat)(k:Int):mI Unit where
 run:=if 0≤k∧roomy k.toNat by_=true then some ()else none
 bf _:={val:=.sl nid0 0 n 0 (List.replicate k.toNat d).length,dc:=[(nid0,.row 0 n ((List.replicate k.toNat d).map enc))]}
 ids:=[nid0]
 oc gl P cfg nid op ah H:=match op with
  | .makeSlice T a c=>nid=nid0∧H[nid]? =some .aV∧intOf (ah a)=some k∧intOf (ah c)=some k∧rO P T=some (n,by_,true)∧(match P.underlying T with |some (.slice e)=>jJ P e |_=>none)=some (enc d)∧(enc d).length=n∧decide (0<n)=true
  |_=>False
 iw:=nid0=nid0∧some aa.aV=some aa.aV∧some k=some k∧some k=some k∧some (n,by_,true)=some (n,by_,true)∧some (enc d)=some (enc d)∧n=n∧ @Eq Bool true true
 holds:=by simp
 sound gl P cfg nid op ah H h x hx:=by
  cases op<;>try exact h.elim
  rename_i T a c;obtain⟨rfl,hunb,h1,h2,h3,h4,h5,h6⟩:=h;obtain⟨k1,h1⟩:=jO h1;obtain⟨k2,h2⟩:=jO h2;obtain⟨e,i,e1,e2,e3,e4,e5⟩:=oe h3;rw[e1]at h4;simp only at h4;simp only[decide_eq_true_eq]at h6;split at hx
  ·rename_i h0;have hop:sU P nid T (ah a) (ah c)=some {val:=.sl nid 0 i.size 0 k.toNat,dc:=[(nid,.row 0 i.size (List.replicate k.toNat (enc d)))]}:=by
    rw[h1,h2];simp only[sU,e1,e2,h4];rw[if_pos ⟨h0.1,Int.le_refl _,by rw[e4];exact h0.2,by rw[h5,e3],by omega⟩]
   simp[bC,cA,bY,hop,vp,Rd.bind,Rd.run,Rd.reads,hunb,e3]
  ·cases hx
def xb(d m:Nat):Option Int→Option Nat
 |none=>some d
 |some i=>if 0≤i∧i≤m then some i.toNat else none
def NY{X:Type}(l:List X)(enc:X→List AVal)(n:Nat)(lo hi:Option Int):mI (Nat×Nat) where
 run:=(xb l.length l.length hi).bind fun h=>(xb 0 h lo).map fun k=>(k,h)
 bf x:={val:=.aC (((l.take x.2).drop x.1).map enc)}
 ids:=[]
 oc gl P cfg nid op ah H:=match op with
  | .slice T a lo' hi' none=>ah a=.aC (l.map enc)∧(lo'.map fun x=>intOf (ah x))=lo.map some∧(hi'.map fun x=>intOf (ah x))=hi.map some∧lV P T=some n∧∀x,(enc x).length=n
  |_=>False
 iw:=AVal.aC (l.map enc)=AVal.aC (l.map enc)∧lo.map some=lo.map some∧hi.map some=hi.map some∧some n=some n∧∀_:X,n=n
 holds:=⟨rfl,rfl,rfl,rfl,fun _=>rfl⟩
 sound gl P cfg nid op ah H h x hx:=by
  cases op<;>try exact h.elim
  rename_i T a lo' hi' mx;cases mx with
  |some _=>exact h.elim
  |none=>
   obtain⟨h1,h2,h3,h4,h5⟩:=h;obtain⟨e,e1,e2⟩:=gC h4;have hb:∀(d m:Nat) (x':Option Operand) (x:Option Int),(x'.map fun x=>intOf (ah x))=x.map some→iR d m (x'.map ah)=xb d m x:=by
    intro d m x' x hx;cases x'<;>cases x<;>simp at hx
    ·rfl
    ·grind [jO,iR,xb]
   obtain⟨hh,q1,q2⟩:=Option.bind_eq_some_iff.1 hx;obtain⟨k,q3,rfl⟩:=Option.map_eq_some_iff.1 q2;have hall:(l.map enc).all (fun r=>cz P e==some r.length)=true:=by
    simp only[List.all_map,List.all_eq_true];intro y _;simp[h5,e2]
   have hop:mR P T (ah a) (lo'.map ah) (hi'.map ah)=some (.aC (((l.map enc).take hh).drop k)):=by
    unfold mR;rw[h1];simp only[e1,oW];rw[hb _ _ _ _ h3,List.length_map,q1];simp only[Option.bind_some];rw[hb _ _ _ _ h2,q3];rw[Option.bind_some,if_pos (by rw[hall,e2];rfl)]
   simp[bC,cA,bY,hop,yields,Rd.bind,Rd.run,Rd.reads,List.map_take,List.map_drop]
def y4(m n b aj o:Nat)(hi:Int):mI Nat where
 run:=if 0≤hi∧hi≤m then some hi.toNat else none
 bf x:={val:=.sl b aj n o x}
 ids:=[]
 oc gl P cfg nid op ah H:=match op with
  | .slice T a none (some h) none=>ah a=.sl b aj n o m∧intOf (ah h)=some hi∧lV P T=some n
  |_=>False
 iw:=AVal.sl b aj n o m=AVal.sl b aj n o m∧some hi=some hi∧some n=some n
 holds:=⟨rfl,rfl,rfl⟩
 sound gl P cfg nid op ah H h x hx:=by
  split at h
  ·rename_i T a c;obtain⟨h1,h2,h3⟩:=h;obtain⟨k,h2⟩:=jO h2;obtain⟨e,e1,e2⟩:=gC h3;split at hx
   ·rename_i h0;simp only[Option.some.injEq]at hx;subst hx;have hop:mR P T (ah a) none (some (ah c))=some (.sl b aj n o hi.toNat):=by
     unfold mR;rw[h1,h2,e1];simp only[oW,iR,h0,and_self,if_true,Option.bind_some,e2]
    simp[bC,cA,bY,hop,yields,Rd.bind,Rd.run,Rd.reads]
   ·cases hx
  ·exact h.elim
def y6(m n b aj o:Nat)(lo:Int):mI Nat where
 run:=if 0<lo∧lo<m then some lo.toNat else none
 bf x:={val:=.sl b aj n (o+x) (m - x)}
 ids:=[]
 oc gl P cfg nid op ah H:=match op with
  | .slice T a (some l) none none=>ah a=.sl b aj n o m∧intOf (ah l)=some lo∧lV P T=some n
  |_=>False
 iw:=AVal.sl b aj n o m=AVal.sl b aj n o m∧some lo=some lo∧some n=some n
 holds:=⟨rfl,rfl,rfl⟩
 sound gl P cfg nid op ah H h x hx:=by
  split at h
  ·rename_i T a c;obtain⟨h1,h2,h3⟩:=h;obtain⟨k,h2⟩:=jO h2;obtain⟨e,e1,e2⟩:=gC h3;split at hx
   ·rename_i h0;simp only[Option.some.injEq]at hx;subst hx;have hop:mR P T (ah a) (some (ah c)) none=some (.sl b aj n (o+lo.toNat) (m - lo.toNat)):=by
     unfold mR;rw[h1,h2,e1];have hb:0≤lo∧lo≤(m:Int):=⟨by omega,by omega⟩
     have hz:lo.toNat≠0:=by omega
     have hl:lo.toNat<m:=by omega
     simp only[oW,iR,hb,and_self,if_true,Option.bind_some,e2,if_neg hz,if_pos hl]
    simp[bC,cA,bY,hop,yields,Rd.bind,Rd.run,Rd.reads]
   ·cases hx
  ·exact h.elim
def Em(i:Int):Bool:=decide (i=0)
def En(i:Int)(m:Nat):Bool:=decide (i<m)
def xd(m n b aj o:Nat)(lo:Int):mI Unit where
 run:=if lo=0 then some ()else none
 bf _:={val:=.sl b aj n o m}
 ids:=[]
 oc gl P cfg nid op ah H:=match op with
  | .slice T a (some l) none none=>ah a=.sl b aj n o m∧intOf (ah l)=some lo∧lV P T=some n
  |_=>False
 iw:=AVal.sl b aj n o m=AVal.sl b aj n o m∧some lo=some lo∧some n=some n
 holds:=⟨rfl,rfl,rfl⟩
 sound gl P cfg nid op ah H h x hx:=by
  split at h
  ·rename_i T a c;obtain⟨h1,h2,h3⟩:=h;obtain⟨k,h2⟩:=jO h2;obtain⟨e,e1,e2⟩:=gC h3;split at hx
   ·rename_i h0;subst h0;have hop:mR P T (ah a) (some (ah c)) none=some (.sl b aj n o m):=by
     unfold mR;rw[h1,h2,e1];have hb:(0:Int)≤0∧(0:Int)≤(m:Int):=⟨by omega,by omega⟩
     simp only[oW,iR,hb,and_self,if_true,Option.bind_some,e2,Int.toNat_zero]
    simp[bC,cA,bY,hop,yields,Rd.bind,Rd.run,Rd.reads]
   ·cases hx
  ·exact h.elim
def xe(m n b aj o:Nat)(lo:Int):mI Unit where
 run:=if lo=m∧0<m then some ()else none
 bf _:={val:=.aC []}
 ids:=[]
 oc gl P cfg nid op ah H:=match op with
  | .slice T a (some l) none none=>ah a=.sl b aj n o m∧intOf (ah l)=some lo∧lV P T=some n
  |_=>False
 iw:=AVal.sl b aj n o m=AVal.sl b aj n o m∧some lo=some lo∧some n=some n
 holds:=⟨rfl,rfl,rfl⟩
 sound gl P cfg nid op ah H h x hx:=by
  split at h
  ·rename_i T a c;obtain⟨h1,h2,h3⟩:=h;obtain⟨k,h2⟩:=jO h2;obtain⟨e,e1,e2⟩:=gC h3;split at hx
   ·rename_i h0;obtain⟨rfl,h0⟩:=h0;have hop:mR P T (ah a) (some (ah c)) none=some (.aC []):=by
     unfold mR;rw[h1,h2,e1];have hb:(0:Int)≤(m:Int)∧(m:Int)≤(m:Int):=⟨by omega,by omega⟩
     have hz:((m:Int)).toNat≠0:=by omega
     have hl:¬((m:Int)).toNat<m:=by omega
     simp only[oW,iR,hb,and_self,if_true,Option.bind_some,e2,if_neg hz,if_neg hl]
    simp[bC,cA,bY,hop,yields,Rd.bind,Rd.run,Rd.reads]
   ·cases hx
  ·exact h.elim
def H6(op:BinOp)(k k':IntKind)(a b:Int)(ok:Bool)(v:AVal)(h:ok=true→∀(P:Program) (T:TypeId),Di P op T (.sc (.int k a)) (.sc (.int k' b))=some v):mI Unit where
 run:=if ok then some ()else none
 bf _:={val:=v}
 ids:=[]
 oc gl P cfg nid o ah H:=match o with
  | .binOp op' T x y _=>op'=op∧ah x=.sc (.int k a)∧ah y=.sc (.int k' b)∧(match y with | .const (.int _ _)=>true | .tmp _=>true |_=>false)=true
  |_=>False
 iw:=op=op∧AVal.sc (.int k a)=AVal.sc (.int k a)∧AVal.sc (.int k' b)=AVal.sc (.int k' b)∧ @Eq Bool true true
 holds:=⟨rfl,rfl,rfl,rfl⟩
 sound gl P cfg nid o ah H h' x hx:=by
  cases o<;>try exact h'.elim
  rename_i op' T x y yT;obtain⟨rfl,h1,h2,h3⟩:=h';cases ok with
  |false=>cases hx
  |true=>
   have hb:=h rfl P T;rw[← h1,← h2]at hb;split at h3
   ·simp[bC,cA,bY,um,hb,yields,Rd.bind,Rd.run,Rd.reads]
   ·simp[bC,cA,bY,um,hb,yields,Rd.bind,Rd.run,Rd.reads]
   ·cases h3
def Fs(k:IntKind)(a b:Int):mI Unit:=H6 .rem k k a b (decide (b≠0)) (.sc (.int k (a.tmod b))) fun h P T=>by
 grind [Di,Ck]
def BH(k k':IntKind)(a b:Int):mI Unit:=H6 .shl k k' a b (decide (0≤b)) (.sc (.int k (k.wrap (a*2 ^ (min b.toNat k.bits))))) fun h P T=>by
 grind [Di]
def J5(P:Program)(T:TypeId):Option (Nat×Nat):=match P.underlying T with
 |some (.array n e)=>(cz P e).map fun s=>(n,s)
 |_=>none
def K4(b aj j o n s:Nat)(i:Int):mI Unit where
 run:=if 0≤i∧i<n then some ()else none
 bf _:={val:=.ptr b aj j (o+i.toNat*s)}
 ids:=[]
 oc gl P cfg nid op ah H:=match op with
  | .indexAddr T a c=>ah a=.ptr b aj j o∧intOf (ah c)=some i∧J5 P T=some (n,s)
  |_=>False
 iw:=AVal.ptr b aj j o=AVal.ptr b aj j o∧some i=some i∧some (n,s)=some (n,s)
 holds:=⟨rfl,rfl,rfl⟩
 sound gl P cfg nid op ah H h x hx:=by
  cases op<;>try exact h.elim
  rename_i T a c;obtain⟨h1,h2,h3⟩:=h;obtain⟨k,h2⟩:=jO h2;unfold J5 at h3;split at h3
  ·rename_i n' e hu;obtain⟨s',hs,he⟩:=Option.map_eq_some_iff.1 h3;simp only[Prod.mk.injEq]at he;obtain⟨rfl,rfl⟩:=he;split at hx
   ·rename_i h0;have hop:nF P T (ah a) i=some (.ptr b aj j (o+i.toNat*s')):=by
     rw[h1];unfold nF;rw[hu];simp only[if_pos h0,hs,Option.bind_some,wG]
    simp[bC,cA,bY,h2,hop,yields,Rd.bind,Rd.run,Rd.reads]
   ·cases hx
  ·cases h3
def Qg{X:Type}(l:List X)(c:X→AVal)(b aj sz o:Nat):mI X where
 run:=l[o]?
 bf x:={val:=c x}
 ids:=[b]
 oc gl P cfg nid op ah H:=match op with
  | .load T a=>ah a=.ptr b aj 0 o∧H[b]? =some (.row aj sz [l.map c])∧fB P T=false∧(P.underlying T).isSome=true
  |_=>False
 iw:=AVal.ptr b aj 0 o=AVal.ptr b aj 0 o∧some (aa.row aj sz [l.map c])=some (aa.row aj sz [l.map c])∧ @Eq Bool false false∧ @Eq Bool true true
 holds:=⟨rfl,rfl,rfl,rfl⟩
 sound gl P cfg nid op ah H h x hx:=by
  cases op<;>try exact h.elim
  rename_i T a;obtain⟨h1,h2,h3,h4⟩:=h;simp[bC,cA,bY,h1,Ad,rowOf,h2,lM,h3,h4,hx,yields,Rd.bind,Rd.run,Rd.reads]
def BI{X:Type}(l:List X)(c:X→AVal)(b aj sz o:Nat)(y:X):mI Unit where
 run:=if o<l.length then some ()else none
 bf _:={val:=nothing,dc:=[(b,.row aj sz [(l.set o y).map c])]}
 ids:=[b]
 oc gl P cfg nid op ah H:=match op with
  | .store T a v=>ah a=.ptr b aj 0 o∧H[b]? =some (.row aj sz [l.map c])∧uk P T (ah v)=some [c y]
  |_=>False
 iw:=AVal.ptr b aj 0 o=AVal.ptr b aj 0 o∧some (aa.row aj sz [l.map c])=some (aa.row aj sz [l.map c])∧some [c y]=some [c y]
 holds:=⟨rfl,rfl,rfl⟩
 sound gl P cfg nid op ah H h x hx:=by
  cases op<;>try exact h.elim
  rename_i T a v;obtain⟨h1,h2,h3⟩:=h;split at hx
  ·rename_i h0;have hle:o+1≤l.length:=h0;simp[bC,cA,bY,h1,Be,rowOf,h2,h3,Cj,hle,putAt,Rd.bind,Rd.run,Rd.reads,List.map_set]
  ·cases hx
section
variable {K V:Type}
def bZ(ek:K→AVal)(ev:V→AVal):Nat→List (K×V)→List (AVal×AVal×Nat)
 |_,[]=>[]
 |n,p::ps=>(ek p.1,ev p.2,n)::bZ ek ev (n+1) ps
def cm(eq:K→K→Bool)(k:K):List (K×V)→Nat→Option (Nat×V)
 | [],_=>none
 |p::ps,i=>if eq k p.1 then some (i,p.2)else cm eq k ps (i+1)
def gJ(eq:K→K→Bool)(k:K)(v:V)(m:List (K×V)):List (K×V):=match cm eq k m 0 with
 |some (i,_)=>m.set i (k,v)
 |none=>m++[(k,v)]
theorem Az{ks:List Kd}{ag:Bool}{ek:K→AVal}{ev:V→AVal}{eq:K→K→Bool}(hag:∀k,nY (ek k)=ag)(heq:∀k k',cH ks (ek k).cells (ek k').cells=some (eq k k'))(k:K):
 ∀(m:List (K×V)) (n i:Nat),rq ks ag (ek k) (bZ ek ev n m) i=some ((cm eq k m i).map fun p=>(p.1,ev p.2,n+(p.1 - i)))
 | [],n,i=>rfl
 |p::ps,n,i=>by
  simp only[bZ,rq,hag,if_true,heq,cm];cases h:eq k p.1 with
  |true=>simp
  |false=>
   simp only[Bool.false_eq_true,if_false];rw[Az hag heq k ps (n+1) (i+1)];congr 1;have hge:∀(m:List (K×V)) (i:Nat) (q:Nat×V),cm eq k m i=some q→i≤q.1:=by
    intro m;induction m with
    |nil=>intro i q h;simp[cm]at h
    |cons p ps ih=>
     grind [cm]
   cases hf:cm eq k ps (i+1)with
   |none=>rfl
   |some q=>
    grind
theorem y7(ek:K→AVal)(ev:V→AVal):∀(m:List (K×V)) (n:Nat),(bZ ek ev n m).length=m.length
 | [],_=>rfl
 |_::ps,n=>by simp[bZ,y7 ek ev ps]
theorem C7(ek:K→AVal)(ev:V→AVal):∀(m m':List (K×V)) (n:Nat),bZ ek ev n (m++m')=bZ ek ev n m++bZ ek ev (n+m.length) m'
 | [],m',n=>by simp[bZ]
 |p::ps,m',n=>by simp[bZ,C7 ek ev ps,Nat.add_assoc,Nat.add_comm 1]
theorem H7(ek:K→AVal)(ev:V→AVal):∀(m:List (K×V)) (n i:Nat) (p:K×V),bZ ek ev n (m.set i p)=(bZ ek ev n m).set i (ek p.1,ev p.2,n+i)
 | [],n,i,p=>rfl
 |q::ps,n,0,p=>by simp[bZ]
 |q::ps,n,i+1,p=>by simp[bZ,H7 ek ev ps,Nat.add_assoc,Nat.add_comm 1]
def G8(P:Program)(T:TypeId):Option (Option (List Kd)×Bool×Option AVal):=match P.underlying T with
 |some (.map K E)=>some (cV P 9 K,fB P K,Ae P E)
 |_=>none
def Eo(m:List (K×V))(k:K)(ek:K→AVal)(ev:V→AVal)(eq:K→K→Bool)(d:V)(ks:List Kd)(ag ok:Bool)(b:Nat):mI Unit where
 run:=some ()
 bf _:={val:=match ok with
  |true=>.bW [ev (((cm eq k m 0).map (·.2)).getD d),.sc (.bool (cm eq k m 0).isSome)]
  |false=>ev (((cm eq k m 0).map (·.2)).getD d)}
 ids:=[b]
 oc gl P cfg nid op ah H:=match op with
  | .lookup T x i ok'=>ok'=ok∧ah x=.mp b∧ah i=ek k∧H[b]? =some (.map m.length (bZ ek ev 0 m))∧G8 P T=some (some ks,ag,some (ev d))∧(∀k,nY (ek k)=ag)∧∀k k',cH ks (ek k).cells (ek k').cells=some (eq k k')
  |_=>False
 iw:=ok=ok∧AVal.mp b=AVal.mp b∧ek k=ek k∧some (aa.map m.length (bZ ek ev 0 m))=some (aa.map m.length (bZ ek ev 0 m))∧some (some ks,ag,some (ev d))=some (some ks,ag,some (ev d))∧(∀_:K,ag=ag)∧∀k k',some (eq k k')=some (eq k k')
 holds:=⟨rfl,rfl,rfl,rfl,rfl,fun _=>rfl,fun _ _=>rfl⟩
 sound gl P cfg nid op ah H h x hx:=by
  cases op<;>try exact h.elim
  rename_i T a i ok';obtain⟨rfl,h1,h2,h3,h4,h5,h6⟩:=h;unfold G8 at h4;split at h4
  ·rename_i TK TE hu;simp only[Option.some.injEq,Prod.mk.injEq]at h4;obtain⟨t1,t2,t3⟩:=h4;have hk:oZ P TK (ek k)=some ks:=by simp[oZ,t1,h5,t2]
   have hf:=Az (ev:=ev) (eq:=eq) h5 h6 k m 0 0;simp only[bC,cA,bY,Cl,hu,h2,hk,h1,mapOf,Rd.bind,Rd.run,Rd.reads,h3,h6,t2,hf,t3,if_false,Bool.false_eq_true];cases hfm:cm eq k m 0 with
   |none=>grind
   |some q=>grind
  ·cases h4
def Ep(m:List (K×V))(k:K)(v:V)(ek:K→AVal)(ev:V→AVal)(eq:K→K→Bool)(ks:List Kd)(ag:Bool)(b:Nat):mI Unit where
 run:=some ()
 bf _:={val:=nothing,dc:=[(b,.map (gJ eq k v m).length (bZ ek ev 0 (gJ eq k v m)))]}
 ids:=[b]
 oc gl P cfg nid op ah H:=match op with
  | .mapUpdate T x i y=>ah x=.mp b∧ah i=ek k∧ah y=ev v∧H[b]? =some (.map m.length (bZ ek ev 0 m))∧(G8 P T).map (fun t=>(t.1,t.2.1))=some (some ks,ag)∧(∀k,nY (ek k)=ag)∧∀k k',cH ks (ek k).cells (ek k').cells=some (eq k k')
  |_=>False
 iw:=AVal.mp b=AVal.mp b∧ek k=ek k∧ev v=ev v∧some (aa.map m.length (bZ ek ev 0 m))=some (aa.map m.length (bZ ek ev 0 m))∧some (some ks,ag)=some (some ks,ag)∧(∀_:K,ag=ag)∧∀k k',some (eq k k')=some (eq k k')
 holds:=⟨rfl,rfl,rfl,rfl,rfl,fun _=>rfl,fun _ _=>rfl⟩
 sound gl P cfg nid op ah H h x hx:=by
  cases op<;>try exact h.elim
  rename_i T a i y;obtain⟨h1,h2,hy,h3,h4,h5,h6⟩:=h;obtain⟨t,h4,ht⟩:=Option.map_eq_some_iff.1 h4;unfold G8 at h4;split at h4
  ·rename_i TK TE hu;simp only[Option.some.injEq]at h4;subst h4;simp only[Prod.mk.injEq]at ht;obtain⟨t1,t2⟩:=ht;have hk:oZ P TK (ek k)=some ks:=by simp[oZ,t1,h5,t2]
   have hf:=Az (ev:=ev) (eq:=eq) h5 h6 k m 0 0;simp only[bC,cA,bY,sV,hu,h2,hk,h1,mapOf,Rd.bind,Rd.run,Rd.reads,h3,h6,t2,hf,hy,if_false,Bool.false_eq_true];cases hfm:cm eq k m 0 with
   |none=>simp[Rd.bind,Rd.run,Rd.reads,gJ,hfm,C7,bZ]
   |some q=>simp[Rd.bind,Rd.run,Rd.reads,gJ,hfm,H7,y7]
  ·cases h4
end
end
def cI(k:IntKind)(n:Int):AVal:=.sc (.int k n)
def cL{α:Type}(enc:α→List AVal)(l:List α):AVal:=.aC (l.map enc)
def eI(k:IntKind)(n:Int):List AVal:=[.sc (.int k n)]
def eB(b:Bool):List AVal:=[.sc (.bool b)]
def eS(s:ByteArray):List AVal:=[.sc (.string s)]
def eL{α:Type}(enc:α→List AVal)(l:List α):List AVal:=[.aC (l.map enc)]
structure V2(α:Type) where
 (a0 a1:α)
def Re{α:Type}(c:α→AVal)(x:V2 α):List AVal:=[c x.a0,c x.a1]
structure V8(α:Type) where
 (a0 a1 a2 a3 a4 a5 a6 a7:α)
def ki{α:Type}(c:α→AVal)(x:V8 α):List AVal:=[c x.a0,c x.a1,c x.a2,c x.a3,c x.a4,c x.a5,c x.a6,c x.a7]
structure Rf(α:Type) where
 (a0 a1 a2 a3 a4 a5 a6 a7 a8 a9:α)
def NZ{α:Type}(c:α→AVal)(x:Rf α):List AVal:=[c x.a0,c x.a1,c x.a2,c x.a3,c x.a4,c x.a5,c x.a6,c x.a7,c x.a8,c x.a9]
theorem Ft{X:Type}(l:List X)(enc:X→List AVal)(h:∀x,AVal.aQ (enc x)=true):(l.map enc).all AVal.aQ=true:=by
 grind
def aP{X:Type}(b aj sz:Nat)(l:List X)(enc:X→List AVal)(h:∀x,AVal.aQ (enc x)=true):PU:=⟨b,.row aj sz (l.map enc),Ft l enc h⟩
theorem Fu{K V:Type}(ek:K→AVal)(ev:V→AVal)(h:∀k,(ek k).pure=true)(h':∀v,(ev v).pure=true):∀(m:List (K×V)) (n:Nat),(bZ ek ev n m).all (fun p=>p.1.pure&&p.2.1.pure)=true
 | [],_=>rfl
 |p::ps,n=>by simp[bZ,h,h',Fu ek ev h h' ps (n+1)]
def CC{K V:Type}(b:Nat)(m:List (K×V))(ek:K→AVal)(ev:V→AVal)(h:∀k,(ek k).pure=true)(h':∀v,(ev v).pure=true):PU:=⟨b,.map m.length (bZ ek ev 0 m),Fu ek ev h h' m 0⟩
def ff{X:Type}(p:Pl)(b aj sz n:Nat)(l:List X)(enc:X→List AVal)(h:∀x,AVal.aQ (enc x)=true):FZ:=⟨p,b,aj,sz,n,l.map enc,Ft l enc h⟩
def wA{X:Type}(b aj sz:Nat)(l:List X)(c:X→AVal)(h:∀x,(c x).pure=true):PU:=⟨b,.row aj sz [l.map c],by
 have:∀l:List X,AVal.aQ (l.map c)=true:=by
  intro l;induction l with
  |nil=>rfl
  |cons x xs ih=>grind [AVal.aQ]
 simp[oF,this]⟩
def fZ{X:Type}(b aj sz:Nat)(l:List X)(enc:X→List AVal)(h:∀x,AVal.aQ (enc x)=true):PR:=PR.ofRow b aj sz (l.map enc) (Ft l enc h)
def K5{K V:Type}(b:Nat)(m:List (K×V))(ek:K→AVal)(ev:V→AVal)(h:∀k,(ek k).pure=true)(h':∀v,(ev v).pure=true):PR:=⟨b,.map m.length (bZ ek ev 0 m),Fu ek ev h h' m 0⟩
end Go.AM
end
