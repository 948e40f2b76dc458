/- Parts put together. No conditions. -/
import Derived.Test.YtiohninblcifpaaGreatDoorAb
import Derived.ProofKit
import Derived.OpenShut
import Derived.JoinedCond
import Derived.LaidLaws
set_option linter.unusedSectionVars false
set_option linter.unusedSimpArgs false
section
namespace Go.AM
open Go.ChangeShapes Go.WideShapes Go.ChangeAt Go.RowKit
def Gh.bare(w:World):Gh:={af:=fun _ _=>none,st:=fun k _=>k<w.heap.size}
section
variable [az]
theorem Gh.KD(w:World)(hg:mN (Gh.bare w) w):Inv (Gh.bare w) [] w:=
 ⟨fun b x h=>by simp at h,fun b b' x x' v v' k z z' h=>by simp at h,fun b ai _=>rfl,fun b x v ver' h=>by simp at h,fun b x v k z o h=>by simp at h,fun _ _ h=>h,hg⟩
theorem Gd{w w':World}{g':Gh}{H':List aa}(h:aL (Gh.bare w) [] w g' H' w'):Below w.heap.size w w':=
 ⟨h.os,h.tape.1,h.output,h.size,fun k hk=>h.keep k hk dK⟩
end
section
variable {H:Type} {enc:TypeId×Value→H} {P:Program}
theorem D9{f:Func}{s:ChangeSpec}{apart fresh handsOn again:Bool}{W W':World}{args:Array Value}{v:Value}{ds gs:List (DataW H)}{before pa pv:List MemPlace}
 (hW:DataW.Whole enc P f.params.toList s.vars apart W args.toList ds gs before)
 (hres:∀(b:Nat) (sp:Nat→Bool) (hd:Bool),DataW.TrodAll enc P W' b sp hd f.resultTypes.toList (v.resultList f.resultTypes.size) (s.fn H (ds++gs)).results [])
 (hargs:∀sp:Nat→Bool,(∀p∈before,sp p.block=true)→DataW.TrodAll enc P W' 0 sp true f.params.toList args.toList (s.fn H (ds++gs)).args pa)
 (hvars:∀sp:Nat→Bool,(∀p∈before,sp p.block=true)→DataW.TrodVars enc P W' sp s.vars (s.fn H (ds++gs)).vars pv)
 (hps:before=pa++pv) (hb:Below W.heap.size W W')
 (hok:∀(j:Nat) (t:TypeId) (r:Value),f.resultTypes[j]? =some t→(v.resultList f.resultTypes.size)[j]? =some r→Value.okWide P W' .any 0 t r):
 s.post enc P f apart fresh handsOn again W args v W':=by
 have hold:∀p∈before,(fun b=>decide (b<W.heap.size)) p.block=true:=fun p hp=>by simpa using hW.lt p hp
 have hlt:=hW.lt;refine⟨ds,gs,before,[],pa,pv,hW,hres _ _ _,hargs _ hold,hvars _ hold,World.keptBut_mono (fun p hp=>⟨hp,?_⟩) (hb.frame (· ∈before)),fun _=>?_⟩
 ·rw[hps,List.mem_append]at hp;exact Or.inr hp
 ·obtain⟨_,_,_,_,_,hz,hn⟩:=hW;refine⟨hok,_,_,([]++pa)++pv,⟨[]++pa,pv,trodAll_append (hargs _ (fun _ _=>rfl)) (hres _ _ _),hvars _ (fun _ _=>rfl),rfl,?_,?_⟩,?_⟩
  ·intro b off hp;have hm:MemPlace.cell b off∈before:=by rw[hps];simpa using hp
   rw[hb.frozen (hlt _ hm)];exact hz b off hm
  ·intro ha;have:=hn ha;rw[hps]at this;simpa using this
  ·intro p hp _;rw[hps];simpa using hp
end
end Go.AM
end
section
namespace Go.AM
structure Entry where
 f:FuncId
 args:List AVal
 res:AVal
def xg(f:FuncId)(args:List AVal):List Entry→Option AVal
 | []=>none
 |e::es=>if e.f==f&&rL e.args args then some e.res else xg f args es
def ya[az](P:Program)(cfg:dV)(tbl:List Entry)(loops:Nat):Nat→iL
 | 0=>⟨fun _ _ _=>none,fun _ _ _=>none⟩
 |n+1=>⟨fun f args H=>match(match H with | []=>xg f args tbl |_=>none)with
  |some r=>some (.ret r,[])
  |none=>BL P cfg (ya P cfg tbl loops n) loops f args H,roundOf P cfg (ya P cfg tbl loops n) loops⟩
section
variable [az] {P:Program} {cfg:dV}
def CZ(P:Program)(e:Entry):Prop:=
 (∃ fn c, P.funcs[e.f]? = some fn ∧ fn.body = some c ∧ fn.name ≠ "runtime.NumGoroutine") ∧
 ∀g w (vs:Array Value),Inv g [] w→RL g w e.args vs.toList→Calls P e.f vs w (dx g [] w (.ret e.res) [])
def yb(P:Program)(tbl:List Entry):Prop:=∀e∈tbl,CZ P e
theorem yb.nil:yb P []:=fun _ h=>by cases h
theorem yb.cons{e:Entry}{tbl:List Entry}(h:CZ P e)(h':yb P tbl):yb P (e::tbl):=fun x hx=>by
 rcases List.mem_cons.1 hx with rfl |hx
 ·exact h
 ·exact h' x hx
theorem zu{f:FuncId}{args:List AVal}{r:AVal}:∀{tbl:List Entry},xg f args tbl=some r→∃e∈tbl,e.f=f∧e.args=args∧e.res=r
 | [],h=>by simp[xg]at h
 |e::es,h=>by
  simp only[xg]at h;split at h
  ·rename_i hc;simp only[Bool.and_eq_true,beq_iff_eq]at hc;simp only[Option.some.injEq]at h;exact⟨e,by simp,hc.1,oB _ _ hc.2,h⟩
  ·obtain⟨e',h1,h2⟩:=zu h;exact⟨e',List.mem_cons_of_mem _ h1,h2⟩
theorem wC(hm : P.follows .mixedOrders = true)(hN : ∀ (f : FuncId) (fn : Func), P.funcs[f]? = some fn → fn.name ≠ "runtime.NumGoroutine"){tbl : List Entry}(ht : yb P tbl)(loops : Nat) : ∀ n, fe P (ya P cfg tbl loops n)
 | 0=>⟨fun _ _ _ _ _ h=>by simp[ya]at h,fun _ _ _ _ _ h=>by simp[ya]at h⟩
 |n+1=>by
  refine⟨fun f args H r H1 h=>?_,fun _ _ _ _ _ h=>D8 hm (wC hm hN ht loops n) h⟩
  simp only[ya]at h;split at h
  ·rename_i v hv;simp only[Option.some.injEq,Prod.mk.injEq]at h;obtain⟨rfl,rfl⟩:=h;cases H with
   |nil=>
    obtain⟨e,he,rfl,rfl,rfl⟩:=zu hv;exact ht e he
   |cons x xs=>cases hv
  ·exact E3 hm hN (wC hm hN ht loops n) h
def E4(orc:iL)(e:Entry):Bool:=match orc.fn e.f e.args []with
 |some (.ret v,H1)=>match(snap iK v).run H1 with
  |some v'=>same v' e.res
  |none=>false
 |_=>false
theorem KE{orc:iL}(ho:fe P orc){e:Entry}(h:E4 orc e=true):CZ P e:=by
 unfold E4 at h;split at h
 ·rename_i v H1 hc;split at h
  ·rename_i v' hs;have:=sV _ _ h;subst this;obtain⟨h1,h2⟩:=ho.fn _ _ _ _ _ hc;refine⟨h1,fun g w vs hi hl=>(h2 g w vs hi hl).mono ?_⟩
   rintro en w' ⟨g',hi',hla,x,rfl,hr⟩;obtain⟨r1,r2⟩:=nA hi' _ _ _ _ hs hr;refine⟨eX g' H1,hi'.eX,⟨⟨fun b ai x hx=>?_,fun k o hk=>.inl (hla.ext.st k o hk),hla.ext.cell,hla.ext.shape⟩,hla.size,hla.keep,fun k _ ho=>absurd ho dK,Nat.le_refl _,hla.os,hla.tape,hla.output,fun k o hk hst=>?_,fun b hb=>by simp at hb,fun b ai k z h=>by cases h⟩,x,rfl,r1⟩
   ·rw[hi.fresh b ai (.inr (by simp))]at hx;cases hx
   ·rcases hst with hst |hst
    ·exact(hla.stk k o hk hst).imp_right fun h=>absurd h.1 dK
    ·exact absurd (hla.own k hk hst) dK
  ·cases h
 ·cases h
end
end Go.AM
end
section
namespace Go.AM
def litVal:Lit→Option Value
 | .bool b=>some (.bool b)
 | .int k n=>some (.int k n)
 | .string l=>some (.string ⟨l.toArray⟩)
 |_=>none
mutual
def tI{H:Type}:DataW H→Option (List Value)
 | .lit l=>(litVal l).map fun v=>[v]
 | .agg ds=>tX ds
 |_=>none
def tX{H:Type}:List (DataW H)→Option (List Value)
 | []=>some []
 |d::ds=>match tI d,tX ds with
  |some a,some b=>some (a++b)
  |_,_=>none
end
section
variable {H:Type} {enc:TypeId×Value→H} {P:Program} {w:World} {base:Nat} {sp:Nat→Bool} {held:Bool}
theorem rR{t n:Nat}(h:ct P t=some n):P.cellsOf t=n:=by
 unfold ct at h;simp[Program.cellsOf,h]
theorem Dy{s:Nat}{cs:List Value}{F:List Value→Option (DataW H×List MemPlace)}(hF:∀c x v,F c=some x→tI x.1=some v→c=v):∀(xs:List (DataW H×List MemPlace)) (off:Nat) (vs:List Value),
 (∀i,i<xs.length→F ((cs.drop (off+i*s)).take s)=xs[i]?)→tX (xs.map (·.1))=some vs→(cs.drop off).take (xs.length*s)=vs
 | [],off,vs,_,h=>by simp[tX]at h;simp[h]
 |x::xs,off,vs,hx,h=>by
  simp only[List.map_cons,tX]at h;split at h
  ·rename_i a b ha hb;simp only[Option.some.injEq]at h;subst h;have h0:=hx 0 (by simp)
   simp only[Nat.zero_mul,Nat.add_zero,List.getElem?_cons_zero]at h0;have e0:=hF _ _ _ h0 ha;have e1:=Dy hF xs (off+s) b (fun i hi=>by
    have:=hx (i+1) (by simpa using hi)
    rw[List.getElem?_cons_succ]at this;rw[← this,Nat.add_mul,Nat.one_mul];congr 3;omega) hb
   rw[List.length_cons,Nat.add_mul,Nat.one_mul,Nat.add_comm,List.take_add,e0,List.drop_drop,e1]
  ·cases h
theorem AW{K:TypeId→Option (List Kd)}{cs:List Value}{F:TypeId→List Value→Option (DataW H×List MemPlace)}(hF:∀t ks c x v,K t=some ks→F t c=some x→tI x.1=some v→c=v):
 ∀(fl:List Field) (off:Nat) (ks:List Kd) (xs:List (DataW H×List MemPlace)) (vs:List Value),cN.kindsFields P K fl off=some ks→xs.length=fl.length→
  (∀(i:Nat) (f:Field),fl[i]? =some f→F f.type ((cs.drop f.offset).take (P.cellsOf f.type))=xs[i]?)→tX (xs.map (·.1))=some vs→(cs.drop off).take ks.length=vs
 | [],off,ks,xs,vs,hk,hl,_,h=>by
  grind [cN.kindsFields,tX]
 |f::fl,off,ks,[],vs,_,hl,_,_=>by simp at hl
 |f::fl,off,ks,x::xs,vs,hk,hl,hx,h=>by
  simp only[cN.kindsFields]at hk;split at hk
  ·rename_i hc;split at hk
   ·rename_i k1 hk1;split at hk
    ·rename_i hsz;obtain⟨k2,hk2,rfl⟩:=Option.map_eq_some_iff.1 hk;simp only[beq_iff_eq]at hsz;simp only[List.map_cons,tX]at h;split at h
     ·rename_i a b ha hb;simp only[Option.some.injEq]at h;subst h;have h0:=hx 0 f (by simp)
      simp only[List.getElem?_cons_zero]at h0;have e0:=hF _ _ _ _ _ hk1 h0 ha;rw[hc.2,rR hsz]at e0;have e1:=AW hF fl (off+k1.length) k2 xs b hk2 (by simpa using hl) (fun i f' hf=>by
       have:=hx (i+1) f' (by simpa using hf)
       simpa using this) hb
      rw[List.length_append,List.take_add,e0,List.drop_drop,e1]
     ·cases h
    ·cases hk
   ·cases hk
  ·cases hk
theorem Dz:∀(d t:Nat) (ks:List Kd) (fuel:Nat) (cs:List Value) (x:DataW H×List MemPlace) (vs:List Value),cN P d t=some ks→DataW.trod enc P w base sp held fuel t cs=some x→tI x.1=some vs→cs=vs
 | 0,_,_,_,_,_,_,hk,_,_=>by simp[cN]at hk
 |d+1,t,ks,fuel,cs,x,vs,hk,h,hv=>by
  have ih:=Dz d;simp only[cN]at hk;split at hk
  ·rename_i hu;have:∃b,cs=[.bool b]∧x=(.lit (.bool b),[]):=by
    cases fuel with
    |zero=>simp[DataW.trod]at h
    |succ n=>
     unfold DataW.trod at h;grind
   grind [tI,litVal]
  ·rename_i k hu;obtain⟨n,rfl,rfl,_⟩:=DataW.trod_int hu h;simpa[tI,litVal]using hv
  ·rename_i hu;obtain⟨s,rfl,rfl,_⟩:=DataW.trod_string hu h;simpa[tI,litVal]using hv
  ·rename_i fs hu;split at hk
   ·cases hk
   ·split at hk
    ·rename_i ks' hks;split at hk
     ·rename_i hsz;simp only[Option.some.injEq]at hk;subst hk;simp only[beq_iff_eq]at hsz;obtain⟨xs,n,rfl,rfl,hl,hxl,hget⟩:=DataW.trod_struct hu h;simp only[tI]at hv;have:=AW (P:=P) (cs:=cs) (K:=cN P d) (F:=fun t c=>DataW.trod enc P w base sp held n t c) (fun t ks c x v hk hf hv=>ih t ks n c x v hk hf hv) fs.toList 0 ks' xs vs hks (by simpa using hxl) (fun i f hf=>hget i f (by simpa using hf)) hv
      grind [rR]
     ·cases hk
    ·cases hk
  ·rename_i n e hu;split at hk
   ·rename_i ks' hks;split at hk
    ·rename_i hsz;simp only[Bool.and_eq_true,beq_iff_eq]at hsz;obtain⟨xs,m,rfl,rfl,hl,hxl,hget⟩:=DataW.trod_array hu h;simp only[tI]at hv;rw[rR hsz.1]at hget;have:=Dy (s:=ks'.length) (cs:=cs) (F:=fun c=>DataW.trod enc P w base sp held m e c) (fun c x v hf hv=>ih e ks' m c x v hks hf hv) xs 0 vs (fun i hi=>by
      grind) hv
     grind [rR]
    ·cases hk
   ·cases hk
  ·cases hk
theorem HT{name:String}{d:DataW Unit}{rest:List (String×DataW Unit)}{g t:Nat}{ks:List Kd}{vs:List Value}(hg:P.globalNamed name=some g)(hty:(P.globals[g]?).map (·.type)=some t)(hk:cN P 9 t=some ks)(hv:tI d=some vs)
 (h:laidMet P ((name,d)::rest) w):w.var? P name=some vs.toArray:=by
 obtain⟨ps,⟨g',t',cs,fuel,p,q,hg',ht',hvar,hd,_,_⟩,_⟩:=h;obtain rfl:=Option.some.inj (hg.symm.trans hg');obtain rfl:=Option.some.inj (hty.symm.trans ht');have:=Dz _ _ _ _ _ _ _ hk hd hv;rw[hvar,← this]
theorem Js[gl:az]{name:String}{g:Nat}{vs:List Value}(hg:P.globalNamed name=some g)(hvar:w.var? P name=some vs.toArray)(h1:vs.all (·.oneCell')=true)(hgl:∀i cs,gl.default.cells i=some cs→i=g∧cs=vs.map .sc):mN (Gh.bare w) w:=by
 intro i cs hi;obtain⟨rfl,rfl⟩:=hgl i cs hi;refine⟨?_,vS fun j x hx=>?_⟩
 ·exact oz.2 fun x hx=>by
   obtain⟨v,_,rfl⟩:=List.mem_map.1 hx;rfl
 ·rw[List.getElem?_map]at hx;obtain⟨v,hv,rfl⟩:=Option.map_eq_some_iff.1 hx;have hc:=World.var?_cell hg hvar j;rw[List.getElem?_toArray,hv]at hc;have hlt:i<w.heap.size:=by
   apply Decidable.byContradiction;intro hn;simp[World.cell?,Array.getElem?_eq_none (Nat.le_of_not_lt hn)]at hc
  rw[Nat.zero_add];exact⟨hlt,v,hc,List.all_eq_true.1 h1 v (List.mem_of_getElem? hv),by simp[R]⟩
end
end Go.AM
end
section
namespace Go.AM
abbrev Ren:=Nat→Nat→Option (Nat×Nat)
namespace AVal
mutual
def iu(f:Ren):AVal→AVal
 | .sc v=>.sc v
 | .agg cs=>.agg (mz f cs)
 | .cm cs=>.cm (mz f cs)
 | .ptr b ai i o=>match f b ai with
  |some (b',ver')=>.ptr b' ver' i o
  |none=>.ay
 | .bH cs o=>.bH cs o
 | .sl b ai sz o n=>match f b ai with
  |some (b',ver')=>.sl b' ver' sz o n
  |none=>.ay
 | .au rows=>.au rows
 | .fn g a b=>.fn g (mz f a) (mz f b)
 | .ep t v=>.ep t (iu f v)
 | .mp b=>match f b 0 with
  |some (b',0)=>.mp b'
  |_=>.ay
 | .gL b=>match f b 0 with
  |some (b',0)=>.gL b'
  |_=>.ay
 | .sa b ai i o s n=>match f b ai with
  |some (b',ver')=>.sa b' ver' i o s n
  |none=>.ay
 | .fm i o=>.fm i o
 | .emp=>.emp
 | .nz b=>.nz b
 | .ay=>.ay
def mz(f:Ren):List AVal→List AVal
 | []=>[]
 |a::as=>iu f a::mz f as
end
theorem AX(f:Ren):∀(l:List AVal),(mz f l).length=l.length
 | []=>rfl
 |_::as=>by simp[mz,AX f as]
end AVal
section
variable [az] {g g':Gh} {w:World} {f:Ren}
mutual
theorem BW(hst:∀k o,g.st k o→g'.st k o)(hf:∀b v b' v' x,f b v=some (b',v')→g.af b v=some x→g'.af b' v'=some x):∀(v:AVal) (x:Value),R g w v x→R g' w (v.iu f) x
 | .sc _,x,hr=>by simpa[R,AVal.iu]using hr
 | .agg cs,x,hr=>by
  simp only[R,AVal.iu]at hr ⊢;obtain⟨vs,e,h1,hl⟩:=hr;exact⟨vs,e,h1,qi hst hf cs vs hl⟩
 | .cm cs,x,hr=>by
  simp only[R,AVal.iu]at hr ⊢;obtain⟨vs,e,hl⟩:=hr;exact⟨vs,e,qi hst hf cs vs hl⟩
 | .ptr b ai i o,x,hr=>by
  grind [R,AVal.iu]
 | .bH cs o,x,hr=>by
  grind [R,AVal.iu,jf]
 | .sl b ai sz o n,x,hr=>by
  grind [R,AVal.iu]
 | .au rows,x,hr=>by
  simp only[R,AVal.iu]at hr ⊢;obtain⟨a,cap,e,hle,hr⟩:=hr;refine⟨a,cap,e,hle,?_⟩;rcases hr with h0 |⟨k,off,sz,ha,hc⟩
  ·exact .inl h0
  ·exact .inr ⟨k,off,sz,ha,Ai hst rows k off sz hc⟩
 | .fn _ a b,x,hr=>by
  simp only[R,AVal.iu]at hr ⊢;obtain⟨va,vb,e,h1,h2⟩:=hr;exact⟨va,vb,e,qi hst hf a va h1,qi hst hf b vb h2⟩
 | .ep t v,x,hr=>by
  simp only[R,AVal.iu]at hr ⊢;obtain⟨y,e,h1⟩:=hr;exact⟨y,e,BW hst hf v y h1⟩
 | .mp b,x,hr=>by
  grind [R,AVal.iu]
 | .gL b,x,hr=>by
  grind [R,AVal.iu]
 | .sa b ai i o s n,x,hr=>by
  grind [R,AVal.iu]
 | .fm i o,x,hr=>by simpa[R,AVal.iu]using hr
 | .emp,x,hr=>by simpa[R,AVal.iu]using hr
 | .nz _,x,hr=>by simpa[R,AVal.iu]using hr
 | .ay,x,_=>by simp[R,AVal.iu]
theorem qi(hst:∀k o,g.st k o→g'.st k o)(hf:∀b v b' v' x,f b v=some (b',v')→g.af b v=some x→g'.af b' v'=some x):∀(v:List AVal) (x:List Value),RL g w v x→RL g' w (AVal.mz f v) x
 | [],x,hr=>by simpa[RL,AVal.mz]using hr
 |a::as,x,hr=>by
  simp only[RL,AVal.mz]at hr ⊢;obtain⟨y,ys,e,h1,h2⟩:=hr;exact⟨y,ys,e,BW hst hf a y h1,qi hst hf as ys h2⟩
end
def E5(f:Ren):aa→aa→Prop
 | .row _ sz rows,.row _ sz' rows'=>sz'=sz∧((rows'=rows∧rows.all AVal.aN=true)∨rows'=rows.map (AVal.mz f))
 | .map c es,.map c' es'=>c'=c∧((es'=es∧es.all (fun p=>p.1.pure&&p.2.1.pure)=true)∨es'=es.map fun p=>(p.1.iu f,p.2.1.iu f,p.2.2))
 | .loop st pend fid A ps as bd,.loop st' pend' fid' A' ps' as' bd'=>st'=st∧pend'=pend∧fid'=fid∧ps'=ps∧as'=as∧bd'=bd∧A'=AVal.mz f A
 | .defs,.defs=>True
 | .iter m since seen stepped,.iter m' since' seen' stepped'=>since'=since∧seen'=seen∧stepped'=stepped∧m'=m.iu f
 |_,_=>False
structure HU(g g':Gh)(H H':List aa)(f:Ren):Prop where
 st:g'.st=g.st
 af:∀b v b' v' x,f b v=some (b',v')→g.af b v=some x→g'.af b' v'=some x
 blk:∀(b':Nat) (x':aa),H'[b']? =some x'→x'.live=none∨∃b x v v',H[b]? =some x∧x.live=some v∧x'.live=some v'∧f b v=some (b',v')∧g'.af b' v'=g.af b v∧E5 f x x'
 fresh:∀b' v,(H'[b']? =some .aU∨H'.length≤b')→g'.af b' v=none
 next:∀(b':Nat) (x':aa) v v',H'[b']? =some x'→x'.live=some v→v<v'→g'.af b' v'=none
theorem KF{H H':List aa}(h:HU g g' H H' f){b b' v v':Nat}{x x':aa}(hg:Good g w b x)(hv:x.live=some v)(hv':x'.live=some v')(hr:g'.af b' v'=g.af b v)(hb:E5 f x x'):Good g' w b' x':=by
 have hst:∀k o,g.st k o→g'.st k o:=fun k o h'=>by rw[h.st];exact h'
 cases x<;>cases x'<;>simp only[E5]at hb<;>try exact hb.elim
 case row.row ai sz rows ver' sz' rows'=>
  simp only[aa.live,Option.some.injEq]at hv hv';subst hv;subst hv';obtain⟨rfl,hb⟩:=hb;rcases hg with⟨k,c,e,h1,h2,h3,h4,h5⟩ |⟨rfl,h2,h3⟩
  ·rcases hb with⟨rfl,hp⟩ |rfl
   ·refine .inl ⟨k,c,e,hr.trans h1,h2,gC _ _ fun j r hj=>?_,h4,h5⟩
    obtain⟨r1,r2⟩:=bX _ _ _ _ h3 hj;obtain⟨vs,v1,v2,v3,v4⟩:=dJ r2;exact⟨r1,cT (nZ hst _ _ (List.all_eq_true.1 hp r (List.mem_of_getElem? hj)) v3) v2 v4⟩
   ·refine .inl ⟨k,c,e,hr.trans h1,h2,gC _ _ fun j r hj=>?_,by simpa using h4,h5⟩
    rw[List.getElem?_map]at hj;obtain⟨r0,hj0,rfl⟩:=Option.map_eq_some_iff.1 hj;obtain⟨r1,r2⟩:=bX _ _ _ _ h3 hj0;obtain⟨vs,v1,v2,v3,v4⟩:=dJ r2;exact⟨by rw[AVal.AX,r1],cT (qi hst h.af _ _ v3) v2 v4⟩
  ·rcases hb with⟨rfl,_⟩ |rfl
   ·exact .inr ⟨rfl,hr.trans h2,h3⟩
   ·exact .inr ⟨rfl,hr.trans h2,h3⟩
 case map.map c es c' es'=>
  simp only[aa.live,Option.some.injEq]at hv hv';subst hv;subst hv';obtain⟨rfl,hb⟩:=hb;obtain⟨k,ents,h1,h2,h3⟩:=hg;refine⟨k,ents,hr.trans h1,h2,?_⟩;grind [lJ,tS,kF,BW,h.af]
 case loop.loop=>
  simp only[aa.live,Option.some.injEq]at hv hv';subst hv;subst hv';obtain⟨rfl,rfl,rfl,rfl,rfl,rfl,rfl⟩:=hb;obtain⟨k,tmps,dk,fn,h1,h2,h3⟩:=hg;exact⟨k,tmps,dk,fn,hr.trans h1,h2,qi hst h.af _ _ h3⟩
 case iter.iter=>
  simp only[aa.live,Option.some.injEq]at hv hv';subst hv;subst hv';obtain⟨rfl,rfl,rfl,rfl⟩:=hb;obtain⟨k,mo,h1,h2,h3⟩:=hg;exact⟨k,mo,hr.trans h1,h2,BW hst h.af _ _ h3⟩
 case defs.defs=>
  simp only[aa.live,Option.some.injEq]at hv hv';subst hv;subst hv';obtain⟨k,h1,h2⟩:=hg;exact⟨k,hr.trans h1,h2⟩
theorem Inv.iu{H H':List aa}(hi:Inv g H w)(h:HU g g' H H' f):Inv g' H' w:=by
 have hst:∀k o,g.st k o→g'.st k o:=fun k o h'=>by rw[h.st];exact h'
 refine⟨?_,?_,h.fresh,h.next,?_,?_,hi.cz.st hst⟩
 ·intro b' x' hb';rcases h.blk b' x' hb' with hl |⟨b,x,v,v',h1,h2,h3,h4,h5,h6⟩
  ·cases x'<;>simp[aa.live]at hl<;>trivial
  ·exact KF h (hi.good b x h1) h2 h3 h5 h6
 ·intro b1 b2 x1 x2 v1 v2 k z1 z2 hb1 hb2 l1 l2 k1 k2;rcases h.blk b1 x1 hb1 with hl |⟨c1,y1,u1,u1',p1,p2,p3,p4,p5,p6⟩
  ·rw[l1]at hl;cases hl
  ·rcases h.blk b2 x2 hb2 with hl |⟨c2,y2,u2,u2',q1,q2,q3,q4,q5,q6⟩
   ·rw[l2]at hl;cases hl
   ·rw[l1]at p3;cases p3;rw[l2]at q3;cases q3;rw[p5]at k1;rw[q5]at k2;have:=hi.inj c1 c2 y1 y2 u1 u2 k z1 z2 p1 q1 p2 q2 k1 k2;grind
 ·intro b' x' v k z o hb' hl hk hs;rcases h.blk b' x' hb' with hl' |⟨b,x,u,u',p1,p2,p3,p4,p5,p6⟩
  ·rw[hl]at hl';cases hl'
  ·rw[hl]at p3;cases p3;rw[p5]at hk;rw[h.st]at hs;exact hi.free b x u k z o p1 p2 hk hs
 ·intro k o hs;rw[h.st]at hs;exact hi.dI k o hs
end
def fZ[az](H0:List aa)(s s':St):Prop:=
 ∀(g0:Gh) (w0:World) (g:Gh) (a:Act) (w:World),Inv g0 H0 w0→aL g0 H0 w0 g s.H w→dm g s a w→∃g',dm g' s' a w∧aL g0 H0 w0 g' s'.H w
theorem fZ.refl[az](H0:List aa)(s:St):fZ H0 s s:=fun _ _ g _ _ _ hl hs=>⟨g,hs,hl⟩
theorem fZ.trans[az]{H0:List aa}{s s1 s2:St}(h:fZ H0 s s1)(h':fZ H0 s1 s2):fZ H0 s s2:=fun g0 w0 g a w hi hl hs=>
 let⟨g1,hs1,hl1⟩:=h g0 w0 g a w hi hl hs
 h' g0 w0 g1 a w hi hl1 hs1
def aa.qj:aa→Option Nat
 | .row v _ _=>some v
 |_=>none
def od:aa→Bool
 | .row _ _ rows=>rows.all AVal.aN
 | .map _ es=>es.all fun p=>p.1.pure&&p.2.1.pure
 |_=>true
def zw(pu:List Nat)(H:List aa):Prop:=∀b∈pu,∀x,H[b]? =some x→od x=true
def mI(b:Nat):List Nat→Nat→Option Nat
 | [],_=>none
 |c::cs,j=>match c==b with
  |true=>some j
  |false=>mI b cs (j+1)
def u7:List Nat→Bool
 | []=>true
 |c::cs=> !cs.contains c&&u7 cs
def lQ(bump:List Nat)(H0 H:List aa)(b:Nat):Option (Nat×Nat):=
 match bump.contains b with
 |true=>match(H0[b]?).bind aa.qj,(H[b]?).bind aa.qj with
  |some v0,some v1=>some (v0,v1)
  |_,_=>none
 |false=>none
def pP(H0:List aa)(b:Nat):Bool:=match H0[b]? with
 |some .aU=>false
 |some _=>true
 |none=>false
theorem GY{H0:List aa}{b:Nat}(h:pP H0 b=true):b<H0.length:=by
 grind [pP]
theorem BX{H0:List aa}{b:Nat}(h:pP H0 b=false):H0[b]? =some .aU∨H0.length≤b:=by
 grind [pP]
def oq(bl bump:List Nat)(H0 H:List aa):Ren:=fun b v=>
 match pP H0 b with
 |true=>match lQ bump H0 H b with
  |some (v0,v1)=>if v=v1 then some (b,v0+1)else none
  |none=>some (b,v)
 |false=>match mI b bl 0 with
  |some j=>if(H[b]?).bind aa.live=some v then some (H0.length+j,0)else none
  |none=>none
def gN(f:Ren)(p:Bool)(v':Option Nat):aa→aa
 | .row v sz rows=>.row (v'.getD v) sz (match p with |true=>rows |false=>rows.map (AVal.mz f))
 | .map c es=>.map c (match p with |true=>es |false=>es.map fun p=>(p.1.iu f,p.2.1.iu f,p.2.2))
 | .loop st pend fid A ps as bd=>.loop st pend fid (AVal.mz f A) ps as bd
 | .iter m since seen stepped=>.iter (m.iu f) since seen stepped
 |x=>x
def mU(f:Ren)(pu bump:List Nat)(H0 H:List aa):Nat→List aa→List aa
 |_,[]=>[]
 |b,x::xs=>(match pP H0 b with |true=>gN f (pu.contains b) ((lQ bump H0 H b).map (·.1+1)) x |false=>.aU)::mU f pu bump H0 H (b+1) xs
def Bl(f:Ren):List pN→Option (List pN)
 | []=>some []
 | .call h args::ds=>(Bl f ds).map (.call h (AVal.mz f args):: ·)
 | .mark b::ds=>if f b 0=some (b,0)then(Bl f ds).map (.mark b:: ·)else none
def KG(bl bump pu:List Nat)(H0:List aa)(s:St):Option St:=
 match u7 bl&&bl.all (fun b=> !pP H0 b&&decide (b<s.H.length))with
 |true=>match Bl (oq bl bump H0 s.H) s.D with
  |some D=>some ⟨AVal.mz (oq bl bump H0 s.H) s.A,mU (oq bl bump H0 s.H) pu bump H0 s.H 0 (s.H.take H0.length)++bl.map (fun b=>gN (oq bl bump H0 s.H) (pu.contains b) (some 0) (s.H.getD b .dead)),D⟩
  |none=>none
 |false=>none
theorem q8:∀{bl:List Nat} {b i j:Nat},mI b bl i=some j→i≤j∧bl[j - i]? =some b
 | [],b,i,j,h=>by simp[mI]at h
 |c::cs,b,i,j,h=>by
  simp only[mI]at h;split at h
  ·grind
  ·obtain⟨h1,h2⟩:=q8 h;grind
theorem wD:∀{bl:List Nat} {b j:Nat} (i:Nat),u7 bl=true→bl[j]? =some b→mI b bl i=some (i+j)
 | [],b,j,i,_,h=>by simp at h
 |c::cs,b,0,i,_,h=>by simp at h;subst h;simp[mI]
 |c::cs,b,j+1,i,hn,h=>by
  simp only[u7,Bool.and_eq_true,Bool.not_eq_true']at hn;simp only[List.getElem?_cons_succ]at h;have hne:(c==b)=false:=by
   apply beq_false_of_ne;rintro rfl;have:=List.mem_of_getElem? h;simp[this]at hn
  simp only[mI,hne];rw[wD (i+1) hn.2 h,show i+1+j=i+(j+1)by omega]
theorem wE(f:Ren)(pu bump:List Nat)(H0 H:List aa):∀(l:List aa) (b j:Nat),(mU f pu bump H0 H b l)[j]? =(l[j]?).map fun x=>match pP H0 (b+j)with |true=>gN f (pu.contains (b+j)) ((lQ bump H0 H (b+j)).map (·.1+1)) x |false=>.aU
 | [],b,j=>by simp[mU]
 |x::xs,b,0=>by simp[mU]
 |x::xs,b,j+1=>by
  simp only[mU,List.getElem?_cons_succ];rw[wE f pu bump H0 H xs (b+1) j,show b+1+j=b+(j+1)by omega]
theorem oe(f:Ren)(p:Bool)(v':Option Nat)(x:aa):(gN f p v' x).live=match x with | .row v _ _=>some (v'.getD v) |x=>x.live:=by cases x<;>rfl
theorem uD(f:Ren)(p:Bool)(v':Option Nat){x:aa}(hp:p=true→od x=true)(hl:x.live≠none):E5 f x (gN f p v' x):=by
 cases x with
 |row v sz rows=>
  refine⟨rfl,?_⟩;cases p with
  |true=>exact .inl ⟨rfl,hp rfl⟩
  |false=>exact .inr rfl
 |map c es=>
  refine⟨rfl,?_⟩;cases p with
  |true=>exact .inl ⟨rfl,hp rfl⟩
  |false=>exact .inr rfl
 |loop=>exact⟨rfl,rfl,rfl,rfl,rfl,rfl,rfl⟩
 |defs=>trivial
 |iter=>exact⟨rfl,rfl,rfl,rfl⟩
 |aU=>exact absurd rfl hl
 |dead=>exact absurd rfl hl
def mA(bl bump:List Nat)(H0 H:List aa)(g:Gh):Gh:=
 {af:=fun b v=>match decide (b<H0.length)with
  |true=>match pP H0 b with
   |true=>match lQ bump H0 H b with
    |some (v0,v1)=>if v≤v0 then g.af b v else if v=v0+1 then g.af b v1 else none
    |none=>g.af b v
   |false=>none
  |false=>match bl[b - H0.length]? with
   |some c=>if v=0 then(match(H[c]?).bind aa.live with |some u=>g.af c u |none=>none)else none
   |none=>none
  st:=g.st}
theorem AY{x:aa}{v:Nat}(h:x.qj=some v):x.live=some v:=by cases x<;>simp[aa.qj]at h<;>simp[aa.live,h]
theorem qk{bump:List Nat}{H0 H:List aa}{b v0 v1:Nat}(h:lQ bump H0 H b=some (v0,v1)):(∃x0,H0[b]? =some x0∧x0.qj=some v0)∧∃x1,H[b]? =some x1∧x1.qj=some v1:=by
 grind [lQ]
theorem KH[az]{bl bump pu:List Nat}{H0:List aa}{s s':St}(BZ:zw pu s.H)(h:KG bl bump pu H0 s=some s'):fZ H0 s s':=by
 intro g0 w0 g a w hi0 hl hs;unfold KG at h;split at h
 ·rename_i hc;simp only[Bool.and_eq_true,List.all_eq_true,decide_eq_true_eq,Bool.not_eq_true']at hc;obtain⟨hnd,hbl⟩:=hc;split at h
  ·rename_i D hD;simp only[Option.some.injEq]at h;subst h;have hlen:H0.length≤s.H.length:=hl.len;have htl:(s.H.take H0.length).length=H0.length:=by simp;omega
   have hrl:(mU (oq bl bump H0 s.H) pu bump H0 s.H 0 (s.H.take H0.length)).length=H0.length:=by
    have:∀(l:List aa) (b:Nat),(mU (oq bl bump H0 s.H) pu bump H0 s.H b l).length=l.length:=by
     intro l;induction l with
     |nil=>intro b;rfl
     |cons x xs ih=>intro b;simp[mU,ih]
    rw[this,htl]
   have side:∀(b':Nat) (x':aa),(mU (oq bl bump H0 s.H) pu bump H0 s.H 0 (s.H.take H0.length)++bl.map (fun b=>gN (oq bl bump H0 s.H) (pu.contains b) (some 0) (s.H.getD b .dead)))[b']? =some x'→
    (b'<H0.length∧pP H0 b'=true∧∃x,s.H[b']? =some x∧x'=gN (oq bl bump H0 s.H) (pu.contains b') ((lQ bump H0 s.H b').map (·.1+1)) x)∨
    (b'<H0.length∧pP H0 b'=false∧x'=.aU)∨
    (H0.length≤b'∧∃b x,bl[b' - H0.length]? =some b∧s.H[b]? =some x∧x'=gN (oq bl bump H0 s.H) (pu.contains b) (some 0) x):=by
    intro b' x' hx;by_cases hb:b'<H0.length
    ·grind [wE,pP]
    ·grind
   have hpure:∀b x,s.H[b]? =some x→pu.contains b=true→od x=true:=fun b x hx hc=>BZ b (by simpa using hc) x hx
   have ok:HU g (mA bl bump H0 s.H g) s.H (mU (oq bl bump H0 s.H) pu bump H0 s.H 0 (s.H.take H0.length)++bl.map (fun b=>gN (oq bl bump H0 s.H) (pu.contains b) (some 0) (s.H.getD b .dead))) (oq bl bump H0 s.H):=by
    refine⟨rfl,?_,?_,?_,?_⟩
    ·intro b v b' v' x hf hr;unfold oq at hf;split at hf
     ·grind [GY,mA]
     ·rename_i hlt;split at hf
      ·rename_i j hj;split at hf
       ·rename_i hv;simp only[Option.some.injEq,Prod.mk.injEq]at hf;obtain⟨rfl,rfl⟩:=hf;obtain⟨_,hj⟩:=q8 hj;have h1:decide (H0.length+j<H0.length)=false:=by simp
        simp only[mA,h1,Nat.add_sub_cancel_left];grind
       ·cases hf
      ·cases hf
    ·intro b' x' hx;rcases side b' x' hx with⟨hlt,hold,x,h1,rfl⟩ |⟨_,_,rfl⟩ |⟨hge,b,x,h1,h2,rfl⟩
     ·by_cases hlv:x.live=none
      ·grind [oe,aa.live]
      ·right;obtain⟨v,hv⟩:=Option.ne_none_iff_exists'.1 hlv;have hlt':decide (b'<H0.length)=true:=by simpa using hlt
       cases hbu:lQ bump H0 s.H b' with
       |none=>
        refine⟨b',x,v,v,h1,hv,?_,by simp only[oq,hold,hbu],by simp only[mA,hlt',hold,hbu],uD _ _ _ (hpure _ _ h1) hlv⟩
        grind [oe,aa.live]
       |some p=>
        obtain⟨v0,v1⟩:=p;obtain⟨_,x1,q1,q2⟩:=qk hbu;rw[h1]at q1;cases q1;have:v=v1:=by rw[AY q2]at hv;cases hv;rfl
        subst this;refine⟨b',x,v,v0+1,h1,hv,?_,by simp only[oq,hold,hbu,if_true],?_,uD _ _ _ (hpure _ _ h1) hlv⟩
        ·grind [oe,aa.qj]
        grind [mA]
     ·exact .inl rfl
     ·by_cases hlv:x.live=none
      ·grind [oe,aa.live]
      ·right;obtain⟨v,hv⟩:=Option.ne_none_iff_exists'.1 hlv;have hbge:=(hbl b (List.mem_of_getElem? h1)).1;have hlt2:decide (b'<H0.length)=false:=by simp;omega
       refine⟨b,x,v,0,h2,hv,?_,?_,?_,uD _ _ _ (hpure _ _ h2) hlv⟩
       ·rw[oe];cases x<;>simp[aa.live]at hv ⊢
       ·simp only[oq,hbge,wD 0 hnd h1,Nat.zero_add];grind
       grind [mA]
    ·intro b' v hb;rcases hb with hb |hb
     ·rcases side b' _ hb with⟨hlt,hold,x,h1,hx⟩ |⟨hlt,hold,_⟩ |⟨hge,b,x,h1,h2,hx⟩
      ·have hx':x=.aU:=by cases x<;>simp[gN]at hx;rfl
       subst hx';have hlt':decide (b'<H0.length)=true:=by simpa using hlt
       have hbu:lQ bump H0 s.H b'=none:=by
        cases hbu:lQ bump H0 s.H b' with
        |none=>rfl
        |some p=>
         grind [qk,aa.qj]
       simp only[mA,hlt',hold,hbu];exact hs.inv.fresh b' v (.inl h1)
      ·grind [mA]
      ·have hx':x=.aU:=by cases x<;>simp[gN]at hx;rfl
       grind [mA,aa.live]
     grind [mA]
    ·intro b' x' v v' hx hv hlt;rcases side b' x' hx with⟨hlb,hold,x,h1,rfl⟩ |⟨_,_,rfl⟩ |⟨hge,b,x,h1,h2,rfl⟩
     ·have hlt':decide (b'<H0.length)=true:=by simpa using hlb
      rw[oe]at hv;cases hbu:lQ bump H0 s.H b' with
      |none=>
       simp only[mA,hlt',hold,hbu];rw[hbu]at hv;refine hs.inv.next b' x v v' h1 ?_ hlt;grind [aa.live]
      |some p=>
       grind [qk,mA,aa.qj]
     ·cases hv
     grind [mA]
   refine⟨mA bl bump H0 s.H g,⟨hs.inv.iu ok,qi (g:=g) (g':=mA bl bump H0 s.H g) (fun _ _ h=>h) ok.af _ _ hs.tmps,?_⟩,?_⟩
   ·have key:∀(l l':List pN) (ds:List Deferred),Bl (oq bl bump H0 s.H) l=some l'→RD g w l ds→RD (mA bl bump H0 s.H g) w l' ds:=by
     intro l;induction l with
     |nil=>intro l' ds h hd;simp[Bl]at h;subst h;exact hd
     |cons d l ih=>
      intro l' ds h hd;obtain⟨d',ds',rfl,h1,h2⟩:=hd;cases d with
      |call f args=>
       simp only[Bl,Option.map_eq_some_iff]at h;obtain⟨l2,h,rfl⟩:=h;obtain⟨cap,t1,t2⟩:=h1;exact⟨d',ds',rfl,⟨cap,t1,qi (g:=g) (g':=mA bl bump H0 s.H g) (fun _ _ h=>h) ok.af _ _ t2⟩,ih _ _ h h2⟩
      |mark b=>
       simp only[Bl]at h;split at h
       ·rename_i hb;obtain⟨l2,h0,rfl⟩:=Option.map_eq_some_iff.1 h;obtain⟨k,sz,t1,t2⟩:=h1;exact⟨d',ds',rfl,⟨k,sz,ok.af _ _ _ _ _ hb t1,t2⟩,ih _ _ h0 h2⟩
       ·cases h
    exact key _ _ _ hD hs.defs
   ·refine⟨⟨?_,hl.ext.st,hl.ext.cell,hl.ext.shape⟩,hl.size,hl.keep,?_,by simp[hrl],hl.os,hl.tape,hl.output,fun k o hk hs=>?_,?_,?_⟩
    ·intro b v x hx;have hold:pP H0 b=true:=by
      cases ho:pP H0 b with
      |true=>rfl
      |false=>rw[hi0.fresh b v (BX ho)]at hx;cases hx
     have hlt':decide (b<H0.length)=true:=by simpa using GY hold
     cases hbu:lQ bump H0 s.H b with
     |none=>simp only[mA,hlt',hold,hbu];exact hl.ext.af b v x hx
     |some p=>
      obtain⟨v0,v1⟩:=p;obtain⟨⟨x0,q1,q2⟩,_⟩:=qk hbu;simp only[mA,hlt',hold,hbu];have:v≤v0:=by
       apply Decidable.byContradiction;intro hn;rw[hi0.next b x0 v0 v q1 (AY q2) (by omega)]at hx;cases hx
      rw[if_pos this];exact hl.ext.af b v x hx
    ·rintro k hk ⟨b',x',v',z,h1,h2,h3⟩;rcases ok.blk b' x' h1 with hn |⟨b,x,v,v2,p1,p2,p3,p4,p5,p6⟩
     ·rw[h2]at hn;cases hn
     ·rw[h2]at p3;cases p3;rw[p5]at h3;exact hl.own k hk ⟨b,x,v,z,p1,p2,h3⟩
    ·rcases hl.stk k o hk hs with h1 |⟨h1,h2⟩
     ·exact .inl h1
     ·refine .inr ⟨h1,?_⟩;rintro⟨b',x',v',z,q1,q2,q3⟩;rcases ok.blk b' x' q1 with hn |⟨b,x,v,v2,p1,p2,p3,p4,p5,p6⟩
      ·rw[q2]at hn;cases hn
      ·rw[q2]at p3;cases p3;rw[p5]at q3;exact h2 ⟨b,x,v,z,p1,p2,q3⟩
    ·intro b hb;have hlt:b<H0.length:=(List.getElem?_eq_some_iff.1 hb).1;have hlt':decide (b<H0.length)=true:=by simpa using hlt
     obtain⟨d1,d2⟩:=hl.qy b hb;have hbu:lQ bump H0 s.H b=none:=by
      cases hbu:lQ bump H0 s.H b with
      |none=>rfl
      |some p=>
       grind [qk,aa.qj]
     have hold:pP H0 b=true:=by simp[pP,hb]
     refine⟨?_,fun ai=>by grind [mA]⟩
     rw[List.getElem?_append_left (by omega),wE,Nat.zero_add,List.getElem?_take,if_pos hlt,d1]
     simp only[Option.map_some,hold];rfl
    ·intro b' v' k z hr;simp only[mA]at hr;split at hr
     ·split at hr
      ·split at hr
       ·split at hr
        ·exact hl.pM b' _ k z hr
        ·split at hr
         ·exact hl.pM b' _ k z hr
         ·cases hr
       ·exact hl.pM b' _ k z hr
      ·cases hr
     ·split at hr
      ·rename_i c hcb;split at hr
       ·split at hr
        ·rcases hl.pM c _ k z hr with⟨u,z',hu⟩ |hn
         ·have:=(hbl c (List.mem_of_getElem? hcb)).1;rw[hi0.fresh c u (BX this)]at hu;cases hu
         ·exact .inr hn
        ·cases hr
       ·cases hr
      ·cases hr
  ·cases h
 ·cases h
def Jt:AVal→AVal
 | .sc (.slice none 0 0)=>.au []
 | .emp=>.au []
 | .nz _=>.au []
 |v=>v
mutual
def iF:AVal→AVal
 | .sc v=>Jt (.sc v)
 | .emp=>.au []
 | .nz _=>.au []
 | .agg cs=>.agg (lR cs)
 | .cm cs=>.cm (lR cs)
 | .fn f a b=>.fn f (lR a) (lR b)
 | .ep t v=>.ep t v
 | .bH cs o=>.bH (lR cs) o
 |v=>v
def lR:List AVal→List AVal
 | []=>[]
 |a::as=>iF a::lR as
end
section
variable [az] {g:Gh} {w:World}
theorem En{v:AVal}{x:Value}(h:R g w v x):R g w (Jt v) x:=by
 unfold Jt;grind [eH,R]
mutual
theorem KI:∀(v:AVal),v.pure=true→(iF v).pure=true
 | .sc v,h=>by
  simp only[iF,Jt];split<;>simp_all [AVal.pure]
 | .emp,_=>by simp[iF,AVal.pure]
 | .nz _,_=>by simp[iF,AVal.pure]
 | .agg cs,h=>by simp only[AVal.pure]at h;simp only[iF,AVal.pure,qK cs h]
 | .cm cs,h=>by simp only[AVal.pure]at h;simp only[iF,AVal.pure,qK cs h]
 | .fn f a b,h=>by simp only[AVal.pure,Bool.and_eq_true]at h;simp only[iF,AVal.pure,qK a h.1,qK b h.2,Bool.and_self]
 | .ep t v,h=>by simpa only[iF]using h
 | .bH cs o,_=>by simp[iF,AVal.pure]
 | .ptr ..,h=>by simpa only[iF]using h
 | .sl ..,h=>by simpa only[iF]using h
 | .au _,h=>by simpa only[iF]using h
 | .mp _,h=>by simpa only[iF]using h
 | .gL _,h=>by simpa only[iF]using h
 | .sa ..,h=>by simpa only[iF]using h
 | .fm ..,h=>by simpa only[iF]using h
 | .ay,h=>by simpa only[iF]using h
theorem qK:∀(l:List AVal),AVal.aN l=true→AVal.aN (lR l)=true
 | [],_=>rfl
 |a::as,h=>by simp only[AVal.aN,Bool.and_eq_true]at h;simp only[lR,AVal.aN,KI a h.1,qK as h.2,Bool.and_self]
end
mutual
theorem B0:∀(v:AVal) (x:Value),R g w v x→R g w (iF v) x
 | .sc v,x,h=>by simp only[iF];exact En h
 | .emp,x,h=>by simp only[iF];exact En (v:=.emp) h
 | .nz b,x,h=>by simp only[iF];exact En (v:=.nz b) h
 | .agg cs,x,h=>by
  simp only[iF,R]at h ⊢;obtain⟨vs,e,h1,hl⟩:=h;exact⟨vs,e,h1,tY cs vs hl⟩
 | .cm cs,x,h=>by
  simp only[iF,R]at h ⊢;obtain⟨vs,e,hl⟩:=h;exact⟨vs,e,tY cs vs hl⟩
 | .fn f a b,x,h=>by
  simp only[iF,R]at h ⊢;obtain⟨va,vb,e,h1,h2⟩:=h;exact⟨va,vb,e,tY a va h1,tY b vb h2⟩
 | .ep t v,x,h=>by simpa only[iF]using h
 | .bH cs o,x,h=>by
  simp only[iF,R]at h ⊢;obtain⟨k,off,e,hp,hc⟩:=h;exact⟨k,off,e,qK cs hp,E6 cs k off hc⟩
 | .ptr ..,x,h=>by simpa only[iF]using h
 | .sl ..,x,h=>by simpa only[iF]using h
 | .au _,x,h=>by simpa only[iF]using h
 | .mp _,x,h=>by simpa only[iF]using h
 | .gL _,x,h=>by simpa only[iF]using h
 | .sa ..,x,h=>by simpa only[iF]using h
 | .fm ..,x,h=>by simpa only[iF]using h
 | .ay,x,h=>by simpa only[iF]using h
theorem tY:∀(l:List AVal) (vs:List Value),RL g w l vs→RL g w (lR l) vs
 | [],vs,h=>by simpa only[lR]using h
 |a::as,vs,h=>by
  simp only[lR,RL]at h ⊢;obtain⟨y,ys,e,h1,h2⟩:=h;exact⟨y,ys,e,B0 a y h1,tY as ys h2⟩
theorem E6:∀(l:List AVal) (k o:Nat),RC g w l k o→RC g w (lR l) k o
 | [],k,o,h=>by simpa only[lR]using h
 |a::as,k,o,h=>by
  simp only[lR,RC]at h ⊢;obtain⟨⟨hs,y,hy,ho,hr⟩,h2⟩:=h;exact⟨⟨hs,y,hy,ho,B0 a y hr⟩,E6 as k (o+1) h2⟩
end
theorem GZ{A:List AVal}{vs:List Value}{d:Nat}{v v':AVal}(h:RL g w A vs)(hd:A[d]? =some v)(hv:∀x,R g w v x→R g w v' x):RL g w (A.set d v') vs:=by
 grind [cE,rE]
theorem Inv.Ju{H:List aa}(hi:Inv g H w){b ai sz i j:Nat}{rows:List (List AVal)}{cs:List AVal}{v v':AVal}(hb:H[b]? =some (.row ai sz rows))(hcs:rows[i]? =some cs)(hj:cs[j]? =some v)(hv:∀x,R g w v x→R g w v' x):
 Inv g (H.set b (.row ai sz (rows.set i (cs.set j v')))) w∧aL g H w g (H.set b (.row ai sz (rows.set i (cs.set j v')))) w:=by
 have hlt:b<H.length:=(List.getElem?_eq_some_iff.1 hb).1;have f:∀(b':Nat) (x':aa) (v1:Nat),(H.set b (.row ai sz (rows.set i (cs.set j v'))))[b']? =some x'→x'.live=some v1→∃x1,H[b']? =some x1∧x1.live=some v1:=by
  intro b' x' v1 h hl;rcases bz h with⟨rfl,he,_⟩ |⟨_,h⟩
  ·subst he;exact⟨_,hb,hl⟩
  ·exact⟨x',h,hl⟩
 refine⟨⟨?_,?_,?_,?_,?_,hi.dI,hi.cz⟩,⟨Ext.refl g w,Nat.le_refl _,fun _ _ _=>rfl,?_,by simp,rfl,⟨rfl,Nat.le_refl _⟩,rfl,fun _ _ _ h=>.inl h,?_,fun _ ai _ z h=>.inl ⟨ai,z,h⟩⟩⟩
 ·intro b' x h;rcases bz h with⟨rfl,he,_⟩ |⟨hne,h⟩
  ·subst he;rcases hi.good _ _ hb with⟨k,c,e,h1,h2,h3,h4,h5⟩ |⟨h1,_⟩
   ·refine .inl ⟨k,c,e,h1,h2,gC _ _ fun i' r hi'=>?_,by simpa using h4,h5⟩
    by_cases hii:i=i'
    ·subst hii;have hil:i<rows.length:=(List.getElem?_eq_some_iff.1 hcs).1;rw[List.getElem?_set_self hil]at hi';cases hi';obtain⟨r1,r2⟩:=bX _ _ _ _ h3 hcs;obtain⟨vs,v1,v2,v3,v4⟩:=dJ r2;exact⟨by simpa using r1,cT (GZ v3 hj hv) v2 v4⟩
    ·rw[List.getElem?_set_ne hii]at hi';exact bX _ _ _ _ h3 hi'
   ·subst h1;simp at hcs
  ·exact hi.good b' x h
 ·intro b1 b2 x1 x2 v1 v2 k z1 z2 h1 h2 l1 l2 k1 k2;obtain⟨y1,p1,p2⟩:=f _ _ _ h1 l1;obtain⟨y2,q1,q2⟩:=f _ _ _ h2 l2;exact hi.inj b1 b2 y1 y2 v1 v2 k z1 z2 p1 q1 p2 q2 k1 k2
 ·intro b' v h;rcases h with h |h
  ·rcases bz h with⟨rfl,he,_⟩ |⟨_,h⟩
   ·cases he
   ·exact hi.fresh b' v (.inl h)
  ·exact hi.fresh b' v (.inr (by simpa using h))
 ·intro b' x v v' h hl hv;obtain⟨y1,p1,p2⟩:=f _ _ _ h hl;exact hi.next b' y1 v v' p1 p2 hv
 ·intro b' x v k z o h hl hk;obtain⟨y1,p1,p2⟩:=f _ _ _ h hl;exact hi.free b' y1 v k z o p1 p2 hk
 ·rintro k _ ⟨b',x,v,z,h,hl,hz⟩;obtain⟨y1,p1,p2⟩:=f _ _ _ h hl;exact⟨b',y1,v,z,p1,p2,hz⟩
 grind
end
inductive Pl where
 |s (d:Nat)
 |c (d j:Nat)
 |b (b j:Nat)
def qL(s:St):Pl→Option AVal
 | .s d=>s.A[d]?
 | .c d j=>match s.A[d]? with
  |some (.ptr b ai i o)=>match s.H[b]? with
   |some (.row v _ rows)=>match decide (v=ai)with
    |true=>(rows[i]?).bind fun cs=>cs[o+j]?
    |false=>none
   |_=>none
  |_=>none
 | .b b j=>match s.H[b]? with
  |some (.row _ _ rows)=>(rows[0]?).bind fun cs=>cs[j]?
  |_=>none
def yc(s:St)(v':AVal):Pl→St
 | .s d=>{s with A:=s.A.set d v'}
 | .c d j=>match s.A[d]? with
  |some (.ptr b _ i o)=>match s.H[b]? with
   |some (.row v sz rows)=>{s with H:=s.H.set b (.row v sz (rows.set i ((rows.getD i []).set (o+j) v')))}
   |_=>s
  |_=>s
 | .b b j=>match s.H[b]? with
  |some (.row v sz rows)=>{s with H:=s.H.set b (.row v sz (rows.set 0 ((rows.getD 0 []).set j v')))}
  |_=>s
theorem uE[az]{s:St}{p:Pl}{v v':AVal}(hp:qL s p=some v){g:Gh}{a:Act}{w:World}(hs:dm g s a w)(hv:∀x,R g w v x→R g w v' x):dm g (yc s v' p) a w∧aL g s.H w g (yc s v' p).H w:=by
 cases p with
 |s d=>exact⟨⟨hs.inv,GZ hs.tmps hp hv,hs.defs⟩,aL.refl _ _ _⟩
 |c d j=>
  simp only[qL]at hp;split at hp
  ·rename_i b ai i o hd;split at hp
   ·rename_i v0 sz rows hb;split at hp
    ·obtain⟨cs,h1,h2⟩:=Option.bind_eq_some_iff.1 hp;obtain⟨i1,i2⟩:=hs.inv.Ju hb h1 h2 hv;have hgd:rows.getD i []=cs:=by rw[List.getD_eq_getElem?_getD,h1];rfl
     simp only[yc,hd,hb,hgd];exact⟨⟨i1,bq i2.ext _ _ hs.tmps,cV i2.ext _ _ hs.defs⟩,i2⟩
    ·cases hp
   ·cases hp
  ·cases hp
 |b b j=>
  simp only[qL]at hp;split at hp
  ·rename_i v0 sz rows hb;obtain⟨cs,h1,h2⟩:=Option.bind_eq_some_iff.1 hp;obtain⟨i1,i2⟩:=hs.inv.Ju hb h1 h2 hv;have hgd:rows.getD 0 []=cs:=by rw[List.getD_eq_getElem?_getD,h1];rfl
   simp only[yc,hb,hgd];exact⟨⟨i1,bq i2.ext _ _ hs.tmps,cV i2.ext _ _ hs.defs⟩,i2⟩
  ·cases hp
def Mv(s:St)(p:Pl):Option St:=match qL s p with
 |some v=>some (yc s (Jt v) p)
 |none=>none
theorem KJ[az]{H0:List aa}{s s':St}{p:Pl}(h:Mv s p=some s'):fZ H0 s s':=by
 unfold Mv at h;split at h
 ·rename_i v hv;simp only[Option.some.injEq]at h;subst h;intro g0 w0 g a w _ hl hs;obtain⟨h1,h2⟩:=uE hv hs fun _=>En
  exact⟨g,h1,hl.trans h2⟩
 ·cases h
def KK(s:St)(p:Pl)(sz:Nat):Option St:=match qL s p,decide (0<sz)with
 |some (.sc (.slice none 0 0)),true=>some (yc {s with H:=s.H++[.row 0 sz []]} (.sl s.H.length 0 sz 0 0) p)
 |some _,_=>some s
 |none,_=>none
theorem Jv[az]{H0:List aa}{s s':St}{p:Pl}{sz:Nat}(h:KK s p sz=some s'):fZ H0 s s':=by
 unfold KK at h;split at h
 ·rename_i hv hz;simp only[Option.some.injEq]at h;subst h;intro g0 w0 g a w _ hl hs;obtain⟨i1,i2⟩:=hs.inv.NN (sz:=sz) (by simpa using hz)
  have hs1:dm g {s with H:=s.H++[.row 0 sz []]} a w:=⟨i1,bq i2.ext _ _ hs.tmps,cV i2.ext _ _ hs.defs⟩;have hv1:qL {s with H:=s.H++[.row 0 sz []]} p=some (.sc (.slice none 0 0)):=by
   cases p with
   |s d=>exact hv
   |c d j=>
    grind [qL]
   |b b j=>
    grind [qL]
  obtain⟨h1,h2⟩:=uE hv1 hs1 (v':=.sl s.H.length 0 sz 0 0) fun x hx=>by
   have:=eH hx;subst this;simp[R]
  exact⟨g,h1,(hl.trans i2).trans h2⟩
 ·grind [fZ.refl]
 ·cases h
set_option linter.unusedVariables false in
theorem Mw[az]{g:Gh}{H:List aa}{w:World}{g0:Gh}{H0:List aa}{w0:World}(hi0:Inv g0 H0 w0)(hi:Inv g H w)(hl:aL g0 H0 w0 g H w){b ai sz:Nat}{rows:List (List AVal)}(hb:H[b]? =some (.row ai sz rows)):
 Inv {af:=g.af,st:=fun k o=>g.st k o∨∃z,g.af b ai=some (k,z)} (H.set b .dead) w∧aL g0 H0 w0 {af:=g.af,st:=fun k o=>g.st k o∨∃z,g.af b ai=some (k,z)} (H.set b .dead) w∧
 Ext g w {af:=g.af,st:=fun k o=>g.st k o∨∃z,g.af b ai=some (k,z)} w:=by
 have hext:Ext g w {af:=g.af,st:=fun k o=>g.st k o∨∃z,g.af b ai=some (k,z)} w:=⟨fun _ _ _ h=>h,fun _ _ h=>.inl h,fun _ _ _=>rfl,fun _ _ h=>h⟩
 have f:∀(b':Nat) (x':aa),(H.set b aa.dead)[b']? =some x'→x'=.dead∨(b'≠b∧H[b']? =some x'):=by
  intro b' x' h;rcases bz h with⟨rfl,he,_⟩ |⟨h1,h⟩
  ·exact .inl he
  ·exact .inr ⟨h1,h⟩
 refine⟨⟨?_,?_,?_,?_,?_,?_,hi.cz.mono hext⟩,⟨⟨hl.ext.af,fun k o h=>.inl (hl.ext.st k o h),hl.ext.cell,hl.ext.shape⟩,hl.size,hl.keep,?_,by simpa using hl.len,hl.os,hl.tape,hl.output,?_,?_,hl.pM⟩,hext⟩
 ·intro b' x' h;rcases f _ _ h with rfl |⟨hne,h⟩
  ·trivial
  ·exact iV hext (hi.good b' x' h) (fun _ _ _ _ _=>rfl) fun _ _ h=>h
 ·intro b1 b2 x1 x2 v1 v2 k z1 z2 h1 h2 l1 l2;rcases f _ _ h1 with rfl |⟨_,h1⟩
  ·cases l1
  ·rcases f _ _ h2 with rfl |⟨_,h2⟩
   ·cases l2
   ·exact hi.inj b1 b2 x1 x2 v1 v2 k z1 z2 h1 h2 l1 l2
 ·grind [hi.fresh]
 ·intro b' x' v v' h hlv;rcases f _ _ h with rfl |⟨_,h⟩
  ·cases hlv
  ·exact hi.next b' x' v v' h hlv
 ·intro b' x' v k z o h hlv hk hs;rcases f _ _ h with rfl |⟨hne,h⟩
  ·cases hlv
  ·rcases hs with hs |⟨z',hz⟩
   ·exact hi.free b' x' v k z o h hlv hk hs
   ·exact hne (hi.inj b' b x' _ v ai k z z' h hb hlv rfl hk hz)
 ·intro k o hs;rcases hs with hs |⟨z,hz⟩
  ·exact hi.dI k o hs
  ·exact hi.ox hb rfl hz
 ·rintro k hk ⟨b',x',v,z,h,hlv,hz⟩;rcases f _ _ h with rfl |⟨_,h⟩
  ·cases hlv
  ·exact hl.own k hk ⟨b',x',v,z,h,hlv,hz⟩
 ·rintro k o hk (hs |⟨z,hz⟩)
  ·rcases hl.stk k o hk hs with h1 |⟨h1,h2⟩
   ·exact .inl h1
   ·refine .inr ⟨h1,?_⟩;rintro⟨b',x',v,z,h,hlv,hz⟩;rcases f _ _ h with rfl |⟨_,h⟩
    ·cases hlv
    ·exact h2 ⟨b',x',v,z,h,hlv,hz⟩
  ·refine .inr ⟨hl.own k hk ⟨b,_,ai,z,hb,rfl,hz⟩,?_⟩;rintro⟨b',x',v,z',h,hlv,hz'⟩;rcases f _ _ h with rfl |⟨hne,h⟩
   ·cases hlv
   ·exact hne (hi.inj b' b x' _ v ai k z' z h hb hlv rfl hz' hz)
 ·intro b1 hb1;obtain⟨d1,d2⟩:=hl.qy b1 hb1;grind
def KL(_H0:List aa)(s:St)(p:Pl)(rows:List (List AVal)):Option St:=match qL s p with
 |some (.sl b ai sz 0 _)=>match s.H[b]? with
  |some (.row ver' sz' _)=>match decide (ver'=ai∧sz'=sz)with
   |true=>some (yc {s with H:=s.H.set b .dead} (.au rows) p)
   |false=>none
  |_=>none
 |_=>none
def Nj(s:St)(p:Pl)(rows:List (List AVal)):Prop:=∃b ai sz,qL s p=some (.sl b ai sz 0 rows.length)∧s.H[b]? =some (.row ai sz rows)∧rows.all AVal.aN=true
theorem Jw[az]{H0:List aa}{s s':St}{p:Pl}{rows:List (List AVal)}(hok:Nj s p rows)(h:KL H0 s p rows=some s'):fZ H0 s s':=by
 obtain⟨b,ai,sz,h1,h2,h3⟩:=hok;unfold KL at h;rw[h1]at h;simp only at h;split at h
 ·rename_i ver' sz' rows' hb;rw[h2]at hb;simp only[Option.some.injEq,aa.row.injEq]at hb;obtain⟨rfl,rfl,rfl⟩:=hb;split at h
  ·simp only[Option.some.injEq]at h;subst h;intro g0 w0 g a w hi0 hl hs;obtain⟨i1,i2,i3⟩:=Mw hi0 hs.inv hl h2;have hs1:dm {af:=g.af,st:=fun k o=>g.st k o∨∃z,g.af b ai=some (k,z)} {s with H:=s.H.set b .dead} a w:=⟨i1,bq i3 _ _ hs.tmps,cV i3 _ _ hs.defs⟩
   have key0:∀(l:List AVal) (j:Nat) (y:AVal),AVal.aN l=true→l[j]? =some y→y.pure=true:=by
    intro l;induction l with
    |nil=>intro j y _ h;simp at h
    |cons c cs ih3=>
     grind [AVal.aN]
   have hgp:qL {s with H:=s.H.set b .dead} p=some (.sl b ai sz 0 rows.length):=by
    cases p with
    |s d=>exact h1
    |c d j=>
     simp only[qL]at h1 ⊢;split at h1
     ·grind [aa.row.injEq,AVal.pure]
     ·cases h1
    |b b2 j=>
     grind [qL,aa.row.injEq,AVal.pure]
   obtain⟨q1,q2⟩:=uE hgp hs1 (v':=.au rows) fun x hx=>by
    simp only[R]at hx ⊢;rcases hx with⟨hn,rfl⟩ |⟨k,cap,e',sz2,hk,rfl,hsh,hcs,hm,hmax⟩
    ·simp_all
    ·obtain⟨k',c,e,r1,r2,r3,r4,r5,r6⟩:=hs.inv.row b ai _ _ h2 hk;rw[hk]at r1;simp at r1;subst r1;refine⟨_,cap,rfl,by omega,.inr ⟨k,0*sz,sz,rfl,Aj fun i r hr=>?_⟩⟩
     obtain⟨t1,t2⟩:=bX _ _ _ _ r3 hr;grind [vS,kR,nN,gM]
   exact⟨_,q1,i2.trans q2⟩
  ·cases h
 ·cases h
end Go.AM
end
section
namespace Go.AM
def jl(n:Nat):List AVal:=List.replicate n .ay
def ap(a b:List AVal):List AVal:=a++b
section
variable [az] {P:Program} {cfg:dV} {g:Gh} {H:List aa} {w:World} {fro:Option Nat}
def dG(P:Program)(fro:Option Nat)(g0:Gh)(H0:List aa)(w0:World)[az](c:Code)(s:St)(Φ:aS→St→Prop):Prop:=
 ∀(Q:Exit→Act→World→Prop) (g:Gh) (a:Act) (w:World),dm g s a w→aL g0 H0 w0 g s.H w→(∀o s',Φ o s'→dF Q g0 H0 w0 s' o)→c.wpIn (Fr fro) 0 P Q a w
variable {g0:Gh} {H0:List aa} {w0:World}
theorem dG.mono{c:Code}{s:St}{Φ Ψ:aS→St→Prop}(h:dG P fro g0 H0 w0 c s Φ)(hp:∀o s',Φ o s'→Ψ o s'):dG P fro g0 H0 w0 c s Ψ:=
 fun Q g a w hs hl hk=>h Q g a w hs hl fun o s' hf=>hk o s' (hp o s' hf)
theorem dG.skip{s:St}{Φ:aS→St→Prop}(h:Φ .normal s):dG P fro g0 H0 w0 .skip s Φ:=
 fun _ g a w hs hl hp=>wpIn_skip (hp _ _ h g a w hs hl)
theorem dG.exit{s:St}{Φ:aS→St→Prop}{id:Nat}(h:Φ (.exit id) s):dG P fro g0 H0 w0 (.exit id) s Φ:=
 fun _ g a w hs hl hp=>wpIn_exit (hp _ _ h g a w hs hl)
theorem dG.ret{s:St}{Φ:aS→St→Prop}(h:Φ .ret s):dG P fro g0 H0 w0 .ret s Φ:=
 fun _ g a w hs hl hp=>wpIn_ret (hp _ _ h g a w hs hl)
def Al:dg→aS×St
 | .ok s=>(.normal,s)
 | .aO v s=>(.aO v,s)
theorem dG.region(hm:P.follows .mixedOrders=true){orcs:Nat→iL}(ho:∀k,fe P (orcs k)){id:Nat}{ops:Array Oper}{draw:Bool}{s:St}{r:dg}{Φ:aS→St→Prop}(hcalm:∀(k:Nat) (o:Oper),ops[k]? =some o→Calm fro o)
 (h:q7 P cfg orcs ops draw s=some r) (hr:Φ (Al r).1 (Al r).2):dG P fro g0 H0 w0 (.region id ops draw) s Φ:=by
 intro Q g a w hs hl hp;cases r with
 |ok s'=>exact rQ hm ho hcalm h hs (oc.later (r:=.ok s') (hp _ _ hr) hl)
 |aO v s'=>exact rQ hm ho hcalm h hs (oc.later (r:=.aO v s') (hp _ _ hr) hl)
theorem dG.seq{a b:Code}{s:St}{Φ:aS→St→Prop}(h:dG P fro g0 H0 w0 a s fun o s'=>match o with | .normal=>dG P fro g0 H0 w0 b s' Φ |o=>Φ o s'):dG P fro g0 H0 w0 (.seq a b) s Φ:=by
 intro Q g x w hs hl hp;refine wpIn_seq (h _ g x w hs hl fun o s' hf=>?_)
 cases o with
 |normal=>exact fun g' a' w' hs' hla=>hf Q g' a' w' hs' hla hp
 |exit id=>exact hp _ _ hf
 |ret=>exact hp _ _ hf
 |aO v=>exact hp _ _ hf
theorem dG.cond{c:Operand}{a b:Code}{s:St}{Φ:aS→St→Prop}(z:Bool)(hc:bU s.A c=.sc (.bool z))(h:dG P fro g0 H0 w0 (if z then a else b) s Φ):dG P fro g0 H0 w0 (.cond c a b) s Φ:=by
 intro Q g x w hs hl hp;have hev:=hs.eval c;rw[hc]at hev;simp only[R]at hev;cases z with
 |true=>exact wpIn_cond_true hev (h Q g x w hs hl hp)
 |false=>exact wpIn_cond_false hev (h Q g x w hs hl hp)
def behind(id:Nat):aS→aS
 | .exit id'=>if id'=id then .normal else .exit id'
 |o=>o
theorem dG.block{id:Nat}{b:Code}{s:St}{Φ:aS→St→Prop}(h:dG P fro g0 H0 w0 b s fun o s'=>Φ (behind id o) s'):dG P fro g0 H0 w0 (.block id b) s Φ:=by
 intro Q g x w hs hl hp;refine wpIn_block (h _ g x w hs hl fun o s' hf=>?_)
 cases o with
 |normal=>exact fun g' a' w' hs' hla=>hp _ _ hf g' a' w' hs' hla
 |exit id'=>
  intro g' a' w' hs' hla;by_cases he:id'=id
  ·simp only[behind,he,if_true]at hf;simp only[Exit.inBlock,he,if_true];exact hp _ _ hf g' a' w' hs' hla
  ·simp only[behind,he,if_false]at hf;simp only[Exit.inBlock,he,if_false];exact hp _ _ hf g' a' w' hs' hla
 |ret=>exact fun g' a' w' hs' hla=>hp _ _ hf g' a' w' hs' hla
 |aO v=>exact fun g' a' w' x hv hs' hla hr=>hp _ _ hf g' a' w' x hv hs' hla hr
theorem dF.weak{Q:Exit→Act→World→Prop}{g0:Gh}{H0:List aa}{w0:World}(hi0:Inv g0 H0 w0){s' s'':St}{o:aS}(hw:fZ H0 s' s'')(h:dF Q g0 H0 w0 s'' o):dF Q g0 H0 w0 s' o:=by
 cases o with
 |normal=>exact fun g' a' w' hs hl'=>let⟨g2,h1,h2⟩:=hw g0 w0 g' a' w' hi0 hl' hs;h g2 a' w' h1 h2
 |exit id=>exact fun g' a' w' hs hl'=>let⟨g2,h1,h2⟩:=hw g0 w0 g' a' w' hi0 hl' hs;h g2 a' w' h1 h2
 |ret=>exact fun g' a' w' hs hl'=>let⟨g2,h1,h2⟩:=hw g0 w0 g' a' w' hi0 hl' hs;h g2 a' w' h1 h2
 |aO v=>exact fun g' a' w' x hv hs hl' hr=>let⟨g2,h1,h2⟩:=hw g0 w0 g' a' w' hi0 hl' hs;h g2 a' w' x hv h1 h2 (jG _ _ hv hr)
theorem dG.weak(hi0:Inv g0 H0 w0){c:Code}{s s1:St}{Φ:aS→St→Prop}(hw:fZ H0 s s1)(h:dG P fro g0 H0 w0 c s1 Φ):dG P fro g0 H0 w0 c s Φ:=by
 intro Q g a w hs hl hp;obtain⟨g2,h1,h2⟩:=hw g0 w0 g a w hi0 hl hs;exact h Q g2 a w h1 h2 hp
theorem dG.loop(hi0:Inv g0 H0 w0){b:Code}{s s0:St}{n:Nat}{Φ:aS→St→Prop}(J:Nat→St→Prop)(h0:∀s,¬J 0 s)(hs0:fZ H0 s s0)(hJ:J n s0)
 (hb:∀n s1,J (n+1) s1→dG P fro g0 H0 w0 b s1 fun o s2=>∃s3,fZ H0 s2 s3∧match o with | .normal=>J n s3 |o=>Φ o s3):dG P fro g0 H0 w0 (.loop b) s Φ:=by
 intro Q gs a0 ws hs hl hp;have key:∀(n:Nat) (s1:St) (g:Gh) (a:Act) (w:World),J n s1→dm g s1 a w→aL g0 H0 w0 g s1.H w→
  ∀(fr:Frame) (k:List Item) (cs:List Frame),fr.roundOf=(Fr fro).round→∃e a' w',Q e a' w'∧ArrivesIn (Machine.fenced P (Fr fro)) P (lone (fr.atR a (.code b:: .inLoop b::k)) cs w) fr k cs e a' w':=by
  intro n;induction n with
  |zero=>grind
  |succ n ih=>
   intro s1 g a w hj hsim hla fr k cs hfr;have hstep:b.wpIn (Fr fro) 0 P (Exit.then (fun a' w'=>∀(fr:Frame) (k:List Item) (cs:List Frame),fr.roundOf=(Fr fro).round→∃e a2 w2,Q e a2 w2∧ArrivesIn (Machine.fenced P (Fr fro)) P (lone (fr.atR a' (.code b:: .inLoop b::k)) cs w') fr k cs e a2 w2) Q) a w:=by
    refine hb n s1 hj _ g a w hsim hla fun o s2 ⟨s3,hw,hf⟩=>?_
    cases o with
    |normal=>
     intro g' a' w' hs' hla';obtain⟨g2,h1,h2⟩:=hw g0 w0 g' a' w' hi0 hla' hs';exact ih s3 g2 a' w' hf h1 h2
    |exit id=>exact dF.weak hi0 (o:=.exit id) hw (hp _ _ hf)
    |ret=>exact dF.weak hi0 (o:=.ret) hw (hp _ _ hf)
    |aO v=>exact dF.weak hi0 (o:=.aO v) hw (hp _ _ hf)
   obtain⟨e,a₁,w₁,hq,harr⟩:=hstep fr (.inLoop b::k) cs hfr trivial (Ak _ _);cases e with
   |normal=>
    obtain⟨e₂,a₂,w₂,hq₂,harr₂⟩:=hq fr k cs hfr;exact⟨e₂,a₂,w₂,hq₂,.of_steps (StepsIn.trans harr (.one (fenced_calm (n:=0) trivial (Ak _ _) rfl) stepR_inLoop)) harr₂⟩
   |exit id=>exact⟨_,a₁,w₁,hq,.pass (x:=.inLoop b) rfl (fun _ _=>.inl (by simp)) harr⟩
   |goto l=>exact⟨_,a₁,w₁,hq,.pass (x:=.inLoop b) rfl (fun _ _=>.inl (by simp)) harr⟩
   |ret=>exact⟨_,a₁,w₁,hq,.pass (x:=.inLoop b) rfl (fun _ _=>.inl (by simp)) harr⟩
   |panic ch=>exact⟨_,a₁,w₁,hq,.pass (x:=.inLoop b) rfl (fun _ _=>.inl (by simp)) harr⟩
   |outgrown=>exact⟨_,a₁,w₁,hq,.pass (x:=.inLoop b) rfl (fun _ _=>.inl (by simp)) harr⟩
 obtain⟨g1,h1,h2⟩:=hs0 g0 w0 gs a0 ws hi0 hl hs;intro fr k cs hfr _ hroom;obtain⟨e,a',w',hq,harr⟩:=key n s0 g1 a0 ws hJ h1 h2 fr k cs hfr;exact⟨e,a',w',hq,.of_steps (.one (fenced_calm trivial hroom rfl) stepR_loop) harr⟩
end
inductive Sh:Type 1 where
 |one (τ:Type)
 |two (a b:Sh)
def Sh.El:Sh→Type
 | .one τ=>τ
 | .two a b=>a.El⊕b.El
def Sh.all:(s:Sh)→(s.El→Prop)→Prop
 | .one _,p=>∀x,p x
 | .two a b,p=>a.all (fun x=>p (.inl x))∧b.all (fun x=>p (.inr x))
theorem Sh.bL:∀(s:Sh) (p:s.El→Prop),s.all p↔∀x,p x
 | .one _,p=>Iff.rfl
 | .two a b,p=>by
  simp only[Sh.all,Sh.bL a,Sh.bL b];exact⟨fun h x=>match x with | .inl y=>h.1 y | .inr y=>h.2 y,fun h=>⟨fun y=>h (.inl y),fun y=>h (.inr y)⟩⟩
namespace AVal
mutual
def ux(b v:Nat):AVal→AVal
 | .sc x=>.sc x
 | .agg cs=>.agg (rS b v cs)
 | .cm cs=>.cm (rS b v cs)
 | .ptr _ _ i o=>.ptr b v i o
 | .bH cs o=>.bH cs o
 | .sl _ _ sz o n=>.sl b v sz o n
 | .au rows=>.au rows
 | .fn f c d=>.fn f (rS b v c) (rS b v d)
 | .ep t a=>.ep t (ux b v a)
 | .mp x=>.mp x
 | .gL x=>.gL x
 | .sa _ _ i o s n=>.sa b v i o s n
 | .fm i o=>.fm i o
 | .emp=>.emp
 | .nz x=>.nz x
 | .ay=>.ay
def rS(b v:Nat):List AVal→List AVal
 | []=>[]
 |a::as=>ux b v a::rS b v as
end
mutual
def qC:AVal→Bool
 | .sc _=>true
 | .agg cs=>lS cs
 | .cm cs=>lS cs
 | .ptr b v .. =>b==0&&v==0
 | .bH .. =>true
 | .sl b v .. =>b==0&&v==0
 | .au _=>true
 | .fn _ c d=>lS c&&lS d
 | .ep _ a=>qC a
 | .mp _=>false
 | .gL _=>false
 | .sa b v .. =>b==0&&v==0
 | .fm _ _=>true
 | .emp=>true
 | .nz _=>true
 | .ay=>true
def lS:List AVal→Bool
 | []=>true
 |a::as=>qC a&&lS as
end
mutual
def but(b:Nat):AVal→AVal
 | .sc x=>.sc x
 | .agg cs=>.agg (u9 b cs)
 | .cm cs=>.cm (u9 b cs)
 | .ptr c v i o=>match Nat.beq c b with
  |true=>.ptr c v i o
  |false=>.ay
 | .bH cs o=>.bH cs o
 | .sl c v sz o n=>match Nat.beq c b with
  |true=>.sl c v sz o n
  |false=>.ay
 | .au rows=>.au rows
 | .fn f c d=>.fn f (u9 b c) (u9 b d)
 | .ep t a=>.ep t (but b a)
 | .mp _=>.ay
 | .gL _=>.ay
 | .sa c v i o s n=>match Nat.beq c b with
  |true=>.sa c v i o s n
  |false=>.ay
 | .fm i o=>.fm i o
 | .emp=>.emp
 | .nz x=>.nz x
 | .ay=>.ay
def u9(b:Nat):List AVal→List AVal
 | []=>[]
 |a::as=>but b a::u9 b as
end
end AVal
def aa.kJ:aa→Bool
 | .row ai _ rows=>ai==0&&rows.all AVal.aN
 |_=>false
def aa.kG(v:Nat):aa→aa
 | .row _ sz rows=>.row v sz rows
 |x=>x
def aI.B4:aI→Bool
 | .ret v=>v.pure
 | .aO v=>v.flat
def AVal.vV(b v:Nat):AVal→AVal
 | .sl _ _ sz o n=>.sl b v sz o n
 |u=>u
def aI.vV(b v:Nat):aI→aI
 | .ret u=>.ret (u.vV b v)
 | .aO u=>.aO u
def aI.yM:aI→Bool
 | .ret (.sl b v _ _ _)=>b==0&&v==0
 | .ret u=>u.pure
 | .aO u=>u.flat
theorem aI.Mx{r:aI}(h:r.B4=true):r.yM=true:=by
 cases r with
 |ret u=>cases u<;>first |exact h |cases h
 |aO u=>exact h
def kK(P:Program)[az](f:FuncId)(args:List AVal)(r:aI):Prop:=
 (∃ fn c, P.funcs[f]? = some fn ∧ fn.body = some c ∧ fn.name ≠ "runtime.NumGoroutine") ∧
 ∀g w (vs:Array Value),Inv g [] w→RL g w args vs.toList→Calls P f vs w (dx g [] w r [])
def bB(P:Program)[az](f:FuncId)(args:List AVal)(H:List aa)(r:aI)(H1:List aa):Prop:=
 (∃ fn c, P.funcs[f]? = some fn ∧ fn.body = some c ∧ fn.name ≠ "runtime.NumGoroutine") ∧
 ∀g w (vs:Array Value),Inv g H w→RL g w args vs.toList→Calls P f vs w (dx g H w r H1)
structure rT(P:Program)[az]:Type 1 where
 f:FuncId
 X:Type
 args:X→List AVal
 heap:X→List aa
 sh:Sh
 out:sh.El→aI
 eV:X→sh.El→List aa
 S:Nat→X→Option sh.El
 ok:∀n x r,S n x=some r→bB P f (args x) (heap x) (out r) (eV x r)
structure aF(P:Program)[az]:Type 1 where
 f:FuncId
 X:Type
 args:X→List AVal
 sh:Sh
 out:sh.El→aI
 S:Nat→X→Option sh.El
 ok:∀n x r,S n x=some r→kK P f (args x) (out r)
structure cU(P:Program)[az]:Type 1 where
 f:FuncId
 X:Type
 args:X→List AVal
 blk:X→aa
 sh:Sh
 out:sh.El→aI
 qM:X→sh.El→aa
 S:Nat→X→Option sh.El
 a0:∀x,AVal.lS (args x)=true
 b0:∀x,(blk x).kJ=true
 b1:∀x r,(qM x r).kJ=true∨qM x r=.dead
 r0:∀r,(out r).yM=true
 ok:∀n x r,S n x=some r→bB P f (args x) [blk x] (out r) [qM x r]
structure ql(X:Type) where
 run:Option X
 aX:X→cD
 ids:List Nat
 sJ:az→Program→dV→Nat→Op→(Operand→AVal)→List aa→Prop
 lC:Prop
 holds:lC
 sound:∀(gl:az) (P:Program) (cfg:dV) (nid:Nat) (op:Op) (af:Operand→AVal) (H:List aa),sJ gl P cfg nid op af H→∀x,run=some x→
  (bO P cfg nid af op).run H=some (.aX (aX x))∧(bO P cfg nid af op).reads H=ids
structure PU where
 b:Nat
 blk:aa
 pf:od blk=true
def rU:aa→Bool
 | .row _ _ rows=>rows.all AVal.aN
 | .map _ es=>es.all fun p=>p.1.pure&&p.2.1.pure
 |_=>false
theorem vW{x:aa}(h:rU x=true):(∃v sz rows,x=.row v sz rows∧rows.all AVal.aN=true)∨∃c es,x=.map c es∧(es.all fun p=>p.1.pure&&p.2.1.pure)=true:=by
 unfold rU at h;grind
structure PR where
 b:Nat
 blk:aa
 pf:rU blk=true
def PR.ofRow(b ai sz:Nat)(rows:List (List AVal))(pf:rows.all AVal.aN=true):PR:=⟨b,.row ai sz rows,pf⟩
structure FZ where
 p:Pl
 b:Nat
 ai:Nat
 sz:Nat
 n:Nat
 rows:List (List AVal)
 pf:rows.all AVal.aN=true
structure PK where
 b:Nat
 mb:Nat
 n:Nat
 es:List (AVal×AVal×Nat)
 pf:es.length=n∧∀(i:Nat) p,es[i]? =some p→p.2.2=i
structure GK where
 {X:Type}
 l:List X
 m:List X
 enc:X→List AVal
 n:Nat
 bytes:Nat
 b:Nat
 ai:Nat
 len:Nat
def GK.ok(z:GK):Bool:=decide (z.len=z.l.length)&&roomy (z.l.length+z.m.length) z.bytes
def B5(P:Program)(ST XT:TypeId):Option (Nat×Nat):=
 match P.underlying ST,P.underlying XT with
 |some (.slice e),some (.slice _)=>match P.info? e with
  |some i=>if decide (0<i.size)&&me i then some (i.size,i.bytes)else none
  |none=>none
 |_,_=>none
structure RW where
 p:Pl
 rows:List (List AVal)
 rows':List (List AVal)
 pf:rows.map lR=rows'
inductive TS where
 |keep (l:List Nat)
 |wk (p:Pl)
 |own (p:Pl) (sz:Nat)
 |eX (z:FZ)
 |LH (z:RW)
 |cut (bl bump:List Nat) (pu:List PU)
inductive G (P:Program) [az]:Type→Type 1 where
 |stop {ρ:Type}:G P ρ
 |done {ρ:Type} (ts:List TS) (r:ρ):G P ρ
 |fail {ρ:Type}:G P ρ
 |skip {ρ:Type} (n:Nat) (g:G P ρ):G P ρ
 |br {ρ:Type} (d:Tmp) (c:Bool) (t f:G P ρ):G P ρ
 |AZ {ρ:Type} (d:Tmp) (k:IntKind) (x c:Int) (t f:G P ρ):G P ρ
 |sp {ρ:Type} (c:Bool) (t f:G P ρ):G P ρ
 |op {ρ X:Type} (t:ql X) (k:X→G P ρ):G P ρ
 |call {ρ:Type} (c:aF P) (x:c.X) (k:c.sh.El→G P ρ):G P ρ
 |eU {ρ:Type} (c:rT P) (x:c.X) (k:c.sh.El→G P ρ):G P ρ
 |aA {ρ:Type} (c:cU P) (b v:Nat) (ex:List PR) (x:c.X) (k:c.sh.El→G P ρ):G P ρ
 |tidy {ρ:Type} (l:List TS) (g:G P ρ):G P ρ
 |loop {ρ σ:Type} (sh:Sh) (hd:List TS) (E:σ→St) (X:sh.El→aS×St) (a0:σ) (body:σ→G P (σ⊕sh.El)) (k:sh.El→G P ρ):G P ρ
 |qD {ρ:Type} (hs sh:Sh) (hd:List TS) (E:hs.El→St) (X:sh.El→aS×St) (a0:hs.El) (body:hs.El→G P (hs.El⊕sh.El)) (k:sh.El→G P ρ):G P ρ
 |gu {ρ:Type} (n:Nat) (g:G P ρ):G P ρ
 |tJ {ρ:Type} (Q:Prop) (h:Q) (g:G P ρ):G P ρ
 |join {ρ:Type} (sh:Sh) (Y:sh.El→aS×St) (g:G P sh.El) (k:sh.El→G P ρ):G P ρ
 |pick {ρ:Type} (z:PK) (seen:List Nat) (k:Option Nat→G P ρ):G P ρ
 |grow {ρ:Type} (z:GK) (k:Bool→G P ρ):G P ρ
 |inl {ρ:Type} (pr:List PR) (g:G P ρ):G P ρ
def aK:List TS→Bool
 | []=>true
 | .eX z::ts=>decide (z.n=z.rows.length)&&aK ts
 |_::ts=>aK ts
def bM{σ τ:Type}(f:σ→Option (σ⊕τ)):Nat→σ→Option τ
 | 0,_=>none
 |n+1,a=>match f a with
  |some (.inl a')=>bM f n a'
  |some (.inr t)=>some t
  |none=>none
section
variable {P:Program} [az]
def G.run(n:Nat):{ρ:Type}→G P ρ→Option ρ
 |_,.stop=>none
 |_,.done ts r=>if aK ts then some r else none
 |_,.fail=>none
 |_,.skip _ g=>g.run n
 |_,.br _ c t f=>if c then t.run n else f.run n
 |_,.AZ _ _ x c t f=>if x=c then t.run n else f.run n
 |_,.sp c t f=>if c then t.run n else f.run n
 |_,.op t k=>t.run.bind fun x=>(k x).run n
 |_,.call c x k=>(c.S n x).bind fun r=>(k r).run n
 |_,.eU c x k=>(c.S n x).bind fun r=>(k r).run n
 |_,.aA c _ _ _ x k=>(c.S n x).bind fun r=>(k r).run n
 |_,.tidy l g=>if aK l then g.run n else none
 |_,.loop _ hd _ _ a0 body k=>if aK hd then(bM (fun a=>(body a).run n) n a0).bind fun t=>(k t).run n else none
 |_,.qD _ _ hd _ _ a0 body k=>if aK hd then(bM (fun a=>(body a).run n) n a0).bind fun t=>(k t).run n else none
 |_,.gu _ g=>g.run n
 |_,.tJ _ _ g=>g.run n
 |_,.join _ _ g k=>(g.run n).bind fun t=>(k t).run n
 |_,.pick _ _ _=>none
 |_,.grow _ _=>none
 |_,.inl _ g=>g.run n
def HV{σ:Type}{sh:Sh}(E:σ→St)(X:sh.El→aS×St):σ⊕sh.El→Prop
 | .inl a=>(aS.normal,E a)=(aS.normal,E a)
 | .inr t=>X t=X t
def Nk{sh:Sh}(Y:sh.El→aS×St)(t:sh.El):Prop:=Y t=Y t
def Bm:List PU→Prop
 | []=>True
 |p::ps=>some p.blk=some p.blk∧Bm ps
def yd:List PR→Prop
 | []=>True
 |p::ps=>some p.blk=some p.blk∧yd ps
def k5:List TS→Prop→Prop
 | [],q=>q
 | .keep _::ts,q=>k5 ts q
 | .wk _::ts,q=>k5 ts q
 | .own _ _::ts,q=>k5 ts q
 | .eX z::ts,q=>some (AVal.sl z.b z.ai z.sz 0 z.n)=some (AVal.sl z.b z.ai z.sz 0 z.n)∧some (aa.row z.ai z.sz z.rows)=some (aa.row z.ai z.sz z.rows)∧k5 ts q
 | .cut _ _ pu::ts,q=>Bm pu∧k5 ts q
 | .LH z::ts,q=>some (AVal.au z.rows)=some (AVal.au z.rows)∧k5 ts q
omit [az] in
theorem yN:∀(l:List PU),Bm l
 | []=>trivial
 |_::ps=>⟨rfl,yN ps⟩
omit [az] in
theorem ug:∀(l:List PR),yd l
 | []=>trivial
 |_::ps=>⟨rfl,ug ps⟩
omit [az] in
theorem fW{q:Prop}(h:q):∀(l:List TS),k5 l q
 | []=>h
 | .keep _::ts=>fW h ts
 | .wk _::ts=>fW h ts
 | .own _ _::ts=>fW h ts
 | .eX _::ts=>⟨rfl,rfl,fW h ts⟩
 | .cut _ _ pu::ts=>⟨yN pu,fW h ts⟩
 | .LH _::ts=>⟨rfl,fW h ts⟩
def G.dP:{ρ:Type}→(ρ→Prop)→G P ρ→Prop
 |_,_,.stop=>True
 |_,leaf,.done ts r=>k5 ts (leaf r)
 |_,_,.fail=>True
 |_,leaf,.skip _ g=>g.dP leaf
 |_,leaf,.br _ c t f=>some (AVal.sc (.bool c))=some (AVal.sc (.bool c))∧t.dP leaf∧f.dP leaf
 |_,leaf,.AZ _ k x _ t f=>some (AVal.sc (.int k x))=some (AVal.sc (.int k x))∧t.dP leaf∧f.dP leaf
 |_,leaf,.sp _ t f=>t.dP leaf∧f.dP leaf
 |_,leaf,.op t k=>some true=some true∧t.lC∧∀x,(k x).dP leaf
 |_,leaf,.call c x k=>some true=some true∧some (c.f,c.args x)=some (c.f,c.args x)∧c.sh.all fun r=>(k r).dP leaf
 |_,leaf,.eU c x k=>some true=some true∧some (c.f,c.args x,c.heap x)=some (c.f,c.args x,c.heap x)∧c.sh.all fun r=>(k r).dP leaf
 |_,leaf,.aA c b v ex x k=>some true=some true∧yd ex∧some (c.f,AVal.rS b v (c.args x),some ((c.blk x).kG v))=some (c.f,AVal.rS b v (c.args x),some ((c.blk x).kG v))∧c.sh.all fun r=>(k r).dP leaf
 |_,leaf,.tidy l g=>k5 l (g.dP leaf)
 |_,leaf,.loop sh hd E X a0 body k=>k5 hd (E a0=E a0)∧(∀a,(body a).dP (HV E X))∧sh.all fun t=>(k t).dP leaf
 |_,leaf,.qD hs sh hd E X a0 body k=>k5 hd (E a0=E a0)∧(hs.all fun a=>(body a).dP (HV E X))∧sh.all fun t=>(k t).dP leaf
 |_,leaf,.gu _ g=>g.dP leaf
 |_,_,.tJ Q _ _=>Q
 |_,leaf,.join sh Y g k=>g.dP (Nk Y)∧sh.all fun t=>(k t).dP leaf
 |_,leaf,.pick z seen k=>some true=some true∧AVal.ptr z.b 0 0 0=AVal.ptr z.b 0 0 0∧some (aa.iter (.mp z.mb) z.n seen z.n)=some (aa.iter (.mp z.mb) z.n seen z.n)∧some (aa.map z.n z.es)=some (aa.map z.n z.es)∧(k none).dP leaf∧∀i,(k (some i)).dP leaf
 |_,leaf,.grow z k=>some true=some true∧some aa.aU=some aa.aU∧ @Eq Bool true true∧some (z.n,z.bytes)=some (z.n,z.bytes)∧AVal.sl z.b z.ai z.n 0 z.len=AVal.sl z.b z.ai z.n 0 z.len∧some (aa.row z.ai z.n (z.l.map z.enc))=some (aa.row z.ai z.n (z.l.map z.enc))∧some (z.m.map z.enc)=some (z.m.map z.enc)∧(∀_:z.X,z.n=z.n)∧ @Eq Bool false false∧(k true).dP leaf∧(k false).dP leaf
 |_,leaf,.inl pr g=>some true=some true∧yd pr∧g.dP leaf
omit [az] in
theorem A0{σ:Type}{sh:Sh}(E:σ→St)(X:sh.El→aS×St):∀r,HV E X r
 | .inl _=>rfl
 | .inr _=>rfl
theorem G.bE:∀{ρ:Type} {leaf:ρ→Prop} (_:∀r,leaf r) (g:G P ρ),g.dP leaf
 |_,_,_,.stop=>trivial
 |_,_,h,.done ts r=>fW (h r) ts
 |_,_,_,.fail=>trivial
 |_,_,h,.skip _ g=>G.bE h g
 |_,_,h,.br _ _ t f=>⟨rfl,G.bE h t,G.bE h f⟩
 |_,_,h,.AZ _ _ _ _ t f=>⟨rfl,G.bE h t,G.bE h f⟩
 |_,_,h,.sp _ t f=>⟨G.bE h t,G.bE h f⟩
 |_,_,h,.op t k=>⟨rfl,t.holds,fun x=>G.bE h (k x)⟩
 |_,_,h,.call c _ k=>⟨rfl,rfl,(c.sh.bL _).2 fun r=>G.bE h (k r)⟩
 |_,_,h,.eU c _ k=>⟨rfl,rfl,(c.sh.bL _).2 fun r=>G.bE h (k r)⟩
 |_,_,h,.aA c _ _ ex _ k=>⟨rfl,ug ex,rfl,(c.sh.bL _).2 fun r=>G.bE h (k r)⟩
 |_,_,h,.tidy l g=>fW (G.bE h g) l
 |_,_,h,.loop sh hd E X _ body k=>⟨fW rfl hd,fun a=>G.bE (A0 E X) (body a),(sh.bL _).2 fun t=>G.bE h (k t)⟩
 |_,_,h,.qD hs sh hd E X _ body k=>⟨fW rfl hd,(hs.bL _).2 fun a=>G.bE (A0 E X) (body a),(sh.bL _).2 fun t=>G.bE h (k t)⟩
 |_,_,h,.gu _ g=>G.bE h g
 |_,_,_,.tJ _ q _=>q
 |_,_,h,.join sh _ g k=>⟨G.bE (fun _=>rfl) g,(sh.bL _).2 fun t=>G.bE h (k t)⟩
 |_,_,h,.pick _ _ k=>⟨rfl,rfl,rfl,rfl,G.bE h (k none),fun i=>G.bE h (k (some i))⟩
 |_,_,h,.grow _ k=>⟨rfl,rfl,rfl,rfl,rfl,rfl,rfl,fun _=>rfl,rfl,G.bE h (k true),G.bE h (k false)⟩
 |_,_,h,.inl pr g=>⟨rfl,ug pr,G.bE h g⟩
def G.less{ρ:Type}:Nat→G P ρ→G P ρ
 | 0,g=>g
 |n+1,g=>.skip (n+1) g
theorem G.E7{ρ:Type}(n m:Nat)(g:G P ρ):(G.less m g).run n=g.run n:=by cases m<;>simp[G.less,G.run]
end
structure wF(P:Program)[az] where
 fn:{ρ:Type}→FuncId→List AVal→List aa→G P ρ→(G P ρ→aI→List aa→Prop)→Prop
 yK:{ρ:Type}→Nat→List AVal→List aa→G P ρ→(G P ρ→aI→List aa→Prop)→Prop
 lp:{σ:Type}→{sh:Sh}→Option Nat→List aa→Code→G P (σ⊕sh.El)→(σ→St)→St→(sh.El→aS×St)→Prop
structure Env(P:Program)[az] where
 cfg:dV
 ro:Option Nat
 N:wF P
 nd:Bool
def Nl(P:Program)[az]:wF P:=⟨fun _ _ _ _ _=>False,fun _ _ _ _ _=>False,fun _ _ _ _ _ _ _=>False⟩
def HW(P:Program)[az]{ρ:Type}(f:FuncId)(args:List AVal)(H:List aa)(c:rT P)(x:c.X)(kk:c.sh.El→G P ρ)(k:G P ρ→aI→List aa→Prop):Prop:=
 some true=some true∧some (f,lR args,H)=some (c.f,c.args x,c.heap x)∧c.sh.all fun r=>k (kk r) (c.out r) (c.eV x r)
def qE(P:Program)[az]:wF P:=⟨fun f args H g k=>match g with
 | .eU c x kk=>HW P f args H c x kk k
 |_=>False,fun _ _ _ _ _=>False,fun _ _ _ _ _ _ _=>False⟩
def Env.at{P:Program}[az](X:Env P)(draw:Bool):Env P:=match draw&&X.nd with
 |true=>{X with N:=qE P}
 |false=>X
inductive NP (P:Program) [az] {ρ:Type} (X:Env P) (ops:Array Oper) (n0:Nat) (o:Oper) (nid:Nat) (s:St) (k:G P ρ→dg→fc→Prop) (draw:Bool) (H0:List aa):Prop
inductive My (P:Program) [az] {ρ:Type} (X:Env P) (c:Operand) (a b:Code) (s:St) (k:G P ρ→aS→St→Prop) (H0:List aa):Prop
inductive Mz (P:Program) [az] {ρ:Type} (X:Env P) (b:Code) (s:St) (k:G P ρ→aS→St→Prop) (H0:List aa):Prop
inductive L8 (P:Program) [az] {ρ:Type} (X:Env P) (f:Operand) (ps:Array Tmp) (assign body:Code) (s:St) (k:G P ρ→aS→St→Prop) (H0:List aa):Prop
inductive Nn (P:Program) [az] {ρ:Type} (fn:Func) (o:aS) (s:St) (out:ρ→aI):Prop
inductive MA (P:Program) [az] {ρ:Type} (fn:Func) (o:aS) (s:St) (H0:List aa) (k:G P ρ→List PR→aS→St→Prop):Prop
inductive MB (P:Program) [az] {ρ:Type} (b:Nat) (o:aS) (s:St) (H0:List aa) (k:G P ρ→St→Prop):Prop
inductive MC (P:Program) [az] {sh:Sh} (H0:List aa) (o:aS) (s:St) (Y:sh.El→aS×St):Prop
inductive L9 (P:Program) [az] {σ:Type} {sh:Sh} (H0:List aa) (o:aS) (s:St) (E:σ→St) (X:sh.El→aS×St):Prop
inductive B6 (P:Program) [az] {ρ:Type} (ops:Array Oper) (o:Oper) (s:St) (g:G P ρ):Prop
def tK(keep:List Nat):Nat→List AVal→List AVal
 |_,[]=>[]
 |i,a::as=>(match keep.contains i with |true=>a |false=>.ay)::tK keep (i+1) as
def G0:List PU→List aa→Prop
 | [],_=>True
 |p::ps,H=>H[p.b]? =some p.blk∧G0 ps H
def G1:List PR→List aa→Prop
 | [],_=>True
 |p::ps,H=>H[p.b]? =some p.blk∧G1 ps H
def iy(H0:List aa):List TS→St→(St→Prop)→Prop
 | [],s,k=>k s
 | .keep l::ts,s,k=>fR (tK l 0 s.A) fun A=>iy H0 ts {s with A:=A} k
 | .wk p::ts,s,k=>match Mv s p with
  |some s=>iy H0 ts s k
  |none=>False
 | .own p sz::ts,s,k=>match KK s p sz with
  |some s=>iy H0 ts s k
  |none=>False
 | .eX z::ts,s,k=>qL s z.p=some (.sl z.b z.ai z.sz 0 z.n)∧s.H[z.b]? =some (.row z.ai z.sz z.rows)∧match KL H0 s z.p z.rows with
  |some s=>iy H0 ts s k
  |none=>False
 | .LH z::ts,s,k=>qL s z.p=some (.au z.rows)∧iy H0 ts (yc s (.au z.rows') z.p) k
 | .cut bl bump pu::ts,s,k=>G0 pu s.H∧match KG bl bump (pu.map (·.b)) H0 s with
  |some ⟨A,H,D⟩=>fR A fun A=>fR H fun H=>iy H0 ts ⟨A,H,D⟩ k
  |none=>False
section
variable {P:Program} [az]
def mJ{ρ:Type}:G P ρ→St→(G P ρ→St→Prop)→Prop
 | .br d c t f,s,k=>s.A[d]? =some (.sc (.bool c))∧(xR s.A d (.sc (.bool true)) fun A=>mJ t {s with A:=A} k)∧(xR s.A d (.sc (.bool false)) fun A=>mJ f {s with A:=A} k)
 | .AZ d ik x c t f,s,k=>s.A[d]? =some (.sc (.int ik x))∧(xR s.A d (.sc (.int ik c)) fun A=>mJ t {s with A:=A} k)∧mJ f s k
 | .sp _ t f,s,k=>mJ t s k∧mJ f s k
 | .fail,_,_=>True
 |g,s,k=>k g s
def s6:iL:=⟨fun _ _ _=>none,fun _ _ _=>none⟩
def HX(r:Option (aI×List aa)):iL:=⟨fun _ _ _=>r,fun _ _ _=>none⟩
def HY(H:List aa):Option Pre→Option (FuncId×List AVal×List aa)
 |some (.jy f args ids)=>some (f,lR args,mask ids H)
 |_=>none
def Am(ids:List Nat):List Nat→Bool
 | []=>true
 |c::cs=>ids.contains c&&Am ids cs
def vX:List Nat→List Nat→List Nat
 | [],seen=>seen
 |b::todo,seen=>match seen.contains b with
  |true=>vX todo seen
  |false=>vX todo (b::seen)
def s7:List Nat→List Nat→List Nat
 | [],_=>[]
 |b::todo,seen=>match seen.contains b with
  |true=>s7 todo seen
  |false=>b::s7 todo (b::seen)
def o7(P:Program)[az](cfg:dV)(ids:List Nat)(af:Operand→AVal):Op→Option (FuncId×List AVal×List Nat×List Nat)
 | .call {callee:=.value f,args:=args,.. }=>match af f with
  | .fn (.func n) p q=>match P.funcs[n]? with
   |some fn=>match fn.body.isNone||cfg.val n||cfg.fz n with
    |false=>
     let l:=AVal.mH (p++args.toList.map af++q)
     match Am ids l&&Nat.ble l.length 900 with
     |true=>some (n,p++args.toList.map af++q,vX l [],s7 l [])
     |false=>none
    |true=>none
   |none=>none
  |_=>none
 |_=>none
def KM(H:List aa)(b:Nat):Option (FuncId×List AVal×List Nat×List Nat)→Option (FuncId×List AVal×Option aa)
 |some (f,args,ids,_)=>match ids.contains b with
  |true=>some (f,AVal.u9 b (lR args),H[b]?)
  |false=>none
 |none=>none
def Ao:Option (FuncId×List AVal×List Nat×List Nat)→List Nat×List Nat
 |some (_,_,ids,rs)=>(ids,rs)
 |none=>([],[])
def E8:Option Pre→Option (FuncId×List AVal)
 |some (.Ag f args _)=>some (f,lR args)
 |_=>none
def o8(pr:List Nat)(H:List aa):Nat→List Nat→List Nat→Option (List Nat×List Nat)
 |_,[],seen=>some (seen,[])
 | 0,_::_,_=>none
 |n+1,b::todo,seen=>match seen.contains b with
  |true=>o8 pr H n todo seen
  |false=>match pr.contains b with
   |true=>(o8 pr H n todo (b::seen)).map fun p=>(p.1,b::p.2)
   |false=>match H[b]? with
    |some (.row _ _ rows)=>(o8 pr H n ((if rows.all AVal.aN then[]else AVal.mH rows.flatten)++todo) (b::seen)).map fun p=>(p.1,b::p.2)
    |some (.loop _ _ _ A _ _ _)=>(o8 pr H n (AVal.mH A++todo) (b::seen)).map fun p=>(p.1,b::p.2)
    |some (.iter m _ _ _)=>(o8 pr H n (AVal.refs m++todo) (b::seen)).map fun p=>(p.1,b::p.2)
    |some _=>(o8 pr H n todo (b::seen)).map fun p=>(p.1,b::p.2)
    |none=>none
def Bn(P:Program)[az](cfg:dV)(pr:List Nat)(af:Operand→AVal)(op:Op)(H:List aa):Option ((FuncId⊕Nat)×List AVal×List Nat×List Nat):=
 match op with
 | .call {callee:=.value f,args:=args,.. }=>match af f with
  | .fn (.func n) p q=>match P.funcs[n]? with
   |some fn=>match fn.body.isNone||cfg.val n||cfg.fz n with
    |false=>match o8 pr H 1000 (AVal.mH (p++args.toList.map af++q)) []with
     |some (ids,rs)=>some (.inl n,p++args.toList.map af++q,ids,rs)
     |none=>none
    |true=>none
   |none=>none
  | .gL b=>match o8 pr H 1000 (b::AVal.mH (args.toList.map af)) []with
   |some (ids,rs)=>some (.inr b,args.toList.map af,ids,rs)
   |none=>none
  |_=>none
 |_=>none
def zx(ids:List Nat)(H:List aa)(a:aI)(H1:List aa)(k:cD→List Nat→Bool→Prop)(kp:AVal→Prop):Prop:=
 match a with
 | .ret v=>match Nat.beq H1.length H.length with
  |true=>k {val:=v,de:=ids.map fun i=>(i,H1.getD i .dead)} ids false
  |false=>match dN H ids (some (.ret v,H1))with
   |some (.ok e)=>CW e fun e=>k e (e.de.map (·.1)) (!e.news.isEmpty)
   |_=>False
 | .aO v=>match v.flat with
  |true=>kp v
  |false=>False
def oF{ρ:Type}(P:Program)[gl:az](X:Env P)(draw:Bool)(H0:List aa)(ops:Array Oper)(n0:Nat)(o:Oper)(nid:Nat)(g:G P ρ)(s:St)(k:G P ρ→dg→fc→Prop):Prop:=
 match g with
 | .skip (n+1) g'=>match dO P X.cfg s6 ops n0 o nid s with
  |some (r,f)=>k (G.less n g') r f
  |none=>B6 P ops o s g'
 | .op t kk=>gK ops s.A o=some true∧t.sJ gl P X.cfg nid o.op (bU s.A) s.H∧∀x,CW (t.aX x) fun e=>pO s.A o.dst e.val fun A=>nP e s.H fun H=>
  k (kk x) (.ok {s with A:=A,H:=H}) (fS n0 t.ids (.aX e) (e.de.map (·.1)) (!e.news.isEmpty))
 | .call c x kk=>gK ops s.A o=some true∧E8 ((bO P X.cfg nid (bU s.A) o.op).run s.H)=some (c.f,c.args x)∧
  c.sh.all fun r=>match dO P X.cfg (HX (some (c.out r,[]))) ops n0 o nid s with
   |some (r',f)=>k (kk r) r' f
   |none=>B6 P ops o s (kk r)
 | .eU c x kk=>gK ops s.A o=some true∧HY s.H ((bO P X.cfg nid (bU s.A) o.op).run s.H)=some (c.f,c.args x,c.heap x)∧
  c.sh.all fun r=>match dO P X.cfg (HX (some (c.out r,c.eV x r))) ops n0 o nid s with
   |some (r',f)=>k (kk r) r' f
   |none=>B6 P ops o s (kk r)
 | .aA c b v ex x kk=>gK ops s.A o=some true∧G1 ex s.H∧KM s.H b (o7 P X.cfg (b::ex.map (·.b)) (bU s.A) o.op)=some (c.f,AVal.rS b v (c.args x),some ((c.blk x).kG v))∧
  c.sh.all fun r=>match c.out r with
   | .ret u=>pO s.A o.dst (u.vV b v) fun A=>nP {val:=u.vV b v,de:=[(b,(c.qM x r).kG v)]} s.H fun H=>k (kk r) (.ok {s with A:=A,H:=H})
    (fS n0 (Ao (o7 P X.cfg (b::ex.map (·.b)) (bU s.A) o.op)).2 (.jy 0 [] []) (Ao (o7 P X.cfg (b::ex.map (·.b)) (bU s.A) o.op)).1 false)
   | .aO u=>k (kk r) (.aO u {s with H:=(Ao (o7 P X.cfg (b::ex.map (·.b)) (bU s.A) o.op)).1.foldl (fun H i=>H.set i .dead) s.H})
    (fS n0 (Ao (o7 P X.cfg (b::ex.map (·.b)) (bU s.A) o.op)).2 (.jy 0 [] []) (Ao (o7 P X.cfg (b::ex.map (·.b)) (bU s.A) o.op)).1 false)
 | .inl pr g'=>gK ops s.A o=some true∧G1 pr s.H∧match Bn P X.cfg (pr.map (·.b)) (bU s.A) o.op s.H with
  |some (.inl f,args,ids,rs)=>rK (mask ids s.H) fun Hm=>X.N.fn f args Hm g' fun g2 a H1=>zx ids s.H a H1 (fun e ws nw=>pO s.A o.dst e.val fun A=>nP e s.H fun H=>k g2 (.ok {s with A:=A,H:=H}) (fS n0 rs (.jy 0 [] []) ws nw))
   (fun v=>k g2 (.aO v {s with H:=ids.foldl (fun H i=>H.set i .dead) s.H}) (fS n0 rs (.jy 0 [] []) ids false))
  |some (.inr b,args,ids,rs)=>rK (mask ids s.H) fun Hm=>X.N.yK b args Hm g' fun g2 a H1=>zx ids s.H a H1 (fun e ws nw=>pO s.A o.dst e.val fun A=>nP e s.H fun H=>k g2 (.ok {s with A:=A,H:=H}) (fS n0 rs (.jy 0 [] []) ws nw))
   (fun v=>k g2 (.aO v {s with H:=ids.foldl (fun H i=>H.set i .dead) s.H}) (fS n0 rs (.jy 0 [] []) ids false))
  |none=>B6 P ops o s g'
 | .pick z seen kk=>match draw with
  |true=>False
  |false=>(match o.op with
   | .next it false=>gK ops s.A o=some true∧(bU s.A it=.ptr z.b 0 0 0∧s.H[z.b]? =some (.iter (.mp z.mb) z.n seen z.n)∧s.H[z.mb]? =some (.map z.n z.es)∧
    (pO s.A o.dst (.cm [.sc (.bool false)]) fun A=>k (kk none) (.ok {s with A:=A}) ⟨[],[]⟩)∧
    ∀i,pO s.A o.dst (.cm [.sc (.bool true),.ay,.ay]) fun A=>nP {val:=nothing,de:=[(z.b,.iter (.mp z.mb) z.n (seen++[i]) z.n)]} s.H fun H=>k (kk (some i)) (.ok {s with A:=A,H:=H}) ⟨[],[]⟩)
   |_=>False)
 | .grow z kk=>match draw with
  |true=>False
  |false=>(match o.op with
   | .call {callee:=.builtin .append,args:=args,argTypes:=ats}=>match ats[0]?,ats[1]?,args[0]?,args[1]? with
    |some ST,some XT,some sx,some x=>gK ops s.A o=some true∧s.H[nid]? =some .aU∧decide (args.size=2)=true∧B5 P ST XT=some (z.n,z.bytes)∧bU s.A sx=.sl z.b z.ai z.n 0 z.len∧s.H[z.b]? =some (.row z.ai z.n (z.l.map z.enc))∧
     (elems (bU s.A x)).run s.H=some (z.m.map z.enc)∧(∀x,(z.enc x).length=z.n)∧z.m.isEmpty=false∧
     (pO s.A o.dst (.sl z.b z.ai z.n 0 (z.l++z.m).length) fun A=>nP {val:=nothing,de:=[(z.b,.row z.ai z.n ((z.l++z.m).map z.enc))]} s.H fun H=>k (kk true) (.ok {s with A:=A,H:=H}) ⟨[],[]⟩)∧
     (pO s.A o.dst (.sl nid 0 z.n 0 (z.l++z.m).length) fun A=>nP {val:=nothing,de:=[(nid,.row 0 z.n ((z.l++z.m).map z.enc))]} s.H fun H=>k (kk false) (.ok {s with A:=A,H:=H}) ⟨[],[]⟩)
    |_,_,_,_=>False
   |_=>False)
 | .fail=>True
 | .stop=>NP P X ops n0 o nid s k draw H0
 |g=>B6 P ops o s g
def uF{ρ:Type}(P:Program)[gl:az](X:Env P)(draw:Bool)(H0:List aa)(ops:Array Oper)(n0:Nat)(o:Oper)(nid:Nat)(g:G P ρ)(s:St)(k:G P ρ→dg→fc→Prop):Prop:=
 match g with
 | .tidy l g'=>match draw with
  |true=>False
  |false=>iy H0 l s fun s'=>oF P X draw H0 ops n0 o nid g' s' k
 |g=>oF P X draw H0 ops n0 o nid g s k
def wG{ρ:Type}(P:Program)[az](X:Env P)(draw:Bool)(H0:List aa)(ops:Array Oper)(n0:Nat):List (Oper×Nat)→G P ρ→St→(G P ρ→dg→List fc→Prop)→Prop
 | [],g,s,k=>k g (.ok s) []
 | (o,nid)::rest,g,s,k=>mJ g s fun g s=>uF P X draw H0 ops n0 o nid g s fun g r f=>match r with
  | .ok ⟨A,H,D⟩=>fR A fun A=>fR H fun H=>fR D fun D=>wG P X draw H0 ops n0 rest g ⟨A,H,D⟩ fun g r fs=>k g r (f::fs)
  | .aO v s'=>k g (.aO v s') [f]
def o9{ρ:Type}(P:Program)[az](X:Env P)(H0:List aa)(ops:Array Oper)(draw:Bool)(g:G P ρ)(s:St)(k:G P ρ→dg→Prop):Prop:=
 iJ (kU ops.toList) fun c=>iJ (if c=0 then 0 else ny s.H) fun t=>iJ (c - t) fun m=>
 BI s.H (List.replicate m .aU) fun H1=>
 iJ H1.length fun n0=>wG P X draw H0 ops n0 (numbered (s.H.length - t) ops.toList) g {s with H:=H1} fun g r feet=>
  if !draw then k g r else
  if sW ops&&feet.length==ops.size&&indep ops (CheckFast.beforeF ops) feet then
   match r with
   | .ok s'=>k g (.ok s')
   | .aO v s'=>if feet.all (fun f=>f.writes.isEmpty)then k g (.aO v {s' with A:=ops.toList.foldl (fun A o=>fL A o.dst .ay) s'.A})else False
  else False
def Bo{ρ:Type}(H0:List aa)(g:G P ρ)(s:St)(k:G P ρ→St→Prop):Prop:=match g with
 | .tidy l g'=>iy H0 l s fun s'=>k g' s'
 |g=>k g s
def Ap{ρ:Type}(f:G P ρ→St→(G P ρ→aS→St→Prop)→Prop):Nat→G P ρ→St→(G P ρ→aS→St→Prop)→Prop
 | 0,_,_,_=>False
 |n+1,g,s,k=>f g s fun g o s'=>match o with
  | .normal=>Ap f n g s' k
  |o=>k g o s'
def mV{σ:Type}{sh:Sh}(H0:List aa)(E:σ→St)(X:sh.El→aS×St)(g:G P (σ⊕sh.El))(o:aS)(s:St):Prop:=
 match g with
 | .done ts (.inl a)=>iy H0 ts s fun s'=>(o,s')=(aS.normal,E a)
 | .done ts (.inr t)=>match o with
  | .normal=>False
  |o=>iy H0 ts s fun s'=>(o,s')=X t
 | .fail=>True
 |_=>L9 P H0 o s E X
def Aq{sh:Sh}(H0:List aa)(Y:sh.El→aS×St)(g:G P sh.El)(o:aS)(s:St):Prop:=
 match g with
 | .done ts t=>iy H0 ts s fun s'=>(o,s')=Y t
 | .fail=>True
 |_=>MC P H0 o s Y
def Ar{ρ:Type}(P:Program)[az](X:Env P)(H0:List aa)(c:Operand)(a b:Code)(wa wb:G P ρ→St→(G P ρ→aS→St→Prop)→Prop)(g:G P ρ)(s:St)(k:G P ρ→aS→St→Prop):Prop:=
 Bo H0 g s fun g s=>mJ g s fun g s=>match g with
  | .skip (n+1) g=>match bU s.A c with
   | .sc (.bool true)=>wa (G.less n g) s k
   | .sc (.bool false)=>wb (G.less n g) s k
   |_=>False
  | .fail=>True
  |_=>My P X c a b s k H0
def xh{ρ:Type}(id:Nat)(k:G P ρ→aS→St→Prop)(g:G P ρ)(o:aS)(s':St):Prop:=match o with
 | .exit id'=>if id'=id then k g .normal s' else k g (.exit id') s'
 |o=>k g o s'
def uG(P:Program)[az](cfg:dV)(L:Nat)(fn:Func)(m:Option AVal)(s:St):Option (aI×List aa):=
 match leave P cfg s6 L s.D m s.H with
 |some (m',H')=>match ending P fn s.A m' H' with
  |some (.ret v,H1)=>some (.ret (iF v),H1)
  |some (.aO v,H1)=>match v.flat with
   |true=>some (.aO v,H1)
   |false=>none
  |none=>none
 |none=>none
def oG(P:Program)[az](cfg:dV)(L:Nat)(fn:Func)(o:aS)(s:St):Option (aI×List aa):=
 match o with
 | .normal=>uG P cfg L fn none s
 | .ret=>uG P cfg L fn none s
 | .aO v=>uG P cfg L fn (some v) s
 | .exit _=>none
def As{σ:Type}{sh:Sh}(N:wF P)(ro:Option Nat)(H0:List aa)(b:Code)(E:σ→St)(s:St)(Y:sh.El→aS×St)(g:G P (σ⊕sh.El))(f:G P (σ⊕sh.El)→Prop):Prop:=
 match g with
 | .tJ _ _ g=>N.lp ro H0 b g E s Y
 |g=>f g
def iw(P:Program)[az](X:Env P)(H0:List aa):Code→{ρ:Type}→G P ρ→St→(G P ρ→aS→St→Prop)→Prop
 | .skip,_,g,s,k=>k g .normal s
 | .region _ ops draw,_,g,s,k=>match X.ro.isSome&&ops.toList.any xb with
  |true=>False
  |false=>Bo H0 g s fun g s=>o9 P (X.at draw) H0 ops draw g s fun g r=>match r with
   | .ok s'=>k g .normal s'
   | .aO v s'=>k g (.aO v) s'
 | .seq a b,_,g,s,k=>iw P X H0 a g s fun g o s'=>match o with
  | .normal=>iw P X H0 b g s' k
  |o=>k g o s'
 | .cond c a b,_,g,s,k=>match g with
  | .join sh Y g1 kk=>Ar P X H0 c a b (fun g s k=>iw P X H0 a g s k) (fun g s k=>iw P X H0 b g s k) g1 s (Aq H0 Y)∧sh.all fun t=>k (kk t) (Y t).1 (Y t).2
  |g=>Ar P X H0 c a b (fun g s k=>iw P X H0 a g s k) (fun g s k=>iw P X H0 b g s k) g s k
 | .block id b,_,g,s,k=>match g with
  | .join sh Y g1 kk=>iw P X H0 b g1 s (xh id (Aq H0 Y))∧sh.all fun t=>k (kk t) (Y t).1 (Y t).2
  |g=>iw P X H0 b g s (xh id k)
 | .loop b,_,g,s,k=>match g with
  | .gu n g=>Ap (fun g s k=>iw P X H0 b g s k) n g s k
  | .loop sh hd E Y a0 body kk=>(iy H0 hd s fun s'=>s'=E a0)∧(∀a,As X.N X.ro H0 b E (E a) Y (body a) fun g=>iw P X H0 b g (E a) (mV H0 E Y))∧sh.all fun t=>k (kk t) (Y t).1 (Y t).2
  | .qD hs sh hd E Y a0 body kk=>(iy H0 hd s fun s'=>s'=E a0)∧(hs.all fun a=>As X.N X.ro H0 b E (E a) Y (body a) fun g=>iw P X H0 b g (E a) (mV H0 E Y))∧sh.all fun t=>k (kk t) (Y t).1 (Y t).2
  | .fail=>True
  |_=>Mz P X b s k H0
 | .exit id,_,g,s,k=>k g (.exit id) s
 | .ret,_,g,s,k=>k g .ret s
 | .rangeFunc f ps assign body,_,g,s,k=>Bo H0 g s fun g s=>match g with
  | .inl pr g=>(some true=some true)∧match bU s.A f with
   | .fn (.func n) p q=>match zj X.ro 0 ps assign body s with
    |some (l,H1,D1)=>fR H1 fun H1=>G1 pr H1∧match o8 (pr.map (·.b)) H1 1000 (AVal.mH (p++[.gL l]++q)) []with
     |some (ids,_)=>rK (mask ids H1) fun Hm=>X.N.fn n (p++[.gL l]++q) Hm g fun g2 a H2=>zx ids H1 a H2
      (fun e _ _=>nP e H1 fun H3=>match ES l D1 s H3 with
       |some (out,s')=>k g2 out s'
       |none=>False)
      (fun v=>k g2 (.aO v) {s with H:=ids.foldl (fun H i=>H.set i .dead) H1,D:=D1})
     |none=>False
    |none=>False
   |_=>False
  | .fail=>True
  |_=>L8 P X f ps assign body s k H0
 |_,_,_,_,_=>False
def Bp(pr:List Nat)(n:Nat):Nat→List aa→Bool
 |_,[]=>true
 |i,x::xs=>(match pr.contains i with
  |true=>true
  |false=>tH n x)&&Bp pr n (i+1) xs
def aI.eW(n:Nat):aI→Bool
 | .ret v=>v.eW n
 | .aO _=>true
def LI(pr:List PR)(n:Nat)(a:aI)(H1:List aa)(k:aI→List aa→Prop):Prop:=
 G1 pr H1∧match a.eW n&&Bp (pr.map (·.b)) n 0 (H1.take n)with
  |true=>fR (H1.take n) fun H=>k a H
  |false=>k a H1
def KN{ρ:Type}(P:Program)[az](cfg:dV)(fn:Func)(H0:List aa)(g:G P ρ)(o:aS)(s:St)(k:G P ρ→aI→List aa→Prop):Prop:=
 match g with
 | .tidy ts (.inl pr g)=>iy H0 ts s fun s=>match oG P cfg 10 fn o s with
  |some (a,H1)=>(some true=some true)∧LI pr H0.length a H1 (k g)
  |none=>False
 | .fail=>True
 |_=>MA P fn o s H0 fun g pr o s=>match oG P cfg 10 fn o s with
  |some (a,H1)=>LI pr H0.length a H1 (k g)
  |none=>False
def LJ(P:Program)[az](cfg:dV)(nd:Bool)(N:wF P){ρ:Type}(f:FuncId)(args:List AVal)(H:List aa)(g:G P ρ)(k:G P ρ→aI→List aa→Prop):Prop:=
 match g with
 | .eU c x kk=>HW P f args H c x kk k
 |g=>match P.funcs[f]? with
  |some fn=>match fn.body with
   |some c=>iw P ⟨cfg,none,N,nd⟩ H c g ⟨kE fn.ntmps args,H,[]⟩ fun g o s=>KN P cfg fn H g o s k
   |none=>False
  |none=>False
def KO{ρ:Type}(P:Program)[az](b:Nat)(H0:List aa)(g:G P ρ)(o:aS)(s:St)(k:G P ρ→aI→List aa→Prop):Prop:=
 match oC o with
 |some j=>match g with
  | .tidy ts g=>iy H0 ts s fun s=>match marked b (if j.isNone then .ready else .done) j s.H with
   |some H2=>k g (.ret (.sc (.bool j.isNone))) H2
   |none=>False
  | .fail=>True
  |_=>MB P b o s H0 fun g s=>match marked b (if j.isNone then .ready else .done) j s.H with
   |some H2=>k g (.ret (.sc (.bool j.isNone))) H2
   |none=>False
 |none=>False
def KP(P:Program)[az](cfg:dV)(nd:Bool)(N:wF P){ρ:Type}(b:Nat)(args:List AVal)(H:List aa)(g:G P ρ)(k:G P ρ→aI→List aa→Prop):Prop:=
 match H[b]? with
 |some (.loop _ _ _ A ps assign body)=>match Nat.beq ps.length args.length with
  |true=>iw P ⟨cfg,some b,N,nd⟩ H assign g ⟨qf A ps args,H,[]⟩ fun g o s1=>match o with
   | .normal=>match s1.H[b]? with
    |some (.loop .ready pend1 fid1 A1 ps1 as1 bd1)=>fR (s1.H.set b (.loop .busy pend1 fid1 A1 ps1 as1 bd1)) fun H1=>
     iw P ⟨cfg,some b,N,nd⟩ H body g {s1 with H:=H1} fun g o s2=>KO P b H g o s2 k
    |_=>False
   |_=>False
  |false=>False
 |_=>False
inductive Jx (P:Program) [az] (cfg:dV) (nd:Bool) (N:wF P) (ro:Option Nat) (H0:List aa) (b:Code) {σ:Type} {sh:Sh} (g:G P (σ⊕sh.El)) (E:σ→St) (s:St) (Y:sh.El→aS×St):Prop
 |mk (h:iw P ⟨cfg,ro,N,nd⟩ H0 b g s (mV H0 E Y)):Jx P cfg nd N ro H0 b g E s Y
def ja(P:Program)[az](cfg:dV)(nd:Bool):Nat→wF P
 | 0=>Nl P
 |n+1=>⟨LJ P cfg nd (ja P cfg nd n),KP P cfg nd (ja P cfg nd n),fun ro H0 b g E s Y=>Jx P cfg nd (ja P cfg nd n) ro H0 b g E s Y⟩
def HZ(P:Program)[az](cfg:dV):Env P:=⟨cfg,none,ja P cfg false 9,false⟩
def MD(P:Program)[az](cfg:dV):Env P:=⟨cfg,none,ja P cfg true 9,true⟩
end
end Go.AM
end
section
namespace Go.AM
section
variable [az] {P:Program} {g g':Gh} {w:World}
theorem zy(hst:∀k o,g.st k o→g'.st k o){c:Array Value}:∀(l:List AVal) (o:Nat),AVal.aN l=true→cH g w c l o→cH g' w c l o
 | [],_,_,_=>trivial
 |a::as,o,hp,h=>by
  simp only[AVal.aN,Bool.and_eq_true]at hp;obtain⟨⟨y,h1,h2,h3⟩,h4⟩:=h;exact⟨⟨y,h1,h2,kF hst a y hp.1 h3⟩,zy hst as (o+1) hp.2 h4⟩
theorem qm(hst:∀k o,g.st k o→g'.st k o){c:Array Value}{sz:Nat}:∀(l:List (List AVal)) (o:Nat),l.all AVal.aN=true→eG g w c sz l o→eG g' w c sz l o
 | [],_,_,_=>trivial
 |r::rs,o,hp,h=>by
  simp only[List.all_cons,Bool.and_eq_true]at hp;exact⟨⟨h.1.1,zy hst r o hp.1 h.1.2⟩,qm hst rs (o+sz) hp.2 h.2⟩
mutual
theorem LK{b v:Nat}(hst:∀k o,g.st k o→g'.st k o)(hrho:∀x,g.af b v=some x→g'.af 0 0=some x):∀(a:AVal) (x:Value),a.qC=true→R g w (a.ux b v) x→R g' w a x
 | .sc _,x,_,hr=>by simpa[R,AVal.ux]using hr
 | .agg cs,x,hp,hr=>by
  simp only[R,AVal.qC,AVal.ux]at hr hp ⊢;obtain⟨vs,e,h1,hl⟩:=hr;exact⟨vs,e,h1,vc hst hrho cs vs hp hl⟩
 | .cm cs,x,hp,hr=>by
  simp only[R,AVal.qC,AVal.ux]at hr hp ⊢;obtain⟨vs,e,hl⟩:=hr;exact⟨vs,e,vc hst hrho cs vs hp hl⟩
 | .ptr b' v' i o,x,hp,hr=>by
  grind [R,AVal.qC,AVal.ux]
 | .bH cs o,x,_,hr=>by
  grind [R,AVal.ux,jf]
 | .sl b' v' sz o n,x,hp,hr=>by
  grind [R,AVal.qC,AVal.ux]
 | .au rows,x,_,hr=>kF hst _ x rfl (by simpa only[AVal.ux]using hr)
 | .fn f c d,x,hp,hr=>by
  simp only[R,AVal.qC,AVal.ux,Bool.and_eq_true]at hr hp ⊢;obtain⟨va,vb,e,h1,h2⟩:=hr;exact⟨va,vb,e,vc hst hrho c va hp.1 h1,vc hst hrho d vb hp.2 h2⟩
 | .ep t a,x,hp,hr=>by
  simp only[R,AVal.qC,AVal.ux]at hr hp ⊢;obtain⟨y,e,h1⟩:=hr;exact⟨y,e,LK hst hrho a y hp h1⟩
 | .mp _,_,hp,_=>by simp[AVal.qC]at hp
 | .gL _,_,hp,_=>by simp[AVal.qC]at hp
 | .sa b' v' i o s n,x,hp,hr=>by
  grind [R,AVal.qC,AVal.ux]
 | .fm i o,x,_,hr=>by simpa[R,AVal.ux]using hr
 | .emp,x,_,hr=>by simpa[R,AVal.ux]using hr
 | .nz _,x,_,hr=>by simpa[R,AVal.ux]using hr
 | .ay,x,_,_=>by simp[R]
theorem vc{b v:Nat}(hst:∀k o,g.st k o→g'.st k o)(hrho:∀x,g.af b v=some x→g'.af 0 0=some x):∀(a:List AVal) (x:List Value),AVal.lS a=true→RL g w (AVal.rS b v a) x→RL g' w a x
 | [],x,_,hr=>by simpa[RL,AVal.rS]using hr
 |a::as,x,hp,hr=>by
  simp only[RL,AVal.lS,AVal.rS,Bool.and_eq_true]at hr hp ⊢;obtain⟨y,ys,e,h1,h2⟩:=hr;exact⟨y,ys,e,LK hst hrho a y hp.1 h1,vc hst hrho as ys hp.2 h2⟩
end
theorem ve{x:aa}(h:x.kJ=true):∃sz rows,x=.row 0 sz rows∧rows.all AVal.aN=true:=by
 unfold aa.kJ at h;grind
open Classical in
theorem bB.move{f:FuncId}{args:List AVal}{x x':aa}{r:aI}(h:bB P f args [x] r [x'])(ha:AVal.lS args=true)(hx:x.kJ=true)(hx':x'.kJ=true)(hr:r.yM=true)
 (b v:Nat) (H:List aa) (hb:H[b]? =some (x.kG v)) (hd:∀b',b'≠b→∀y,H[b']? =some y→y=.dead):bB P f (AVal.rS b v args) H (r.vV b v) (H.set b (x'.kG v)):=by
 obtain⟨sz,rows,rfl,hp⟩:=ve hx;obtain⟨sz',rows',rfl,hp'⟩:=ve hx';simp only[aa.kG]at hb ⊢;have hblt:b<H.length:=(List.getElem?_eq_some_iff.1 hb).1;refine⟨h.1,fun g w vs hi hl=>?_⟩
 let g':Gh:=⟨fun b' v'=>if b'=0∧v'=0 then g.af b v else none,g.st⟩
 have h00:g'.af 0 0=g.af b v:=by simp[g']
 have hno:∀b' v',¬(b'=0∧v'=0)→g'.af b' v'=none:=fun b' v' hc=>by simp[g',hc]
 have hst:∀k o,g.st k o→g'.st k o:=fun _ _ h=>h
 have hi':Inv g' [.row 0 sz rows] w:=by
  refine⟨fun b' y hy=>?_,fun b1 b2 y1 y2 v1 v2 k z z' e1 e2 _ _ _ _=>?_,fun b' v' hc=>?_,fun b' y v1 v2 hy hv hlt=>?_,fun b' y v1 k z o hy hv hk=>?_,hi.dI,fun i cs hc=>⟨(hi.cz i cs hc).1,jf hst _ _ _ (hi.cz i cs hc).1 (hi.cz i cs hc).2⟩⟩
  ·cases b' with
   |zero=>
    simp only[List.getElem?_cons_zero,Option.some.injEq]at hy;subst hy;rcases hi.good b _ hb with⟨k,c,e,h1,h2,h3,h4,h5⟩ |⟨h1,h2,h3⟩
    ·exact .inl ⟨k,c,e,by rw[h00];exact h1,h2,qm hst rows 0 hp h3,h4,h5⟩
    ·exact .inr ⟨h1,by rw[h00];exact h2,h3⟩
   |succ n=>simp at hy
  ·grind
  ·grind
  ·grind
  ·by_cases hc:b'=0∧v1=0
   ·obtain⟨rfl,rfl⟩:=hc;rw[h00]at hk;exact hi.free b _ v k z o hb rfl hk
   ·rw[hno _ _ hc]at hk;cases hk
 have hl':RL g' w args vs.toList:=vc hst (fun x hx=>by rw[h00];exact hx) _ _ ha hl
 refine(h.2 g' w vs hi' hl').mono fun e w' ⟨g1',hi1,hla,he⟩=>?_
 have hown:∀k,eZ g' [.row 0 sz rows] k→eZ g H k:=by
  rintro k ⟨b',y,v',z,hy,hv,hk⟩;by_cases hc:b'=0∧v'=0
  ·obtain⟨rfl,rfl⟩:=hc;rw[h00]at hk;exact⟨b,_,v,z,hb,rfl,hk⟩
  ·rw[hno _ _ hc]at hk;cases hk
 have hown':∀k,eZ g H k→eZ g' [.row 0 sz rows] k:=by
  rintro k ⟨b',y,v',z,hy,hv,hk⟩;by_cases hc:b'=b
  ·subst hc;rw[hb]at hy;cases hy;simp only[aa.live,Option.some.injEq]at hv;subst hv;exact⟨0,_,0,z,rfl,rfl,by rw[h00];exact hk⟩
  ·rw[hd b' hc y hy]at hv;cases hv
 let g1:Gh:=⟨fun b' v'=>if b'=b∧v'=v then g1'.af 0 0 else g.af b' v',g1'.st⟩
 have e00:g1.af b v=g1'.af 0 0:=by simp[g1]
 have eno:∀b' v',¬(b'=b∧v'=v)→g1.af b' v'=g.af b' v':=fun b' v' hc=>by simp[g1,hc]
 have hst1:∀k o,g1'.st k o→g1.st k o:=fun _ _ h=>h
 have hget:∀b',b'≠b→(H.set b (.row v sz' rows'))[b']? =H[b']? :=fun b' hc=>List.getElem?_set_ne (Ne.symm hc)
 have hself:(H.set b (.row v sz' rows'))[b]? =some (.row v sz' rows'):=List.getElem?_set_self hblt;have hinv1:Inv g1 (H.set b (.row v sz' rows')) w':=by
  refine⟨fun b' y hy=>?_,fun b1 b2 y1 y2 v1 v2 k z z' e1 e2 l1 l2 _ _=>?_,fun b' v' hc=>?_,fun b' y v1 v2 hy hv hlt=>?_,fun b' y v1 k z o hy hv hk=>?_,hi1.dI,fun i cs hc=>⟨(hi1.cz i cs hc).1,jf hst1 _ _ _ (hi1.cz i cs hc).1 (hi1.cz i cs hc).2⟩⟩
  ·by_cases hc:b'=b
   ·subst hc;rw[hself]at hy;cases hy;rcases hi1.good 0 _ rfl with⟨k,c,e,h1,h2,h3,h4,h5⟩ |⟨h1,h2,h3⟩
    ·exact .inl ⟨k,c,e,by rw[e00];exact h1,h2,qm hst1 rows' 0 hp' h3,h4,h5⟩
    ·exact .inr ⟨h1,by rw[e00];exact h2,h3⟩
   ·rw[hget b' hc]at hy;rw[hd b' hc y hy];trivial
  ·have key:∀(b':Nat) (y:aa) (v':Nat),(H.set b (.row v sz' rows'))[b']? =some y→y.live=some v'→b'=b:=by
    intro b' y v' hy hv;by_cases hc:b'=b
    ·exact hc
    ·rw[hget b' hc]at hy;rw[hd b' hc y hy]at hv;cases hv
   grind
  ·have hne:b'≠b:=by
    rintro rfl;rcases hc with hc |hc
    ·rw[hself]at hc;cases hc
    ·rw[List.length_set]at hc;omega
   rw[eno _ _ (fun hh=>hne hh.1)]
   refine hi.fresh b' v' ?_;grind
  ·by_cases hc:b'=b
   ·subst hc;rw[hself]at hy;cases hy;simp only[aa.live,Option.some.injEq]at hv;subst hv;rw[eno _ _ (by omega)]
    exact hi.next b' _ v v2 hb rfl hlt
   ·rw[hget b' hc]at hy;rw[hd b' hc y hy]at hv;cases hv
  ·by_cases hc:b'=b
   ·subst hc;rw[hself]at hy;cases hy;simp only[aa.live,Option.some.injEq]at hv;subst hv;rw[e00]at hk;exact hi1.free 0 _ 0 k z o rfl rfl hk
   ·rw[hget b' hc]at hy;rw[hd b' hc y hy]at hv;cases hv
 have hback:∀k,eZ g1 (H.set b (.row v sz' rows')) k→eZ g1' [.row 0 sz' rows'] k:=by
  rintro k ⟨b',y,v',z,hy,hv,hkz⟩;by_cases hc:b'=b
  ·subst hc;rw[hself]at hy;cases hy;simp only[aa.live,Option.some.injEq]at hv;subst hv;rw[e00]at hkz;exact⟨0,_,0,z,rfl,rfl,hkz⟩
  ·rw[hget b' hc]at hy;rw[hd b' hc y hy]at hv;cases hv
 refine⟨g1,hinv1,⟨⟨fun b' v' y hy=>?_,fun k o hk=>hla.ext.st k o hk,hla.ext.cell,hla.ext.shape⟩,hla.size,fun k hk ho=>hla.keep k hk fun hc=>ho (hown k hc),fun k hk ho=>?_,by grind,hla.os,hla.tape,hla.output,fun k o hk hs=>(hla.stk k o hk hs).imp_right fun h=>⟨hown k h.1,fun ho=>h.2 (hback k ho)⟩,fun b' hb'=>?_,fun b' v' k z hk=>?_⟩,?_⟩
 ·by_cases hc:b'=b∧v'=v
  ·obtain⟨rfl,rfl⟩:=hc;rw[e00];exact hla.ext.af 0 0 y (by rw[h00];exact hy)
  ·rw[eno _ _ hc];exact hy
 ·refine hown k (hla.own k hk ?_);grind
 ·grind
 ·by_cases hc:b'=b∧v'=v
  ·obtain⟨rfl,rfl⟩:=hc;rw[e00]at hk;rcases hla.pM 0 0 k z hk with⟨v1,z1,h1⟩ |h1
   ·grind
   ·exact .inr h1
  grind
 ·cases r with
  |ret u=>
   obtain⟨y,rfl,hy⟩:=he;have hq:(∃sz o n,u=.sl 0 0 sz o n)∨(u.pure=true∧u.vV b v=u):=by
    cases u with
    |sl b1 v1 sz o n=>
     grind [aI.yM]
    |_=>exact .inr ⟨hr,rfl⟩
   rcases hq with⟨sz,o,n,rfl⟩ |⟨hp2,he2⟩
   ·refine⟨y,rfl,?_⟩;grind [AVal.vV,R]
   ·refine⟨y,rfl,?_⟩;grind [kF]
  |aO u=>
   obtain⟨y,rfl,hy⟩:=he;exact⟨y,rfl,jG _ _ hr hy⟩
open Classical in
theorem bB.Np{f:FuncId}{args:List AVal}{x:aa}{r:aI}(h:bB P f args [x] r [.dead])(ha:AVal.lS args=true)(hx:x.kJ=true)(hr:r.yM=true)
 (b v:Nat) (H:List aa) (hb:H[b]? =some (x.kG v)) (hd:∀b',b'≠b→∀y,H[b']? =some y→y=.dead):bB P f (AVal.rS b v args) H (r.vV b v) (H.set b .dead):=by
 obtain⟨sz,rows,rfl,hp⟩:=ve hx;simp only[aa.kG]at hb ⊢;have hblt:b<H.length:=(List.getElem?_eq_some_iff.1 hb).1;refine⟨h.1,fun g w vs hi hl=>?_⟩
 let g':Gh:=⟨fun b' v'=>if b'=0∧v'=0 then g.af b v else none,g.st⟩
 have h00:g'.af 0 0=g.af b v:=by simp[g']
 have hno:∀b' v',¬(b'=0∧v'=0)→g'.af b' v'=none:=fun b' v' hc=>by simp[g',hc]
 have hst:∀k o,g.st k o→g'.st k o:=fun _ _ h=>h
 have hi':Inv g' [.row 0 sz rows] w:=by
  refine⟨fun b' y hy=>?_,fun b1 b2 y1 y2 v1 v2 k z z' e1 e2 _ _ _ _=>?_,fun b' v' hc=>?_,fun b' y v1 v2 hy hv hlt=>?_,fun b' y v1 k z o hy hv hk=>?_,hi.dI,fun i cs hc=>⟨(hi.cz i cs hc).1,jf hst _ _ _ (hi.cz i cs hc).1 (hi.cz i cs hc).2⟩⟩
  ·cases b' with
   |zero=>
    simp only[List.getElem?_cons_zero,Option.some.injEq]at hy;subst hy;rcases hi.good b _ hb with⟨k,c,e,h1,h2,h3,h4,h5⟩ |⟨h1,h2,h3⟩
    ·exact .inl ⟨k,c,e,by rw[h00];exact h1,h2,qm hst rows 0 hp h3,h4,h5⟩
    ·exact .inr ⟨h1,by rw[h00];exact h2,h3⟩
   |succ n=>simp at hy
  ·grind
  ·grind
  ·grind
  ·by_cases hc:b'=0∧v1=0
   ·obtain⟨rfl,rfl⟩:=hc;rw[h00]at hk;exact hi.free b _ v k z o hb rfl hk
   ·rw[hno _ _ hc]at hk;cases hk
 have hl':RL g' w args vs.toList:=vc hst (fun x hx=>by rw[h00];exact hx) _ _ ha hl
 refine(h.2 g' w vs hi' hl').mono fun e w' ⟨g1',hi1,hla,he⟩=>?_
 have hown:∀k,eZ g' [.row 0 sz rows] k→eZ g H k:=by
  rintro k ⟨b',y,v',z,hy,hv,hk⟩;by_cases hc:b'=0∧v'=0
  ·obtain⟨rfl,rfl⟩:=hc;rw[h00]at hk;exact⟨b,_,v,z,hb,rfl,hk⟩
  ·rw[hno _ _ hc]at hk;cases hk
 have hown':∀k,eZ g H k→eZ g' [.row 0 sz rows] k:=by
  rintro k ⟨b',y,v',z,hy,hv,hk⟩;by_cases hc:b'=b
  ·subst hc;rw[hb]at hy;cases hy;simp only[aa.live,Option.some.injEq]at hv;subst hv;exact⟨0,_,0,z,rfl,rfl,by rw[h00];exact hk⟩
  ·rw[hd b' hc y hy]at hv;cases hv
 let g1:Gh:=⟨fun b' v'=>if b'=b∧v'=v then g1'.af 0 0 else g.af b' v',g1'.st⟩
 have e00:g1.af b v=g1'.af 0 0:=by simp[g1]
 have eno:∀b' v',¬(b'=b∧v'=v)→g1.af b' v'=g.af b' v':=fun b' v' hc=>by simp[g1,hc]
 have hst1:∀k o,g1'.st k o→g1.st k o:=fun _ _ h=>h
 have hget:∀b',b'≠b→(H.set b .dead)[b']? =H[b']? :=fun b' hc=>List.getElem?_set_ne (Ne.symm hc)
 have hself:(H.set b .dead)[b]? =some .dead:=List.getElem?_set_self hblt;have hinv1:Inv g1 (H.set b .dead) w':=by
  refine⟨fun b' y hy=>?_,fun b1 b2 y1 y2 v1 v2 k z z' e1 e2 l1 l2 _ _=>?_,fun b' v' hc=>?_,fun b' y v1 v2 hy hv hlt=>?_,fun b' y v1 k z o hy hv hk=>?_,hi1.dI,fun i cs hc=>⟨(hi1.cz i cs hc).1,jf hst1 _ _ _ (hi1.cz i cs hc).1 (hi1.cz i cs hc).2⟩⟩
  ·by_cases hc:b'=b
   ·subst hc;rw[hself]at hy;cases hy
    trivial
   ·rw[hget b' hc]at hy;rw[hd b' hc y hy];trivial
  ·have key:∀(b':Nat) (y:aa) (v':Nat),(H.set b .dead)[b']? =some y→y.live=some v'→b'=b:=by
    intro b' y v' hy hv;by_cases hc:b'=b
    ·exact hc
    ·rw[hget b' hc]at hy;rw[hd b' hc y hy]at hv;cases hv
   grind
  ·have hne:b'≠b:=by
    rintro rfl;rcases hc with hc |hc
    ·rw[hself]at hc;cases hc
    ·rw[List.length_set]at hc;omega
   rw[eno _ _ (fun hh=>hne hh.1)]
   refine hi.fresh b' v' ?_;grind
  ·by_cases hc:b'=b
   ·subst hc;rw[hself]at hy;cases hy;cases hv
   ·rw[hget b' hc]at hy;rw[hd b' hc y hy]at hv;cases hv
  ·by_cases hc:b'=b
   ·subst hc;rw[hself]at hy;cases hy;cases hv
   ·rw[hget b' hc]at hy;rw[hd b' hc y hy]at hv;cases hv
 have hback:∀k,eZ g1 (H.set b .dead) k→eZ g1' [.dead] k:=by
  rintro k ⟨b',y,v',z,hy,hv,hkz⟩;by_cases hc:b'=b
  ·subst hc;rw[hself]at hy;cases hy;cases hv
  ·rw[hget b' hc]at hy;rw[hd b' hc y hy]at hv;cases hv
 refine⟨g1,hinv1,⟨⟨fun b' v' y hy=>?_,fun k o hk=>hla.ext.st k o hk,hla.ext.cell,hla.ext.shape⟩,hla.size,fun k hk ho=>hla.keep k hk fun hc=>ho (hown k hc),fun k hk ho=>?_,by grind,hla.os,hla.tape,hla.output,fun k o hk hs=>(hla.stk k o hk hs).imp_right fun h=>⟨hown k h.1,fun ho=>h.2 (hback k ho)⟩,fun b' hb'=>?_,fun b' v' k z hk=>?_⟩,?_⟩
 ·by_cases hc:b'=b∧v'=v
  ·obtain⟨rfl,rfl⟩:=hc;rw[e00];exact hla.ext.af 0 0 y (by rw[h00];exact hy)
  ·rw[eno _ _ hc];exact hy
 ·refine hown k (hla.own k hk ?_);grind
 ·grind
 ·by_cases hc:b'=b∧v'=v
  ·obtain⟨rfl,rfl⟩:=hc;rw[e00]at hk;rcases hla.pM 0 0 k z hk with⟨v1,z1,h1⟩ |h1
   ·grind
   ·exact .inr h1
  grind
 ·cases r with
  |ret u=>
   obtain⟨y,rfl,hy⟩:=he;have hq:(∃sz o n,u=.sl 0 0 sz o n)∨(u.pure=true∧u.vV b v=u):=by
    cases u with
    |sl b1 v1 sz o n=>
     grind [aI.yM]
    |_=>exact .inr ⟨hr,rfl⟩
   rcases hq with⟨sz,o,n,rfl⟩ |⟨hp2,he2⟩
   ·refine⟨y,rfl,?_⟩;grind [AVal.vV,R]
   ·refine⟨y,rfl,?_⟩;grind [kF]
  |aO u=>
   obtain⟨y,rfl,hy⟩:=he;exact⟨y,rfl,jG _ _ hr hy⟩
theorem bB.Nq{f:FuncId}{args:List AVal}{x x':aa}{r:aI}(h:bB P f args [x] r [x'])(ha:AVal.lS args=true)(hx:x.kJ=true)(hx':x'.kJ=true∨x'=.dead)(hr:r.yM=true)
 (b v:Nat) (H:List aa) (hb:H[b]? =some (x.kG v)) (hd:∀b',b'≠b→∀y,H[b']? =some y→y=.dead):bB P f (AVal.rS b v args) H (r.vV b v) (H.set b (x'.kG v)):=by
 rcases hx' with hx' |rfl
 ·exact h.move ha hx hx' hr b v H hb hd
 ·exact h.Np ha hx hr b v H hb hd
theorem bB.frame{f:FuncId}{args:List AVal}{H:List aa}{r:aI}{b:Nat}{y:aa}(h:bB P f args (mask [b] H) r ((mask [b] H).set b y))(hb:b<H.length):bB P f args H r (H.set b y):=by
 refine⟨h.1,fun g w vs hi hl=>(h.2 g w vs (nB hi [b]) hl).mono fun e w' ⟨g1,hi1,hla,he⟩=>?_⟩
 have hlen:((mask [b] H).set b y).length=H.length:=by rw[List.length_set,oa]
 have:=Inv.merge hi hi1 hla (by omega)
 have e1:merged [b] H ((mask [b] H).set b y)=H.set b y:=by
  simp only[merged,List.foldl_cons,List.foldl_nil];rw[List.getD_eq_getElem?_getD,List.getElem?_set_self (by rw[oa];exact hb)];rfl
 have e2:((mask [b] H).set b y).drop H.length=[]:=List.drop_of_length_le (by omega)
 rw[e1,e2,List.append_nil]at this;exact⟨g1,this.1,this.2,he⟩
mutual
theorem tL(n:Nat):∀(v:AVal),v.pure=true→v.eW n=true
 | .sc _,_=>rfl
 | .agg cs,h=>by simp only[AVal.pure,AVal.eW]at h ⊢;exact jH n cs h
 | .cm cs,h=>by simp only[AVal.pure,AVal.eW]at h ⊢;exact jH n cs h
 | .ptr ..,h=>by simp[AVal.pure]at h
 | .bH ..,_=>rfl
 | .sl ..,h=>by simp[AVal.pure]at h
 | .au _,_=>rfl
 | .fn f a b,h=>by
  simp only[AVal.pure,AVal.eW,Bool.and_eq_true]at h ⊢;exact⟨jH n a h.1,jH n b h.2⟩
 | .ep t v,h=>by simp only[AVal.pure,AVal.eW]at h ⊢;exact tL n v h
 | .mp _,h=>by simp[AVal.pure]at h
 | .gL _,h=>by simp[AVal.pure]at h
 | .sa ..,h=>by simp[AVal.pure]at h
 | .fm ..,_=>rfl
 | .emp,_=>rfl
 | .nz _,_=>rfl
 | .ay,_=>rfl
theorem jH(n:Nat):∀(l:List AVal),AVal.aN l=true→AVal.mM n l=true
 | [],_=>rfl
 |a::as,h=>by
  simp only[AVal.aN,AVal.mM,Bool.and_eq_true]at h ⊢;exact⟨tL n a h.1,jH n as h.2⟩
end
theorem bB.take{f:FuncId}{args:List AVal}{H H1:List aa}{a:aI}(h:bB P f args H a H1)(h0:0<H.length)(ha:a.yM=true)(hb:∀x∈H1.take H.length,x.kJ=true∨x=.dead):bB P f args H a (H1.take H.length):=by
 refine⟨h.1,fun g w vs hi hl=>(h.2 g w vs hi hl).mono fun e w' ⟨g1,hi1,hla,he⟩=>?_⟩
 have hlen:(H1.take H.length).length=H.length:=by rw[List.length_take];have:=hla.len;omega
 have hK:H1.take H.length++H1.drop H.length=H1:=List.take_append_drop _ _;obtain⟨i1,i2⟩:=Inv.drop (n:=H.length) (K:=H1.take H.length) (L:=H1.drop H.length) hi (by rw[hK];exact hi1) (by rw[hK];exact hla) hlen rfl fun b x hx=>.inl (by
  rcases hb x (List.mem_of_getElem? hx)with hb |rfl
  ·grind [ve,tH,jH]
  ·rfl)
 refine⟨g1.upto H.length,i1,i2,?_⟩;cases a with
 |ret v=>
  obtain⟨x,rfl,hx⟩:=he;refine⟨x,rfl,?_⟩;by_cases hp:v.pure=true
  ·exact kF (g:=g1) (g2:=g1.upto H.length) (fun _ _ h=>h) v x hp hx
  ·cases v<;>try exact absurd ha hp
   rename_i b ai sz o n;simp only[aI.yM,Bool.and_eq_true,beq_iff_eq]at ha;obtain⟨rfl,rfl⟩:=ha;simp only[R]at hx ⊢;rcases hx with hx |⟨k,cap,e,s,h1,h2⟩
   ·exact .inl hx
   ·exact .inr ⟨k,cap,e,s,by simpa[Gh.upto,h0]using h1,h2⟩
 |aO v=>
  obtain⟨x,rfl,hx⟩:=he;exact⟨x,rfl,jG v x ha hx⟩
theorem Bq{pr:List Nat}{n:Nat}:∀{L:List aa} {i:Nat},Bp pr n i L=true→∀(b:Nat) (x:aa),L[b]? =some x→pr.contains (i+b)=true∨tH n x=true
 | [],_,_,b,x,h=>by simp at h
 |y::ys,i,hl,0,x,h=>by
  grind [Bp]
 |y::ys,i,hl,b+1,x,h=>by
  simp only[Bp,Bool.and_eq_true]at hl;have:=Bq hl.2 b x (by simpa using h)
  grind
theorem bB.trim{f:FuncId}{args:List AVal}{H H1:List aa}{a:aI}{pr:List Nat}(h:bB P f args H a H1)(hpan:∀v,a=.aO v→v.flat=true)(ha:a.eW H.length=true)(hl:Bp pr H.length 0 (H1.take H.length)=true)
 (hp:∀i,pr.contains i=true→∃x,H1[i]? =some x∧rU x=true):bB P f args H a (H1.take H.length):=by
 refine⟨h.1,fun g w vs hi hl'=>(h.2 g w vs hi hl').mono fun e w' ⟨g1,hi1,hla,he⟩=>?_⟩
 have hlen:(H1.take H.length).length=H.length:=by rw[List.length_take];have:=hla.len;omega
 have hK:H1.take H.length++H1.drop H.length=H1:=List.take_append_drop _ _;obtain⟨i1,i2⟩:=Inv.drop (n:=H.length) (K:=H1.take H.length) (L:=H1.drop H.length) hi (by rw[hK];exact hi1) (by rw[hK];exact hla) hlen rfl fun b x hx=>.inl (by
  rcases Bq hl b x hx with hc |hc
  ·grind [vW,tH,jH,tL]
  ·exact hc)
 refine⟨g1.upto H.length,i1,i2,?_⟩;cases a with
 |ret v=>
  obtain⟨x,rfl,hx⟩:=he;exact⟨x,rfl,lM (n:=H.length) (g:=g1) (g2:=g1.upto H.length) (fun _ _ h=>h) (fun b ai x hb he=>by grind [Gh.upto]) v x ha hx⟩
 |aO v=>
  obtain⟨x,rfl,hx⟩:=he;exact⟨x,rfl,jG v x (hpan v rfl) hx⟩
mutual
theorem LL{b:Nat}:∀(a:AVal) (x:Value),R g w a x→R g w (a.but b) x
 | .sc _,x,hr=>by simpa only[AVal.but]using hr
 | .agg cs,x,hr=>by
  simp only[R,AVal.but]at hr ⊢;obtain⟨vs,e,h1,hl⟩:=hr;exact⟨vs,e,h1,xk cs vs hl⟩
 | .cm cs,x,hr=>by
  simp only[R,AVal.but]at hr ⊢;obtain⟨vs,e,hl⟩:=hr;exact⟨vs,e,xk cs vs hl⟩
 | .ptr ..,x,hr=>by
  grind [AVal.but,R]
 | .bH ..,x,hr=>by simpa only[AVal.but]using hr
 | .sl ..,x,hr=>by
  grind [AVal.but,R]
 | .au _,x,hr=>by simpa only[AVal.but]using hr
 | .fn f c d,x,hr=>by
  simp only[R,AVal.but]at hr ⊢;obtain⟨va,vb,e,h1,h2⟩:=hr;exact⟨va,vb,e,xk c va h1,xk d vb h2⟩
 | .ep t a,x,hr=>by
  simp only[R,AVal.but]at hr ⊢;obtain⟨y,e,h1⟩:=hr;exact⟨y,e,LL a y h1⟩
 | .mp _,_,_=>by simp[AVal.but,R]
 | .gL _,_,_=>by simp[AVal.but,R]
 | .sa ..,x,hr=>by
  grind [AVal.but,R]
 | .fm ..,x,hr=>by simpa only[AVal.but]using hr
 | .emp,x,hr=>by simpa only[AVal.but]using hr
 | .nz _,x,hr=>by simpa only[AVal.but]using hr
 | .ay,x,_=>by simp[AVal.but,R]
theorem xk{b:Nat}:∀(a:List AVal) (x:List Value),RL g w a x→RL g w (AVal.u9 b a) x
 | [],x,hr=>by simpa[RL,AVal.u9]using hr
 |a::as,x,hr=>by
  simp only[RL,AVal.u9]at hr ⊢;obtain⟨y,ys,e,h1,h2⟩:=hr;exact⟨y,ys,e,LL a y h1,xk as ys h2⟩
end
theorem bB.but{b:Nat}{f:FuncId}{args:List AVal}{H H1:List aa}{r:aI}(h:bB P f (AVal.u9 b args) H r H1):bB P f args H r H1:=
 ⟨h.1,fun g w vs hi hl=>h.2 g w vs hi (xk _ _ hl)⟩
end
end Go.AM
end
section
namespace Go.AM
section
variable [az] {P:Program} {cfg:dV} {X:Env P}
theorem pe:fe P s6:=⟨fun _ _ _ _ _ h=>by simp[s6]at h,fun _ _ _ _ _ h=>by simp[s6]at h⟩
open Classical in
noncomputable def nR(f:FuncId)(args:List AVal)(H:List aa)(r:aI)(H1:List aa):iL:=
 ⟨fun f' args' H'=>if f'=f∧args'=args∧H'=H then some (r,H1)else none,fun _ _ _=>none⟩
theorem vY{f:FuncId}{args:List AVal}{H H1:List aa}{r:aI}(h:bB P f args H r H1):fe P (nR f args H r H1):=by
 refine⟨fun f' args' H' r' H1' hr=>?_,fun _ _ _ _ _ h=>by simp[nR]at h⟩
 simp only[nR]at hr;split at hr
 ·rename_i hc;obtain⟨rfl,rfl,rfl⟩:=hc;simp only[Option.some.injEq,Prod.mk.injEq]at hr;obtain⟨rfl,rfl⟩:=hr;exact h
 ·cases hr
open Classical in
noncomputable def xl(f:FuncId)(args:List AVal)(r:aI):iL:=
 ⟨fun f' args' H=>if f'=f∧args'=args∧H=[]then some (r,[])else none,fun _ _ _=>none⟩
theorem H6{f:FuncId}{args:List AVal}{r:aI}(h:kK P f args r):fe P (xl f args r):=by
 refine⟨fun f' args' H r' H1 hr=>?_,fun _ _ _ _ _ h=>by simp[xl]at h⟩
 simp only[xl]at hr;split at hr
 ·rename_i hc;obtain⟨rfl,rfl,rfl⟩:=hc;simp only[Option.some.injEq,Prod.mk.injEq]at hr;obtain⟨rfl,rfl⟩:=hr;exact h
 ·cases hr
def B7(P:Program)[az](b:Nat)(args:List AVal)(H:List aa)(r:aI)(H1:List aa):Prop:=
 ∀g w (vs:Array Value) k sz,Inv g H w→RL g w args vs.toList→g.af b 0=some (k,sz)→
  ∃rec,w.heap[k]? =some (.loop rec)∧vs.size=rec.params.size∧RoundIn Fence.wide 0 P k rec.fn (kV rec vs) rec.assign rec.body w (dx g H w r H1)
open Classical in
noncomputable def zz(b:Nat)(args:List AVal)(H:List aa)(r:aI)(H1:List aa):iL:=
 ⟨fun _ _ _=>none,fun b' args' H'=>if b'=b∧args'=args∧H'=H then some (r,H1)else none⟩
theorem Jy{b:Nat}{args:List AVal}{H H1:List aa}{r:aI}(h:B7 P b args H r H1):fe P (zz b args H r H1):=by
 refine⟨fun _ _ _ _ _ h=>by simp[zz]at h,fun b' args' H' r' H1' hr=>?_⟩
 simp only[zz]at hr;split at hr
 ·rename_i hc;obtain⟨rfl,rfl,rfl⟩:=hc;simp only[Option.some.injEq,Prod.mk.injEq]at hr;obtain⟨rfl,rfl⟩:=hr;exact h
 ·cases hr
theorem B7.wk{b:Nat}{args:List AVal}{H H1:List aa}{r:aI}(h:B7 P b (lR args) H r H1):B7 P b args H r H1:=
 fun g w vs k sz hi hl hk=>h g w vs k sz hi (tY _ _ hl) hk
structure mW(P:Program)[az](N:wF P):Prop where
 fn:∀{ρ:Type} {n:Nat} {f:FuncId} {args:List AVal} {H:List aa} {g:G P ρ} {k:G P ρ→aI→List aa→Prop} {r:ρ},N.fn f args H g k→g.run n=some r→
  ∃g' a H1,k g' a H1∧g'.run n=some r∧bB P f args H a H1
 yK:∀{ρ:Type} {n:Nat} {b:Nat} {args:List AVal} {H:List aa} {g:G P ρ} {k:G P ρ→aI→List aa→Prop} {r:ρ},N.yK b args H g k→g.run n=some r→
  ∃g' a H1,k g' a H1∧g'.run n=some r∧B7 P b args H a H1
 lp:∀{σ:Type} {sh:Sh} {n:Nat} {ro:Option Nat} {H0:List aa} {b:Code} {g:G P (σ⊕sh.El)} {E:σ→St} {s:St} {Y:sh.El→aS×St} {q:σ⊕sh.El},N.lp ro H0 b g E s Y→g.run n=some q→
  ∃(g':G P (σ⊕sh.El)) (o:aS) (s':St),mV H0 E Y g' o s'∧g'.run n=some q∧∀fro g0 w0,Inv g0 H0 w0→mw g0 ro fro→dG P fro g0 H0 w0 b s fun o1 s1=>o1=o∧s1=s'
variable {ops:Array Oper} {n0 nid:Nat} {o:Oper} {s:St}
theorem zA{orc orc':iL}(h:gK ops s.A o=some true→∀pre,(bO P cfg nid (bU s.A) o.op).run s.H=some pre→finish orc s.H pre=finish orc' s.H pre):
 dO P cfg orc ops n0 o nid s=dO P cfg orc' ops n0 o nid s:=by
 grind [dO]
theorem kL{n:Nat}{ρ:Type}{r:ρ}:∀{g:G P ρ} {s:St} {k:G P ρ→St→Prop},mJ g s k→g.run n=some r→∃g',k g' s∧g'.run n=some r
 | .br d c t f,s,k,h,hr=>by
  simp only[mJ,mP]at h;obtain⟨hd,h1,h2⟩:=h;have hset:s.A.set d (.sc (.bool c))=s.A:=by
   apply List.ext_getElem?;intro j;by_cases hj:d=j
   ·grind
   ·rw[List.getElem?_set_ne hj]
  cases c with
  |true=>
   rw[hset]at h1;simp only[G.run,if_true]at hr;exact kL h1 hr
  |false=>
   rw[hset]at h2;simp only[G.run,Bool.false_eq_true,if_false]at hr;exact kL h2 hr
 | .AZ d ik x c t f,s,k,h,hr=>by
  simp only[mJ,mP]at h;obtain⟨hd,h1,h2⟩:=h;by_cases hx:x=c
  ·subst hx;have hset:s.A.set d (.sc (.int ik x))=s.A:=by
    apply List.ext_getElem?;intro j;by_cases hj:d=j
    ·grind
    ·rw[List.getElem?_set_ne hj]
   rw[hset]at h1;simp only[G.run,if_true]at hr;exact kL h1 hr
  ·simp only[G.run,hx,if_false]at hr;exact kL h2 hr
 | .sp c t f,s,k,h,hr=>by
  simp only[mJ]at h;cases c with
  |true=>
   simp only[G.run,if_true]at hr;exact kL h.1 hr
  |false=>
   simp only[G.run,Bool.false_eq_true,if_false]at hr;exact kL h.2 hr
 | .fail,s,k,h,hr=>by simp[G.run]at hr
 | .stop,s,k,h,hr=>by simp[G.run]at hr
 | .done ..,s,k,h,hr=>⟨_,h,hr⟩
 | .skip ..,s,k,h,hr=>⟨_,h,hr⟩
 | .op ..,s,k,h,hr=>⟨_,h,hr⟩
 | .call ..,s,k,h,hr=>⟨_,h,hr⟩
 | .eU ..,s,k,h,hr=>⟨_,h,hr⟩
 | .aA ..,s,k,h,hr=>⟨_,h,hr⟩
 | .tidy ..,s,k,h,hr=>⟨_,h,hr⟩
 | .loop ..,s,k,h,hr=>⟨_,h,hr⟩
 | .qD ..,s,k,h,hr=>⟨_,h,hr⟩
 | .gu ..,s,k,h,hr=>⟨_,h,hr⟩
 | .tJ ..,s,k,h,hr=>⟨_,h,hr⟩
 | .join ..,s,k,h,hr=>⟨_,h,hr⟩
 | .inl ..,s,k,h,hr=>⟨_,h,hr⟩
theorem Ge{x:Option Pre}{f:FuncId}{args:List AVal}(h:E8 x=some (f,args)):∃args' own,x=some (.Ag f args' own)∧lR args'=args:=by
 unfold E8 at h;grind
theorem kK.wk{f:FuncId}{args:List AVal}{r:aI}(h:kK P f (lR args) r):kK P f args r:=
 ⟨h.1,fun g w vs hi hl=>h.2 g w vs hi (tY _ _ hl)⟩
theorem H7{H:List aa}{x:Option Pre}{f:FuncId}{args:List AVal}{H1:List aa}(h:HY H x=some (f,args,H1)):∃args' ids,x=some (.jy f args' ids)∧lR args'=args∧mask ids H=H1:=by
 unfold HY at h;grind
theorem vf{ids:List Nat}{H:List aa}(hp:∀i,ids.contains i=true→∃x,H[i]? =some x∧rU x=true):
 ∀(n:Nat) (l seen:List Nat),Am ids l=true→l.length≤n→(closure n l seen).run H=some (vX l seen)∧(closure n l seen).reads H=s7 l seen
 |_,[],_,_,_=>by simp[closure,Rd.run,Rd.reads,vX,s7]
 | 0,_::_,_,_,h=>by simp at h
 |n+1,c::cs,seen,h,hl=>by
  simp only[Am,Bool.and_eq_true]at h;simp only[List.length_cons]at hl;simp only[closure,vX,s7];cases hc:seen.contains c with
  |true=>
   simp only[if_true];exact vf hp n cs seen h.2 (by omega)
  |false=>
   obtain⟨x,hb,hpb⟩:=hp c h.1;obtain⟨q1,q2⟩:=vf hp n cs (c::seen) h.2 (by omega)
   grind [vW,Rd.run,Rd.reads]
theorem zB{ids:List Nat}:∀(l seen:List Nat),Am ids l=true→(∀i∈seen,ids.contains i=true)→∀i∈vX l seen,ids.contains i=true
 | [],_,_,hs,i,hi=>hs i hi
 |c::cs,seen,h,hs,i,hi=>by
  simp only[Am,Bool.and_eq_true]at h;simp only[vX]at hi;cases hc:seen.contains c with
  |true=>rw[hc]at hi;exact zB cs seen h.2 hs i hi
  |false=>
   rw[hc]at hi;refine zB cs (c::seen) h.2 (fun j hj=>?_) i hi
   grind
theorem kr{α β:Type}{H:List aa}:∀{m:Rd α} {f:α→β} {x:α},m.run H=some x→(m.bind fun y=>.done (f y)).run H=some (f x)∧(m.bind fun y=>.done (f y)).reads H=m.reads H
 | .done a,f,x,h=>by grind [Rd.run,Rd.bind,Rd.reads]
 | .get b k,f,x,h=>by
  simp only[Rd.run]at h;split at h
  ·rename_i y hy;have:=kr (f:=f) h;simp[Rd.bind,Rd.run,Rd.reads,hy,this]
  ·cases h
theorem E9{ids:List Nat}{af:Operand→AVal}{op:Op}{nid:Nat}{H:List aa}{f:FuncId}{args:List AVal}{js rs:List Nat}(h:o7 P cfg ids af op=some (f,args,js,rs))
 (hp:∀i,ids.contains i=true→∃x,H[i]? =some x∧rU x=true):
 (bO P cfg nid af op).run H=some (.jy f args js)∧(bO P cfg nid af op).reads H=rs∧∀i∈js,ids.contains i=true:=by
 unfold o7 at h;split at h
 ·rename_i g _ _ _;split at h
  ·rename_i n p q hg;split at h
   ·rename_i fn hfn;split at h
    ·rename_i hc;simp only[Bool.or_eq_false_iff]at hc;dsimp only at h;split at h
     ·rename_i ho;simp only[Option.some.injEq,Prod.mk.injEq]at h;simp only[Bool.and_eq_true]at ho;have ho2:=Nat.le_of_ble_eq_true ho.2;obtain⟨rfl,rfl,rfl,rfl⟩:=h;obtain⟨q1,q2⟩:=vf hp 1000 _ [] ho.1 (by omega)
      simp only[bO,hg,hfn,hc.1.1,Bool.false_eq_true,if_false,nY,hc.1.2,hc.2];exact⟨(kr q1).1,(kr q1).2.trans q2,zB _ [] ho.1 (by simp)⟩
     ·cases h
    ·cases h
   ·cases h
  ·cases h
 ·cases h
theorem Jz{H:List aa}{b:Nat}{x:Option (FuncId×List AVal×List Nat×List Nat)}{f:FuncId}{args:List AVal}{y:Option aa}(h:KM H b x=some (f,args,y)):∃args' ids rs,x=some (f,args',ids,rs)∧AVal.u9 b (lR args')=args∧H[b]? =y∧ids.contains b=true:=by
 unfold KM at h;grind
theorem xm:∀{l:List PR} {H:List aa},G1 l H→∀i,(l.map (·.b)).contains i=true→∃x,H[i]? =some x∧rU x=true
 | [],_,_,i,h=>by simp at h
 |p::ps,H,hc,i,h=>by
  simp only[List.map_cons,List.contains_cons,Bool.or_eq_true,beq_iff_eq]at h;rcases h with rfl |h
  ·exact⟨_,hc.1,p.pf⟩
  ·exact xm hc.2 i h
theorem bB.wk{f:FuncId}{args:List AVal}{H H1:List aa}{r:aI}(h:bB P f (lR args) H r H1):bB P f args H r H1:=
 ⟨h.1,fun g w vs hi hl=>h.2 g w vs hi (tY _ _ hl)⟩
theorem nE{pr:List Nat}{H:List aa}(hp:∀i,pr.contains i=true→∃x,H[i]? =some x∧rU x=true):
 ∀(n:Nat) (l seen ids rs:List Nat),o8 pr H n l seen=some (ids,rs)→(closure n l seen).run H=some ids∧(closure n l seen).reads H=rs
 |_,[],seen,ids,rs,h=>by
  grind [o8,closure,Rd.run,Rd.reads]
 | 0,_::_,_,_,_,h=>by simp[o8]at h
 |n+1,b::todo,seen,ids,rs,h=>by
  simp only[o8]at h;simp only[closure];cases hc:seen.contains b with
  |true=>
   rw[hc]at h;simp only[if_true];exact nE hp n todo seen ids rs h
  |false=>
   rw[hc]at h;simp only[Bool.false_eq_true,if_false];cases hpr:pr.contains b with
   |true=>
    rw[hpr]at h;simp only[Option.map_eq_some_iff,Prod.exists,Prod.mk.injEq]at h;obtain⟨ids',rs',h,rfl,rfl⟩:=h;obtain⟨x,hb,hpb⟩:=hp b hpr;obtain⟨q1,q2⟩:=nE hp n todo (b::seen) _ _ h;grind [vW,Rd.run,Rd.reads]
   |false=>
    rw[hpr]at h;simp only at h;split at h
    ·rename_i v sz rows hb;simp only[Option.map_eq_some_iff,Prod.exists,Prod.mk.injEq]at h;obtain⟨ids',rs',h,rfl,rfl⟩:=h;obtain⟨q1,q2⟩:=nE hp n _ (b::seen) _ _ h;grind [Rd.run,Rd.reads]
    ·rename_i hb;simp only[Option.map_eq_some_iff,Prod.exists,Prod.mk.injEq]at h;obtain⟨ids',rs',h,rfl,rfl⟩:=h;obtain⟨q1,q2⟩:=nE hp n _ (b::seen) _ _ h;grind [Rd.run,Rd.reads]
    ·rename_i hb;simp only[Option.map_eq_some_iff,Prod.exists,Prod.mk.injEq]at h;obtain⟨ids',rs',h,rfl,rfl⟩:=h;obtain⟨q1,q2⟩:=nE hp n _ (b::seen) _ _ h;grind [Rd.run,Rd.reads]
    ·rename_i x hx hl hit hb;simp only[Option.map_eq_some_iff,Prod.exists,Prod.mk.injEq]at h;obtain⟨ids',rs',h,rfl,rfl⟩:=h;obtain⟨q1,q2⟩:=nE hp n _ (b::seen) _ _ h;grind [Rd.run,Rd.reads]
    ·cases h
def Fa:FuncId⊕Nat→List AVal→List Nat→Pre
 | .inl f,args,ids=>.jy f args ids
 | .inr b,args,ids=>.round b args ids
theorem G2{cfg:dV}{pr:List Nat}{af:Operand→AVal}{op:Op}{H:List aa}{t:FuncId⊕Nat}{args:List AVal}{ids rs:List Nat}(hp:∀i,pr.contains i=true→∃x,H[i]? =some x∧rU x=true)
 (h:Bn P cfg pr af op H=some (t,args,ids,rs)):(bO P cfg nid af op).run H=some (Fa t args ids)∧(bO P cfg nid af op).reads H=rs:=by
 unfold Bn at h;split at h
 ·rename_i g _ _ _;split at h
  ·rename_i n p q hg;split at h
   ·rename_i fn hfn;split at h
    ·rename_i hc;simp only[Bool.or_eq_false_iff]at hc;split at h
     ·rename_i ids' rs' hcl;simp only[Option.some.injEq,Prod.mk.injEq]at h;obtain⟨rfl,rfl,rfl,rfl⟩:=h;obtain⟨q1,q2⟩:=nE hp _ _ _ _ _ hcl;simp only[bO,hg,hfn,hc.1.1,Bool.false_eq_true,if_false,nY,hc.1.2,hc.2];exact⟨(kr q1).1,(kr q1).2.trans q2⟩
     ·cases h
    ·cases h
   ·cases h
  ·rename_i b hg;split at h
   ·rename_i ids' rs' hcl;simp only[Option.some.injEq,Prod.mk.injEq]at h;obtain⟨rfl,rfl,rfl,rfl⟩:=h;obtain⟨q1,q2⟩:=nE hp _ _ _ _ _ hcl;simp only[bO,hg];exact⟨(kr q1).1,(kr q1).2.trans q2⟩
   ·cases h
  ·cases h
 ·cases h
theorem s8{ids:List Nat}{H H1:List aa}{a:aI}{k:cD→List Nat→Bool→Prop}{kp:AVal→Prop}(h:zx ids H a H1 k kp):
 (∃e,dN H ids (some (a,H1))=some (.ok e)∧k e (e.de.map (·.1)) (!e.news.isEmpty))∨(∃v,dN H ids (some (a,H1))=some (.aO v ids)∧kp v):=by
 unfold zx at h;split at h
 ·rename_i v;split at h
  ·rename_i hl;have hl:=Nat.eq_of_beq_eq_true hl;refine .inl ⟨{val:=v,de:=ids.map fun i=>(i,H1.getD i .dead)},?_,?_⟩
   ·grind [dN]
   ·simpa[List.map_map,Function.comp_def]using h
  grind [jU]
 grind [dN]
theorem jI(hNe:mW P X.N){n:Nat}{ρ:Type}{r:ρ}{g:G P ρ}{draw:Bool}{H0:List aa}{k:G P ρ→dg→fc→Prop}(h:oF P X draw H0 ops n0 o nid g s k)(hr:g.run n=some r):
 ∃orc,fe P orc∧∃res f g',dO P X.cfg orc ops n0 o nid s=some (res,f)∧k g' res f∧g'.run n=some r:=by
 unfold oF at h;split at h
 ·rename_i m g';split at h
  ·rename_i res f hs;exact⟨s6,pe,res,f,_,hs,h,by rw[G.E7];simpa[G.run]using hr⟩
  ·exact nomatch h
 ·rename_i X t kk;obtain⟨hw,hc,hk⟩:=h;simp only[G.run]at hr;cases hx:t.run with
  |none=>rw[hx]at hr;cases hr
  |some x=>
   rw[hx]at hr;obtain⟨h1,h2⟩:=t.sound _ _ _ _ _ _ _ hc x hx;have hk:=hk x;simp only[jU,fD,dw]at hk;refine⟨s6,pe,_,_,kk x,?_,hk,by simpa using hr⟩
   grind [dO,finish,jU,fD,dw]
 ·rename_i c x kk;obtain⟨hw,hc,hk⟩:=h;simp only[G.run]at hr;cases hx:c.S n x with
  |none=>rw[hx]at hr;cases hr
  |some q=>
   rw[hx]at hr;have hk:=(c.sh.bL _).1 hk q;obtain⟨args',own,hp,he⟩:=Ge hc;split at hk
   ·rename_i res f hs;refine⟨xl c.f args' (c.out q),H6 (kK.wk (by rw[he];exact c.ok n x q hx)),res,f,kk q,?_,hk,by simpa using hr⟩
    rw[← hs];refine zA fun _ pre hpre=>?_
    rw[hp]at hpre;simp only[Option.some.injEq]at hpre;subst hpre;simp[finish,eu,xl,HX]
   ·exact nomatch hk
 ·rename_i c x kk;obtain⟨hw,hc,hk⟩:=h;simp only[G.run]at hr;cases hx:c.S n x with
  |none=>rw[hx]at hr;cases hr
  |some q=>
   rw[hx]at hr;have hk:=(c.sh.bL _).1 hk q;obtain⟨args',ids,hp,he,hm⟩:=H7 hc;split at hk
   ·rename_i res f hs;refine⟨nR c.f args' (c.heap x) (c.out q) (c.eV x q),vY (bB.wk (by rw[he];exact c.ok n x q hx)),res,f,kk q,?_,hk,by simpa using hr⟩
    rw[← hs];refine zA fun _ pre hpre=>?_
    rw[hp]at hpre;simp only[Option.some.injEq]at hpre;subst hpre;simp[finish,eu,cn,nR,HX,hm]
   ·exact nomatch hk
 ·rename_i c b v ex x kk;obtain⟨hw,hex,hc,hk⟩:=h;simp only[G.run]at hr;cases hx:c.S n x with
  |none=>rw[hx]at hr;cases hr
  |some q=>
   rw[hx]at hr;have hk:=(c.sh.bL _).1 hk q;obtain⟨args',ids,rs,hp,he,hb,hbi⟩:=Jz hc;obtain⟨bsz,brows,hbx,hbp⟩:=ve (c.b0 x);have hpure:∀i,(b::ex.map (·.b)).contains i=true→∃x,s.H[i]? =some x∧rU x=true:=by
    intro i hi;simp only[List.contains_cons,Bool.or_eq_true,beq_iff_eq]at hi;rcases hi with rfl |hi
    ·exact⟨.row v bsz brows,by rw[hb,hbx];rfl,hbp⟩
    ·exact xm hex i hi
   have hcall:=hp;obtain⟨hp,hrd,hsub⟩:=E9 (nid:=nid) (H:=s.H) hp hpure;have hlt:∀i∈ids,i<s.H.length:=fun i hi=>by
    grind
   have hblt:b<s.H.length:=(List.getElem?_eq_some_iff.1 hb).1
   let H':=mask ids s.H
   have hl':H'.length=s.H.length:=oa _ _;have hmb:(mask [b] H')[b]? =some ((c.blk x).kG v):=by rw[xe (by simp),xe hbi];exact hb
   have hmd:∀b',b'≠b→∀y,(mask [b] H')[b']? =some y→y=.dead:=by
    intro b' hne y hy;rcases oD hy with⟨h1,_⟩ |⟨_,h2,_⟩
    ·grind
    ·exact h2
   have href:=bB.frame (bB.Nq (c.ok n x q hx) (c.a0 x) (c.b0 x) (c.b1 x q) (c.r0 q) b v (mask [b] H') hmb hmd) (by omega)
   have horc:=vY (P:=P) (bB.wk (args:=args') (bB.but (b:=b) (by rw[he];exact href)))
   refine⟨_,horc,?_⟩;have hlen:(H'.set b ((c.qM x q).kG v)).length=s.H.length:=by rw[List.length_set,oa]
   have hdrop:(H'.set b ((c.qM x q).kG v)).drop s.H.length=[]:=List.drop_of_length_le (by rw[hlen];exact Nat.le_refl _)
   have hid:Ao (o7 P X.cfg (b::ex.map (·.b)) (bU s.A) o.op)=(ids,rs):=by rw[hcall];rfl
   cases ho:c.out q with
   |ret u=>
    rw[ho]at hk;simp only[fD,dw,hid]at hk;refine⟨_,_,kk q,?_,hk,by simpa using hr⟩
    have happ:∀val news,news=[]→cD.apply {val:=val,de:=ids.map fun i=>(i,(H'.set b ((c.qM x q).kG v)).getD i .dead),news:=news} s.H=cD.apply {val:=u.vV b v,de:=[(b,(c.qM x q).kG v)]} s.H:=by
     intro val news hn;subst hn;simp only[cD.apply,List.append_nil,List.foldl_cons,List.foldl_nil,List.foldl_map];apply List.ext_getElem?;intro j;rw[sY,List.getElem?_set];by_cases hj:b=j
     ·grind
     ·grind [xe]
    unfold dO;rw[hw];simp only[hp,hrd,finish,eu,cn,nR,and_self,if_true,aI.vV,dN,hlen,Nat.le_refl,hdrop,ite_self,jU,fD,dw,List.isEmpty_nil,Bool.not_true,H'];simp only[fS,tT];rw[happ _ _ rfl];simp_all
   |aO u=>
    rw[ho]at hk;have hfl:u.flat=true:=by have:=c.r0 q;rw[ho]at this;exact this
    simp only[hid]at hk;refine⟨_,_,kk q,?_,hk,by simpa using hr⟩
    unfold dO;rw[hw];simp only[hp,hrd,finish,eu,cn,nR,and_self,if_true,aI.vV,dN,hfl,H'];simp only[fS,tT]
 ·rename_i pr g';obtain⟨hw,hpr,hc⟩:=h;simp only[G.run]at hr;have hpure:=xm hpr;split at hc
  ·rename_i f args ids rs hx;obtain⟨hp,hrd⟩:=G2 (nid:=nid) hpure hx;simp only[Fa]at hp;simp only[cn]at hc;obtain⟨g2,a,H1,hk,hr2,hfn⟩:=hNe.fn hc hr;refine⟨_,vY hfn,?_⟩;rcases s8 hk with⟨e,hm,hk⟩ |⟨v,hm,hk⟩
   ·simp only[fD,dw]at hk;refine⟨_,_,g2,?_,hk,hr2⟩;unfold dO;rw[hw];simp only[hp,hrd,finish,eu,cn,nR,and_self,if_true,hm,jU,fD,dw];simp only[fS,tT]
   ·refine⟨_,_,g2,?_,hk,hr2⟩;unfold dO;rw[hw];simp only[hp,hrd,finish,eu,cn,nR,and_self,if_true,hm];simp only[fS,tT]
  ·rename_i b args ids rs hx;obtain⟨hp,hrd⟩:=G2 (nid:=nid) hpure hx;simp only[Fa]at hp;simp only[cn]at hc;obtain⟨g2,a,H1,hk,hr2,hfn⟩:=hNe.yK hc hr;refine⟨_,Jy hfn,?_⟩;rcases s8 hk with⟨e,hm,hk⟩ |⟨v,hm,hk⟩
   ·simp only[fD,dw]at hk;refine⟨_,_,g2,?_,hk,hr2⟩;unfold dO;rw[hw];simp only[hp,hrd,finish,eu,cn,zz,and_self,if_true,hm,jU,fD,dw];simp only[fS,tT]
   ·refine⟨_,_,g2,?_,hk,hr2⟩;unfold dO;rw[hw];simp only[hp,hrd,finish,eu,cn,zz,and_self,if_true,hm];simp only[fS,tT]
  ·exact nomatch hc
 ·simp[G.run]at hr
 ·simp[G.run]at hr
 ·simp[G.run]at hr
 ·exact nomatch h
 ·exact nomatch h
theorem vg{orc orc':Nat→iL}:∀(l:List (Oper×Nat)) (i:Nat) (s:St),(∀j,i≤j→orc j=orc' j)→jF P X.cfg orc ops n0 i l s=jF P X.cfg orc' ops n0 i l s
 | [],_,_,_=>rfl
 | (o,nid)::rest,i,s,h=>by
  simp only[jF,h i (Nat.le_refl _)];split
  ·rw[vg rest (i+1) _ fun j hj=>h j (by omega)]
  ·rfl
  ·rfl
theorem Gf(hNe:mW P X.N){n:Nat}{ρ:Type}{r:ρ}{g:G P ρ}{H0:List aa}{k:G P ρ→dg→fc→Prop}(h:uF P X true H0 ops n0 o nid g s k)(hr:g.run n=some r):
 ∃orc,fe P orc∧∃res f g',dO P X.cfg orc ops n0 o nid s=some (res,f)∧k g' res f∧g'.run n=some r:=by
 unfold uF at h;grind [jI]
theorem B8(hNe:mW P X.N){n:Nat}{ρ:Type}{r:ρ}{H0:List aa}:∀(l:List (Oper×Nat)) (i:Nat) (g:G P ρ) (s:St) (k:G P ρ→dg→List fc→Prop),wG P X true H0 ops n0 l g s k→g.run n=some r→
 ∃orcs:Nat→iL,(∀j,fe P (orcs j))∧∃res fs g',jF P X.cfg orcs ops n0 i l s=some (res,fs)∧k g' res fs∧g'.run n=some r
 | [],i,g,s,k,h,hr=>⟨fun _=>s6,fun _=>pe,.ok s,[],g,rfl,h,hr⟩
 | (o,nid)::rest,i,g,s,k,h,hr=>by
  simp only[wG]at h;obtain⟨g1,h,hr⟩:=kL h hr;obtain⟨orc,ho,res,f,g2,hs,h,hr⟩:=Gf hNe h hr;cases res with
  |ok s'=>
   obtain⟨A,H,D⟩:=s';simp only[cM]at h;obtain⟨orcs,hos,res,fs,g3,hrun,hk,hr⟩:=B8 hNe rest (i+1) g2 _ _ h hr;refine⟨fun j=>if j=i then orc else orcs j,fun j=>(by grind:fe P (if j=i then orc else orcs j)),res,f::fs,g3,?_,hk,hr⟩
   grind [jF,vg]
  |aO v s'=>
   exact⟨fun _=>orc,fun _=>ho,.aO v s',[f],g2,by simp only[jF,hs],h,hr⟩
theorem Ea(hNe:mW P X.N){n:Nat}{ρ:Type}{r:ρ}{H0:List aa}{g:G P ρ}{s:St}{k:G P ρ→dg→Prop}(h:o9 P X H0 ops true g s k)(hr:g.run n=some r):
 ∃orcs:Nat→iL,(∀j,fe P (orcs j))∧∃res g',q7 P X.cfg orcs ops true s=some res∧k g' res∧g'.run n=some r:=by
 simp only[o9,fC,oA]at h;obtain⟨orcs,ho,res,fs,g',hrun,hk,hr⟩:=B8 hNe _ 0 _ _ _ h hr;refine⟨orcs,ho,?_⟩;simp only[q7,fC,oA,hrun];grind
theorem DA(keep:List Nat):∀(A:List AVal) (i j:Nat),(tK keep i A)[j]? =(A[j]?).map fun a=>match keep.contains (i+j)with |true=>a |false=>.ay
 | [],_,_=>by simp[tK]
 |a::as,i,0=>rfl
 |a::as,i,j+1=>by
  simp only[tK,List.getElem?_cons_succ];rw[DA keep as (i+1) j,show i+1+j=i+(j+1)by omega]
theorem Ma{g:Gh}{w:World}{keep:List Nat}{A:List AVal}{vs:List Value}(h:RL g w A vs):RL g w (tK keep 0 A) vs:=by
 obtain⟨h1,h2⟩:=cE _ _ h;have hlen:(tK keep 0 A).length=A.length:=by
  have:∀(A:List AVal) (i:Nat),(tK keep i A).length=A.length:=by
   intro A;induction A with
   |nil=>intro i;rfl
   |cons a as ih=>intro i;simp[tK,ih]
  exact this A 0
 grind [rE,DA,R]
theorem Fb:∀{l:List PU} {H:List aa},G0 l H→zw (l.map (·.b)) H
 | [],_,_=>fun _ h=>by simp at h
 |p::ps,H,h=>by
  intro b hb x hx;simp only[List.map_cons,List.mem_cons]at hb;rcases hb with rfl |hb
  ·rw[h.1]at hx;cases hx;exact p.pf
  ·exact Fb h.2 b hb x hx
theorem G3:∀(l:List AVal),(lR l).length=l.length
 | []=>rfl
 |_::l=>by simp[lR,G3 l]
theorem JA{g:Gh}{w:World}:∀(l:List (List AVal)) (k o sz:Nat),RR g w l k o sz→RR g w (l.map lR) k o sz
 | [],_,_,_,_=>by simp[RR]
 |r::rs,k,o,sz,h=>by
  simp only[RR,List.map_cons]at h ⊢;exact⟨⟨by rw[G3];exact h.1.1,qK _ h.1.2.1,E6 _ _ _ h.1.2.2⟩,JA rs k (o+sz) sz h.2⟩
theorem KQ{g:Gh}{w:World}{rows:List (List AVal)}{x:Value}(h:R g w (.au rows) x):R g w (.au (rows.map lR)) x:=by
 simp only[R,List.length_map]at h ⊢;obtain⟨a,cap,e,h1,h2⟩:=h;refine⟨a,cap,e,h1,?_⟩;rcases h2 with h2 |⟨k,off,sz,ha,hr⟩
 ·exact .inl h2
 ·exact .inr ⟨k,off,sz,ha,JA _ _ _ _ hr⟩
theorem cu{H0:List aa}:∀{ts:List TS} {s:St} {k:St→Prop},aK ts=true→iy H0 ts s k→∃s',fZ H0 s s'∧k s'
 | [],s,k,_,h=>⟨s,.refl _ _,h⟩
 | .keep l::ts,s,k,hok,h=>by
  simp only[iy,cM]at h;obtain⟨s',h1,h2⟩:=cu (by simpa only[aK]using hok) h
  exact⟨s',fZ.trans (s1:={s with A:=tK l 0 s.A}) (fun _ _ g a w _ hl hs=>⟨g,⟨hs.inv,Ma hs.tmps,hs.defs⟩,hl⟩) h1,h2⟩
 | .wk p::ts,s,k,hok,h=>by
  simp only[iy]at h;split at h
  ·rename_i s1 hw;obtain⟨s',h1,h2⟩:=cu (by simpa only[aK]using hok) h
   exact⟨s',(KJ hw).trans h1,h2⟩
  ·exact h.elim
 | .own p sz::ts,s,k,hok,h=>by
  simp only[iy]at h;split at h
  ·rename_i s1 hw;obtain⟨s',h1,h2⟩:=cu (by simpa only[aK]using hok) h
   exact⟨s',(Jv hw).trans h1,h2⟩
  ·exact h.elim
 | .eX z::ts,s,k,hok,h=>by
  simp only[iy]at h;simp only[aK,Bool.and_eq_true,decide_eq_true_eq]at hok;obtain⟨q1,q2,h⟩:=h;split at h
  ·rename_i s1 hw;obtain⟨s',h1,h2⟩:=cu hok.2 h;exact⟨s',(Jw ⟨z.b,z.ai,z.sz,by rw[q1,hok.1],q2,z.pf⟩ hw).trans h1,h2⟩
  ·exact h.elim
 | .LH z::ts,s,k,hok,h=>by
  simp only[iy]at h;obtain⟨q1,h⟩:=h;obtain⟨s',h1,h2⟩:=cu (by simpa only[aK]using hok) h
  refine⟨s',fZ.trans (s1:=yc s (.au z.rows') z.p) (fun _ _ g a w _ hl hs=>?_) h1,h2⟩
  obtain⟨p1,p2⟩:=uE q1 hs (v':=.au z.rows') fun x hx=>by rw[← z.pf];exact KQ hx
  exact⟨g,p1,hl.trans p2⟩
 | .cut bl bump pu::ts,s,k,hok,h=>by
  simp only[iy,cM]at h;obtain⟨q1,h⟩:=h;split at h
  ·rename_i A H D hw;obtain⟨s',h1,h2⟩:=cu (by simpa only[aK]using hok) h
   exact⟨s',(KH (Fb q1) hw).trans h1,h2⟩
  ·exact h.elim
theorem Gg(hNe:mW P X.N){n:Nat}{ρ:Type}{r:ρ}{g:G P ρ}{H0:List aa}{k:G P ρ→dg→fc→Prop}(h:uF P X false H0 ops n0 o nid g s k)(hr:g.run n=some r):
 ∃s2,fZ H0 s s2∧∃orc,fe P orc∧∃res f g',dO P X.cfg orc ops n0 o nid s2=some (res,f)∧k g' res f∧g'.run n=some r:=by
 unfold uF at h;split at h
 ·grind [G.run,cu,jI]
 ·exact⟨s,.refl _ _,jI hNe h hr⟩
theorem B9(hNe:mW P X.N){n:Nat}{ρ:Type}{r:ρ}{H0:List aa}:∀(l:List (Oper×Nat)) (i:Nat) (g:G P ρ) (s:St) (k:G P ρ→dg→List fc→Prop),wG P X false H0 ops n0 l g s k→g.run n=some r→
 (∀(j:Nat),(l[j]?).map (fun(p:Oper×Nat)=>p.1)=(ops.toList.drop i)[j]?)→∃g' res fs,k g' res fs∧g'.run n=some r∧
 ∀(fro:Option Nat),(∀(k:Nat) (o:Oper),ops[k]? =some o→Calm fro o)→∀(gg:Gh) (ww:World) (Q:Exit→Act→World→Prop),Inv gg H0 ww→∀(g1:Gh) (a:Act) (w:World),dm g1 s a w→aL gg H0 ww g1 s.H w→oc Q gg H0 ww res→wpOpsIn (Fr fro) 0 P ops Q (List.range' i l.length) a w
 | [],i,g,s,k,h,hr,_=>⟨g,.ok s,[],h,hr,fun _ _ _ _ _ _ g1 a w hs hl hp=>hp g1 a w hs hl⟩
 | (o,nid)::rest,i,g,s,k,h,hr,hj=>by
  have hi:ops[i]? =some o:=by
   have:=hj 0;simp at this;exact this.symm
  simp only[wG]at h;obtain⟨g',h,hr⟩:=kL h hr;obtain⟨s2,hw2,orc,ho,res,f,g3,hst,h,hr⟩:=Gg hNe h hr;cases res with
  |ok s'=>
   obtain⟨A,H,D⟩:=s';simp only[cM]at h;obtain⟨g4,res4,fs4,hk4,hr4,hwp⟩:=B9 hNe rest (i+1) g3 ⟨A,H,D⟩ _ h hr (fun j=>by
    have:=hj (j+1);grind)
   refine⟨g4,res4,_,hk4,hr4,fun fro hcalm gg ww Q hi0 g1 a w hs hl hp=>?_⟩
   simp only[List.length_cons,List.range'_succ,wpOpsIn_cons];obtain⟨g2,hs2,hl2⟩:=hw2 gg ww g1 a w hi0 hl hs;exact nD ho hs2 hi (hcalm i o hi) hst fun g5 a' w' hs' hla=>hwp fro hcalm gg ww Q hi0 g5 a' w' hs' (hl2.trans hla) hp
  |aO v s'=>
   refine⟨g3,.aO v s',_,h,hr,fun fro hcalm gg ww Q hi0 g1 a w hs hl hp=>?_⟩
   simp only[List.length_cons,List.range'_succ,wpOpsIn_cons];obtain⟨g2,hs2,hl2⟩:=hw2 gg ww g1 a w hi0 hl hs;exact nD ho hs2 hi (hcalm i o hi) hst fun g' w' x hv hs' hla hx=>hp g' a w' x hv hs' (hl2.trans hla) hx
theorem Eb(hNe:mW P X.N){H0:List aa}{n:Nat}{ρ:Type}{r:ρ}{id:Nat}{g:G P ρ}{s:St}{k:G P ρ→dg→Prop}(h:o9 P X H0 ops false g s k)(hr:g.run n=some r):
 ∃g' res,k g' res∧g'.run n=some r∧∀(fro:Option Nat),(∀(k:Nat) (o:Oper),ops[k]? =some o→Calm fro o)→∀(gg:Gh) (ww:World),Inv gg H0 ww→dG P fro gg H0 ww (.region id ops false) s fun o s'=>o=(Al res).1∧s'=(Al res).2:=by
 simp only[o9,fC,oA]at h;generalize (if kU ops.toList=0 then 0 else ny s.H)=t0 at h
 generalize kU ops.toList - t0=m0 at h;generalize s.H.length - t0=f0 at h;obtain⟨g',res,fs,hk,hr',hwp⟩:=B9 hNe _ 0 _ _ _ h hr (fun j=>by rw[oE];simp)
 simp only[Bool.not_false,if_true]at hk;refine⟨g',res,hk,hr',fun fro hcalm gg ww hi0 Q g1 a w hs hl hp=>?_⟩
 obtain⟨i1,i2⟩:=hs.inv.reserve m0;have hs0:dm g1 {s with H:=s.H++List.replicate m0 .aU} a w:=⟨i1,hs.tmps,hs.defs⟩;refine wpIn_region ?_;rw[List.range_eq_range'];have:=hwp fro hcalm gg ww Q hi0 g1 a w hs0 (hl.trans i2) (by
  have:=hp _ _ ⟨rfl,rfl⟩;cases res with
  |ok s'=>exact this
  |aO v s'=>exact this)
 grind [rP]
theorem ye{H0:List aa}{n:Nat}{ρ:Type}{r:ρ}{g:G P ρ}{s:St}{k:G P ρ→St→Prop}(h:Bo H0 g s k)(hr:g.run n=some r):∃s' g',fZ H0 s s'∧k g' s'∧g'.run n=some r:=by
 unfold Bo at h;split at h
 ·grind [G.run,cu]
 ·exact⟨s,g,.refl _ _,h,hr⟩
theorem DB{n:Nat}{σ:Type}{sh:Sh}{H0:List aa}{E:σ→St}{X:sh.El→aS×St}{g:G P (σ⊕sh.El)}{o:aS}{s:St}{q:σ⊕sh.El}(h:mV H0 E X g o s)(hr:g.run n=some q):
 ∃s',fZ H0 s s'∧match q with | .inl a=>o=.normal∧s'=E a | .inr t=>o≠ .normal∧(o,s')=X t:=by
 unfold mV at h;split at h
 ·grind [G.run,cu]
 ·grind [G.run,cu]
 ·simp[G.run]at hr
 ·exact nomatch h
def Fc(P:Program)[az](H0:List aa)(ro:Option Nat)(b:Code):Nat→St→aS→St→Prop
 | 0,_,_,_=>False
 |n+1,s,o,s'=>∃o1 s1,(∀fro g0 w0,Inv g0 H0 w0→mw g0 ro fro→dG P fro g0 H0 w0 b s fun o2 s2=>o2=o1∧s2=s1)∧
  match o1 with
  | .normal=>Fc P H0 ro b n s1 o s'
  |o1=>o1=o∧s1=s'
theorem DC{ro:Option Nat}{H0:List aa}{b:Code}{n:Nat}{ρ:Type}{r:ρ}{k:G P ρ→aS→St→Prop}
 (ih:∀(g:G P ρ) (s:St) (k:G P ρ→aS→St→Prop),iw P X H0 b g s k→g.run n=some r→∃g' o s',k g' o s'∧g'.run n=some r∧∀fro g0 w0,Inv g0 H0 w0→mw g0 ro fro→dG P fro g0 H0 w0 b s fun o1 s1=>o1=o∧s1=s'):
 ∀(m:Nat) (g:G P ρ) (s:St),Ap (fun g s k=>iw P X H0 b g s k) m g s k→g.run n=some r→∃g' o s',k g' o s'∧g'.run n=some r∧o≠ .normal∧Fc P H0 ro b m s o s'
 | 0,_,_,h,_=>h.elim
 |m+1,g,s,h,hr=>by
  simp only[Ap]at h;obtain⟨g1,o1,s1,hk,hr1,hd⟩:=ih g s _ h hr;cases o1 with
  |normal=>
   obtain⟨g',o,s',h1,h2,h3,h4⟩:=DC ih m g1 s1 hk hr1;exact⟨g',o,s',h1,h2,h3,.normal,s1,hd,h4⟩
  |exit id=>exact⟨g1,_,s1,hk,hr1,(fun h=>(by cases h)),_,s1,hd,rfl,rfl⟩
  |ret=>exact⟨g1,_,s1,hk,hr1,(fun h=>(by cases h)),_,s1,hd,rfl,rfl⟩
  |aO v=>exact⟨g1,_,s1,hk,hr1,(fun h=>(by cases h)),_,s1,hd,rfl,rfl⟩
theorem s9{ro fro:Option Nat}{g0:Gh}{ops:Array Oper}(hro:mw g0 ro fro)(h:(ro.isSome&&ops.toList.any xb)=false):∀(k:Nat) (o:Oper),ops[k]? =some o→Calm fro o:=by
 intro k o hk;cases ro with
 |none=>
  cases fro with
  |none=>exact .inl rfl
  |some k=>exact hro.elim
 |some b=>
  right;grind
theorem dG.post{fro:Option Nat}{g0:Gh}{H0:List aa}{w0:World}(hi0:Inv g0 H0 w0){c:Code}{s s1 s2:St}{o:aS}(hw:fZ H0 s1 s2)(h:dG P fro g0 H0 w0 c s fun o1 s'=>o1=o∧s'=s1):
 dG P fro g0 H0 w0 c s fun o1 s'=>o1=o∧s'=s2:=
 fun Q g a w hs hl hk=>h Q g a w hs hl fun o' s' ⟨e1,e2⟩=>by grind [dF.weak]
theorem DD{H0:List aa}{sh:Sh}{Y:sh.El→aS×St}{n:Nat}{g:G P sh.El}{o:aS}{s:St}{t:sh.El}(h:Aq H0 Y g o s)(hr:g.run n=some t):∃s',fZ H0 s s'∧(o,s')=Y t:=by
 unfold Aq at h;split at h
 ·grind [G.run,cu]
 ·simp[G.run]at hr
 ·exact nomatch h
theorem G4{ρ:Type}{n:Nat}{f:FuncId}{args:List AVal}{H:List aa}{c:rT P}{x:c.X}{kk:c.sh.El→G P ρ}{k:G P ρ→aI→List aa→Prop}{r:ρ}(h:HW P f args H c x kk k)(hr:(G.eU c x kk).run n=some r):
 ∃g' a H1,k g' a H1∧g'.run n=some r∧bB P f args H a H1:=by
 obtain⟨_,he,h⟩:=h;simp only[Option.some.injEq,Prod.mk.injEq]at he;obtain⟨rfl,ha,rfl⟩:=he;obtain⟨q,hq,hr⟩:=Option.bind_eq_some_iff.1 (show(c.S n x).bind (fun q=>(kk q).run n)=some r from hr)
 refine⟨kk q,c.out q,c.eV x q,(c.sh.bL _).1 h q,hr,bB.wk ?_⟩;rw[ha];exact c.ok n x q hq
theorem ta:mW P (qE P):=by
 refine⟨fun h hr=>?_,fun h=>h.elim,fun h=>h.elim⟩
 simp only[qE]at h;split at h
 ·exact G4 h hr
 ·exact h.elim
theorem Nr(hNe:mW P X.N)(draw:Bool):mW P (X.at draw).N:=by
 grind [Env.at,ta]
theorem ME(draw:Bool):(X.at draw).cfg=X.cfg:=by unfold Env.at;split<;>rfl
theorem DE(hNe:mW P X.N){H0:List aa}{n:Nat}{σ:Type}{sh:Sh}{b:Code}{E:σ→St}{s:St}{Y:sh.El→aS×St}{q:σ⊕sh.El}{f:G P (σ⊕sh.El)→Prop}
 (ih:∀g,f g→g.run n=some q→∃(g':G P (σ⊕sh.El)) (o:aS) (s':St),mV H0 E Y g' o s'∧g'.run n=some q∧∀fro g0 w0,Inv g0 H0 w0→mw g0 X.ro fro→dG P fro g0 H0 w0 b s fun o1 s1=>o1=o∧s1=s')
 {g:G P (σ⊕sh.El)} (h:As X.N X.ro H0 b E s Y g f) (hr:g.run n=some q):
 ∃(g':G P (σ⊕sh.El)) (o:aS) (s':St),mV H0 E Y g' o s'∧g'.run n=some q∧∀fro g0 w0,Inv g0 H0 w0→mw g0 X.ro fro→dG P fro g0 H0 w0 b s fun o1 s1=>o1=o∧s1=s':=by
 unfold As at h;split at h
 ·exact hNe.lp h (by simpa[G.run]using hr)
 ·exact ih _ h hr
theorem uQ(hm:P.follows .mixedOrders=true)(hNe:mW P X.N){H0:List aa}{n:Nat}:∀(c:Code) {ρ:Type} (r:ρ) (g:G P ρ) (s:St) (k:G P ρ→aS→St→Prop),iw P X H0 c g s k→g.run n=some r→
 ∃g' o s',k g' o s'∧g'.run n=some r∧∀fro g0 w0,Inv g0 H0 w0→mw g0 X.ro fro→dG P fro g0 H0 w0 c s fun o1 s1=>o1=o∧s1=s':=by
 intro c;induction c with
 |skip=>intro ρ r g s k h hr;exact⟨g,.normal,s,h,hr,fun _ _ _ _ _=>.skip ⟨rfl,rfl⟩⟩
 |region id ops draw=>
  intro ρ r g s k h hr;simp only[iw]at h;split at h
  ·exact h.elim
  rename_i hoff;obtain⟨s1,g1,hw,h,hr⟩:=ye h hr;cases draw with
  |false=>
   obtain⟨g',res,hk,hr',hd⟩:=Eb hNe (id:=id) h hr;cases res with
   |ok s'=>exact⟨g',.normal,s',hk,hr',fun fro g0 w0 hi hro=>.weak hi hw (hd fro (s9 hro hoff) g0 w0 hi)⟩
   |aO v s'=>exact⟨g',.aO v,s',hk,hr',fun fro g0 w0 hi hro=>.weak hi hw (hd fro (s9 hro hoff) g0 w0 hi)⟩
  |true=>
   obtain⟨orcs,ho,res,g',hreg,h,hr⟩:=Ea (Nr hNe true) h hr;rw[ME]at hreg;cases res with
   |ok s'=>exact⟨g',.normal,s',h,hr,fun fro g0 w0 hi hro=>.weak hi hw (.region hm ho (s9 hro hoff) hreg ⟨rfl,rfl⟩)⟩
   |aO v s'=>exact⟨g',.aO v,s',h,hr,fun fro g0 w0 hi hro=>.weak hi hw (.region hm ho (s9 hro hoff) hreg ⟨rfl,rfl⟩)⟩
 |seq a b iha ihb=>
  intro ρ r g s k h hr;simp only[iw]at h;obtain⟨g1,o1,s1,h1,hr1,d1⟩:=iha r g s _ h hr;cases o1 with
  |normal=>
   obtain⟨g2,o2,s2,h2,hr2,d2⟩:=ihb r g1 s1 k h1 hr1;refine⟨g2,o2,s2,h2,hr2,fun fro g0 w0 hi hro=>.seq ((d1 fro g0 w0 hi hro).mono fun o s' ⟨e1,e2⟩=>?_)⟩
   grind
  |exit id=>exact⟨g1,_,s1,h1,hr1,fun fro g0 w0 hi hro=>.seq ((d1 fro g0 w0 hi hro).mono fun o s' ⟨e1,e2⟩=>by grind)⟩
  |ret=>exact⟨g1,_,s1,h1,hr1,fun fro g0 w0 hi hro=>.seq ((d1 fro g0 w0 hi hro).mono fun o s' ⟨e1,e2⟩=>by grind)⟩
  |aO v=>exact⟨g1,_,s1,h1,hr1,fun fro g0 w0 hi hro=>.seq ((d1 fro g0 w0 hi hro).mono fun o s' ⟨e1,e2⟩=>by grind)⟩
 |cond c a b iha ihb=>
  have main:∀{ρ:Type} (r:ρ) (g:G P ρ) (s:St) (k:G P ρ→aS→St→Prop),Ar P X H0 c a b (fun g s k=>iw P X H0 a g s k) (fun g s k=>iw P X H0 b g s k) g s k→g.run n=some r→
   ∃g' o s',k g' o s'∧g'.run n=some r∧∀fro g0 w0,Inv g0 H0 w0→mw g0 X.ro fro→dG P fro g0 H0 w0 (.cond c a b) s fun o1 s1=>o1=o∧s1=s':=by
   intro ρ r g s k h hr;unfold Ar at h;obtain⟨s1,g1,hw,h,hr⟩:=ye h hr;obtain⟨g1,h,hr⟩:=kL h hr;split at h
   ·rename_i m g2;have hr2:(G.less m g2).run n=some r:=by rw[G.E7];simpa[G.run]using hr
    split at h
    ·rename_i hc;obtain⟨g',o,s',h1,h2,d⟩:=iha r _ _ k h hr2;exact⟨g',o,s',h1,h2,fun fro g0 w0 hi hro=>.weak hi hw (.cond true hc (d fro g0 w0 hi hro))⟩
    ·rename_i hc;obtain⟨g',o,s',h1,h2,d⟩:=ihb r _ _ k h hr2;exact⟨g',o,s',h1,h2,fun fro g0 w0 hi hro=>.weak hi hw (.cond false hc (d fro g0 w0 hi hro))⟩
    ·exact h.elim
   ·simp[G.run]at hr
   ·exact nomatch h
  intro ρ r g s k h hr;simp only[iw]at h;split at h
  ·rename_i sh Y g1 kk;obtain⟨t,ht,hr⟩:=Option.bind_eq_some_iff.1 (show(g1.run n).bind (fun t=>(kk t).run n)=some r from hr)
   obtain⟨g',o,s',h1,h2,d⟩:=main t g1 s _ h.1 ht;obtain⟨s'',hw,e⟩:=DD h1 h2;have e1:o=(Y t).1:=congrArg Prod.fst e;have e2:s''=(Y t).2:=congrArg Prod.snd e;refine⟨kk t,(Y t).1,(Y t).2,(sh.bL _).1 h.2 t,hr,fun fro g0 w0 hi hro=>?_⟩
   rw[← e1,← e2];exact(d fro g0 w0 hi hro).post hi hw
  ·exact main r g s k h hr
 |block id b ih=>
  have main:∀{ρ:Type} (r:ρ) (g:G P ρ) (s:St) (k:G P ρ→aS→St→Prop),iw P X H0 b g s (xh id k)→g.run n=some r→
   ∃g' o s',k g' o s'∧g'.run n=some r∧∀fro g0 w0,Inv g0 H0 w0→mw g0 X.ro fro→dG P fro g0 H0 w0 (.block id b) s fun o1 s1=>o1=o∧s1=s':=by
   intro ρ r g s k h hr;obtain⟨g1,o1,s1,h1,hr1,d1⟩:=ih r g s _ h hr;refine⟨g1,behind id o1,s1,?_,hr1,fun fro g0 w0 hi hro=>.block ((d1 fro g0 w0 hi hro).mono fun o s' ⟨e1,e2⟩=>by grind)⟩
   unfold xh at h1;cases o1 with
   |exit id'=>
    grind [behind]
   |normal=>exact h1
   |ret=>exact h1
   |aO v=>exact h1
  intro ρ r g s k h hr;simp only[iw]at h;split at h
  ·rename_i sh Y g1 kk;obtain⟨t,ht,hr⟩:=Option.bind_eq_some_iff.1 (show(g1.run n).bind (fun t=>(kk t).run n)=some r from hr)
   obtain⟨g',o,s',h1,h2,d⟩:=main t g1 s _ h.1 ht;obtain⟨s'',hw,e⟩:=DD h1 h2;have e1:o=(Y t).1:=congrArg Prod.fst e;have e2:s''=(Y t).2:=congrArg Prod.snd e;refine⟨kk t,(Y t).1,(Y t).2,(sh.bL _).1 h.2 t,hr,fun fro g0 w0 hi hro=>?_⟩
   rw[← e1,← e2];exact(d fro g0 w0 hi hro).post hi hw
  ·exact main r g s k h hr
 |loop b ih=>
  intro ρ r g s k h hr;simp only[iw]at h;split at h
  ·rename_i m g1;simp only[G.run]at hr;obtain⟨g',o,s',h1,h2,hne,hrd⟩:=DC (ro:=X.ro) (fun g s k h hr=>ih r g s k h hr) m g1 s h hr
   refine⟨g',o,s',h1,h2,fun fro g0 w0 hi hro=>.loop hi (n:=m) (s0:=s) (fun m s=>Fc P H0 X.ro b m s o s') (fun s h=>h.elim) (.refl _ _) hrd ?_⟩
   rintro m s1 ⟨o1,s2,hd,hx⟩;refine(hd fro g0 w0 hi hro).mono fun o3 s3 ⟨e1,e2⟩=>?_
   subst e1;subst e2;refine⟨s3,.refl _ _,?_⟩;grind
  ·rename_i σ sh hd E Y a0 body kk;obtain⟨h0,hb,hx⟩:=h;simp only[G.run,Option.ite_none_right_eq_some]at hr;obtain⟨hok,hr⟩:=hr;cases ht:bM (fun a=>(body a).run n) n a0 with
   |none=>rw[ht]at hr;cases hr
   |some t=>
    rw[ht]at hr;have hx:=(sh.bL _).1 hx t;obtain⟨_,h0,rfl⟩:=cu hok h0;refine⟨kk t,(Y t).1,(Y t).2,hx,by simpa using hr,fun fro g0 w0 hi hro=>.loop hi (n:=n) (s0:=E a0) (fun m s1=>∃a,s1=E a∧bM (fun a=>(body a).run n) m a=some t) (fun s ⟨a,_,h⟩=>by simp[bM]at h) h0 ⟨a0,rfl,ht⟩ ?_⟩
    rintro m s1 ⟨a,rfl,hit⟩;simp only[bM]at hit;cases hq:(body a).run n with
    |none=>rw[hq]at hit;cases hit
    |some q=>
     rw[hq]at hit;obtain⟨g',o',s',h',hr',d'⟩:=DE hNe (fun g h hr=>ih q g (E a) _ h hr) (hb a) hq
     refine(d' fro g0 w0 hi hro).mono fun o2 s2 ⟨e1,e2⟩=>?_
     grind [DB]
  ·rename_i hsh sh hd E Y a0 body kk;obtain⟨h0,hb,hx⟩:=h;have hb:=(hsh.bL _).1 hb;simp only[G.run,Option.ite_none_right_eq_some]at hr;obtain⟨hok,hr⟩:=hr;cases ht:bM (fun a=>(body a).run n) n a0 with
   |none=>rw[ht]at hr;cases hr
   |some t=>
    rw[ht]at hr;have hx:=(sh.bL _).1 hx t;obtain⟨_,h0,rfl⟩:=cu hok h0;refine⟨kk t,(Y t).1,(Y t).2,hx,by simpa using hr,fun fro g0 w0 hi hro=>.loop hi (n:=n) (s0:=E a0) (fun m s1=>∃a,s1=E a∧bM (fun a=>(body a).run n) m a=some t) (fun s ⟨a,_,h⟩=>by simp[bM]at h) h0 ⟨a0,rfl,ht⟩ ?_⟩
    rintro m s1 ⟨a,rfl,hit⟩;simp only[bM]at hit;cases hq:(body a).run n with
    |none=>rw[hq]at hit;cases hit
    |some q=>
     rw[hq]at hit;obtain⟨g',o',s',h',hr',d'⟩:=DE hNe (fun g h hr=>ih q g (E a) _ h hr) (hb a) hq
     refine(d' fro g0 w0 hi hro).mono fun o2 s2 ⟨e1,e2⟩=>?_
     grind [DB]
  ·simp[G.run]at hr
  ·exact nomatch h
 |exit id=>intro ρ r g s k h hr;exact⟨g,_,s,h,hr,fun _ _ _ _ _=>.exit ⟨rfl,rfl⟩⟩
 |ret=>intro ρ r g s k h hr;exact⟨g,_,s,h,hr,fun _ _ _ _ _=>.ret ⟨rfl,rfl⟩⟩
 |rangeFunc x ps as bd=>
  intro ρ r g s k h hr;simp only[iw]at h;obtain⟨s1,g1,hw,h,hr⟩:=ye h hr;split at h
  ·rename_i pr g2;obtain⟨_,h⟩:=h;simp only[G.run]at hr;split at h
   ·rename_i f p q hf;split at h
    ·rename_i l H1 D1 hen;rw[cM]at h;obtain⟨hpr,h⟩:=h;split at h
     ·rename_i ids rs hcl;simp only[cn]at h;obtain⟨hq,_⟩:=nE (xm hpr) _ _ _ _ _ hcl;obtain⟨g3,a,H2,hk,hr3,hfn⟩:=hNe.fn h hr;have ho:=vY hfn;have hran:∀out s',w9 (nR f (p++[.gL l]++q) (mask ids H1) a H2) X.ro 0 (bU s1.A x) ps as bd s1=some (out,s')→∀fro g0 w0,Inv g0 H0 w0→mw g0 X.ro fro→dG P fro g0 H0 w0 (.rangeFunc x ps as bd) s fun o1 s1=>o1=out∧s1=s':=by
       intro out s' hra fro g0 w0 hi hro;refine .weak hi hw fun Q g a w hs hl hp=>?_
       exact AU ho (hro.mono hl.ext) hra hs ((hp out s' ⟨rfl,rfl⟩).later hl)
      rcases s8 hk with⟨e,hm,hk⟩ |⟨v,hm,hk⟩
      ·simp only[dw]at hk;split at hk
       ·rename_i out s' hend;refine⟨g3,out,s',hk,hr3,hran out s' ?_⟩;simp only[w9,hf,hen,cM,hq,finish,eu,cn,nR,and_self,if_true,hm,jU,dw,hend]
       ·exact hk.elim
      ·refine⟨g3,_,_,hk,hr3,hran _ _ ?_⟩;simp only[w9,hf,hen,cM,hq,finish,eu,cn,nR,and_self,if_true,hm]
     ·exact h.elim
    ·exact h.elim
   ·exact h.elim
  ·simp[G.run]at hr
  ·exact nomatch h
 |_=>intro ρ r g s k h hr;exact h.elim
theorem jg{F:Fence}{fn:Func}{tmps:Array Value}{R R':Ending→World→Prop}(hR:∀e w,R e w→R' e w):∀{ds:List Deferred} {m:Nat} {u:FrameMode} {w:World},LeavesInM F m P fn tmps R ds u w→LeavesInM F m P fn tmps R' ds u w
 | [],m,u,w,h=>by
  cases u with
  |run=>exact h
  |returning=>obtain⟨v,h1,h2⟩:=h;exact⟨v,h1,hR _ _ h2⟩
  |panicking chain=>exact hR _ _ h
 |d::ds,m,u,w,h=>by
  obtain⟨hrun,h⟩:=h;refine⟨hrun,?_⟩;rcases h with⟨r,w',htar,htake,hrest⟩ |⟨hn,fv,cap,f,args,htar,hinv,hlead,hcall⟩
  ·exact .inl ⟨r,w',htar,htake,jg hR hrest⟩
  ·refine .inr ⟨hn,fv,cap,f,args,htar,hinv,hlead,hcall.mono fun e u' w' h=>?_⟩
   cases e with
   |returned v=>exact jg hR h
   |panicked chain=>exact jg hR h
   |outgrown=>exact hR _ _ h
theorem DF{L:Nat}{fn:Func}{m:Option AVal}{s:St}{r':aI}{H1:List aa}(h:uG P cfg L fn m s=some (r',H1)):
 ∃m' H' r,leave P cfg s6 L s.D m s.H=some (m',H')∧ending P fn s.A m' H'=some (r,H1)∧(∀v,r=.ret v→r'=.ret (iF v))∧(∀v,r=.aO v→r'=.aO v):=by
 grind [uG]
theorem bB.of(hm : P.follows .mixedOrders = true)(hN : ∀ (f : FuncId) (fn : Func), P.funcs[f]? = some fn → fn.name ≠ "runtime.NumGoroutine"){L : Nat}{f : FuncId}{fn : Func}{c : Code}{args : List AVal}{H0 H1 : List aa}{a : aI}{o : aS}{s s' : St}
 (hf:P.funcs[f]? =some fn) (hb:fn.body=some c) (hd:∀g0 w0,Inv g0 H0 w0→dG P none g0 H0 w0 c ⟨kE fn.ntmps args,H0,[]⟩ fun o1 s1=>o1=o∧s1=s) (hwk:fZ H0 s s') (hlo:oG P cfg L fn o s'=some (a,H1)):bB P f args H0 a H1:=by
 refine⟨⟨fn,c,hf,hb,hN f fn hf⟩,fun gh w vs hi hl=>callsIn_wide.1 (callsIn_of_wp_marks (F:=Fr none) (n:=0) hf hb trivial ?_)⟩
 have hsim:dm gh ⟨kE fn.ntmps args,H0,[]⟩ {tmps:=vs++Array.replicate (fn.ntmps - vs.size) undef,defers:=[]} w:=⟨hi,s5 hl _,rfl⟩;refine hd gh w hi _ gh _ w hsim (aL.refl _ _ _) fun o1 s1 ⟨e1,e2⟩=>?_
 subst e1;subst e2;refine dF.weak hi hwk ?_;have key:∀(m:Option AVal) (u:FrameMode),uG P cfg L fn m s'=some (a,H1)→∀g' a' w',dm g' s' a' w'→aL gh H0 w g' s'.H w'→lP g' w' m u→
  LeavesInM (Fr none) 0 P fn a'.tmps (dx gh H0 w a H1) a'.defers u w':=by
  intro m u hla g' a' w' hs' hlat hmo;obtain⟨m',H',rr,h1,h2,h3,h4⟩:=DF hla;refine jg ?_ (jA hm hN pe s'.D a'.defers m u s'.H g' w' m' H' hs'.defs hs'.inv hs'.tmps hmo h1 h2 hlat);rintro e w2 ⟨g2,hi2,hla2,he2⟩;refine⟨g2,hi2,hla2,?_⟩;cases rr with
  |ret v=>rw[h3 v rfl];obtain⟨x,rfl,hx⟩:=he2;exact⟨x,rfl,B0 _ _ hx⟩
  |aO v=>rw[h4 v rfl];exact he2
 cases o1 with
 |normal=>exact fun g' a' w' hs' hlat=>key none .returning hlo g' a' w' hs' hlat rfl
 |ret=>exact fun g' a' w' hs' hlat=>key none .returning hlo g' a' w' hs' hlat rfl
 |exit id=>simp[oG]at hlo
 |aO v=>exact fun g' a' w' x hv hs' hlat hrx=>key (some v) (.panicking [{v:=x,recovered:=false}]) hlo g' a' w' hs' hlat ⟨hv,x,rfl,hrx⟩
theorem yf{L:Nat}{fn:Func}{m:Option AVal}{s:St}{a:aI}{H1:List aa}(h:uG P cfg L fn m s=some (a,H1)):∀v,a=.aO v→v.flat=true:=by
 grind [uG]
theorem A2{L:Nat}{fn:Func}{o:aS}{s:St}{a:aI}{H1:List aa}(h:oG P cfg L fn o s=some (a,H1)):∀v,a=.aO v→v.flat=true:=by
 cases o with
 |normal=>exact yf h
 |ret=>exact yf h
 |exit id=>simp[oG]at h
 |aO v=>exact yf h
theorem yg{nd : Bool}(hm : P.follows .mixedOrders = true)(hN : ∀ (f : FuncId) (fn : Func), P.funcs[f]? = some fn → fn.name ≠ "runtime.NumGoroutine") : ∀ d, mW P (ja P cfg nd d)
 | 0=>⟨fun h=>h.elim,fun h=>h.elim,fun h=>h.elim⟩
 |d+1=>by
  have ih:=yg (nd:=nd) hm hN d;constructor
  ·intro ρ n f args H g k r h hr;simp only[ja,LJ]at h;split at h
   ·exact G4 h hr
   split at h
   ·rename_i fn hf;split at h
    ·rename_i c hb;obtain⟨g1,o,s1,h,hr,hd⟩:=uQ (X:=⟨cfg,none,ja P cfg nd d,nd⟩) hm ih c r g _ _ h hr;unfold KN at h;split at h
     ·rename_i ts pr g2;simp only[G.run,Option.ite_none_right_eq_some]at hr;obtain⟨s',hw,h⟩:=cu hr.1 h;split at h
      ·rename_i a H1 hla;have hfn:=bB.of hm hN hf hb (fun g0 w0 hi=>hd none g0 w0 hi trivial) hw hla
       obtain⟨_,hpr,h⟩:=h;grind [cM,bB.trim,A2,xm]
      ·exact h.elim
     ·simp[G.run]at hr
     ·exact nomatch h
    ·exact h.elim
   ·exact h.elim
  ·intro ρ n b args H g k r h hr;simp only[ja,KP]at h;split at h
   ·rename_i st pend fid A ps assign body hb;split at h
    ·rename_i hlen;have hlen:=Nat.eq_of_beq_eq_true hlen;obtain⟨g1,o1,s1,h,hr,hd1⟩:=uQ (X:=⟨cfg,some b,ja P cfg nd d,nd⟩) hm ih assign r g _ _ h hr;split at h
     ·split at h
      ·rename_i pend1 fid1 A1 ps1 as1 bd1 hb1;rw[cM]at h;obtain⟨g2,o2,s2,h,hr,hd2⟩:=uQ (X:=⟨cfg,some b,ja P cfg nd d,nd⟩) hm ih body r g1 _ _ h hr;unfold KO at h;split at h
       ·rename_i j hj;split at h
        ·rename_i ts g3;simp only[G.run,Option.ite_none_right_eq_some]at hr;obtain⟨s3,hw,h⟩:=cu hr.1 h;split at h
         ·rename_i H2 hmk;refine⟨g3,_,H2,h,hr.2,fun gh w vs k sz hi hl hk=>?_⟩
          obtain⟨k0,tmps0,dk0,fn0,q1,q2,q3⟩:=hi.good b _ hb;rw[hk]at q1;simp only[Option.some.injEq,Prod.mk.injEq]at q1;obtain⟨rfl,rfl⟩:=q1;have hvs:=(cE _ _ hl).1;refine⟨_,q2,by grind,?_⟩
          rw[u0 _ ps vs rfl];have hsim:dm gh ⟨qf A ps args,H,[]⟩ {tmps:=(ps.zip vs.toList).foldl (fun(tmps:Array Value) (p:Tmp×Value)=>tmps.setIfInBounds p.1 p.2) tmps0,defers:=[]} w:=
           ⟨hi,vU ps args A _ tmps0 q3 hl,rfl⟩
          refine roundIn_of_wpIn trivial ?_;refine hd1 (some k) gh w hi ⟨0,hk⟩ _ gh _ w hsim (aL.refl _ _ _) fun oo ss ⟨e1,e2⟩=>?_
          subst e1;subst e2;intro gg1 a1 w1 hs1 hla1;have hk1:=hla1.ext.af _ _ _ hk;obtain⟨k1,tmps1,dk1,fn1,u1,u2,u3⟩:=hs1.inv.good b _ hb1;rw[hk1]at u1;simp only[Option.some.injEq,Prod.mk.injEq]at u1;obtain⟨rfl,-⟩:=u1;refine⟨_,run_beginRound u2 rfl,?_⟩;obtain⟨i2,l2⟩:=hs1.inv.put (y:=.loop .busy pend1 fid1 A1 ps1 as1 bd1)
           (ob:=.loop {state:=.busy,pending:=pend1,fn:=fn1,tmps:=tmps1,params:=ps1.toArray,assign:=as1,body:=bd1,defers:=dk1}) hb1 rfl hk1 rfl (qh u2)
           fun hext=>⟨_,tmps1,dk1,fn1,hk1,World.putObj_heap_same (Array.getElem?_eq_some_iff.1 u2).1,bq hext _ _ u3⟩
          have hsim2:dm gg1 {ss with H:=ss.H.set b (.loop .busy pend1 fid1 A1 ps1 as1 bd1)} a1 (w1.putObj k (.loop {state:=.busy,pending:=pend1,fn:=fn1,tmps:=tmps1,params:=ps1.toArray,assign:=as1,body:=bd1,defers:=dk1})):=
           ⟨i2,bq l2.ext _ _ hs1.tmps,cV l2.ext _ _ hs1.defs⟩
          refine hd2 (some k) gh w hi ⟨0,hk⟩ _ gg1 a1 _ hsim2 (hla1.trans l2) fun oo2 ss2 ⟨e1,e2⟩=>?_
          subst e1;subst e2;refine dF.weak hi hw ?_;have hend:∀g' a' w',dm g' s3 a' w'→aL gh H w g' s3.H w'→
           ∃v w'',(Instr.endRound k j).run P w'=.ok v w''∧dx gh H w (.ret (.sc (.bool j.isNone))) H2 (.returned v) w'':=by
           intro g' a' w' hs' hla';obtain⟨rr,e1,e2,e3⟩:=u6 hs'.inv (hla'.ext.af _ _ _ hk) hmk;exact⟨_,_,run_endRound j e1,g',e2,hla'.trans e3,_,rfl,by simp[R]⟩
          cases oo2 with
          |normal=>
           simp only[oC,Option.some.injEq]at hj;subst hj;exact fun g' a' w' h1 h2=>hend g' a' w' h1 h2
          |ret=>
           simp only[oC,Option.some.injEq]at hj;subst hj;exact fun g' a' w' h1 h2=>hend g' a' w' h1 h2
          |exit id=>
           simp only[oC,Option.some.injEq]at hj;subst hj;exact fun g' a' w' h1 h2=>hend g' a' w' h1 h2
          |aO v=>cases hj
         ·exact h.elim
        ·simp[G.run]at hr
        ·exact nomatch h
       ·exact h.elim
      ·exact h.elim
     ·exact h.elim
    ·exact h.elim
   ·exact h.elim
  ·intro σ sh n ro H0 b g E s Y q h hr;obtain⟨h⟩:=h;exact uQ (X:=⟨cfg,ro,ja P cfg nd d,nd⟩) hm ih b q g s _ h hr
end
end Go.AM
end
section
namespace Go.AM
section
variable [az] {P:Program} {cfg:dV}
def yh(P:Program)[az](cfg:dV)(L:Nat)(fn:Func)(m:Option AVal)(s:St):Option aI:=
 match leave P cfg s6 L s.D m s.H with
 |some (m',H')=>match ending P fn s.A m' H' with
  |some (.ret v,H1)=>match(snap iK v).run H1 with
   |some v'=>some (.ret (iF v'))
   |none=>none
  |some (.aO v,_)=>match v.flat with
   |true=>some (.aO v)
   |false=>none
  |none=>none
 |none=>none
def Ca(P:Program)[az](cfg:dV)(L:Nat)(fn:Func)(o:aS)(s:St):Option aI:=
 match o with
 | .normal=>yh P cfg L fn none s
 | .ret=>yh P cfg L fn none s
 | .aO v=>yh P cfg L fn (some v) s
 | .exit _=>none
def C0{ρ:Type}(P:Program)[az](cfg:dV)(L:Nat)(fn:Func)(out:ρ→aI)(g:G P ρ)(o:aS)(s:St):Prop:=
 match g with
 | .done ts r=>iy [] ts s fun s=>Ca P cfg L fn o s=some (out r)
 | .fail=>True
 |_=>Nn P fn o s out
def MF{ρ:Type}(P:Program)[az](cfg:dV)(L:Nat)(f:FuncId)(args:List AVal)(out:ρ→aI)(g:G P ρ):Prop:=
 match P.funcs[f]? with
 |some fn=>match fn.body with
  |some c=>iw P (HZ P cfg) [] c g ⟨kE fn.ntmps args,[],[]⟩ fun g o s=>C0 P cfg L fn out g o s
  |none=>False
 |none=>False
def LM{ρ:Type}(out:ρ→aI)(r:ρ):Prop:=some (out r)=some (out r)
theorem KR{n L:Nat}{ρ:Type}{fn:Func}{out:ρ→aI}{g:G P ρ}{o:aS}{s:St}{r:ρ}(h:C0 P cfg L fn out g o s)(hr:g.run n=some r):∃s',fZ [] s s'∧Ca P cfg L fn o s'=some (out r):=by
 unfold C0 at h;split at h
 ·simp only[G.run,Option.ite_none_right_eq_some,Option.some.injEq]at hr;obtain⟨hok,rfl⟩:=hr;exact cu hok h
 ·simp[G.run]at hr
 ·exact nomatch h
theorem Cb{g g':Gh}{w w':World}{H1:List aa}{r r':aI}{e:Ending}(hi:Inv g [] w)(hi':Inv g' H1 w')(hla:aL g [] w g' H1 w')(hl:(∀v,r=.ret v→∃v',(snap iK v).run H1=some v'∧r'=.ret (iF v'))∧(∀v,r=.aO v→v.flat=true∧r'=.aO v))
 (he:LG g' w' r e):dx g [] w r' [] e w':=by
 refine⟨eX g' H1,hi'.eX,⟨⟨fun b ai x hx=>?_,fun k o hk=>.inl (hla.ext.st k o hk),hla.ext.cell,hla.ext.shape⟩,hla.size,hla.keep,fun k _ ho=>absurd ho dK,Nat.le_refl _,hla.os,hla.tape,hla.output,fun k o hk hst=>?_,fun b hb=>by simp at hb,fun b ai k z h=>by cases h⟩,?_⟩
 ·rw[hi.fresh b ai (.inr (by simp))]at hx;cases hx
 ·rcases hst with hst |hst
  ·exact(hla.stk k o hk hst).imp_right fun h=>absurd h.1 dK
  ·exact absurd (hla.own k hk hst) dK
 ·cases r with
  |ret v=>
   obtain⟨v',hs,rfl⟩:=hl.1 v rfl;obtain⟨x,rfl,hr⟩:=he;exact⟨x,rfl,B0 _ _ (nA hi' _ _ _ _ hs hr).1⟩
  |aO v=>
   obtain⟨hf,rfl⟩:=hl.2 v rfl;obtain⟨x,rfl,hr⟩:=he;exact⟨x,rfl,jG _ _ hf hr⟩
theorem DG{L:Nat}{fn:Func}{m:Option AVal}{s:St}{r':aI}(h:yh P cfg L fn m s=some r'):
 ∃m' H' r H1,leave P cfg s6 L s.D m s.H=some (m',H')∧ending P fn s.A m' H'=some (r,H1)∧(∀v,r=.ret v→∃v',(snap iK v).run H1=some v'∧r'=.ret (iF v'))∧(∀v,r=.aO v→v.flat=true∧r'=.aO v):=by
 unfold yh at h;split at h
 ·rename_i m' H' hl;split at h
  ·rename_i v H1 he;split at h
   ·rename_i v' hs;simp only[Option.some.injEq]at h;subst h;refine⟨m',H',_,H1,hl,he,?_,?_⟩
    ·intro u hu;cases hu;exact⟨v',hs,rfl⟩
    ·intro u hu;cases hu
   ·cases h
  ·rename_i v H1 he;split at h
   ·rename_i hf;simp only[Option.some.injEq]at h;subst h;refine⟨m',H',_,H1,hl,he,?_,?_⟩
    ·intro u hu;cases hu
    ·intro u hu;cases hu;exact⟨hf,rfl⟩
   ·cases h
  ·cases h
 ·cases h
theorem JB(hm : P.follows .mixedOrders = true)(hN : ∀ (f : FuncId) (fn : Func), P.funcs[f]? = some fn → fn.name ≠ "runtime.NumGoroutine"){L : Nat}{f : FuncId}{args : List AVal}{ρ : Type}{out : ρ → aI}{g : G P ρ}
 (h:MF P cfg L f args out g) {n:Nat} {r:ρ} (hr:g.run n=some r):kK P f args (out r):=by
 unfold MF at h;split at h
 ·rename_i fn hf;split at h
  ·rename_i c hb;refine⟨⟨fn,c,hf,hb,hN f fn hf⟩,fun gh w vs hi hl=>callsIn_wide.1 (callsIn_of_wp_marks (F:=Fr none) (n:=0) hf hb trivial ?_)⟩
   have hsim:dm gh ⟨kE fn.ntmps args,[],[]⟩ {tmps:=vs++Array.replicate (fn.ntmps - vs.size) undef,defers:=[]} w:=⟨hi,s5 hl _,rfl⟩;obtain⟨g',o,s1,h',hr',hd⟩:=uQ (X:=HZ P cfg) hm (yg hm hN 9) c r g _ _ h hr;obtain⟨s',hwk,hlo⟩:=KR h' hr';refine hd none gh w hi trivial _ gh _ w hsim (aL.refl _ _ _) fun o1 s1 ⟨e1,e2⟩=>?_
   subst e1;subst e2;refine dF.weak hi hwk ?_;have key:∀(m:Option AVal) (u:FrameMode),yh P cfg L fn m s'=some (out r)→∀g' a' w',dm g' s' a' w'→aL gh [] w g' s'.H w'→lP g' w' m u→
    LeavesInM (Fr none) 0 P fn a'.tmps (dx gh [] w (out r) []) a'.defers u w':=by
    intro m u hla g' a' w' hs' hlat hmo;obtain⟨m',H',rr,H1,h1,h2,h3⟩:=DG hla;refine jg ?_ (jA hm hN pe s'.D a'.defers m u s'.H g' w' m' H' hs'.defs hs'.inv hs'.tmps hmo h1 h2 hlat);rintro e w2 ⟨g2,hi2,hla2,he2⟩;exact Cb hi hi2 hla2 h3 he2
   cases o1 with
   |normal=>exact fun g' a' w' hs' hlat=>key none .returning hlo g' a' w' hs' hlat rfl
   |ret=>exact fun g' a' w' hs' hlat=>key none .returning hlo g' a' w' hs' hlat rfl
   |exit id=>simp[Ca]at hlo
   |aO v=>exact fun g' a' w' x hv hs' hlat hrx=>key (some v) (.panicking [{v:=x,recovered:=false}]) hlo g' a' w' hs' hlat ⟨hv,x,rfl,hrx⟩
  ·exact h.elim
 ·exact h.elim
inductive MG (P:Program) [az] {ρ:Type} (fn:Func) (o:aS) (s:St) (H0:List aa) (out:ρ→aI×List aa):Prop
def H8(n:Nat):Option (aI×List aa)→Option (aI×List aa)
 |some (a,H)=>some (a,H.take n)
 |none=>none
def H9{ρ:Type}(P:Program)[az](cfg:dV)(L:Nat)(fn:Func)(H0:List aa)(out:ρ→aI×List aa)(g:G P ρ)(o:aS)(s:St):Prop:=
 match g with
 | .done ts r=>iy H0 ts s fun s=>H8 H0.length (oG P cfg L fn o s)=some (out r)
 | .fail=>True
 |_=>MG P fn o s H0 out
def Ia{ρ:Type}(P:Program)[az](cfg:dV)(L:Nat)(f:FuncId)(args:List AVal)(H0:List aa)(out:ρ→aI×List aa)(g:G P ρ):Prop:=
 match P.funcs[f]? with
 |some fn=>match fn.body with
  |some c=>iw P (HZ P cfg) H0 c g ⟨kE fn.ntmps args,H0,[]⟩ fun g o s=>H9 P cfg L fn H0 out g o s
  |none=>False
 |none=>False
def Eo{ρ:Type}(out:ρ→aI×List aa)(r:ρ):Prop:=some (out r)=some (out r)
theorem JC{n L:Nat}{ρ:Type}{fn:Func}{H0:List aa}{out:ρ→aI×List aa}{g:G P ρ}{o:aS}{s:St}{r:ρ}(h:H9 P cfg L fn H0 out g o s)(hr:g.run n=some r):∃s',fZ H0 s s'∧H8 H0.length (oG P cfg L fn o s')=some (out r):=by
 unfold H9 at h;split at h
 ·simp only[G.run,Option.ite_none_right_eq_some,Option.some.injEq]at hr;obtain⟨hok,rfl⟩:=hr;exact cu hok h
 ·simp[G.run]at hr
 ·exact nomatch h
theorem Cc(hm : P.follows .mixedOrders = true)(hN : ∀ (f : FuncId) (fn : Func), P.funcs[f]? = some fn → fn.name ≠ "runtime.NumGoroutine"){L : Nat}{f : FuncId}{args : List AVal}{H0 : List aa}{ρ : Type}{out : ρ → aI × List aa}{g : G P ρ}
 (h:Ia P cfg L f args H0 out g) {n:Nat} {r:ρ} (hr:g.run n=some r) (h0:0<H0.length) (ha:(out r).1.yM=true) (hrow:∀x∈(out r).2,x.kJ=true∨x=.dead):bB P f args H0 (out r).1 (out r).2:=by
 unfold Ia at h;split at h
 ·rename_i fn hf;split at h
  ·rename_i c hb;obtain⟨g',o,s1,h',hr',hd⟩:=uQ (X:=HZ P cfg) hm (yg hm hN 9) c r g _ _ h hr;obtain⟨s',hwk,hlo⟩:=JC h' hr';cases hl:oG P cfg L fn o s' with
   |none=>rw[hl]at hlo;cases hlo
   |some p=>
    obtain⟨a,H1⟩:=p;rw[hl]at hlo;simp only[H8,Option.some.injEq]at hlo;have:=bB.of hm hN hf hb (fun g0 w0 hi=>hd none g0 w0 hi trivial) hwk hl
    rw[← hlo]at ha hrow ⊢;exact bB.take this h0 ha hrow
  ·exact h.elim
 ·exact h.elim
class Plain (P:Program):Prop where
 mixed:P.follows .mixedOrders=true
 names : ∀ (f : FuncId) (fn : Func), P.funcs[f]? = some fn → fn.name ≠ "runtime.NumGoroutine"
def aF.of[hp:Plain P](cfg:dV)(L:Nat)(f:FuncId)(X:Type)(args:X→List AVal)(sh:Sh)(out:sh.El→aI)(g:X→G P sh.El)(h:∀x,MF P cfg L f (args x) out (g x)=(g x).dP (LM out)):aF P where
 f:=f
 X:=X
 args:=args
 sh:=sh
 out:=out
 S:=fun n x=>(g x).run n
 ok:=fun _ x _ hr=>JB hp.mixed hp.names (by rw[h x];exact G.bE (fun _=>rfl) (g x)) hr
def cU.ofVar[hp:Plain P](cfg:dV)(L:Nat)(f:FuncId)(X:Type)(args:X→List AVal)(τ:Type)(sz:Nat)(enc:τ→List AVal)(b:X→τ)(sh:Sh)(out:sh.El→aI)(bo:sh.El→τ)(g:X→G P sh.El)
 (he:∀a,AVal.aN (enc a)=true) (ha:∀x,AVal.lS (args x)=true) (hr:sh.all fun r=>(out r).yM=true)
 (h:∀x,Ia P cfg L f (args x) [.row 0 sz [enc (b x)]] (fun r=>(out r,[.row 0 sz [enc (bo r)]])) (g x)=(g x).dP (Eo fun r=>(out r,[.row 0 sz [enc (bo r)]]))):cU P where
 f:=f
 X:=X
 args:=args
 blk:=fun x=>.row 0 sz [enc (b x)]
 sh:=sh
 out:=out
 qM:=fun _ r=>.row 0 sz [enc (bo r)]
 S:=fun n x=>(g x).run n
 a0:=ha
 b0:=fun x=>by simp[aa.kJ,he]
 b1:=fun _ r=>.inl (by simp[aa.kJ,he])
 r0:=fun r=>(sh.bL _).1 hr r
 ok:=fun _ x r hr'=>Cc hp.mixed hp.names (out:=fun r=>(out r,[.row 0 sz [enc (bo r)]])) (by rw[h x];exact G.bE (fun _=>rfl) (g x)) hr' (Nat.zero_lt_succ _) ((sh.bL _).1 hr r) fun y hy=>by
  simp only[List.mem_singleton]at hy;subst hy;exact .inl (by simp[aa.kJ,he])
def cU.qn[hp:Plain P](cfg:dV)(L:Nat)(f:FuncId)(X:Type)(args:X→List AVal)(τ:Type)(sz:Nat)(enc:τ→List AVal)(b:X→List τ)(sh:Sh)(out:sh.El→aI)(bo:sh.El→List τ)(g:X→G P sh.El)
 (he:∀a,AVal.aN (enc a)=true) (ha:∀x,AVal.lS (args x)=true) (hr:sh.all fun r=>(out r).yM=true)
 (h:∀x,Ia P cfg L f (args x) [.row 0 sz ((b x).map enc)] (fun r=>(out r,[.row 0 sz ((bo r).map enc)])) (g x)=(g x).dP (Eo fun r=>(out r,[.row 0 sz ((bo r).map enc)]))):cU P where
 f:=f
 X:=X
 args:=args
 blk:=fun x=>.row 0 sz ((b x).map enc)
 sh:=sh
 out:=out
 qM:=fun _ r=>.row 0 sz ((bo r).map enc)
 S:=fun n x=>(g x).run n
 a0:=ha
 b0:=fun x=>by simp[aa.kJ,he]
 b1:=fun _ r=>.inl (by simp[aa.kJ,he])
 r0:=fun r=>(sh.bL _).1 hr r
 ok:=fun _ x r hr'=>Cc hp.mixed hp.names (out:=fun r=>(out r,[.row 0 sz ((bo r).map enc)])) (by rw[h x];exact G.bE (fun _=>rfl) (g x)) hr' (Nat.zero_lt_succ _) ((sh.bL _).1 hr r) fun y hy=>by
  simp only[List.mem_singleton]at hy;subst hy;exact .inl (by simp[aa.kJ,he])
end
end Go.AM
end
section
namespace Go.AM
def vh(P:Program)(T:TypeId):Option Nat:=match P.underlying T with
 |some (.slice e)=>ct P e
 |_=>none
def intOf:AVal→Option Int
 | .sc (.int _ n)=>some n
 |_=>none
theorem pg{v:AVal}{n:Int}(h:intOf v=some n):∃k,v=.sc (.int k n):=by
 unfold intOf at h;grind
def fF{X:Type}(l:List X)(i:Int):Option X:=if 0≤i then l[i.toNat]? else none
theorem qo{P:Program}{T:TypeId}{n:Nat}(h:vh P T=some n):∃e,P.underlying T=some (.slice e)∧ct P e=some n:=by
 grind [vh]
section
def aY{X:Type}(l:List X)(enc:X→List AVal)(n:Nat)(i:Int):ql X where
 run:=fF l i
 aX x:={val:=.bH (enc x) 0}
 ids:=[]
 sJ gl P cfg nid op af H:=match op with
  | .indexAddr T a b=>af a=.au (l.map enc)∧intOf (af b)=some i∧vh P T=some n∧∀x,(enc x).length=n
  |_=>False
 lC:=AVal.au (l.map enc)=AVal.au (l.map enc)∧some i=some i∧some n=some n∧∀_:X,n=n
 holds:=⟨rfl,rfl,rfl,fun _=>rfl⟩
 sound gl P cfg nid op af H h x hx:=by
  cases op<;>try exact h.elim
  rename_i T a b;obtain⟨h1,h2,h3,h4⟩:=h;obtain⟨k,h2⟩:=pg h2;obtain⟨e,e1,e2⟩:=qo h3;unfold fF at hx;split at hx
  ·rename_i h0;simp[bO,cZ,cr,h2,h1,nu,e1,e2,h0,hx,h4,yields,Rd.bind,Rd.run,Rd.reads]
  ·cases hx
def bp{X:Type}(l:List X)(enc:X→List AVal):ql Unit where
 run:=some ()
 aX _:={val:=.sc (.int .i64 l.length)}
 ids:=[]
 sJ gl P cfg nid op af H:=match op with
  | .call {callee:=.builtin .len,args,argTypes}=>match argTypes[0]?,args[0]? with
   |some T,some x=> @Eq Bool (vh P T).isSome true∧af x=.au (l.map enc)
   |_,_=>False
  |_=>False
 lC:=(@Eq Bool true true)∧AVal.au (l.map enc)=AVal.au (l.map enc)
 holds:=⟨by rfl,by rfl⟩
 sound gl P cfg nid op af H h x hx:=by
  split at h
  ·split at h
   ·rename_i args argTypes _ _ T x hT ha;obtain⟨h1,h2⟩:=h;obtain⟨n,hn⟩:=Option.isSome_iff_exists.1 h1;obtain⟨e,e1,e2⟩:=qo hn;grind [bO,cZ,cr,sQ,Rd.bind,Rd.run,Rd.reads]
   ·exact h.elim
  ·exact h.elim
def JD(P:Program)(T:TypeId):Option (Nat×Nat×Bool):=match P.info? T with
 |some i=>some (i.size,i.bytes,me i)
 |none=>none
def yj(P:Program)(T:TypeId):Option (Nat×Nat×Bool):=match P.underlying T with
 |some (.slice e)=>JD P e
 |_=>none
theorem yO{P:Program}{T:TypeId}{n by_:Nat}{z:Bool}(h:yj P T=some (n,by_,z)):∃e i,P.underlying T=some (.slice e)∧P.info? e=some i∧i.size=n∧i.bytes=by_∧me i=z:=by
 grind [yj,JD]
theorem run_bind'{α β:Type}{H:List aa}{m:Rd α}{f:α→Rd β}{x:α}(h:m.run H=some x):(m.bind f).run H=(f x).run H:=by
 induction m with
 |fail=>simp[Rd.run]at h
 |done a=>simp[Rd.run]at h;subst h;rfl
 |get b k ih=>
  grind [Rd.run,Rd.bind]
def rV{X:Type}(len:Nat)(l m:List X)(enc:X→List AVal)(n by_ b ai nid0:Nat)(eids:List Nat):ql Unit where
 run:=if len=l.length∧roomy (l.length+m.length) by_=true then some ()else none
 aX _:={val:=.sl b (ai+1) n 0 (l++m).length,de:=[(b,.row (ai+1) n ((l++m).map enc))]}
 ids:=nid0::(eids++[b])
 sJ gl P cfg nid op af H:=match op with
  | .call {callee:=.builtin .append,args,argTypes}=>match argTypes[0]?,argTypes[1]?,args[0]?,args[1]? with
   |some ST,some XT,some s,some x=>nid=nid0∧H[nid]? =some .aU∧decide (args.size=2)=true∧yj P ST=some (n,by_,true)∧(vh P XT).isSome=true∧decide (0<n)=true∧af s=.sl b ai n 0 len∧H[b]? =some (.row ai n (l.map enc))∧
    (elems (af x)).run H=some (m.map enc)∧(elems (af x)).reads H=eids∧∀x,(enc x).length=n
   |_,_,_,_=>False
  |_=>False
 lC:=nid0=nid0∧some aa.aU=some aa.aU∧ @Eq Bool true true∧some (n,by_,true)=some (n,by_,true)∧ @Eq Bool true true∧ @Eq Bool true true∧AVal.sl b ai n 0 len=AVal.sl b ai n 0 len∧some (aa.row ai n (l.map enc))=some (aa.row ai n (l.map enc))∧
  some (m.map enc)=some (m.map enc)∧eids=eids∧∀_:X,n=n
 holds:=by simp
 sound gl P cfg nid op af H h x hx:=by
  split at h
  ·split at h
   ·rename_i args argTypes _ _ _ _ ST XT sx x hT hX hs hxx;obtain⟨rfl,hunb,h0,h1,h2,h3,h4,h5,h6,h6',h7⟩:=h;obtain⟨e,i,e1,e2,e3,e4,e5⟩:=yO h1;obtain⟨n2,hn2⟩:=Option.isSome_iff_exists.1 h2;obtain⟨e',e6,_⟩:=qo hn2;simp only[decide_eq_true_eq]at h0 h3;split at hx
    ·rename_i hroom;obtain⟨rfl,hroom⟩:=hroom;have hz:i.size≠0:=by omega
     have hall:(m.map enc).all (fun r=>r.length==i.size)=true:=by
      simp only[List.all_map,List.all_eq_true];intro y _;simp[h7,e3]
     have hop:bO P cfg nid af (.call {callee:=.builtin .append,args:=args,argTypes:=argTypes})=.get nid fun
      | .aU=>(uO P nid ST XT (af sx) (af x)).bind fun e=>.done (.aX e)
      |_=>.fail:=by
      simp only[bO,cZ,if_true,cr,hT,hX,hs,hxx,h0];congr 1
     have hap:uO P nid ST XT (af sx) (af x)=(elems (af x)).bind fun new=>.get b fun
      | .row v sz rows=>if v=ai then(if 0=0∧l.length≤rows.length∧sz=i.size∧roomy (l.length+new.length) i.bytes=true∧new.all (fun r=>r.length==i.size)=true∧me i=true then
       .done {val:=.sl b (ai+1) sz 0 (l.length+new.length),de:=[(b,.row (ai+1) sz (Hx l.length rows++new))]}else .fail)else .fail
      |_=>.fail:=by
      rw[h4];unfold uO;rw[e1,e6];simp only[e2,hz,if_false];congr 1
      funext new
      simp only[Rd.bind,rowOf];congr 1
      funext y
      cases y with
      |row v sz rows=>grind [Rd.bind]
      |_=>rfl
     rw[hop,hap];simp only[Rd.run,Rd.reads,hunb];have hb:∀{β:Type} (f:cD→Rd β) (g:List (List AVal)→Rd cD),(((elems (af x)).bind g).bind f)=(elems (af x)).bind fun n=>(g n).bind f:=by
      intro β f g;generalize elems (af x)=q;induction q with
      |fail=>rfl
      |done a=>rfl
      |get b k ih=>simp only[Rd.bind,ih]
     grind [run_bind',xX,Rd.bind,Rd.run,Rd.reads,GN]
    ·cases hx
   ·exact h.elim
  ·exact h.elim
def bare:AVal→Bool
 | .sc (.slice none 0 0)=>true
 | .emp=>true
 |_=>false
def aH(m n b ai:Nat)(i:Int):ql Unit where
 run:=if 0≤i∧i<m then some ()else none
 aX _:={val:=.ptr b ai i.toNat 0}
 ids:=[]
 sJ gl P cfg nid op af H:=match op with
  | .indexAddr T a c=>af a=.sl b ai n 0 m∧intOf (af c)=some i∧vh P T=some n
  |_=>False
 lC:=AVal.sl b ai n 0 m=AVal.sl b ai n 0 m∧some i=some i∧some n=some n
 holds:=⟨rfl,rfl,rfl⟩
 sound gl P cfg nid op af H h x hx:=by
  cases op<;>try exact h.elim
  rename_i T a c;obtain⟨h1,h2,h3⟩:=h;obtain⟨k,h2⟩:=pg h2;obtain⟨e,e1,e2⟩:=qo h3;split at hx
  ·rename_i h0;simp[bO,cZ,cr,h2,h1,nu,e1,e2,h0.1,h0.2,yields,Rd.bind,Rd.run,Rd.reads]
  ·cases hx
def bP{X:Type}(l:List X)(enc:X→List AVal)(n b ai i o:Nat)(val:X→AVal):ql X where
 run:=l[i]?
 aX x:={val:=val x}
 ids:=[b]
 sJ gl P cfg nid op af H:=match op with
  | .load T a=>af a=.ptr b ai i o∧H[b]? =some (.row ai n (l.map enc))∧∀x,lI P T (enc x) o=some (val x)
  |_=>False
 lC:=AVal.ptr b ai i o=AVal.ptr b ai i o∧some (aa.row ai n (l.map enc))=some (aa.row ai n (l.map enc))∧∀x,some (val x)=some (val x)
 holds:=⟨rfl,rfl,fun _=>rfl⟩
 sound gl P cfg nid op af H h x hx:=by
  cases op<;>try exact h.elim
  rename_i T a;obtain⟨h1,h2,h3⟩:=h;simp[bO,cZ,cr,h1,xN,rowOf,h2,hx,h3,yields,Rd.bind,Rd.run,Rd.reads]
def fP{X:Type}(l:List X)(enc:X→List AVal)(n b ai i o:Nat)(y:X→X):ql X where
 run:=l[i]?
 aX x:={val:=nothing,de:=[(b,.row ai n ((l.set i (y x)).map enc))]}
 ids:=[b]
 sJ gl P cfg nid op af H:=match op with
  | .store T a v=>af a=.ptr b ai i o∧H[b]? =some (.row ai n (l.map enc))∧∀x,(sO P T (af v)).bind (z8 (enc x) o)=some (enc (y x))
  |_=>False
 lC:=AVal.ptr b ai i o=AVal.ptr b ai i o∧some (aa.row ai n (l.map enc))=some (aa.row ai n (l.map enc))∧∀x,some (enc (y x))=some (enc (y x))
 holds:=⟨rfl,rfl,fun _=>rfl⟩
 sound gl P cfg nid op af H h x hx:=by
  cases op<;>try exact h.elim
  rename_i T a v;obtain⟨h1,h2,h3⟩:=h;obtain⟨vs,h4,h5⟩:=Option.bind_eq_some_iff.1 (h3 x);simp[bO,cZ,cr,h1,yY,rowOf,h2,hx,h4,h5,Rd.bind,Rd.run,Rd.reads,List.map_set]
def yl{X:Type}(d:X)(enc:X→List AVal)(n by_ nid0:Nat)(k:Int):ql Unit where
 run:=if 0≤k∧roomy k.toNat by_=true then some ()else none
 aX _:={val:=.sl nid0 0 n 0 (List.replicate k.toNat d).length,de:=[(nid0,.row 0 n ((List.replicate k.toNat d).map enc))]}
 ids:=[nid0]
 sJ gl P cfg nid op af H:=match op with
  | .makeSlice T a c=>nid=nid0∧H[nid]? =some .aU∧intOf (af a)=some k∧intOf (af c)=some k∧yj P T=some (n,by_,true)∧(match P.underlying T with |some (.slice e)=>jt P e |_=>none)=some (enc d)∧(enc d).length=n∧decide (0<n)=true
  |_=>False
 lC:=nid0=nid0∧some aa.aU=some aa.aU∧some k=some k∧some k=some k∧some (n,by_,true)=some (n,by_,true)∧some (enc d)=some (enc d)∧n=n∧ @Eq Bool true true
 holds:=by simp
 sound gl P cfg nid op af H h x hx:=by
  cases op<;>try exact h.elim
  rename_i T a c;obtain⟨rfl,hunb,h1,h2,h3,h4,h5,h6⟩:=h;obtain⟨k1,h1⟩:=pg h1;obtain⟨k2,h2⟩:=pg h2;obtain⟨e,i,e1,e2,e3,e4,e5⟩:=yO h3;rw[e1]at h4;simp only at h4;simp only[decide_eq_true_eq]at h6;split at hx
  ·rename_i h0;have hop:rB P nid T (af a) (af c)=some {val:=.sl nid 0 i.size 0 k.toNat,de:=[(nid,.row 0 i.size (List.replicate k.toNat (enc d)))]}:=by
    rw[h1,h2];simp only[rB,e1,e2,h4];rw[if_pos ⟨h0.1,Int.le_refl _,by rw[e4];exact h0.2,by rw[h5,e3],by omega⟩]
   simp[bO,cZ,cr,hop,tR,Rd.bind,Rd.run,Rd.reads,hunb,e3]
  ·cases hx
def vi(d m:Nat):Option Int→Option Nat
 |none=>some d
 |some i=>if 0≤i∧i≤m then some i.toNat else none
def KS{X:Type}(l:List X)(enc:X→List AVal)(n:Nat)(lo hi:Option Int):ql (Nat×Nat) where
 run:=(vi l.length l.length hi).bind fun h=>(vi 0 h lo).map fun k=>(k,h)
 aX x:={val:=.au (((l.take x.2).drop x.1).map enc)}
 ids:=[]
 sJ gl P cfg nid op af H:=match op with
  | .slice T a lo' hi' none=>af a=.au (l.map enc)∧(lo'.map fun x=>intOf (af x))=lo.map some∧(hi'.map fun x=>intOf (af x))=hi.map some∧vh P T=some n∧∀x,(enc x).length=n
  |_=>False
 lC:=AVal.au (l.map enc)=AVal.au (l.map enc)∧lo.map some=lo.map some∧hi.map some=hi.map some∧some n=some n∧∀_:X,n=n
 holds:=⟨rfl,rfl,rfl,rfl,fun _=>rfl⟩
 sound gl P cfg nid op af H h x hx:=by
  cases op<;>try exact h.elim
  rename_i T a lo' hi' mx;cases mx with
  |some _=>exact h.elim
  |none=>
   obtain⟨h1,h2,h3,h4,h5⟩:=h;obtain⟨e,e1,e2⟩:=qo h4;have hb:∀(d m:Nat) (x':Option Operand) (x:Option Int),(x'.map fun x=>intOf (af x))=x.map some→kY d m (x'.map af)=vi d m x:=by
    intro d m x' x hx;cases x'<;>cases x<;>simp at hx
    ·rfl
    ·grind [pg,kY,vi]
   obtain⟨hh,q1,q2⟩:=Option.bind_eq_some_iff.1 hx;obtain⟨k,q3,rfl⟩:=Option.map_eq_some_iff.1 q2;have hall:(l.map enc).all (fun r=>ct P e==some r.length)=true:=by
    simp only[List.all_map,List.all_eq_true];intro y _;simp[h5,e2]
   have hop:yZ P T (af a) (lo'.map af) (hi'.map af)=some (.au (((l.map enc).take hh).drop k)):=by
    unfold yZ;rw[h1];simp only[e1,sQ];rw[hb _ _ _ _ h3,List.length_map,q1];simp only[Option.bind_some];rw[hb _ _ _ _ h2,q3];rw[Option.bind_some,if_pos (by rw[hall,e2];rfl)]
   simp[bO,cZ,cr,hop,yields,Rd.bind,Rd.run,Rd.reads,List.map_take,List.map_drop]
def C1(op:BinOp)(k k':IntKind)(a b:Int)(ok:Bool)(v:AVal)(h:ok=true→∀(P:Program) (T:TypeId),Bb P op T (.sc (.int k a)) (.sc (.int k' b))=some v):ql Unit where
 run:=if ok then some ()else none
 aX _:={val:=v}
 ids:=[]
 sJ gl P cfg nid o af H:=match o with
  | .binOp op' T x y _=>op'=op∧af x=.sc (.int k a)∧af y=.sc (.int k' b)∧(match y with | .const (.int _ _)=>true | .tmp _=>true |_=>false)=true
  |_=>False
 lC:=op=op∧AVal.sc (.int k a)=AVal.sc (.int k a)∧AVal.sc (.int k' b)=AVal.sc (.int k' b)∧ @Eq Bool true true
 holds:=⟨rfl,rfl,rfl,rfl⟩
 sound gl P cfg nid o af H h' x hx:=by
  cases o<;>try exact h'.elim
  rename_i op' T x y yT;obtain⟨rfl,h1,h2,h3⟩:=h';cases ok with
  |false=>cases hx
  |true=>
   have hb:=h rfl P T;rw[← h1,← h2]at hb;split at h3
   ·simp[bO,cZ,cr,sR,hb,yields,Rd.bind,Rd.run,Rd.reads]
   ·simp[bO,cZ,cr,sR,hb,yields,Rd.bind,Rd.run,Rd.reads]
   ·cases h3
def ym(k:IntKind)(a b:Int):ql Unit:=C1 .rem k k a b (decide (b≠0)) (.sc (.int k (a.tmod b))) fun h P T=>by
 grind [Bb,Aa]
def C2(k k':IntKind)(a b:Int):ql Unit:=C1 .shl k k' a b (decide (0≤b)) (.sc (.int k (k.wrap (a*2 ^ (min b.toNat k.bits))))) fun h P T=>by
 grind [Bb]
def G5(P:Program)(T:TypeId):Option (Nat×Nat):=match P.underlying T with
 |some (.array n e)=>(ct P e).map fun s=>(n,s)
 |_=>none
def Ib(b ai j o n s:Nat)(i:Int):ql Unit where
 run:=if 0≤i∧i<n then some ()else none
 aX _:={val:=.ptr b ai j (o+i.toNat*s)}
 ids:=[]
 sJ gl P cfg nid op af H:=match op with
  | .indexAddr T a c=>af a=.ptr b ai j o∧intOf (af c)=some i∧G5 P T=some (n,s)
  |_=>False
 lC:=AVal.ptr b ai j o=AVal.ptr b ai j o∧some i=some i∧some (n,s)=some (n,s)
 holds:=⟨rfl,rfl,rfl⟩
 sound gl P cfg nid op af H h x hx:=by
  cases op<;>try exact h.elim
  rename_i T a c;obtain⟨h1,h2,h3⟩:=h;obtain⟨k,h2⟩:=pg h2;unfold G5 at h3;split at h3
  ·rename_i n' e hu;obtain⟨s',hs,he⟩:=Option.map_eq_some_iff.1 h3;simp only[Prod.mk.injEq]at he;obtain⟨rfl,rfl⟩:=he;split at hx
   ·rename_i h0;have hop:nu P T (af a) i=some (.ptr b ai j (o+i.toNat*s')):=by
     rw[h1];unfold nu;rw[hu];simp only[if_pos h0,hs,Option.bind_some,uN]
    simp[bO,cZ,cr,h2,hop,yields,Rd.bind,Rd.run,Rd.reads]
   ·cases hx
  ·cases h3
def MH{X:Type}(l:List X)(c:X→AVal)(b ai sz o:Nat):ql X where
 run:=l[o]?
 aX x:={val:=c x}
 ids:=[b]
 sJ gl P cfg nid op af H:=match op with
  | .load T a=>af a=.ptr b ai 0 o∧H[b]? =some (.row ai sz [l.map c])∧eR P T=false∧(P.underlying T).isSome=true
  |_=>False
 lC:=AVal.ptr b ai 0 o=AVal.ptr b ai 0 o∧some (aa.row ai sz [l.map c])=some (aa.row ai sz [l.map c])∧ @Eq Bool false false∧ @Eq Bool true true
 holds:=⟨rfl,rfl,rfl,rfl⟩
 sound gl P cfg nid op af H h x hx:=by
  cases op<;>try exact h.elim
  rename_i T a;obtain⟨h1,h2,h3,h4⟩:=h;simp[bO,cZ,cr,h1,xN,rowOf,h2,lI,h3,h4,hx,yields,Rd.bind,Rd.run,Rd.reads]
def NH{X:Type}(l:List X)(c:X→AVal)(b ai sz o:Nat)(y:X):ql Unit where
 run:=if o<l.length then some ()else none
 aX _:={val:=nothing,de:=[(b,.row ai sz [(l.set o y).map c])]}
 ids:=[b]
 sJ gl P cfg nid op af H:=match op with
  | .store T a v=>af a=.ptr b ai 0 o∧H[b]? =some (.row ai sz [l.map c])∧sO P T (af v)=some [c y]
  |_=>False
 lC:=AVal.ptr b ai 0 o=AVal.ptr b ai 0 o∧some (aa.row ai sz [l.map c])=some (aa.row ai sz [l.map c])∧some [c y]=some [c y]
 holds:=⟨rfl,rfl,rfl⟩
 sound gl P cfg nid op af H h x hx:=by
  cases op<;>try exact h.elim
  rename_i T a v;obtain⟨h1,h2,h3⟩:=h;split at hx
  ·rename_i h0;have hle:o+1≤l.length:=h0;simp[bO,cZ,cr,h1,yY,rowOf,h2,h3,z8,hle,putAt,Rd.bind,Rd.run,Rd.reads,List.map_set]
  ·cases hx
section
variable {K V:Type}
def bG(ek:K→AVal)(ev:V→AVal):Nat→List (K×V)→List (AVal×AVal×Nat)
 |_,[]=>[]
 |n,p::ps=>(ek p.1,ev p.2,n)::bG ek ev (n+1) ps
def aV(eq:K→K→Bool)(k:K):List (K×V)→Nat→Option (Nat×V)
 | [],_=>none
 |p::ps,i=>if eq k p.1 then some (i,p.2)else aV eq k ps (i+1)
def dQ(eq:K→K→Bool)(k:K)(v:V)(m:List (K×V)):List (K×V):=match aV eq k m 0 with
 |some (i,_)=>m.set i (k,v)
 |none=>m++[(k,v)]
theorem yo{ks:List Kd}{ag:Bool}{ek:K→AVal}{ev:V→AVal}{eq:K→K→Bool}(hag:∀k,nO (ek k)=ag)(heq:∀k k',cC ks (ek k).cells (ek k').cells=some (eq k k'))(k:K):
 ∀(m:List (K×V)) (n i:Nat),qx ks ag (ek k) (bG ek ev n m) i=some ((aV eq k m i).map fun p=>(p.1,ev p.2,n+(p.1 - i)))
 | [],n,i=>rfl
 |p::ps,n,i=>by
  simp only[bG,qx,hag,if_true,heq,aV];cases h:eq k p.1 with
  |true=>simp
  |false=>
   simp only[Bool.false_eq_true,if_false];rw[yo hag heq k ps (n+1) (i+1)];congr 1;have hge:∀(m:List (K×V)) (i:Nat) (q:Nat×V),aV eq k m i=some q→i≤q.1:=by
    intro m;induction m with
    |nil=>intro i q h;simp[aV]at h
    |cons p ps ih=>
     grind [aV]
   cases hf:aV eq k ps (i+1)with
   |none=>rfl
   |some q=>
    grind
theorem wH(ek:K→AVal)(ev:V→AVal):∀(m:List (K×V)) (n:Nat),(bG ek ev n m).length=m.length
 | [],_=>rfl
 |_::ps,n=>by simp[bG,wH ek ev ps]
theorem A3(ek:K→AVal)(ev:V→AVal):∀(m m':List (K×V)) (n:Nat),bG ek ev n (m++m')=bG ek ev n m++bG ek ev (n+m.length) m'
 | [],m',n=>by simp[bG]
 |p::ps,m',n=>by simp[bG,A3 ek ev ps,Nat.add_assoc,Nat.add_comm 1]
theorem Fe(ek:K→AVal)(ev:V→AVal):∀(m:List (K×V)) (n i:Nat) (p:K×V),bG ek ev n (m.set i p)=(bG ek ev n m).set i (ek p.1,ev p.2,n+i)
 | [],n,i,p=>rfl
 |q::ps,n,0,p=>by simp[bG]
 |q::ps,n,i+1,p=>by simp[bG,Fe ek ev ps,Nat.add_assoc,Nat.add_comm 1]
def Ep(P:Program)(T:TypeId):Option (Option (List Kd)×Bool×Option AVal):=match P.underlying T with
 |some (.map K E)=>some (cN P 9 K,eR P K,xO P E)
 |_=>none
def qF(m:List (K×V))(k:K)(ek:K→AVal)(ev:V→AVal)(eq:K→K→Bool)(d:V)(ks:List Kd)(ag ok:Bool)(b:Nat):ql Unit where
 run:=some ()
 aX _:={val:=match ok with
  |true=>.cm [ev (((aV eq k m 0).map (·.2)).getD d),.sc (.bool (aV eq k m 0).isSome)]
  |false=>ev (((aV eq k m 0).map (·.2)).getD d)}
 ids:=[b]
 sJ gl P cfg nid op af H:=match op with
  | .lookup T x i ok'=>ok'=ok∧af x=.mp b∧af i=ek k∧H[b]? =some (.map m.length (bG ek ev 0 m))∧Ep P T=some (some ks,ag,some (ev d))∧(∀k,nO (ek k)=ag)∧∀k k',cC ks (ek k).cells (ek k').cells=some (eq k k')
  |_=>False
 lC:=ok=ok∧AVal.mp b=AVal.mp b∧ek k=ek k∧some (aa.map m.length (bG ek ev 0 m))=some (aa.map m.length (bG ek ev 0 m))∧some (some ks,ag,some (ev d))=some (some ks,ag,some (ev d))∧(∀_:K,ag=ag)∧∀k k',some (eq k k')=some (eq k k')
 holds:=⟨rfl,rfl,rfl,rfl,rfl,fun _=>rfl,fun _ _=>rfl⟩
 sound gl P cfg nid op af H h x hx:=by
  cases op<;>try exact h.elim
  rename_i T a i ok';obtain⟨rfl,h1,h2,h3,h4,h5,h6⟩:=h;unfold Ep at h4;split at h4
  ·rename_i TK TE hu;simp only[Option.some.injEq,Prod.mk.injEq]at h4;obtain⟨t1,t2,t3⟩:=h4;have hk:ow P TK (ek k)=some ks:=by simp[ow,t1,h5,t2]
   have hf:=yo (ev:=ev) (eq:=eq) h5 h6 k m 0 0;simp only[bO,cZ,cr,Ab,hu,h2,hk,h1,mapOf,Rd.bind,Rd.run,Rd.reads,h3,h6,t2,hf,t3,if_false,Bool.false_eq_true];cases hfm:aV eq k m 0 with
   |none=>grind
   |some q=>grind
  ·cases h4
def qG(m:List (K×V))(k:K)(v:V)(ek:K→AVal)(ev:V→AVal)(eq:K→K→Bool)(ks:List Kd)(ag:Bool)(b:Nat):ql Unit where
 run:=some ()
 aX _:={val:=nothing,de:=[(b,.map (dQ eq k v m).length (bG ek ev 0 (dQ eq k v m)))]}
 ids:=[b]
 sJ gl P cfg nid op af H:=match op with
  | .mapUpdate T x i y=>af x=.mp b∧af i=ek k∧af y=ev v∧H[b]? =some (.map m.length (bG ek ev 0 m))∧(Ep P T).map (fun t=>(t.1,t.2.1))=some (some ks,ag)∧(∀k,nO (ek k)=ag)∧∀k k',cC ks (ek k).cells (ek k').cells=some (eq k k')
  |_=>False
 lC:=AVal.mp b=AVal.mp b∧ek k=ek k∧ev v=ev v∧some (aa.map m.length (bG ek ev 0 m))=some (aa.map m.length (bG ek ev 0 m))∧some (some ks,ag)=some (some ks,ag)∧(∀_:K,ag=ag)∧∀k k',some (eq k k')=some (eq k k')
 holds:=⟨rfl,rfl,rfl,rfl,rfl,fun _=>rfl,fun _ _=>rfl⟩
 sound gl P cfg nid op af H h x hx:=by
  cases op<;>try exact h.elim
  rename_i T a i y;obtain⟨h1,h2,hy,h3,h4,h5,h6⟩:=h;obtain⟨t,h4,ht⟩:=Option.map_eq_some_iff.1 h4;unfold Ep at h4;split at h4
  ·rename_i TK TE hu;simp only[Option.some.injEq]at h4;subst h4;simp only[Prod.mk.injEq]at ht;obtain⟨t1,t2⟩:=ht;have hk:ow P TK (ek k)=some ks:=by simp[ow,t1,h5,t2]
   have hf:=yo (ev:=ev) (eq:=eq) h5 h6 k m 0 0;simp only[bO,cZ,cr,rC,hu,h2,hk,h1,mapOf,Rd.bind,Rd.run,Rd.reads,h3,h6,t2,hf,hy,if_false,Bool.false_eq_true];cases hfm:aV eq k m 0 with
   |none=>simp[Rd.bind,Rd.run,Rd.reads,dQ,hfm,A3,bG]
   |some q=>simp[Rd.bind,Rd.run,Rd.reads,dQ,hfm,Fe,wH]
  ·cases h4
end
end
def cI(k:IntKind)(n:Int):AVal:=.sc (.int k n)
def cL{α:Type}(enc:α→List AVal)(l:List α):AVal:=.au (l.map enc)
def eI(k:IntKind)(n:Int):List AVal:=[.sc (.int k n)]
def eB(b:Bool):List AVal:=[.sc (.bool b)]
def eS(s:ByteArray):List AVal:=[.sc (.string s)]
def eL{α:Type}(enc:α→List AVal)(l:List α):List AVal:=[.au (l.map enc)]
structure V2(α:Type) where
 (a0 a1:α)
def Ff{α:Type}(c:α→AVal)(x:V2 α):List AVal:=[c x.a0,c x.a1]
structure V8(α:Type) where
 (a0 a1 a2 a3 a4 a5 a6 a7:α)
def vj{α:Type}(c:α→AVal)(x:V8 α):List AVal:=[c x.a0,c x.a1,c x.a2,c x.a3,c x.a4,c x.a5,c x.a6,c x.a7]
structure NI(α:Type) where
 (a0 a1 a2 a3 a4 a5 a6 a7 a8 a9:α)
def KT{α:Type}(c:α→AVal)(x:NI α):List AVal:=[c x.a0,c x.a1,c x.a2,c x.a3,c x.a4,c x.a5,c x.a6,c x.a7,c x.a8,c x.a9]
theorem C3{X:Type}(l:List X)(enc:X→List AVal)(h:∀x,AVal.aN (enc x)=true):(l.map enc).all AVal.aN=true:=by
 grind
def bN{X:Type}(b ai sz:Nat)(l:List X)(enc:X→List AVal)(h:∀x,AVal.aN (enc x)=true):PU:=⟨b,.row ai sz (l.map enc),C3 l enc h⟩
theorem C4{K V:Type}(ek:K→AVal)(ev:V→AVal)(h:∀k,(ek k).pure=true)(h':∀v,(ev v).pure=true):∀(m:List (K×V)) (n:Nat),(bG ek ev n m).all (fun p=>p.1.pure&&p.2.1.pure)=true
 | [],_=>rfl
 |p::ps,n=>by simp[bG,h,h',C4 ek ev h h' ps (n+1)]
def jV{K V:Type}(b:Nat)(m:List (K×V))(ek:K→AVal)(ev:V→AVal)(h:∀k,(ek k).pure=true)(h':∀v,(ev v).pure=true):PU:=⟨b,.map m.length (bG ek ev 0 m),C4 ek ev h h' m 0⟩
def ee{X:Type}(p:Pl)(b ai sz n:Nat)(l:List X)(enc:X→List AVal)(h:∀x,AVal.aN (enc x)=true):FZ:=⟨p,b,ai,sz,n,l.map enc,C3 l enc h⟩
def uH{X:Type}(b ai sz:Nat)(l:List X)(c:X→AVal)(h:∀x,(c x).pure=true):PU:=⟨b,.row ai sz [l.map c],by
 have:∀l:List X,AVal.aN (l.map c)=true:=by
  intro l;induction l with
  |nil=>rfl
  |cons x xs ih=>grind [AVal.aN]
 simp[od,this]⟩
def Cd{X:Type}(b ai sz:Nat)(l:List X)(enc:X→List AVal)(h:∀x,AVal.aN (enc x)=true):PR:=PR.ofRow b ai sz (l.map enc) (C3 l enc h)
def Ic{K V:Type}(b:Nat)(m:List (K×V))(ek:K→AVal)(ev:V→AVal)(h:∀k,(ek k).pure=true)(h':∀v,(ev v).pure=true):PR:=⟨b,.map m.length (bG ek ev 0 m),C4 ek ev h h' m 0⟩
end Go.AM
end
