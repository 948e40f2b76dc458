/- Parts put together. No conditions. -/
import Derived.Test.YtiohninblcifpaaGreatDoorAb
import Derived.ProofKit
import Derived.OpenShut
import Derived.JoinedCond
import Derived.LaidLaws
set_option linter.unusedSectionVars false
set_option linter.unusedSimpArgs false
section
namespace Go.AM
open Go.ChangeShapes Go.WideShapes Go.ChangeAt Go.RowKit
def Gh.bare(w:World):Gh:={ai:=fun _ _=>none,st:=fun k _=>k<w.heap.size}
section
variable [ax]
theorem Gh.I7(w:World)(hg:kB (Gh.bare w) w):Inv (Gh.bare w) [] w:=
 ⟨fun b x h=>by simp at h,fun b b' x x' v v' k z z' h=>by simp at h,fun b ak _=>rfl,fun b x v ver' h=>by simp at h,fun b x v k z o h=>by simp at h,fun _ _ h=>h,hg⟩
theorem FE{w w':World}{g':Gh}{H':List af}(h:aK (Gh.bare w) [] w g' H' w'):Below w.heap.size w w':=
 ⟨h.os,h.tape.1,h.output,h.size,fun k hk=>h.keep k hk dS⟩
end
section
variable {H:Type} {enc:TypeId×Value→H} {P:Program}
theorem DE{f:Func}{s:ChangeSpec}{apart fresh handsOn again:Bool}{W W':World}{args:Array Value}{v:Value}{ds gs:List (DataW H)}{before pa pv:List MemPlace}
 (hW:DataW.Whole enc P f.params.toList s.vars apart W args.toList ds gs before)
 (hres:∀(b:Nat) (sp:Nat→Bool) (hd:Bool),DataW.TrodAll enc P W' b sp hd f.resultTypes.toList (v.resultList f.resultTypes.size) (s.fn H (ds++gs)).results [])
 (hargs:∀sp:Nat→Bool,(∀p∈before,sp p.block=true)→DataW.TrodAll enc P W' 0 sp true f.params.toList args.toList (s.fn H (ds++gs)).args pa)
 (hvars:∀sp:Nat→Bool,(∀p∈before,sp p.block=true)→DataW.TrodVars enc P W' sp s.vars (s.fn H (ds++gs)).vars pv)
 (hps:before=pa++pv) (hb:Below W.heap.size W W')
 (hok:∀(j:Nat) (t:TypeId) (r:Value),f.resultTypes[j]? =some t→(v.resultList f.resultTypes.size)[j]? =some r→Value.okWide P W' .any 0 t r):
 s.post enc P f apart fresh handsOn again W args v W':=by
 have hold:∀p∈before,(fun b=>decide (b<W.heap.size)) p.block=true:=fun p hp=>by simpa using hW.lt p hp
 have hlt:=hW.lt;refine⟨ds,gs,before,[],pa,pv,hW,hres _ _ _,hargs _ hold,hvars _ hold,World.keptBut_mono (fun p hp=>⟨hp,?_⟩) (hb.frame (· ∈before)),fun _=>?_⟩
 ·rw[hps,List.mem_append]at hp;exact Or.inr hp
 ·obtain⟨_,_,_,_,_,hz,hn⟩:=hW;refine⟨hok,_,_,([]++pa)++pv,⟨[]++pa,pv,trodAll_append (hargs _ (fun _ _=>rfl)) (hres _ _ _),hvars _ (fun _ _=>rfl),rfl,?_,?_⟩,?_⟩
  ·intro b off hp;have hm:MemPlace.cell b off∈before:=by rw[hps];simpa using hp
   rw[hb.frozen (hlt _ hm)];exact hz b off hm
  ·intro ha;have:=hn ha;rw[hps]at this;simpa using this
  ·intro p hp _;rw[hps];simpa using hp
end
end Go.AM
end
section
namespace Go.AM
structure Entry where
 f:FuncId
 args:List AVal
 res:AVal
def wg(f:FuncId)(args:List AVal):List Entry→Option AVal
 | []=>none
 |e::es=>if e.f==f&&pz e.args args then some e.res else wg f args es
def rC[ax](P:Program)(cfg:dV)(tbl:List Entry)(loops:Nat):Nat→gF
 | 0=>⟨fun _ _ _=>none,fun _ _ _=>none⟩
 |n+1=>⟨fun f args H=>match(match H with | []=>wg f args tbl |_=>none)with
  |some r=>some (.ret r,[])
  |none=>Bc P cfg (rC P cfg tbl loops n) loops f args H,roundOf P cfg (rC P cfg tbl loops n) loops⟩
section
variable [ax] {P:Program} {cfg:dV}
def Ci(P:Program)(e:Entry):Prop:=
 (∃ fn c, P.funcs[e.f]? = some fn ∧ fn.body = some c ∧ fn.name ≠ "runtime.NumGoroutine") ∧
 ∀g w (vs:Array Value),Inv g [] w→RL g w e.args vs.toList→Calls P e.f vs w (dL g [] w (.ret e.res) [])
def wW(P:Program)(tbl:List Entry):Prop:=∀e∈tbl,Ci P e
theorem wW.nil:wW P []:=fun _ h=>by cases h
theorem wW.cons{e:Entry}{tbl:List Entry}(h:Ci P e)(h':wW P tbl):wW P (e::tbl):=fun x hx=>by
 rcases List.mem_cons.1 hx with rfl |hx
 ·exact h
 ·exact h' x hx
theorem ym{f:FuncId}{args:List AVal}{r:AVal}:∀{tbl:List Entry},wg f args tbl=some r→∃e∈tbl,e.f=f∧e.args=args∧e.res=r
 | [],h=>by simp[wg]at h
 |e::es,h=>by
  simp only[wg]at h;split at h
  ·rename_i hc;simp only[Bool.and_eq_true,beq_iff_eq]at hc;simp only[Option.some.injEq]at h;exact⟨e,by simp,hc.1,mD _ _ hc.2,h⟩
  ·obtain⟨e',h1,h2⟩:=ym h;exact⟨e',List.mem_cons_of_mem _ h1,h2⟩
theorem vu(hm : P.follows .mixedOrders = true)(hN : ∀ (f : FuncId) (fn : Func), P.funcs[f]? = some fn → fn.name ≠ "runtime.NumGoroutine"){tbl : List Entry}(ht : wW P tbl)(loops : Nat) : ∀ n, eW P (rC P cfg tbl loops n)
 | 0=>⟨fun _ _ _ _ _ h=>by simp[rC]at h,fun _ _ _ _ _ h=>by simp[rC]at h⟩
 |n+1=>by
  refine⟨fun f args H r H1 h=>?_,fun _ _ _ _ _ h=>DD hm (vu hm hN ht loops n) h⟩
  simp only[rC]at h;split at h
  ·rename_i v hv;simp only[Option.some.injEq,Prod.mk.injEq]at h;obtain⟨rfl,rfl⟩:=h;cases H with
   |nil=>
    obtain⟨e,he,rfl,rfl,rfl⟩:=ym hv;exact ht e he
   |cons x xs=>cases hv
  ·exact Ex hm hN (vu hm hN ht loops n) h
def wh(orc:gF)(e:Entry):Bool:=match orc.fn e.f e.args []with
 |some (.ret v,H1)=>match(snap fm v).run H1 with
  |some v'=>same v' e.res
  |none=>false
 |_=>false
theorem I8{orc:gF}(ho:eW P orc){e:Entry}(h:wh orc e=true):Ci P e:=by
 unfold wh at h;split at h
 ·rename_i v H1 hc;split at h
  ·rename_i v' hs;have:=qy _ _ h;subst this;obtain⟨h1,h2⟩:=ho.fn _ _ _ _ _ hc;refine⟨h1,fun g w vs hi hl=>(h2 g w vs hi hl).mono ?_⟩
   rintro en w' ⟨g',hi',hla,x,rfl,hr⟩;obtain⟨r1,r2⟩:=kZ hi' _ _ _ _ hs hr;refine⟨gy g' H1,hi'.gy,⟨⟨fun b ak x hx=>?_,fun k o hk=>.inl (hla.ext.st k o hk),hla.ext.cell,hla.ext.shape⟩,hla.size,hla.keep,fun k _ ho=>absurd ho dS,Nat.le_refl _,hla.os,hla.tape,hla.output,fun k o hk hst=>?_,fun b hb=>by simp at hb,fun b ak k z h=>by cases h⟩,x,rfl,r1⟩
   ·rw[hi.fresh b ak (.inr (by simp))]at hx;cases hx
   ·rcases hst with hst |hst
    ·exact(hla.stk k o hk hst).imp_right fun h=>absurd h.1 dS
    ·exact absurd (hla.own k hk hst) dS
  ·cases h
 ·cases h
end
end Go.AM
end
section
namespace Go.AM
def litVal:Lit→Option Value
 | .bool b=>some (.bool b)
 | .int k n=>some (.int k n)
 | .string l=>some (.string ⟨l.toArray⟩)
 |_=>none
mutual
def rD{H:Type}:DataW H→Option (List Value)
 | .lit l=>(litVal l).map fun v=>[v]
 | .agg ds=>rU ds
 |_=>none
def rU{H:Type}:List (DataW H)→Option (List Value)
 | []=>some []
 |d::ds=>match rD d,rU ds with
  |some a,some b=>some (a++b)
  |_,_=>none
end
section
variable {H:Type} {enc:TypeId×Value→H} {P:Program} {w:World} {base:Nat} {sp:Nat→Bool} {held:Bool}
theorem pJ{t n:Nat}(h:cB P t=some n):P.cellsOf t=n:=by
 unfold cB at h;simp[Program.cellsOf,h]
theorem C3{s:Nat}{cs:List Value}{F:List Value→Option (DataW H×List MemPlace)}(hF:∀c x v,F c=some x→rD x.1=some v→c=v):∀(xs:List (DataW H×List MemPlace)) (off:Nat) (vs:List Value),
 (∀i,i<xs.length→F ((cs.drop (off+i*s)).take s)=xs[i]?)→rU (xs.map (·.1))=some vs→(cs.drop off).take (xs.length*s)=vs
 | [],off,vs,_,h=>by simp[rU]at h;simp[h]
 |x::xs,off,vs,hx,h=>by
  simp only[List.map_cons,rU]at h;split at h
  ·rename_i a b ha hb;simp only[Option.some.injEq]at h;subst h;have h0:=hx 0 (by simp)
   simp only[Nat.zero_mul,Nat.add_zero,List.getElem?_cons_zero]at h0;have e0:=hF _ _ _ h0 ha;have e1:=C3 hF xs (off+s) b (fun i hi=>by
    have:=hx (i+1) (by simpa using hi)
    rw[List.getElem?_cons_succ]at this;rw[← this,Nat.add_mul,Nat.one_mul];congr 3;omega) hb
   rw[List.length_cons,Nat.add_mul,Nat.one_mul,Nat.add_comm,List.take_add,e0,List.drop_drop,e1]
  ·cases h
theorem zX{K:TypeId→Option (List Kd)}{cs:List Value}{F:TypeId→List Value→Option (DataW H×List MemPlace)}(hF:∀t ks c x v,K t=some ks→F t c=some x→rD x.1=some v→c=v):
 ∀(fl:List Field) (off:Nat) (ks:List Kd) (xs:List (DataW H×List MemPlace)) (vs:List Value),cS.kindsFields P K fl off=some ks→xs.length=fl.length→
  (∀(i:Nat) (f:Field),fl[i]? =some f→F f.type ((cs.drop f.offset).take (P.cellsOf f.type))=xs[i]?)→rU (xs.map (·.1))=some vs→(cs.drop off).take ks.length=vs
 | [],off,ks,xs,vs,hk,hl,_,h=>by
  grind [cS.kindsFields,rU]
 |f::fl,off,ks,[],vs,_,hl,_,_=>by simp at hl
 |f::fl,off,ks,x::xs,vs,hk,hl,hx,h=>by
  simp only[cS.kindsFields]at hk;split at hk
  ·rename_i hc;split at hk
   ·rename_i k1 hk1;split at hk
    ·rename_i hsz;obtain⟨k2,hk2,rfl⟩:=Option.map_eq_some_iff.1 hk;simp only[beq_iff_eq]at hsz;simp only[List.map_cons,rU]at h;split at h
     ·rename_i a b ha hb;simp only[Option.some.injEq]at h;subst h;have h0:=hx 0 f (by simp)
      simp only[List.getElem?_cons_zero]at h0;have e0:=hF _ _ _ _ _ hk1 h0 ha;rw[hc.2,pJ hsz]at e0;have e1:=zX hF fl (off+k1.length) k2 xs b hk2 (by simpa using hl) (fun i f' hf=>by
       have:=hx (i+1) f' (by simpa using hf)
       simpa using this) hb
      rw[List.length_append,List.take_add,e0,List.drop_drop,e1]
     ·cases h
    ·cases hk
   ·cases hk
  ·cases hk
theorem C4:∀(d t:Nat) (ks:List Kd) (fuel:Nat) (cs:List Value) (x:DataW H×List MemPlace) (vs:List Value),cS P d t=some ks→DataW.trod enc P w base sp held fuel t cs=some x→rD x.1=some vs→cs=vs
 | 0,_,_,_,_,_,_,hk,_,_=>by simp[cS]at hk
 |d+1,t,ks,fuel,cs,x,vs,hk,h,hv=>by
  have ih:=C4 d;simp only[cS]at hk;split at hk
  ·rename_i hu;have:∃b,cs=[.bool b]∧x=(.lit (.bool b),[]):=by
    cases fuel with
    |zero=>simp[DataW.trod]at h
    |succ n=>
     unfold DataW.trod at h;grind
   grind [rD,litVal]
  ·rename_i k hu;obtain⟨n,rfl,rfl,_⟩:=DataW.trod_int hu h;simpa[rD,litVal]using hv
  ·rename_i hu;obtain⟨s,rfl,rfl,_⟩:=DataW.trod_string hu h;simpa[rD,litVal]using hv
  ·rename_i fs hu;split at hk
   ·cases hk
   ·split at hk
    ·rename_i ks' hks;split at hk
     ·rename_i hsz;simp only[Option.some.injEq]at hk;subst hk;simp only[beq_iff_eq]at hsz;obtain⟨xs,n,rfl,rfl,hl,hxl,hget⟩:=DataW.trod_struct hu h;simp only[rD]at hv;have:=zX (P:=P) (cs:=cs) (K:=cS P d) (F:=fun t c=>DataW.trod enc P w base sp held n t c) (fun t ks c x v hk hf hv=>ih t ks n c x v hk hf hv) fs.toList 0 ks' xs vs hks (by simpa using hxl) (fun i f hf=>hget i f (by simpa using hf)) hv
      grind [pJ]
     ·cases hk
    ·cases hk
  ·rename_i n e hu;split at hk
   ·rename_i ks' hks;split at hk
    ·rename_i hsz;simp only[Bool.and_eq_true,beq_iff_eq]at hsz;obtain⟨xs,m,rfl,rfl,hl,hxl,hget⟩:=DataW.trod_array hu h;simp only[rD]at hv;rw[pJ hsz.1]at hget;have:=C3 (s:=ks'.length) (cs:=cs) (F:=fun c=>DataW.trod enc P w base sp held m e c) (fun c x v hf hv=>ih e ks' m c x v hks hf hv) xs 0 vs (fun i hi=>by
      grind) hv
     grind [pJ]
    ·cases hk
   ·cases hk
  ·cases hk
theorem GO{name:String}{d:DataW Unit}{rest:List (String×DataW Unit)}{g t:Nat}{ks:List Kd}{vs:List Value}(hg:P.globalNamed name=some g)(hty:(P.globals[g]?).map (·.type)=some t)(hk:cS P 9 t=some ks)(hv:rD d=some vs)
 (h:laidMet P ((name,d)::rest) w):w.var? P name=some vs.toArray:=by
 obtain⟨ps,⟨g',t',cs,fuel,p,q,hg',ht',hvar,hd,_,_⟩,_⟩:=h;obtain rfl:=Option.some.inj (hg.symm.trans hg');obtain rfl:=Option.some.inj (hty.symm.trans ht');have:=C4 _ _ _ _ _ _ _ hk hd hv;rw[hvar,← this]
theorem HW[gl:ax]{name:String}{g:Nat}{vs:List Value}(hg:P.globalNamed name=some g)(hvar:w.var? P name=some vs.toArray)(h1:vs.all (·.oneCell')=true)(hgl:∀i cs,gl.default.cells i=some cs→i=g∧cs=vs.map .sc):kB (Gh.bare w) w:=by
 intro i cs hi;obtain⟨rfl,rfl⟩:=hgl i cs hi;refine⟨?_,rz fun j x hx=>?_⟩
 ·exact mB.2 fun x hx=>by
   obtain⟨v,_,rfl⟩:=List.mem_map.1 hx;rfl
 ·rw[List.getElem?_map]at hx;obtain⟨v,hv,rfl⟩:=Option.map_eq_some_iff.1 hx;have hc:=World.var?_cell hg hvar j;rw[List.getElem?_toArray,hv]at hc;have hlt:i<w.heap.size:=by
   apply Decidable.byContradiction;intro hn;simp[World.cell?,Array.getElem?_eq_none (Nat.le_of_not_lt hn)]at hc
  rw[Nat.zero_add];exact⟨hlt,v,hc,List.all_eq_true.1 h1 v (List.mem_of_getElem? hv),by simp[R]⟩
end
end Go.AM
end
section
namespace Go.AM
abbrev Ren:=Nat→Nat→Option (Nat×Nat)
namespace AVal
mutual
def gu(f:Ren):AVal→AVal
 | .sc v=>.sc v
 | .agg cs=>.agg (jS f cs)
 | .bV cs=>.bV (jS f cs)
 | .ptr b ak i o=>match f b ak with
  |some (b',ver')=>.ptr b' ver' i o
  |none=>.aq
 | .bp cs o=>.bp cs o
 | .sl b ak sz o n=>match f b ak with
  |some (b',ver')=>.sl b' ver' sz o n
  |none=>.aq
 | .aD rows=>.aD rows
 | .fn g a b=>.fn g (jS f a) (jS f b)
 | .ei t v=>.ei t (gu f v)
 | .mp b=>match f b 0 with
  |some (b',0)=>.mp b'
  |_=>.aq
 | .gj b=>match f b 0 with
  |some (b',0)=>.gj b'
  |_=>.aq
 | .sa b ak i o s n=>match f b ak with
  |some (b',ver')=>.sa b' ver' i o s n
  |none=>.aq
 | .eU i o=>.eU i o
 | .emp=>.emp
 | .nz b=>.nz b
 | .aq=>.aq
def jS(f:Ren):List AVal→List AVal
 | []=>[]
 |a::as=>gu f a::jS f as
end
theorem zY(f:Ren):∀(l:List AVal),(jS f l).length=l.length
 | []=>rfl
 |_::as=>by simp[jS,zY f as]
end AVal
section
variable [ax] {g g':Gh} {w:World} {f:Ren}
mutual
theorem Bn(hst:∀k o,g.st k o→g'.st k o)(hf:∀b v b' v' x,f b v=some (b',v')→g.ai b v=some x→g'.ai b' v'=some x):∀(v:AVal) (x:Value),R g w v x→R g' w (v.gu f) x
 | .sc _,x,hr=>by simpa[R,AVal.gu]using hr
 | .agg cs,x,hr=>by
  simp only[R,AVal.gu]at hr ⊢;obtain⟨vs,e,h1,hl⟩:=hr;exact⟨vs,e,h1,od hst hf cs vs hl⟩
 | .bV cs,x,hr=>by
  simp only[R,AVal.gu]at hr ⊢;obtain⟨vs,e,hl⟩:=hr;exact⟨vs,e,od hst hf cs vs hl⟩
 | .ptr b ak i o,x,hr=>by
  grind [R,AVal.gu]
 | .bp cs o,x,hr=>by
  grind [R,AVal.gu,gI]
 | .sl b ak sz o n,x,hr=>by
  grind [R,AVal.gu]
 | .aD rows,x,hr=>by
  simp only[R,AVal.gu]at hr ⊢;obtain⟨a,cap,e,hle,hr⟩:=hr;refine⟨a,cap,e,hle,?_⟩;rcases hr with h0 |⟨k,off,sz,ha,hc⟩
  ·exact .inl h0
  ·exact .inr ⟨k,off,sz,ha,zc hst rows k off sz hc⟩
 | .fn _ a b,x,hr=>by
  simp only[R,AVal.gu]at hr ⊢;obtain⟨va,vb,e,h1,h2⟩:=hr;exact⟨va,vb,e,od hst hf a va h1,od hst hf b vb h2⟩
 | .ei t v,x,hr=>by
  simp only[R,AVal.gu]at hr ⊢;obtain⟨y,e,h1⟩:=hr;exact⟨y,e,Bn hst hf v y h1⟩
 | .mp b,x,hr=>by
  grind [R,AVal.gu]
 | .gj b,x,hr=>by
  grind [R,AVal.gu]
 | .sa b ak i o s n,x,hr=>by
  grind [R,AVal.gu]
 | .eU i o,x,hr=>by simpa[R,AVal.gu]using hr
 | .emp,x,hr=>by simpa[R,AVal.gu]using hr
 | .nz _,x,hr=>by simpa[R,AVal.gu]using hr
 | .aq,x,_=>by simp[R,AVal.gu]
theorem od(hst:∀k o,g.st k o→g'.st k o)(hf:∀b v b' v' x,f b v=some (b',v')→g.ai b v=some x→g'.ai b' v'=some x):∀(v:List AVal) (x:List Value),RL g w v x→RL g' w (AVal.jS f v) x
 | [],x,hr=>by simpa[RL,AVal.jS]using hr
 |a::as,x,hr=>by
  simp only[RL,AVal.jS]at hr ⊢;obtain⟨y,ys,e,h1,h2⟩:=hr;exact⟨y,ys,e,Bn hst hf a y h1,od hst hf as ys h2⟩
end
def Ey(f:Ren):af→af→Prop
 | .row _ sz rows,.row _ sz' rows'=>sz'=sz∧((rows'=rows∧rows.all AVal.aO=true)∨rows'=rows.map (AVal.jS f))
 | .map c es,.map c' es'=>c'=c∧((es'=es∧es.all (fun p=>p.1.pure&&p.2.1.pure)=true)∨es'=es.map fun p=>(p.1.gu f,p.2.1.gu f,p.2.2))
 | .loop st pend fid A ps as bd,.loop st' pend' fid' A' ps' as' bd'=>st'=st∧pend'=pend∧fid'=fid∧ps'=ps∧as'=as∧bd'=bd∧A'=AVal.jS f A
 | .defs,.defs=>True
 | .iter m since seen stepped,.iter m' since' seen' stepped'=>since'=since∧seen'=seen∧stepped'=stepped∧m'=m.gu f
 |_,_=>False
structure GP(g g':Gh)(H H':List af)(f:Ren):Prop where
 st:g'.st=g.st
 ai:∀b v b' v' x,f b v=some (b',v')→g.ai b v=some x→g'.ai b' v'=some x
 blk:∀(b':Nat) (x':af),H'[b']? =some x'→x'.live=none∨∃b x v v',H[b]? =some x∧x.live=some v∧x'.live=some v'∧f b v=some (b',v')∧g'.ai b' v'=g.ai b v∧Ey f x x'
 fresh:∀b' v,(H'[b']? =some .aR∨H'.length≤b')→g'.ai b' v=none
 next:∀(b':Nat) (x':af) v v',H'[b']? =some x'→x'.live=some v→v<v'→g'.ai b' v'=none
theorem I9{H H':List af}(h:GP g g' H H' f){b b' v v':Nat}{x x':af}(hg:Good g w b x)(hv:x.live=some v)(hv':x'.live=some v')(hr:g'.ai b' v'=g.ai b v)(hb:Ey f x x'):Good g' w b' x':=by
 have hst:∀k o,g.st k o→g'.st k o:=fun k o h'=>by rw[h.st];exact h'
 cases x<;>cases x'<;>simp only[Ey]at hb<;>try exact hb.elim
 case row.row ak sz rows ver' sz' rows'=>
  simp only[af.live,Option.some.injEq]at hv hv';subst hv;subst hv';obtain⟨rfl,hb⟩:=hb;rcases hg with⟨k,c,e,h1,h2,h3,h4,h5⟩ |⟨rfl,h2,h3⟩
  ·rcases hb with⟨rfl,hp⟩ |rfl
   ·refine .inl ⟨k,c,e,hr.trans h1,h2,gr _ _ fun j r hj=>?_,h4,h5⟩
    obtain⟨r1,r2⟩:=bR _ _ _ _ h3 hj;obtain⟨vs,v1,v2,v3,v4⟩:=dR r2;exact⟨r1,cW (jt hst _ _ (List.all_eq_true.1 hp r (List.mem_of_getElem? hj)) v3) v2 v4⟩
   ·refine .inl ⟨k,c,e,hr.trans h1,h2,gr _ _ fun j r hj=>?_,by simpa using h4,h5⟩
    rw[List.getElem?_map]at hj;obtain⟨r0,hj0,rfl⟩:=Option.map_eq_some_iff.1 hj;obtain⟨r1,r2⟩:=bR _ _ _ _ h3 hj0;obtain⟨vs,v1,v2,v3,v4⟩:=dR r2;exact⟨by rw[AVal.zY,r1],cW (od hst h.ai _ _ v3) v2 v4⟩
  ·rcases hb with⟨rfl,_⟩ |rfl
   ·exact .inr ⟨rfl,hr.trans h2,h3⟩
   ·exact .inr ⟨rfl,hr.trans h2,h3⟩
 case map.map c es c' es'=>
  simp only[af.live,Option.some.injEq]at hv hv';subst hv;subst hv';obtain⟨rfl,hb⟩:=hb;obtain⟨k,ents,h1,h2,h3⟩:=hg;refine⟨k,ents,hr.trans h1,h2,?_⟩;grind [jC,rQ,gP,Bn,h.ai]
 case loop.loop=>
  simp only[af.live,Option.some.injEq]at hv hv';subst hv;subst hv';obtain⟨rfl,rfl,rfl,rfl,rfl,rfl,rfl⟩:=hb;obtain⟨k,tmps,dk,fn,h1,h2,h3⟩:=hg;exact⟨k,tmps,dk,fn,hr.trans h1,h2,od hst h.ai _ _ h3⟩
 case iter.iter=>
  simp only[af.live,Option.some.injEq]at hv hv';subst hv;subst hv';obtain⟨rfl,rfl,rfl,rfl⟩:=hb;obtain⟨k,mo,h1,h2,h3⟩:=hg;exact⟨k,mo,hr.trans h1,h2,Bn hst h.ai _ _ h3⟩
 case defs.defs=>
  simp only[af.live,Option.some.injEq]at hv hv';subst hv;subst hv';obtain⟨k,h1,h2⟩:=hg;exact⟨k,hr.trans h1,h2⟩
theorem Inv.gu{H H':List af}(hi:Inv g H w)(h:GP g g' H H' f):Inv g' H' w:=by
 have hst:∀k o,g.st k o→g'.st k o:=fun k o h'=>by rw[h.st];exact h'
 refine⟨?_,?_,h.fresh,h.next,?_,?_,hi.b9.st hst⟩
 ·intro b' x' hb';rcases h.blk b' x' hb' with hl |⟨b,x,v,v',h1,h2,h3,h4,h5,h6⟩
  ·cases x'<;>simp[af.live]at hl<;>trivial
  ·exact I9 h (hi.good b x h1) h2 h3 h5 h6
 ·intro b1 b2 x1 x2 v1 v2 k z1 z2 hb1 hb2 l1 l2 k1 k2;rcases h.blk b1 x1 hb1 with hl |⟨c1,y1,u1,u1',p1,p2,p3,p4,p5,p6⟩
  ·rw[l1]at hl;cases hl
  ·rcases h.blk b2 x2 hb2 with hl |⟨c2,y2,u2,u2',q1,q2,q3,q4,q5,q6⟩
   ·rw[l2]at hl;cases hl
   ·rw[l1]at p3;cases p3;rw[l2]at q3;cases q3;rw[p5]at k1;rw[q5]at k2;have:=hi.inj c1 c2 y1 y2 u1 u2 k z1 z2 p1 q1 p2 q2 k1 k2;grind
 ·intro b' x' v k z o hb' hl hk hs;rcases h.blk b' x' hb' with hl' |⟨b,x,u,u',p1,p2,p3,p4,p5,p6⟩
  ·rw[hl]at hl';cases hl'
  ·rw[hl]at p3;cases p3;rw[p5]at hk;rw[h.st]at hs;exact hi.free b x u k z o p1 p2 hk hs
 ·intro k o hs;rw[h.st]at hs;exact hi.dc k o hs
end
def fK[ax](H0:List af)(s s':St):Prop:=
 ∀(g0:Gh) (w0:World) (g:Gh) (a:Act) (w:World),Inv g0 H0 w0→aK g0 H0 w0 g s.H w→dy g s a w→∃g',dy g' s' a w∧aK g0 H0 w0 g' s'.H w
theorem fK.refl[ax](H0:List af)(s:St):fK H0 s s:=fun _ _ g _ _ _ hl hs=>⟨g,hs,hl⟩
theorem fK.trans[ax]{H0:List af}{s s1 s2:St}(h:fK H0 s s1)(h':fK H0 s1 s2):fK H0 s s2:=fun g0 w0 g a w hi hl hs=>
 let⟨g1,hs1,hl1⟩:=h g0 w0 g a w hi hl hs
 h' g0 w0 g1 a w hi hl1 hs1
def af.oe:af→Option Nat
 | .row v _ _=>some v
 |_=>none
def l5:af→Bool
 | .row _ _ rows=>rows.all AVal.aO
 | .map _ es=>es.all fun p=>p.1.pure&&p.2.1.pure
 |_=>true
def yo(pu:List Nat)(H:List af):Prop:=∀b∈pu,∀x,H[b]? =some x→l5 x=true
def ki(b:Nat):List Nat→Nat→Option Nat
 | [],_=>none
 |c::cs,j=>match c==b with
  |true=>some j
  |false=>ki b cs (j+1)
def tZ:List Nat→Bool
 | []=>true
 |c::cs=> !cs.contains c&&tZ cs
def jG(bump:List Nat)(H0 H:List af)(b:Nat):Option (Nat×Nat):=
 match bump.contains b with
 |true=>match(H0[b]?).bind af.oe,(H[b]?).bind af.oe with
  |some v0,some v1=>some (v0,v1)
  |_,_=>none
 |false=>none
def nH(H0:List af)(b:Nat):Bool:=match H0[b]? with
 |some .aR=>false
 |some _=>true
 |none=>false
theorem F9{H0:List af}{b:Nat}(h:nH H0 b=true):b<H0.length:=by
 grind [nH]
theorem Bo{H0:List af}{b:Nat}(h:nH H0 b=false):H0[b]? =some .aR∨H0.length≤b:=by
 grind [nH]
def l8(bl bump:List Nat)(H0 H:List af):Ren:=fun b v=>
 match nH H0 b with
 |true=>match jG bump H0 H b with
  |some (v0,v1)=>if v=v1 then some (b,v0+1)else none
  |none=>some (b,v)
 |false=>match ki b bl 0 with
  |some j=>if(H[b]?).bind af.live=some v then some (H0.length+j,0)else none
  |none=>none
def fU(f:Ren)(p:Bool)(v':Option Nat):af→af
 | .row v sz rows=>.row (v'.getD v) sz (match p with |true=>rows |false=>rows.map (AVal.jS f))
 | .map c es=>.map c (match p with |true=>es |false=>es.map fun p=>(p.1.gu f,p.2.1.gu f,p.2.2))
 | .loop st pend fid A ps as bd=>.loop st pend fid (AVal.jS f A) ps as bd
 | .iter m since seen stepped=>.iter (m.gu f) since seen stepped
 |x=>x
def kJ(f:Ren)(pu bump:List Nat)(H0 H:List af):Nat→List af→List af
 |_,[]=>[]
 |b,x::xs=>(match nH H0 b with |true=>fU f (pu.contains b) ((jG bump H0 H b).map (·.1+1)) x |false=>.aR)::kJ f pu bump H0 H (b+1) xs
def AB(f:Ren):List nG→Option (List nG)
 | []=>some []
 | .call h args::ds=>(AB f ds).map (.call h (AVal.jS f args):: ·)
 | .mark b::ds=>if f b 0=some (b,0)then(AB f ds).map (.mark b:: ·)else none
def Ja(bl bump pu:List Nat)(H0:List af)(s:St):Option St:=
 match tZ bl&&bl.all (fun b=> !nH H0 b&&decide (b<s.H.length))with
 |true=>match AB (l8 bl bump H0 s.H) s.D with
  |some D=>some ⟨AVal.jS (l8 bl bump H0 s.H) s.A,kJ (l8 bl bump H0 s.H) pu bump H0 s.H 0 (s.H.take H0.length)++bl.map (fun b=>fU (l8 bl bump H0 s.H) (pu.contains b) (some 0) (s.H.getD b .dead)),D⟩
  |none=>none
 |false=>none
theorem oQ:∀{bl:List Nat} {b i j:Nat},ki b bl i=some j→i≤j∧bl[j - i]? =some b
 | [],b,i,j,h=>by simp[ki]at h
 |c::cs,b,i,j,h=>by
  simp only[ki]at h;split at h
  ·grind
  ·obtain⟨h1,h2⟩:=oQ h;grind
theorem vv:∀{bl:List Nat} {b j:Nat} (i:Nat),tZ bl=true→bl[j]? =some b→ki b bl i=some (i+j)
 | [],b,j,i,_,h=>by simp at h
 |c::cs,b,0,i,_,h=>by simp at h;subst h;simp[ki]
 |c::cs,b,j+1,i,hn,h=>by
  simp only[tZ,Bool.and_eq_true,Bool.not_eq_true']at hn;simp only[List.getElem?_cons_succ]at h;have hne:(c==b)=false:=by
   apply beq_false_of_ne;rintro rfl;have:=List.mem_of_getElem? h;simp[this]at hn
  simp only[ki,hne];rw[vv (i+1) hn.2 h,show i+1+j=i+(j+1)by omega]
theorem vw(f:Ren)(pu bump:List Nat)(H0 H:List af):∀(l:List af) (b j:Nat),(kJ f pu bump H0 H b l)[j]? =(l[j]?).map fun x=>match nH H0 (b+j)with |true=>fU f (pu.contains (b+j)) ((jG bump H0 H (b+j)).map (·.1+1)) x |false=>.aR
 | [],b,j=>by simp[kJ]
 |x::xs,b,0=>by simp[kJ]
 |x::xs,b,j+1=>by
  simp only[kJ,List.getElem?_cons_succ];rw[vw f pu bump H0 H xs (b+1) j,show b+1+j=b+(j+1)by omega]
theorem l6(f:Ren)(p:Bool)(v':Option Nat)(x:af):(fU f p v' x).live=match x with | .row v _ _=>some (v'.getD v) |x=>x.live:=by cases x<;>rfl
theorem tA(f:Ren)(p:Bool)(v':Option Nat){x:af}(hp:p=true→l5 x=true)(hl:x.live≠none):Ey f x (fU f p v' x):=by
 cases x with
 |row v sz rows=>
  refine⟨rfl,?_⟩;cases p with
  |true=>exact .inl ⟨rfl,hp rfl⟩
  |false=>exact .inr rfl
 |map c es=>
  refine⟨rfl,?_⟩;cases p with
  |true=>exact .inl ⟨rfl,hp rfl⟩
  |false=>exact .inr rfl
 |loop=>exact⟨rfl,rfl,rfl,rfl,rfl,rfl,rfl⟩
 |defs=>trivial
 |iter=>exact⟨rfl,rfl,rfl,rfl⟩
 |aR=>exact absurd rfl hl
 |dead=>exact absurd rfl hl
def jT(bl bump:List Nat)(H0 H:List af)(g:Gh):Gh:=
 {ai:=fun b v=>match decide (b<H0.length)with
  |true=>match nH H0 b with
   |true=>match jG bump H0 H b with
    |some (v0,v1)=>if v≤v0 then g.ai b v else if v=v0+1 then g.ai b v1 else none
    |none=>g.ai b v
   |false=>none
  |false=>match bl[b - H0.length]? with
   |some c=>if v=0 then(match(H[c]?).bind af.live with |some u=>g.ai c u |none=>none)else none
   |none=>none
  st:=g.st}
theorem zZ{x:af}{v:Nat}(h:x.oe=some v):x.live=some v:=by cases x<;>simp[af.oe]at h<;>simp[af.live,h]
theorem og{bump:List Nat}{H0 H:List af}{b v0 v1:Nat}(h:jG bump H0 H b=some (v0,v1)):(∃x0,H0[b]? =some x0∧x0.oe=some v0)∧∃x1,H[b]? =some x1∧x1.oe=some v1:=by
 grind [jG]
theorem Jb[ax]{bl bump pu:List Nat}{H0:List af}{s s':St}(u0:yo pu s.H)(h:Ja bl bump pu H0 s=some s'):fK H0 s s':=by
 intro g0 w0 g a w hi0 hl hs;unfold Ja at h;split at h
 ·rename_i hc;simp only[Bool.and_eq_true,List.all_eq_true,decide_eq_true_eq,Bool.not_eq_true']at hc;obtain⟨hnd,hbl⟩:=hc;split at h
  ·rename_i D hD;simp only[Option.some.injEq]at h;subst h;have hlen:H0.length≤s.H.length:=hl.len;have htl:(s.H.take H0.length).length=H0.length:=by simp;omega
   have hrl:(kJ (l8 bl bump H0 s.H) pu bump H0 s.H 0 (s.H.take H0.length)).length=H0.length:=by
    have:∀(l:List af) (b:Nat),(kJ (l8 bl bump H0 s.H) pu bump H0 s.H b l).length=l.length:=by
     intro l;induction l with
     |nil=>intro b;rfl
     |cons x xs ih=>intro b;simp[kJ,ih]
    rw[this,htl]
   have side:∀(b':Nat) (x':af),(kJ (l8 bl bump H0 s.H) pu bump H0 s.H 0 (s.H.take H0.length)++bl.map (fun b=>fU (l8 bl bump H0 s.H) (pu.contains b) (some 0) (s.H.getD b .dead)))[b']? =some x'→
    (b'<H0.length∧nH H0 b'=true∧∃x,s.H[b']? =some x∧x'=fU (l8 bl bump H0 s.H) (pu.contains b') ((jG bump H0 s.H b').map (·.1+1)) x)∨
    (b'<H0.length∧nH H0 b'=false∧x'=.aR)∨
    (H0.length≤b'∧∃b x,bl[b' - H0.length]? =some b∧s.H[b]? =some x∧x'=fU (l8 bl bump H0 s.H) (pu.contains b) (some 0) x):=by
    intro b' x' hx;by_cases hb:b'<H0.length
    ·grind [vw,nH]
    ·grind
   have hpure:∀b x,s.H[b]? =some x→pu.contains b=true→l5 x=true:=fun b x hx hc=>u0 b (by simpa using hc) x hx
   have ok:GP g (jT bl bump H0 s.H g) s.H (kJ (l8 bl bump H0 s.H) pu bump H0 s.H 0 (s.H.take H0.length)++bl.map (fun b=>fU (l8 bl bump H0 s.H) (pu.contains b) (some 0) (s.H.getD b .dead))) (l8 bl bump H0 s.H):=by
    refine⟨rfl,?_,?_,?_,?_⟩
    ·intro b v b' v' x hf hr;unfold l8 at hf;split at hf
     ·grind [F9,jT]
     ·rename_i hlt;split at hf
      ·rename_i j hj;split at hf
       ·rename_i hv;simp only[Option.some.injEq,Prod.mk.injEq]at hf;obtain⟨rfl,rfl⟩:=hf;obtain⟨_,hj⟩:=oQ hj;have h1:decide (H0.length+j<H0.length)=false:=by simp
        simp only[jT,h1,Nat.add_sub_cancel_left];grind
       ·cases hf
      ·cases hf
    ·intro b' x' hx;rcases side b' x' hx with⟨hlt,hold,x,h1,rfl⟩ |⟨_,_,rfl⟩ |⟨hge,b,x,h1,h2,rfl⟩
     ·by_cases hlv:x.live=none
      ·grind [l6,af.live]
      ·right;obtain⟨v,hv⟩:=Option.ne_none_iff_exists'.1 hlv;have hlt':decide (b'<H0.length)=true:=by simpa using hlt
       cases hbu:jG bump H0 s.H b' with
       |none=>
        refine⟨b',x,v,v,h1,hv,?_,by simp only[l8,hold,hbu],by simp only[jT,hlt',hold,hbu],tA _ _ _ (hpure _ _ h1) hlv⟩
        grind [l6,af.live]
       |some p=>
        obtain⟨v0,v1⟩:=p;obtain⟨_,x1,q1,q2⟩:=og hbu;rw[h1]at q1;cases q1;have:v=v1:=by rw[zZ q2]at hv;cases hv;rfl
        subst this;refine⟨b',x,v,v0+1,h1,hv,?_,by simp only[l8,hold,hbu,if_true],?_,tA _ _ _ (hpure _ _ h1) hlv⟩
        ·grind [l6,af.oe]
        grind [jT]
     ·exact .inl rfl
     ·by_cases hlv:x.live=none
      ·grind [l6,af.live]
      ·right;obtain⟨v,hv⟩:=Option.ne_none_iff_exists'.1 hlv;have hbge:=(hbl b (List.mem_of_getElem? h1)).1;have hlt2:decide (b'<H0.length)=false:=by simp;omega
       refine⟨b,x,v,0,h2,hv,?_,?_,?_,tA _ _ _ (hpure _ _ h2) hlv⟩
       ·rw[l6];cases x<;>simp[af.live]at hv ⊢
       ·simp only[l8,hbge,vv 0 hnd h1,Nat.zero_add];grind
       grind [jT]
    ·intro b' v hb;rcases hb with hb |hb
     ·rcases side b' _ hb with⟨hlt,hold,x,h1,hx⟩ |⟨hlt,hold,_⟩ |⟨hge,b,x,h1,h2,hx⟩
      ·have hx':x=.aR:=by cases x<;>simp[fU]at hx;rfl
       subst hx';have hlt':decide (b'<H0.length)=true:=by simpa using hlt
       have hbu:jG bump H0 s.H b'=none:=by
        cases hbu:jG bump H0 s.H b' with
        |none=>rfl
        |some p=>
         grind [og,af.oe]
       simp only[jT,hlt',hold,hbu];exact hs.inv.fresh b' v (.inl h1)
      ·grind [jT]
      ·have hx':x=.aR:=by cases x<;>simp[fU]at hx;rfl
       grind [jT,af.live]
     grind [jT]
    ·intro b' x' v v' hx hv hlt;rcases side b' x' hx with⟨hlb,hold,x,h1,rfl⟩ |⟨_,_,rfl⟩ |⟨hge,b,x,h1,h2,rfl⟩
     ·have hlt':decide (b'<H0.length)=true:=by simpa using hlb
      rw[l6]at hv;cases hbu:jG bump H0 s.H b' with
      |none=>
       simp only[jT,hlt',hold,hbu];rw[hbu]at hv;refine hs.inv.next b' x v v' h1 ?_ hlt;grind [af.live]
      |some p=>
       grind [og,jT,af.oe]
     ·cases hv
     grind [jT]
   refine⟨jT bl bump H0 s.H g,⟨hs.inv.gu ok,od (g:=g) (g':=jT bl bump H0 s.H g) (fun _ _ h=>h) ok.ai _ _ hs.tmps,?_⟩,?_⟩
   ·have key:∀(l l':List nG) (ds:List Deferred),AB (l8 bl bump H0 s.H) l=some l'→RD g w l ds→RD (jT bl bump H0 s.H g) w l' ds:=by
     intro l;induction l with
     |nil=>intro l' ds h hd;simp[AB]at h;subst h;exact hd
     |cons d l ih=>
      intro l' ds h hd;obtain⟨d',ds',rfl,h1,h2⟩:=hd;cases d with
      |call f args=>
       simp only[AB,Option.map_eq_some_iff]at h;obtain⟨l2,h,rfl⟩:=h;obtain⟨cap,t1,t2⟩:=h1;exact⟨d',ds',rfl,⟨cap,t1,od (g:=g) (g':=jT bl bump H0 s.H g) (fun _ _ h=>h) ok.ai _ _ t2⟩,ih _ _ h h2⟩
      |mark b=>
       simp only[AB]at h;split at h
       ·rename_i hb;obtain⟨l2,h0,rfl⟩:=Option.map_eq_some_iff.1 h;obtain⟨k,sz,t1,t2⟩:=h1;exact⟨d',ds',rfl,⟨k,sz,ok.ai _ _ _ _ _ hb t1,t2⟩,ih _ _ h0 h2⟩
       ·cases h
    exact key _ _ _ hD hs.defs
   ·refine⟨⟨?_,hl.ext.st,hl.ext.cell,hl.ext.shape⟩,hl.size,hl.keep,?_,by simp[hrl],hl.os,hl.tape,hl.output,fun k o hk hs=>?_,?_,?_⟩
    ·intro b v x hx;have hold:nH H0 b=true:=by
      cases ho:nH H0 b with
      |true=>rfl
      |false=>rw[hi0.fresh b v (Bo ho)]at hx;cases hx
     have hlt':decide (b<H0.length)=true:=by simpa using F9 hold
     cases hbu:jG bump H0 s.H b with
     |none=>simp only[jT,hlt',hold,hbu];exact hl.ext.ai b v x hx
     |some p=>
      obtain⟨v0,v1⟩:=p;obtain⟨⟨x0,q1,q2⟩,_⟩:=og hbu;simp only[jT,hlt',hold,hbu];have:v≤v0:=by
       apply Decidable.byContradiction;intro hn;rw[hi0.next b x0 v0 v q1 (zZ q2) (by omega)]at hx;cases hx
      rw[if_pos this];exact hl.ext.ai b v x hx
    ·rintro k hk ⟨b',x',v',z,h1,h2,h3⟩;rcases ok.blk b' x' h1 with hn |⟨b,x,v,v2,p1,p2,p3,p4,p5,p6⟩
     ·rw[h2]at hn;cases hn
     ·rw[h2]at p3;cases p3;rw[p5]at h3;exact hl.own k hk ⟨b,x,v,z,p1,p2,h3⟩
    ·rcases hl.stk k o hk hs with h1 |⟨h1,h2⟩
     ·exact .inl h1
     ·refine .inr ⟨h1,?_⟩;rintro⟨b',x',v',z,q1,q2,q3⟩;rcases ok.blk b' x' q1 with hn |⟨b,x,v,v2,p1,p2,p3,p4,p5,p6⟩
      ·rw[q2]at hn;cases hn
      ·rw[q2]at p3;cases p3;rw[p5]at q3;exact h2 ⟨b,x,v,z,p1,p2,q3⟩
    ·intro b hb;have hlt:b<H0.length:=(List.getElem?_eq_some_iff.1 hb).1;have hlt':decide (b<H0.length)=true:=by simpa using hlt
     obtain⟨d1,d2⟩:=hl.ot b hb;have hbu:jG bump H0 s.H b=none:=by
      cases hbu:jG bump H0 s.H b with
      |none=>rfl
      |some p=>
       grind [og,af.oe]
     have hold:nH H0 b=true:=by simp[nH,hb]
     refine⟨?_,fun ak=>by grind [jT]⟩
     rw[List.getElem?_append_left (by omega),vw,Nat.zero_add,List.getElem?_take,if_pos hlt,d1]
     simp only[Option.map_some,hold];rfl
    ·intro b' v' k z hr;simp only[jT]at hr;split at hr
     ·split at hr
      ·split at hr
       ·split at hr
        ·exact hl.mz b' _ k z hr
        ·split at hr
         ·exact hl.mz b' _ k z hr
         ·cases hr
       ·exact hl.mz b' _ k z hr
      ·cases hr
     ·split at hr
      ·rename_i c hcb;split at hr
       ·split at hr
        ·rcases hl.mz c _ k z hr with⟨u,z',hu⟩ |hn
         ·have:=(hbl c (List.mem_of_getElem? hcb)).1;rw[hi0.fresh c u (Bo this)]at hu;cases hu
         ·exact .inr hn
        ·cases hr
       ·cases hr
      ·cases hr
  ·cases h
 ·cases h
def HX:AVal→AVal
 | .sc (.slice none 0 0)=>.aD []
 | .emp=>.aD []
 | .nz _=>.aD []
 |v=>v
mutual
def gm:AVal→AVal
 | .sc v=>HX (.sc v)
 | .emp=>.aD []
 | .nz _=>.aD []
 | .agg cs=>.agg (jk cs)
 | .bV cs=>.bV (jk cs)
 | .fn f a b=>.fn f (jk a) (jk b)
 | .ei t v=>.ei t v
 | .bp cs o=>.bp (jk cs) o
 |v=>v
def jk:List AVal→List AVal
 | []=>[]
 |a::as=>gm a::jk as
end
section
variable [ax] {g:Gh} {w:World}
theorem DY{v:AVal}{x:Value}(h:R g w v x):R g w (HX v) x:=by
 unfold HX;grind [eC,R]
mutual
theorem Jc:∀(v:AVal),v.pure=true→(gm v).pure=true
 | .sc v,h=>by
  simp only[gm,HX];split<;>simp_all [AVal.pure]
 | .emp,_=>by simp[gm,AVal.pure]
 | .nz _,_=>by simp[gm,AVal.pure]
 | .agg cs,h=>by simp only[AVal.pure]at h;simp only[gm,AVal.pure,oI cs h]
 | .bV cs,h=>by simp only[AVal.pure]at h;simp only[gm,AVal.pure,oI cs h]
 | .fn f a b,h=>by simp only[AVal.pure,Bool.and_eq_true]at h;simp only[gm,AVal.pure,oI a h.1,oI b h.2,Bool.and_self]
 | .ei t v,h=>by simpa only[gm]using h
 | .bp cs o,_=>by simp[gm,AVal.pure]
 | .ptr ..,h=>by simpa only[gm]using h
 | .sl ..,h=>by simpa only[gm]using h
 | .aD _,h=>by simpa only[gm]using h
 | .mp _,h=>by simpa only[gm]using h
 | .gj _,h=>by simpa only[gm]using h
 | .sa ..,h=>by simpa only[gm]using h
 | .eU ..,h=>by simpa only[gm]using h
 | .aq,h=>by simpa only[gm]using h
theorem oI:∀(l:List AVal),AVal.aO l=true→AVal.aO (jk l)=true
 | [],_=>rfl
 |a::as,h=>by simp only[AVal.aO,Bool.and_eq_true]at h;simp only[jk,AVal.aO,Jc a h.1,oI as h.2,Bool.and_self]
end
mutual
theorem zf:∀(v:AVal) (x:Value),R g w v x→R g w (gm v) x
 | .sc v,x,h=>by simp only[gm];exact DY h
 | .emp,x,h=>by simp only[gm];exact DY (v:=.emp) h
 | .nz b,x,h=>by simp only[gm];exact DY (v:=.nz b) h
 | .agg cs,x,h=>by
  simp only[gm,R]at h ⊢;obtain⟨vs,e,h1,hl⟩:=h;exact⟨vs,e,h1,rV cs vs hl⟩
 | .bV cs,x,h=>by
  simp only[gm,R]at h ⊢;obtain⟨vs,e,hl⟩:=h;exact⟨vs,e,rV cs vs hl⟩
 | .fn f a b,x,h=>by
  simp only[gm,R]at h ⊢;obtain⟨va,vb,e,h1,h2⟩:=h;exact⟨va,vb,e,rV a va h1,rV b vb h2⟩
 | .ei t v,x,h=>by simpa only[gm]using h
 | .bp cs o,x,h=>by
  simp only[gm,R]at h ⊢;obtain⟨k,off,e,hp,hc⟩:=h;exact⟨k,off,e,oI cs hp,Ez cs k off hc⟩
 | .ptr ..,x,h=>by simpa only[gm]using h
 | .sl ..,x,h=>by simpa only[gm]using h
 | .aD _,x,h=>by simpa only[gm]using h
 | .mp _,x,h=>by simpa only[gm]using h
 | .gj _,x,h=>by simpa only[gm]using h
 | .sa ..,x,h=>by simpa only[gm]using h
 | .eU ..,x,h=>by simpa only[gm]using h
 | .aq,x,h=>by simpa only[gm]using h
theorem rV:∀(l:List AVal) (vs:List Value),RL g w l vs→RL g w (jk l) vs
 | [],vs,h=>by simpa only[jk]using h
 |a::as,vs,h=>by
  simp only[jk,RL]at h ⊢;obtain⟨y,ys,e,h1,h2⟩:=h;exact⟨y,ys,e,zf a y h1,rV as ys h2⟩
theorem Ez:∀(l:List AVal) (k o:Nat),RC g w l k o→RC g w (jk l) k o
 | [],k,o,h=>by simpa only[jk]using h
 |a::as,k,o,h=>by
  simp only[jk,RC]at h ⊢;obtain⟨⟨hs,y,hy,ho,hr⟩,h2⟩:=h;exact⟨⟨hs,y,hy,ho,zf a y hr⟩,Ez as k (o+1) h2⟩
end
theorem Ga{A:List AVal}{vs:List Value}{d:Nat}{v v':AVal}(h:RL g w A vs)(hd:A[d]? =some v)(hv:∀x,R g w v x→R g w v' x):RL g w (A.set d v') vs:=by
 grind [cK,o7]
theorem Inv.HY{H:List af}(hi:Inv g H w){b ak sz i j:Nat}{rows:List (List AVal)}{cs:List AVal}{v v':AVal}(hb:H[b]? =some (.row ak sz rows))(hcs:rows[i]? =some cs)(hj:cs[j]? =some v)(hv:∀x,R g w v x→R g w v' x):
 Inv g (H.set b (.row ak sz (rows.set i (cs.set j v')))) w∧aK g H w g (H.set b (.row ak sz (rows.set i (cs.set j v')))) w:=by
 have hlt:b<H.length:=(List.getElem?_eq_some_iff.1 hb).1;have f:∀(b':Nat) (x':af) (v1:Nat),(H.set b (.row ak sz (rows.set i (cs.set j v'))))[b']? =some x'→x'.live=some v1→∃x1,H[b']? =some x1∧x1.live=some v1:=by
  intro b' x' v1 h hl;rcases bu h with⟨rfl,he,_⟩ |⟨_,h⟩
  ·subst he;exact⟨_,hb,hl⟩
  ·exact⟨x',h,hl⟩
 refine⟨⟨?_,?_,?_,?_,?_,hi.dc,hi.b9⟩,⟨Ext.refl g w,Nat.le_refl _,fun _ _ _=>rfl,?_,by simp,rfl,⟨rfl,Nat.le_refl _⟩,rfl,fun _ _ _ h=>.inl h,?_,fun _ ak _ z h=>.inl ⟨ak,z,h⟩⟩⟩
 ·intro b' x h;rcases bu h with⟨rfl,he,_⟩ |⟨hne,h⟩
  ·subst he;rcases hi.good _ _ hb with⟨k,c,e,h1,h2,h3,h4,h5⟩ |⟨h1,_⟩
   ·refine .inl ⟨k,c,e,h1,h2,gr _ _ fun i' r hi'=>?_,by simpa using h4,h5⟩
    by_cases hii:i=i'
    ·subst hii;have hil:i<rows.length:=(List.getElem?_eq_some_iff.1 hcs).1;rw[List.getElem?_set_self hil]at hi';cases hi';obtain⟨r1,r2⟩:=bR _ _ _ _ h3 hcs;obtain⟨vs,v1,v2,v3,v4⟩:=dR r2;exact⟨by simpa using r1,cW (Ga v3 hj hv) v2 v4⟩
    ·rw[List.getElem?_set_ne hii]at hi';exact bR _ _ _ _ h3 hi'
   ·subst h1;simp at hcs
  ·exact hi.good b' x h
 ·intro b1 b2 x1 x2 v1 v2 k z1 z2 h1 h2 l1 l2 k1 k2;obtain⟨y1,p1,p2⟩:=f _ _ _ h1 l1;obtain⟨y2,q1,q2⟩:=f _ _ _ h2 l2;exact hi.inj b1 b2 y1 y2 v1 v2 k z1 z2 p1 q1 p2 q2 k1 k2
 ·intro b' v h;rcases h with h |h
  ·rcases bu h with⟨rfl,he,_⟩ |⟨_,h⟩
   ·cases he
   ·exact hi.fresh b' v (.inl h)
  ·exact hi.fresh b' v (.inr (by simpa using h))
 ·intro b' x v v' h hl hv;obtain⟨y1,p1,p2⟩:=f _ _ _ h hl;exact hi.next b' y1 v v' p1 p2 hv
 ·intro b' x v k z o h hl hk;obtain⟨y1,p1,p2⟩:=f _ _ _ h hl;exact hi.free b' y1 v k z o p1 p2 hk
 ·rintro k _ ⟨b',x,v,z,h,hl,hz⟩;obtain⟨y1,p1,p2⟩:=f _ _ _ h hl;exact⟨b',y1,v,z,p1,p2,hz⟩
 grind
end
inductive Pl where
 |s (d:Nat)
 |c (d j:Nat)
 |b (b j:Nat)
def jU(s:St):Pl→Option AVal
 | .s d=>s.A[d]?
 | .c d j=>match s.A[d]? with
  |some (.ptr b ak i o)=>match s.H[b]? with
   |some (.row v _ rows)=>match decide (v=ak)with
    |true=>(rows[i]?).bind fun cs=>cs[o+j]?
    |false=>none
   |_=>none
  |_=>none
 | .b b j=>match s.H[b]? with
  |some (.row _ _ rows)=>(rows[0]?).bind fun cs=>cs[j]?
  |_=>none
def vz(s:St)(v':AVal):Pl→St
 | .s d=>{s with A:=s.A.set d v'}
 | .c d j=>match s.A[d]? with
  |some (.ptr b _ i o)=>match s.H[b]? with
   |some (.row v sz rows)=>{s with H:=s.H.set b (.row v sz (rows.set i ((rows.getD i []).set (o+j) v')))}
   |_=>s
  |_=>s
 | .b b j=>match s.H[b]? with
  |some (.row v sz rows)=>{s with H:=s.H.set b (.row v sz (rows.set 0 ((rows.getD 0 []).set j v')))}
  |_=>s
theorem pK[ax]{s:St}{p:Pl}{v v':AVal}(hp:jU s p=some v){g:Gh}{a:Act}{w:World}(hs:dy g s a w)(hv:∀x,R g w v x→R g w v' x):dy g (vz s v' p) a w∧aK g s.H w g (vz s v' p).H w:=by
 cases p with
 |s d=>exact⟨⟨hs.inv,Ga hs.tmps hp hv,hs.defs⟩,aK.refl _ _ _⟩
 |c d j=>
  simp only[jU]at hp;split at hp
  ·rename_i b ak i o hd;split at hp
   ·rename_i v0 sz rows hb;split at hp
    ·obtain⟨cs,h1,h2⟩:=Option.bind_eq_some_iff.1 hp;obtain⟨i1,i2⟩:=hs.inv.HY hb h1 h2 hv;have hgd:rows.getD i []=cs:=by rw[List.getD_eq_getElem?_getD,h1];rfl
     simp only[vz,hd,hb,hgd];exact⟨⟨i1,bq i2.ext _ _ hs.tmps,cT i2.ext _ _ hs.defs⟩,i2⟩
    ·cases hp
   ·cases hp
  ·cases hp
 |b b j=>
  simp only[jU]at hp;split at hp
  ·rename_i v0 sz rows hb;obtain⟨cs,h1,h2⟩:=Option.bind_eq_some_iff.1 hp;obtain⟨i1,i2⟩:=hs.inv.HY hb h1 h2 hv;have hgd:rows.getD 0 []=cs:=by rw[List.getD_eq_getElem?_getD,h1];rfl
   simp only[vz,hb,hgd];exact⟨⟨i1,bq i2.ext _ _ hs.tmps,cT i2.ext _ _ hs.defs⟩,i2⟩
  ·cases hp
def KO(s:St)(p:Pl):Option St:=match jU s p with
 |some v=>some (vz s (HX v) p)
 |none=>none
theorem Jd[ax]{H0:List af}{s s':St}{p:Pl}(h:KO s p=some s'):fK H0 s s':=by
 unfold KO at h;split at h
 ·rename_i v hv;simp only[Option.some.injEq]at h;subst h;intro g0 w0 g a w _ hl hs;obtain⟨h1,h2⟩:=pK hv hs fun _=>DY
  exact⟨g,h1,hl.trans h2⟩
 ·cases h
def Je(s:St)(p:Pl)(sz:Nat):Option St:=match jU s p,decide (0<sz)with
 |some (.sc (.slice none 0 0)),true=>some (vz {s with H:=s.H++[.row 0 sz []]} (.sl s.H.length 0 sz 0 0) p)
 |some _,_=>some s
 |none,_=>none
theorem HZ[ax]{H0:List af}{s s':St}{p:Pl}{sz:Nat}(h:Je s p sz=some s'):fK H0 s s':=by
 unfold Je at h;split at h
 ·rename_i hv hz;simp only[Option.some.injEq]at h;subst h;intro g0 w0 g a w _ hl hs;obtain⟨i1,i2⟩:=hs.inv.L4 (sz:=sz) (by simpa using hz)
  have hs1:dy g {s with H:=s.H++[.row 0 sz []]} a w:=⟨i1,bq i2.ext _ _ hs.tmps,cT i2.ext _ _ hs.defs⟩;have hv1:jU {s with H:=s.H++[.row 0 sz []]} p=some (.sc (.slice none 0 0)):=by
   cases p with
   |s d=>exact hv
   |c d j=>
    grind [jU]
   |b b j=>
    grind [jU]
  obtain⟨h1,h2⟩:=pK hv1 hs1 (v':=.sl s.H.length 0 sz 0 0) fun x hx=>by
   have:=eC hx;subst this;simp[R]
  exact⟨g,h1,(hl.trans i2).trans h2⟩
 ·grind [fK.refl]
 ·cases h
set_option linter.unusedVariables false in
theorem GQ[ax]{g:Gh}{H:List af}{w:World}{g0:Gh}{H0:List af}{w0:World}(hi0:Inv g0 H0 w0)(hi:Inv g H w)(hl:aK g0 H0 w0 g H w){b ak sz:Nat}{rows:List (List AVal)}(hb:H[b]? =some (.row ak sz rows)):
 Inv {ai:=g.ai,st:=fun k o=>g.st k o∨∃z,g.ai b ak=some (k,z)} (H.set b .dead) w∧aK g0 H0 w0 {ai:=g.ai,st:=fun k o=>g.st k o∨∃z,g.ai b ak=some (k,z)} (H.set b .dead) w∧
 Ext g w {ai:=g.ai,st:=fun k o=>g.st k o∨∃z,g.ai b ak=some (k,z)} w:=by
 have hext:Ext g w {ai:=g.ai,st:=fun k o=>g.st k o∨∃z,g.ai b ak=some (k,z)} w:=⟨fun _ _ _ h=>h,fun _ _ h=>.inl h,fun _ _ _=>rfl,fun _ _ h=>h⟩
 have f:∀(b':Nat) (x':af),(H.set b af.dead)[b']? =some x'→x'=.dead∨(b'≠b∧H[b']? =some x'):=by
  intro b' x' h;rcases bu h with⟨rfl,he,_⟩ |⟨h1,h⟩
  ·exact .inl he
  ·exact .inr ⟨h1,h⟩
 refine⟨⟨?_,?_,?_,?_,?_,?_,hi.b9.mono hext⟩,⟨⟨hl.ext.ai,fun k o h=>.inl (hl.ext.st k o h),hl.ext.cell,hl.ext.shape⟩,hl.size,hl.keep,?_,by simpa using hl.len,hl.os,hl.tape,hl.output,?_,?_,hl.mz⟩,hext⟩
 ·intro b' x' h;rcases f _ _ h with rfl |⟨hne,h⟩
  ·trivial
  ·exact gq hext (hi.good b' x' h) (fun _ _ _ _ _=>rfl) fun _ _ h=>h
 ·intro b1 b2 x1 x2 v1 v2 k z1 z2 h1 h2 l1 l2;rcases f _ _ h1 with rfl |⟨_,h1⟩
  ·cases l1
  ·rcases f _ _ h2 with rfl |⟨_,h2⟩
   ·cases l2
   ·exact hi.inj b1 b2 x1 x2 v1 v2 k z1 z2 h1 h2 l1 l2
 ·grind [hi.fresh]
 ·intro b' x' v v' h hlv;rcases f _ _ h with rfl |⟨_,h⟩
  ·cases hlv
  ·exact hi.next b' x' v v' h hlv
 ·intro b' x' v k z o h hlv hk hs;rcases f _ _ h with rfl |⟨hne,h⟩
  ·cases hlv
  ·rcases hs with hs |⟨z',hz⟩
   ·exact hi.free b' x' v k z o h hlv hk hs
   ·exact hne (hi.inj b' b x' _ v ak k z z' h hb hlv rfl hk hz)
 ·intro k o hs;rcases hs with hs |⟨z,hz⟩
  ·exact hi.dc k o hs
  ·exact hi.jL hb rfl hz
 ·rintro k hk ⟨b',x',v,z,h,hlv,hz⟩;rcases f _ _ h with rfl |⟨_,h⟩
  ·cases hlv
  ·exact hl.own k hk ⟨b',x',v,z,h,hlv,hz⟩
 ·rintro k o hk (hs |⟨z,hz⟩)
  ·rcases hl.stk k o hk hs with h1 |⟨h1,h2⟩
   ·exact .inl h1
   ·refine .inr ⟨h1,?_⟩;rintro⟨b',x',v,z,h,hlv,hz⟩;rcases f _ _ h with rfl |⟨_,h⟩
    ·cases hlv
    ·exact h2 ⟨b',x',v,z,h,hlv,hz⟩
  ·refine .inr ⟨hl.own k hk ⟨b,_,ak,z,hb,rfl,hz⟩,?_⟩;rintro⟨b',x',v,z',h,hlv,hz'⟩;rcases f _ _ h with rfl |⟨hne,h⟩
   ·cases hlv
   ·exact hne (hi.inj b' b x' _ v ak k z' z h hb hlv rfl hz' hz)
 ·intro b1 hb1;obtain⟨d1,d2⟩:=hl.ot b1 hb1;grind
def Jf(_H0:List af)(s:St)(p:Pl)(rows:List (List AVal)):Option St:=match jU s p with
 |some (.sl b ak sz 0 _)=>match s.H[b]? with
  |some (.row ver' sz' _)=>match decide (ver'=ak∧sz'=sz)with
   |true=>some (vz {s with H:=s.H.set b .dead} (.aD rows) p)
   |false=>none
  |_=>none
 |_=>none
def Lr(s:St)(p:Pl)(rows:List (List AVal)):Prop:=∃b ak sz,jU s p=some (.sl b ak sz 0 rows.length)∧s.H[b]? =some (.row ak sz rows)∧rows.all AVal.aO=true
theorem H6[ax]{H0:List af}{s s':St}{p:Pl}{rows:List (List AVal)}(hok:Lr s p rows)(h:Jf H0 s p rows=some s'):fK H0 s s':=by
 obtain⟨b,ak,sz,h1,h2,h3⟩:=hok;unfold Jf at h;rw[h1]at h;simp only at h;split at h
 ·rename_i ver' sz' rows' hb;rw[h2]at hb;simp only[Option.some.injEq,af.row.injEq]at hb;obtain⟨rfl,rfl,rfl⟩:=hb;split at h
  ·simp only[Option.some.injEq]at h;subst h;intro g0 w0 g a w hi0 hl hs;obtain⟨i1,i2,i3⟩:=GQ hi0 hs.inv hl h2;have hs1:dy {ai:=g.ai,st:=fun k o=>g.st k o∨∃z,g.ai b ak=some (k,z)} {s with H:=s.H.set b .dead} a w:=⟨i1,bq i3 _ _ hs.tmps,cT i3 _ _ hs.defs⟩
   have key0:∀(l:List AVal) (j:Nat) (y:AVal),AVal.aO l=true→l[j]? =some y→y.pure=true:=by
    intro l;induction l with
    |nil=>intro j y _ h;simp at h
    |cons c cs ih3=>
     grind [AVal.aO]
   have hgp:jU {s with H:=s.H.set b .dead} p=some (.sl b ak sz 0 rows.length):=by
    cases p with
    |s d=>exact h1
    |c d j=>
     simp only[jU]at h1 ⊢;split at h1
     ·grind [af.row.injEq,AVal.pure]
     ·cases h1
    |b b2 j=>
     grind [jU,af.row.injEq,AVal.pure]
   obtain⟨q1,q2⟩:=pK hgp hs1 (v':=.aD rows) fun x hx=>by
    simp only[R]at hx ⊢;rcases hx with⟨hn,rfl⟩ |⟨k,cap,e',sz2,hk,rfl,hsh,hcs,hm,hmax⟩
    ·simp_all
    ·obtain⟨k',c,e,r1,r2,r3,r4,r5,r6⟩:=hs.inv.row b ak _ _ h2 hk;rw[hk]at r1;simp at r1;subst r1;refine⟨_,cap,rfl,by omega,.inr ⟨k,0*sz,sz,rfl,wQ fun i r hr=>?_⟩⟩
     obtain⟨t1,t2⟩:=bR _ _ _ _ r3 hr;grind [rz,gW,jx,fc]
   exact⟨_,q1,i2.trans q2⟩
  ·cases h
 ·cases h
def Jg(_H0:List af)(s:St)(p:Pl)(cs:List AVal):Option St:=match jU s p with
 |some (.ptr b ak 0 0)=>match s.H[b]? with
  |some (.row ver' _ _)=>match decide (ver'=ak)with
   |true=>some (vz {s with H:=s.H.set b .dead} (.bp cs 0) p)
   |false=>none
  |_=>none
 |_=>none
def Ls(s:St)(p:Pl)(cs:List AVal):Prop:=∃b ak sz,jU s p=some (.ptr b ak 0 0)∧s.H[b]? =some (.row ak sz [cs])∧AVal.aO cs=true
theorem H7[ax]{H0:List af}{s s':St}{p:Pl}{cs:List AVal}(hok:Ls s p cs)(h:Jg H0 s p cs=some s'):fK H0 s s':=by
 obtain⟨b,ak,sz,h1,h2,h3⟩:=hok;unfold Jg at h;rw[h1]at h;simp only at h;split at h
 ·rename_i ver' sz' rows' hb;rw[h2]at hb;simp only[Option.some.injEq,af.row.injEq]at hb;obtain⟨rfl,rfl,rfl⟩:=hb;split at h
  ·simp only[Option.some.injEq]at h;subst h;intro g0 w0 g a w hi0 hl hs;obtain⟨i1,i2,i3⟩:=GQ hi0 hs.inv hl h2;have hs1:dy {ai:=g.ai,st:=fun k o=>g.st k o∨∃z,g.ai b ak=some (k,z)} {s with H:=s.H.set b .dead} a w:=⟨i1,bq i3 _ _ hs.tmps,cT i3 _ _ hs.defs⟩
   have key0:∀(l:List AVal) (j:Nat) (y:AVal),AVal.aO l=true→l[j]? =some y→y.pure=true:=by
    intro l;induction l with
    |nil=>intro j y _ h;simp at h
    |cons c cs ih3=>
     grind [AVal.aO]
   have hgp:jU {s with H:=s.H.set b .dead} p=some (.ptr b ak 0 0):=by
    cases p with
    |s d=>exact h1
    |c d j=>
     simp only[jU]at h1 ⊢;split at h1
     ·grind [af.row.injEq,AVal.pure]
     ·cases h1
    |b b2 j=>
     grind [jU,af.row.injEq,AVal.pure]
   obtain⟨q1,q2⟩:=pK hgp hs1 (v':=.bp cs 0) fun x hx=>by
    simp only[R]at hx ⊢;obtain⟨k,sz2,hk,rfl⟩:=hx;obtain⟨k',c,e,r1,r2,r3,r4,r5,r6⟩:=hs.inv.row b ak _ _ h2 hk;rw[hk]at r1;simp at r1;obtain⟨rfl,rfl⟩:=r1;refine⟨k,0,by simp,h3,rz fun j a hj=>?_⟩
    obtain⟨t1,t2⟩:=bR [cs] 0 0 cs r3 rfl;obtain⟨y,y1,y2,y3⟩:=gW _ _ j a t2 hj;exact⟨.inr ⟨_,hk⟩,y,by rw[fc r2];simpa using y1,y2,jx i3 _ _ y3⟩
   exact⟨_,q1,i2.trans q2⟩
  ·cases h
 ·cases h
end Go.AM
end
section
namespace Go.AM
def jl(n:Nat):List AVal:=List.replicate n .aq
def ap(a b:List AVal):List AVal:=a++b
section
variable [ax] {P:Program} {cfg:dV} {g:Gh} {H:List af} {w:World} {fro:Option Nat}
def dO(P:Program)(fro:Option Nat)(g0:Gh)(H0:List af)(w0:World)[ax](c:Code)(s:St)(Φ:aS→St→Prop):Prop:=
 ∀(Q:Exit→Act→World→Prop) (g:Gh) (a:Act) (w:World),dy g s a w→aK g0 H0 w0 g s.H w→(∀o s',Φ o s'→dN Q g0 H0 w0 s' o)→c.wpIn (Fr fro) 0 P Q a w
variable {g0:Gh} {H0:List af} {w0:World}
theorem dO.mono{c:Code}{s:St}{Φ Ψ:aS→St→Prop}(h:dO P fro g0 H0 w0 c s Φ)(hp:∀o s',Φ o s'→Ψ o s'):dO P fro g0 H0 w0 c s Ψ:=
 fun Q g a w hs hl hk=>h Q g a w hs hl fun o s' hf=>hk o s' (hp o s' hf)
theorem dO.skip{s:St}{Φ:aS→St→Prop}(h:Φ .normal s):dO P fro g0 H0 w0 .skip s Φ:=
 fun _ g a w hs hl hp=>wpIn_skip (hp _ _ h g a w hs hl)
theorem dO.exit{s:St}{Φ:aS→St→Prop}{id:Nat}(h:Φ (.exit id) s):dO P fro g0 H0 w0 (.exit id) s Φ:=
 fun _ g a w hs hl hp=>wpIn_exit (hp _ _ h g a w hs hl)
theorem dO.ret{s:St}{Φ:aS→St→Prop}(h:Φ .ret s):dO P fro g0 H0 w0 .ret s Φ:=
 fun _ g a w hs hl hp=>wpIn_ret (hp _ _ h g a w hs hl)
def zg:dw→aS×St
 | .ok s=>(.normal,s)
 | .aM v s=>(.aM v,s)
theorem dO.region(hm:P.follows .mixedOrders=true){orcs:Nat→gF}(ho:∀k,eW P (orcs k)){id:Nat}{ops:Array Oper}{draw:Bool}{s:St}{r:dw}{Φ:aS→St→Prop}(hcalm:∀(k:Nat) (o:Oper),ops[k]? =some o→Calm fro o)
 (h:oP P cfg orcs ops draw s=some r) (hr:Φ (zg r).1 (zg r).2):dO P fro g0 H0 w0 (.region id ops draw) s Φ:=by
 intro Q g a w hs hl hp;cases r with
 |ok s'=>exact pI hm ho hcalm h hs (lZ.later (r:=.ok s') (hp _ _ hr) hl)
 |aM v s'=>exact pI hm ho hcalm h hs (lZ.later (r:=.aM v s') (hp _ _ hr) hl)
theorem dO.seq{a b:Code}{s:St}{Φ:aS→St→Prop}(h:dO P fro g0 H0 w0 a s fun o s'=>match o with | .normal=>dO P fro g0 H0 w0 b s' Φ |o=>Φ o s'):dO P fro g0 H0 w0 (.seq a b) s Φ:=by
 intro Q g x w hs hl hp;refine wpIn_seq (h _ g x w hs hl fun o s' hf=>?_)
 cases o with
 |normal=>exact fun g' a' w' hs' hla=>hf Q g' a' w' hs' hla hp
 |exit id=>exact hp _ _ hf
 |ret=>exact hp _ _ hf
 |aM v=>exact hp _ _ hf
theorem dO.cond{c:Operand}{a b:Code}{s:St}{Φ:aS→St→Prop}(z:Bool)(hc:bQ s.A c=.sc (.bool z))(h:dO P fro g0 H0 w0 (if z then a else b) s Φ):dO P fro g0 H0 w0 (.cond c a b) s Φ:=by
 intro Q g x w hs hl hp;have hev:=hs.eval c;rw[hc]at hev;simp only[R]at hev;cases z with
 |true=>exact wpIn_cond_true hev (h Q g x w hs hl hp)
 |false=>exact wpIn_cond_false hev (h Q g x w hs hl hp)
def behind(id:Nat):aS→aS
 | .exit id'=>if id'=id then .normal else .exit id'
 |o=>o
theorem dO.block{id:Nat}{b:Code}{s:St}{Φ:aS→St→Prop}(h:dO P fro g0 H0 w0 b s fun o s'=>Φ (behind id o) s'):dO P fro g0 H0 w0 (.block id b) s Φ:=by
 intro Q g x w hs hl hp;refine wpIn_block (h _ g x w hs hl fun o s' hf=>?_)
 cases o with
 |normal=>exact fun g' a' w' hs' hla=>hp _ _ hf g' a' w' hs' hla
 |exit id'=>
  intro g' a' w' hs' hla;by_cases he:id'=id
  ·simp only[behind,he,if_true]at hf;simp only[Exit.inBlock,he,if_true];exact hp _ _ hf g' a' w' hs' hla
  ·simp only[behind,he,if_false]at hf;simp only[Exit.inBlock,he,if_false];exact hp _ _ hf g' a' w' hs' hla
 |ret=>exact fun g' a' w' hs' hla=>hp _ _ hf g' a' w' hs' hla
 |aM v=>exact fun g' a' w' x hv hs' hla hr=>hp _ _ hf g' a' w' x hv hs' hla hr
theorem dN.weak{Q:Exit→Act→World→Prop}{g0:Gh}{H0:List af}{w0:World}(hi0:Inv g0 H0 w0){s' s'':St}{o:aS}(hw:fK H0 s' s'')(h:dN Q g0 H0 w0 s'' o):dN Q g0 H0 w0 s' o:=by
 cases o with
 |normal=>exact fun g' a' w' hs hl'=>let⟨g2,h1,h2⟩:=hw g0 w0 g' a' w' hi0 hl' hs;h g2 a' w' h1 h2
 |exit id=>exact fun g' a' w' hs hl'=>let⟨g2,h1,h2⟩:=hw g0 w0 g' a' w' hi0 hl' hs;h g2 a' w' h1 h2
 |ret=>exact fun g' a' w' hs hl'=>let⟨g2,h1,h2⟩:=hw g0 w0 g' a' w' hi0 hl' hs;h g2 a' w' h1 h2
 |aM v=>exact fun g' a' w' x hv hs hl' hr=>let⟨g2,h1,h2⟩:=hw g0 w0 g' a' w' hi0 hl' hs;h g2 a' w' x hv h1 h2 (hU _ _ hv hr)
theorem dO.weak(hi0:Inv g0 H0 w0){c:Code}{s s1:St}{Φ:aS→St→Prop}(hw:fK H0 s s1)(h:dO P fro g0 H0 w0 c s1 Φ):dO P fro g0 H0 w0 c s Φ:=by
 intro Q g a w hs hl hp;obtain⟨g2,h1,h2⟩:=hw g0 w0 g a w hi0 hl hs;exact h Q g2 a w h1 h2 hp
theorem dO.loop(hi0:Inv g0 H0 w0){b:Code}{s s0:St}{n:Nat}{Φ:aS→St→Prop}(J:Nat→St→Prop)(h0:∀s,¬J 0 s)(hs0:fK H0 s s0)(hJ:J n s0)
 (hb:∀n s1,J (n+1) s1→dO P fro g0 H0 w0 b s1 fun o s2=>∃s3,fK H0 s2 s3∧match o with | .normal=>J n s3 |o=>Φ o s3):dO P fro g0 H0 w0 (.loop b) s Φ:=by
 intro Q gs a0 ws hs hl hp;have key:∀(n:Nat) (s1:St) (g:Gh) (a:Act) (w:World),J n s1→dy g s1 a w→aK g0 H0 w0 g s1.H w→
  ∀(fr:Frame) (k:List Item) (cs:List Frame),fr.roundOf=(Fr fro).round→∃e a' w',Q e a' w'∧ArrivesIn (Machine.fenced P (Fr fro)) P (lone (fr.atR a (.code b:: .inLoop b::k)) cs w) fr k cs e a' w':=by
  intro n;induction n with
  |zero=>grind
  |succ n ih=>
   intro s1 g a w hj hsim hla fr k cs hfr;have hstep:b.wpIn (Fr fro) 0 P (Exit.then (fun a' w'=>∀(fr:Frame) (k:List Item) (cs:List Frame),fr.roundOf=(Fr fro).round→∃e a2 w2,Q e a2 w2∧ArrivesIn (Machine.fenced P (Fr fro)) P (lone (fr.atR a' (.code b:: .inLoop b::k)) cs w') fr k cs e a2 w2) Q) a w:=by
    refine hb n s1 hj _ g a w hsim hla fun o s2 ⟨s3,hw,hf⟩=>?_
    cases o with
    |normal=>
     intro g' a' w' hs' hla';obtain⟨g2,h1,h2⟩:=hw g0 w0 g' a' w' hi0 hla' hs';exact ih s3 g2 a' w' hf h1 h2
    |exit id=>exact dN.weak hi0 (o:=.exit id) hw (hp _ _ hf)
    |ret=>exact dN.weak hi0 (o:=.ret) hw (hp _ _ hf)
    |aM v=>exact dN.weak hi0 (o:=.aM v) hw (hp _ _ hf)
   obtain⟨e,a₁,w₁,hq,harr⟩:=hstep fr (.inLoop b::k) cs hfr trivial (ze _ _);cases e with
   |normal=>
    obtain⟨e₂,a₂,w₂,hq₂,harr₂⟩:=hq fr k cs hfr;exact⟨e₂,a₂,w₂,hq₂,.of_steps (StepsIn.trans harr (.one (fenced_calm (n:=0) trivial (ze _ _) rfl) stepR_inLoop)) harr₂⟩
   |exit id=>exact⟨_,a₁,w₁,hq,.pass (x:=.inLoop b) rfl (fun _ _=>.inl (by simp)) harr⟩
   |goto l=>exact⟨_,a₁,w₁,hq,.pass (x:=.inLoop b) rfl (fun _ _=>.inl (by simp)) harr⟩
   |ret=>exact⟨_,a₁,w₁,hq,.pass (x:=.inLoop b) rfl (fun _ _=>.inl (by simp)) harr⟩
   |panic ch=>exact⟨_,a₁,w₁,hq,.pass (x:=.inLoop b) rfl (fun _ _=>.inl (by simp)) harr⟩
   |outgrown=>exact⟨_,a₁,w₁,hq,.pass (x:=.inLoop b) rfl (fun _ _=>.inl (by simp)) harr⟩
 obtain⟨g1,h1,h2⟩:=hs0 g0 w0 gs a0 ws hi0 hl hs;intro fr k cs hfr _ hroom;obtain⟨e,a',w',hq,harr⟩:=key n s0 g1 a0 ws hJ h1 h2 fr k cs hfr;exact⟨e,a',w',hq,.of_steps (.one (fenced_calm trivial hroom rfl) stepR_loop) harr⟩
end
inductive Sh:Type 1 where
 |one (τ:Type)
 |two (a b:Sh)
def Sh.El:Sh→Type
 | .one τ=>τ
 | .two a b=>a.El⊕b.El
def Sh.all:(s:Sh)→(s.El→Prop)→Prop
 | .one _,p=>∀x,p x
 | .two a b,p=>a.all (fun x=>p (.inl x))∧b.all (fun x=>p (.inr x))
theorem Sh.bC:∀(s:Sh) (p:s.El→Prop),s.all p↔∀x,p x
 | .one _,p=>Iff.rfl
 | .two a b,p=>by
  simp only[Sh.all,Sh.bC a,Sh.bC b];exact⟨fun h x=>match x with | .inl y=>h.1 y | .inr y=>h.2 y,fun h=>⟨fun y=>h (.inl y),fun y=>h (.inr y)⟩⟩
namespace AVal
mutual
def tc(b v:Nat):AVal→AVal
 | .sc x=>.sc x
 | .agg cs=>.agg (pL b v cs)
 | .bV cs=>.bV (pL b v cs)
 | .ptr _ _ i o=>.ptr b v i o
 | .bp cs o=>.bp cs o
 | .sl _ _ sz o n=>.sl b v sz o n
 | .aD rows=>.aD rows
 | .fn f c d=>.fn f (pL b v c) (pL b v d)
 | .ei t a=>.ei t (tc b v a)
 | .mp x=>.mp x
 | .gj x=>.gj x
 | .sa _ _ i o s n=>.sa b v i o s n
 | .eU i o=>.eU i o
 | .emp=>.emp
 | .nz x=>.nz x
 | .aq=>.aq
def pL(b v:Nat):List AVal→List AVal
 | []=>[]
 |a::as=>tc b v a::pL b v as
end
mutual
def ox:AVal→Bool
 | .sc _=>true
 | .agg cs=>jH cs
 | .bV cs=>jH cs
 | .ptr b v .. =>b==0&&v==0
 | .bp .. =>true
 | .sl b v .. =>b==0&&v==0
 | .aD _=>true
 | .fn _ c d=>jH c&&jH d
 | .ei _ a=>ox a
 | .mp _=>false
 | .gj _=>false
 | .sa b v .. =>b==0&&v==0
 | .eU _ _=>true
 | .emp=>true
 | .nz _=>true
 | .aq=>true
def jH:List AVal→Bool
 | []=>true
 |a::as=>ox a&&jH as
end
mutual
def but(b:Nat):AVal→AVal
 | .sc x=>.sc x
 | .agg cs=>.agg (ua b cs)
 | .bV cs=>.bV (ua b cs)
 | .ptr c v i o=>match Nat.beq c b with
  |true=>.ptr c v i o
  |false=>.aq
 | .bp cs o=>.bp cs o
 | .sl c v sz o n=>match Nat.beq c b with
  |true=>.sl c v sz o n
  |false=>.aq
 | .aD rows=>.aD rows
 | .fn f c d=>.fn f (ua b c) (ua b d)
 | .ei t a=>.ei t (but b a)
 | .mp _=>.aq
 | .gj _=>.aq
 | .sa c v i o s n=>match Nat.beq c b with
  |true=>.sa c v i o s n
  |false=>.aq
 | .eU i o=>.eU i o
 | .emp=>.emp
 | .nz x=>.nz x
 | .aq=>.aq
def ua(b:Nat):List AVal→List AVal
 | []=>[]
 |a::as=>but b a::ua b as
end
end AVal
def af.nI:af→Bool
 | .row ak _ rows=>ak==0&&rows.all AVal.aO
 |_=>false
def af.iG(v:Nat):af→af
 | .row _ sz rows=>.row v sz rows
 |x=>x
def aI.wX:aI→Bool
 | .ret v=>v.pure
 | .aM v=>v.flat
def AVal.u5(b v:Nat):AVal→AVal
 | .sl _ _ sz o n=>.sl b v sz o n
 |u=>u
def aI.u5(b v:Nat):aI→aI
 | .ret u=>.ret (u.u5 b v)
 | .aM u=>.aM u
def aI.yp:aI→Bool
 | .ret (.sl b v _ _ _)=>b==0&&v==0
 | .ret u=>u.pure
 | .aM u=>u.flat
theorem aI.H8{r:aI}(h:r.wX=true):r.yp=true:=by
 cases r with
 |ret u=>cases u<;>first |exact h |cases h
 |aM u=>exact h
def gG(P:Program)[ax](f:FuncId)(args:List AVal)(r:aI):Prop:=
 (∃ fn c, P.funcs[f]? = some fn ∧ fn.body = some c ∧ fn.name ≠ "runtime.NumGoroutine") ∧
 ∀g w (vs:Array Value),Inv g [] w→RL g w args vs.toList→Calls P f vs w (dL g [] w r [])
def bB(P:Program)[ax](f:FuncId)(args:List AVal)(H:List af)(r:aI)(H1:List af):Prop:=
 (∃ fn c, P.funcs[f]? = some fn ∧ fn.body = some c ∧ fn.name ≠ "runtime.NumGoroutine") ∧
 ∀g w (vs:Array Value),Inv g H w→RL g w args vs.toList→Calls P f vs w (dL g H w r H1)
structure qF(P:Program)[ax]:Type 1 where
 f:FuncId
 X:Type
 args:X→List AVal
 heap:X→List af
 sh:Sh
 out:sh.El→aI
 fu:X→sh.El→List af
 S:Nat→X→Option sh.El
 ok:∀n x r,S n x=some r→bB P f (args x) (heap x) (out r) (fu x r)
structure aA(P:Program)[ax]:Type 1 where
 f:FuncId
 X:Type
 args:X→List AVal
 sh:Sh
 out:sh.El→aI
 S:Nat→X→Option sh.El
 ok:∀n x r,S n x=some r→gG P f (args x) (out r)
structure jV(P:Program)[ax]:Type 1 where
 f:FuncId
 X:Type
 args:X→List AVal
 blk:X→af
 sh:Sh
 out:sh.El→aI
 pM:X→sh.El→af
 S:Nat→X→Option sh.El
 a0:∀x,AVal.jH (args x)=true
 b0:∀x,(blk x).nI=true
 b1:∀x r,(pM x r).nI=true∨pM x r=.dead
 r0:∀r,(out r).yp=true
 ok:∀n x r,S n x=some r→bB P f (args x) [blk x] (out r) [pM x r]
structure jo(X:Type) where
 run:Option X
 aT:X→cF
 ids:List Nat
 kf:ax→Program→dV→Nat→Op→(Operand→AVal)→List af→Prop
 fI:Prop
 holds:fI
 sound:∀(gl:ax) (P:Program) (cfg:dV) (nid:Nat) (op:Op) (ai:Operand→AVal) (H:List af),kf gl P cfg nid op ai H→∀x,run=some x→
  (bf P cfg nid ai op).run H=some (.aT (aT x))∧(bf P cfg nid ai op).reads H=ids
def EA:List (Nat×af)→List af→Prop
 | [],_=>True
 |p::ps,H=>H[p.1]? =some p.2∧EA ps H
def vA:List (Nat×af)→Prop
 | []=>True
 |p::ps=>some p.2=some p.2∧vA ps
theorem uc:∀l,vA l
 | []=>trivial
 |_::ps=>⟨rfl,uc ps⟩
structure SN where
 bs:List (Nat×af)
 wj:List AVal
 Cj:List AVal
 rs:List Nat
 pf:∀H,EA bs H→(gE (snap fm) wj).run H=some Cj∧(gE (snap fm) wj).reads H=rs
structure PU where
 b:Nat
 blk:af
 pf:l5 blk=true
def pN:af→Bool
 | .row _ _ rows=>rows.all AVal.aO
 | .map _ es=>es.all fun p=>p.1.pure&&p.2.1.pure
 |_=>false
theorem u6{x:af}(h:pN x=true):(∃v sz rows,x=.row v sz rows∧rows.all AVal.aO=true)∨∃c es,x=.map c es∧(es.all fun p=>p.1.pure&&p.2.1.pure)=true:=by
 unfold pN at h;grind
structure PR where
 b:Nat
 blk:af
 pf:pN blk=true
def PR.ofRow(b ak sz:Nat)(rows:List (List AVal))(pf:rows.all AVal.aO=true):PR:=⟨b,.row ak sz rows,pf⟩
structure FZ where
 p:Pl
 b:Nat
 ak:Nat
 sz:Nat
 n:Nat
 rows:List (List AVal)
 pf:rows.all AVal.aO=true
structure FP where
 p:Pl
 b:Nat
 ak:Nat
 sz:Nat
 cs:List AVal
 pf:AVal.aO cs=true
structure PK where
 b:Nat
 mb:Nat
 n:Nat
 es:List (AVal×AVal×Nat)
 pf:es.length=n∧∀(i:Nat) p,es[i]? =some p→p.2.2=i
structure GK where
 {X:Type}
 l:List X
 m:List X
 enc:X→List AVal
 n:Nat
 bytes:Nat
 b:Nat
 ak:Nat
 len:Nat
def GK.ok(z:GK):Bool:=decide (z.len=z.l.length)&&roomy (z.l.length+z.m.length) z.bytes
def Bp(P:Program)(ST XT:TypeId):Option (Nat×Nat):=
 match P.underlying ST,P.underlying XT with
 |some (.slice e),some (.slice _)=>match P.info? e with
  |some i=>if decide (0<i.size)&&jK i then some (i.size,i.bytes)else none
  |none=>none
 |_,_=>none
structure RW where
 p:Pl
 rows:List (List AVal)
 rows':List (List AVal)
 pf:rows.map jk=rows'
inductive TS where
 |keep (l:List Nat)
 |wk (p:Pl)
 |own (p:Pl) (sz:Nat)
 |gy (z:FZ)
 |JQ (z:FP)
 |JR (z:RW)
 |cut (bl bump:List Nat) (pu:List PU)
inductive G (P:Program) [ax]:Type→Type 1 where
 |stop {ρ:Type}:G P ρ
 |done {ρ:Type} (ts:List TS) (r:ρ):G P ρ
 |fail {ρ:Type}:G P ρ
 |skip {ρ:Type} (n:Nat) (g:G P ρ):G P ρ
 |br {ρ:Type} (d:Tmp) (c:Bool) (t f:G P ρ):G P ρ
 |z6 {ρ:Type} (d:Tmp) (k:IntKind) (x c:Int) (t f:G P ρ):G P ρ
 |sp {ρ:Type} (c:Bool) (t f:G P ρ):G P ρ
 |op {ρ X:Type} (t:jo X) (k:X→G P ρ):G P ρ
 |call {ρ:Type} (c:aA P) (x:c.X) (k:c.sh.El→G P ρ):G P ρ
 |pO {ρ:Type} (z:SN) (c:aA P) (x:c.X) (k:c.sh.El→G P ρ):G P ρ
 |bz {ρ:Type} (c:qF P) (x:c.X) (k:c.sh.El→G P ρ):G P ρ
 |gM {ρ:Type} (c:jV P) (b v:Nat) (ex:List PR) (x:c.X) (k:c.sh.El→G P ρ):G P ρ
 |tidy {ρ:Type} (l:List TS) (g:G P ρ):G P ρ
 |loop {ρ σ:Type} (sh:Sh) (hd:List TS) (E:σ→St) (X:sh.El→aS×St) (a0:σ) (body:σ→G P (σ⊕sh.El)) (k:sh.El→G P ρ):G P ρ
 |jh {ρ:Type} (hs sh:Sh) (hd:List TS) (E:hs.El→St) (X:sh.El→aS×St) (a0:hs.El) (body:hs.El→G P (hs.El⊕sh.El)) (k:sh.El→G P ρ):G P ρ
 |eG {ρ:Type} (n:Nat) (g:G P ρ):G P ρ
 |rE {ρ:Type} (Q:Prop) (h:Q) (g:G P ρ):G P ρ
 |join {ρ:Type} (sh:Sh) (Y:sh.El→aS×St) (g:G P sh.El) (k:sh.El→G P ρ):G P ρ
 |pick {ρ:Type} (z:PK) (seen:List Nat) (k:Option Nat→G P ρ):G P ρ
 |grow {ρ:Type} (z:GK) (k:Bool→G P ρ):G P ρ
 |inl {ρ:Type} (pr:List PR) (g:G P ρ):G P ρ
def ej:List TS→Bool
 | []=>true
 | .gy z::ts=>decide (z.n=z.rows.length)&&ej ts
 |_::ts=>ej ts
def kj{σ τ:Type}(f:σ→Option (σ⊕τ)):Nat→σ→Option τ
 | 0,_=>none
 |n+1,a=>match f a with
  |some (.inl a')=>kj f n a'
  |some (.inr t)=>some t
  |none=>none
section
variable {P:Program} [ax]
def G.run(n:Nat):{ρ:Type}→G P ρ→Option ρ
 |_,.stop=>none
 |_,.done ts r=>if ej ts then some r else none
 |_,.fail=>none
 |_,.skip _ g=>g.run n
 |_,.br _ c t f=>if c then t.run n else f.run n
 |_,.z6 _ _ x c t f=>if x=c then t.run n else f.run n
 |_,.sp c t f=>if c then t.run n else f.run n
 |_,.op t k=>t.run.bind fun x=>(k x).run n
 |_,.call c x k=>(c.S n x).bind fun r=>(k r).run n
 |_,.pO _ c x k=>(c.S n x).bind fun r=>(k r).run n
 |_,.bz c x k=>(c.S n x).bind fun r=>(k r).run n
 |_,.gM c _ _ _ x k=>(c.S n x).bind fun r=>(k r).run n
 |_,.tidy l g=>if ej l then g.run n else none
 |_,.loop _ hd _ _ a0 body k=>if ej hd then(kj (fun a=>(body a).run n) n a0).bind fun t=>(k t).run n else none
 |_,.jh _ _ hd _ _ a0 body k=>if ej hd then(kj (fun a=>(body a).run n) n a0).bind fun t=>(k t).run n else none
 |_,.eG _ g=>g.run n
 |_,.rE _ _ g=>g.run n
 |_,.join _ _ g k=>(g.run n).bind fun t=>(k t).run n
 |_,.pick _ _ _=>none
 |_,.grow _ _=>none
 |_,.inl _ g=>g.run n
def GR{σ:Type}{sh:Sh}(E:σ→St)(X:sh.El→aS×St):σ⊕sh.El→Prop
 | .inl a=>(aS.normal,E a)=(aS.normal,E a)
 | .inr t=>X t=X t
def Lt{sh:Sh}(Y:sh.El→aS×St)(t:sh.El):Prop:=Y t=Y t
def AD:List PU→Prop
 | []=>True
 |p::ps=>some p.blk=some p.blk∧AD ps
def wY:List PR→Prop
 | []=>True
 |p::ps=>some p.blk=some p.blk∧wY ps
def iA:List TS→Prop→Prop
 | [],q=>q
 | .keep _::ts,q=>iA ts q
 | .wk _::ts,q=>iA ts q
 | .own _ _::ts,q=>iA ts q
 | .gy z::ts,q=>some (AVal.sl z.b z.ak z.sz 0 z.n)=some (AVal.sl z.b z.ak z.sz 0 z.n)∧some (af.row z.ak z.sz z.rows)=some (af.row z.ak z.sz z.rows)∧iA ts q
 | .JQ z::ts,q=>some (AVal.ptr z.b z.ak 0 0)=some (AVal.ptr z.b z.ak 0 0)∧some (af.row z.ak z.sz [z.cs])=some (af.row z.ak z.sz [z.cs])∧iA ts q
 | .cut _ _ pu::ts,q=>AD pu∧iA ts q
 | .JR z::ts,q=>some (AVal.aD z.rows)=some (AVal.aD z.rows)∧iA ts q
omit [ax] in
theorem xG:∀(l:List PU),AD l
 | []=>trivial
 |_::ps=>⟨rfl,xG ps⟩
omit [ax] in
theorem sO:∀(l:List PR),wY l
 | []=>trivial
 |_::ps=>⟨rfl,sO ps⟩
omit [ax] in
theorem eX{q:Prop}(h:q):∀(l:List TS),iA l q
 | []=>h
 | .keep _::ts=>eX h ts
 | .wk _::ts=>eX h ts
 | .own _ _::ts=>eX h ts
 | .gy _::ts=>⟨rfl,rfl,eX h ts⟩
 | .JQ _::ts=>⟨rfl,rfl,eX h ts⟩
 | .cut _ _ pu::ts=>⟨xG pu,eX h ts⟩
 | .JR _::ts=>⟨rfl,eX h ts⟩
def G.dX:{ρ:Type}→(ρ→Prop)→G P ρ→Prop
 |_,_,.stop=>True
 |_,leaf,.done ts r=>iA ts (leaf r)
 |_,_,.fail=>True
 |_,leaf,.skip _ g=>g.dX leaf
 |_,leaf,.br _ c t f=>some (AVal.sc (.bool c))=some (AVal.sc (.bool c))∧t.dX leaf∧f.dX leaf
 |_,leaf,.z6 _ k x _ t f=>some (AVal.sc (.int k x))=some (AVal.sc (.int k x))∧t.dX leaf∧f.dX leaf
 |_,leaf,.sp _ t f=>t.dX leaf∧f.dX leaf
 |_,leaf,.op t k=>some true=some true∧t.fI∧∀x,(k x).dX leaf
 |_,leaf,.call c x k=>some true=some true∧some (c.f,c.args x)=some (c.f,c.args x)∧c.sh.all fun r=>(k r).dX leaf
 |_,leaf,.pO z c x k=>some true=some true∧vA z.bs∧some (c.f,z.wj)=some (c.f,z.wj)∧some (c.args x)=some (c.args x)∧c.sh.all fun r=>(k r).dX leaf
 |_,leaf,.bz c x k=>some true=some true∧some (c.f,c.args x,c.heap x)=some (c.f,c.args x,c.heap x)∧c.sh.all fun r=>(k r).dX leaf
 |_,leaf,.gM c b v ex x k=>some true=some true∧wY ex∧some (c.f,AVal.pL b v (c.args x),some ((c.blk x).iG v))=some (c.f,AVal.pL b v (c.args x),some ((c.blk x).iG v))∧c.sh.all fun r=>(k r).dX leaf
 |_,leaf,.tidy l g=>iA l (g.dX leaf)
 |_,leaf,.loop sh hd E X a0 body k=>iA hd (E a0=E a0)∧(∀a,(body a).dX (GR E X))∧sh.all fun t=>(k t).dX leaf
 |_,leaf,.jh hs sh hd E X a0 body k=>iA hd (E a0=E a0)∧(hs.all fun a=>(body a).dX (GR E X))∧sh.all fun t=>(k t).dX leaf
 |_,leaf,.eG _ g=>g.dX leaf
 |_,_,.rE Q _ _=>Q
 |_,leaf,.join sh Y g k=>g.dX (Lt Y)∧sh.all fun t=>(k t).dX leaf
 |_,leaf,.pick z seen k=>some true=some true∧AVal.ptr z.b 0 0 0=AVal.ptr z.b 0 0 0∧some (af.iter (.mp z.mb) z.n seen z.n)=some (af.iter (.mp z.mb) z.n seen z.n)∧some (af.map z.n z.es)=some (af.map z.n z.es)∧(k none).dX leaf∧∀i,(k (some i)).dX leaf
 |_,leaf,.grow z k=>some true=some true∧some af.aR=some af.aR∧ @Eq Bool true true∧some (z.n,z.bytes)=some (z.n,z.bytes)∧AVal.sl z.b z.ak z.n 0 z.len=AVal.sl z.b z.ak z.n 0 z.len∧some (af.row z.ak z.n (z.l.map z.enc))=some (af.row z.ak z.n (z.l.map z.enc))∧some (z.m.map z.enc)=some (z.m.map z.enc)∧(∀_:z.X,z.n=z.n)∧ @Eq Bool false false∧(k true).dX leaf∧(k false).dX leaf
 |_,leaf,.inl pr g=>some true=some true∧wY pr∧g.dX leaf
omit [ax] in
theorem z7{σ:Type}{sh:Sh}(E:σ→St)(X:sh.El→aS×St):∀r,GR E X r
 | .inl _=>rfl
 | .inr _=>rfl
theorem G.bA:∀{ρ:Type} {leaf:ρ→Prop} (_:∀r,leaf r) (g:G P ρ),g.dX leaf
 |_,_,_,.stop=>trivial
 |_,_,h,.done ts r=>eX (h r) ts
 |_,_,_,.fail=>trivial
 |_,_,h,.skip _ g=>G.bA h g
 |_,_,h,.br _ _ t f=>⟨rfl,G.bA h t,G.bA h f⟩
 |_,_,h,.z6 _ _ _ _ t f=>⟨rfl,G.bA h t,G.bA h f⟩
 |_,_,h,.sp _ t f=>⟨G.bA h t,G.bA h f⟩
 |_,_,h,.op t k=>⟨rfl,t.holds,fun x=>G.bA h (k x)⟩
 |_,_,h,.call c _ k=>⟨rfl,rfl,(c.sh.bC _).2 fun r=>G.bA h (k r)⟩
 |_,_,h,.pO _ c _ k=>⟨rfl,uc _,rfl,rfl,(c.sh.bC _).2 fun r=>G.bA h (k r)⟩
 |_,_,h,.bz c _ k=>⟨rfl,rfl,(c.sh.bC _).2 fun r=>G.bA h (k r)⟩
 |_,_,h,.gM c _ _ ex _ k=>⟨rfl,sO ex,rfl,(c.sh.bC _).2 fun r=>G.bA h (k r)⟩
 |_,_,h,.tidy l g=>eX (G.bA h g) l
 |_,_,h,.loop sh hd E X _ body k=>⟨eX rfl hd,fun a=>G.bA (z7 E X) (body a),(sh.bC _).2 fun t=>G.bA h (k t)⟩
 |_,_,h,.jh hs sh hd E X _ body k=>⟨eX rfl hd,(hs.bC _).2 fun a=>G.bA (z7 E X) (body a),(sh.bC _).2 fun t=>G.bA h (k t)⟩
 |_,_,h,.eG _ g=>G.bA h g
 |_,_,_,.rE _ q _=>q
 |_,_,h,.join sh _ g k=>⟨G.bA (fun _=>rfl) g,(sh.bC _).2 fun t=>G.bA h (k t)⟩
 |_,_,h,.pick _ _ k=>⟨rfl,rfl,rfl,rfl,G.bA h (k none),fun i=>G.bA h (k (some i))⟩
 |_,_,h,.grow _ k=>⟨rfl,rfl,rfl,rfl,rfl,rfl,rfl,fun _=>rfl,rfl,G.bA h (k true),G.bA h (k false)⟩
 |_,_,h,.inl pr g=>⟨rfl,sO pr,G.bA h g⟩
def G.less{ρ:Type}:Nat→G P ρ→G P ρ
 | 0,g=>g
 |n+1,g=>.skip (n+1) g
theorem G.EB{ρ:Type}(n m:Nat)(g:G P ρ):(G.less m g).run n=g.run n:=by cases m<;>simp[G.less,G.run]
end
structure vB(P:Program)[ax] where
 fn:{ρ:Type}→FuncId→List AVal→List af→G P ρ→(G P ρ→aI→List af→Prop)→Prop
 xE:{ρ:Type}→Nat→List AVal→List af→G P ρ→(G P ρ→aI→List af→Prop)→Prop
 lp:{σ:Type}→{sh:Sh}→Option Nat→List af→Code→G P (σ⊕sh.El)→(σ→St)→St→(sh.El→aS×St)→Prop
structure Env(P:Program)[ax] where
 cfg:dV
 ro:Option Nat
 N:vB P
 nd:Bool
def Lu(P:Program)[ax]:vB P:=⟨fun _ _ _ _ _=>False,fun _ _ _ _ _=>False,fun _ _ _ _ _ _ _=>False⟩
def GS(P:Program)[ax]{ρ:Type}(f:FuncId)(args:List AVal)(H:List af)(c:qF P)(x:c.X)(kk:c.sh.El→G P ρ)(k:G P ρ→aI→List af→Prop):Prop:=
 some true=some true∧some (f,jk args,H)=some (c.f,c.args x,c.heap x)∧c.sh.all fun r=>k (kk r) (c.out r) (c.fu x r)
def oy(P:Program)[ax]:vB P:=⟨fun f args H g k=>match g with
 | .bz c x kk=>GS P f args H c x kk k
 |_=>False,fun _ _ _ _ _=>False,fun _ _ _ _ _ _ _=>False⟩
def Env.at{P:Program}[ax](X:Env P)(draw:Bool):Env P:=match draw&&X.nd with
 |true=>{X with N:=oy P}
 |false=>X
inductive L6 (P:Program) [ax] {ρ:Type} (X:Env P) (ops:Array Oper) (n0:Nat) (o:Oper) (nid:Nat) (s:St) (k:G P ρ→dw→eV→Prop) (draw:Bool) (H0:List af):Prop
inductive KP (P:Program) [ax] {ρ:Type} (X:Env P) (c:Operand) (a b:Code) (s:St) (k:G P ρ→aS→St→Prop) (H0:List af):Prop
inductive KQ (P:Program) [ax] {ρ:Type} (X:Env P) (b:Code) (s:St) (k:G P ρ→aS→St→Prop) (H0:List af):Prop
inductive Km (P:Program) [ax] {ρ:Type} (X:Env P) (f:Operand) (ps:Array Tmp) (assign body:Code) (s:St) (k:G P ρ→aS→St→Prop) (H0:List af):Prop
inductive Lv (P:Program) [ax] {ρ:Type} (fn:Func) (o:aS) (s:St) (out:ρ→aI):Prop
inductive KR (P:Program) [ax] {ρ:Type} (fn:Func) (o:aS) (s:St) (H0:List af) (k:G P ρ→List PR→aS→St→Prop):Prop
inductive KS (P:Program) [ax] {ρ:Type} (b:Nat) (o:aS) (s:St) (H0:List af) (k:G P ρ→St→Prop):Prop
inductive KT (P:Program) [ax] {sh:Sh} (H0:List af) (o:aS) (s:St) (Y:sh.El→aS×St):Prop
inductive Kn (P:Program) [ax] {σ:Type} {sh:Sh} (H0:List af) (o:aS) (s:St) (E:σ→St) (X:sh.El→aS×St):Prop
inductive Bq (P:Program) [ax] {ρ:Type} (ops:Array Oper) (o:Oper) (s:St) (g:G P ρ):Prop
def rH(keep:List Nat):Nat→List AVal→List AVal
 |_,[]=>[]
 |i,a::as=>(match keep.contains i with |true=>a |false=>.aq)::rH keep (i+1) as
def Gb:List PU→List af→Prop
 | [],_=>True
 |p::ps,H=>H[p.b]? =some p.blk∧Gb ps H
def Gc:List PR→List af→Prop
 | [],_=>True
 |p::ps,H=>H[p.b]? =some p.blk∧Gc ps H
def fP(H0:List af):List TS→St→(St→Prop)→Prop
 | [],s,k=>k s
 | .keep l::ts,s,k=>fJ (rH l 0 s.A) fun A=>fP H0 ts {s with A:=A} k
 | .wk p::ts,s,k=>match KO s p with
  |some s=>fP H0 ts s k
  |none=>False
 | .own p sz::ts,s,k=>match Je s p sz with
  |some s=>fP H0 ts s k
  |none=>False
 | .gy z::ts,s,k=>jU s z.p=some (.sl z.b z.ak z.sz 0 z.n)∧s.H[z.b]? =some (.row z.ak z.sz z.rows)∧match Jf H0 s z.p z.rows with
  |some s=>fP H0 ts s k
  |none=>False
 | .JQ z::ts,s,k=>jU s z.p=some (.ptr z.b z.ak 0 0)∧s.H[z.b]? =some (.row z.ak z.sz [z.cs])∧match Jg H0 s z.p z.cs with
  |some s=>fP H0 ts s k
  |none=>False
 | .JR z::ts,s,k=>jU s z.p=some (.aD z.rows)∧fP H0 ts (vz s (.aD z.rows') z.p) k
 | .cut bl bump pu::ts,s,k=>Gb pu s.H∧match Ja bl bump (pu.map (·.b)) H0 s with
  |some ⟨A,H,D⟩=>fJ A fun A=>fJ H fun H=>fP H0 ts ⟨A,H,D⟩ k
  |none=>False
section
variable {P:Program} [ax]
def ko{ρ:Type}:G P ρ→St→(G P ρ→St→Prop)→Prop
 | .br d c t f,s,k=>s.A[d]? =some (.sc (.bool c))∧(wO s.A d (.sc (.bool true)) fun A=>ko t {s with A:=A} k)∧(wO s.A d (.sc (.bool false)) fun A=>ko f {s with A:=A} k)
 | .z6 d ik x c t f,s,k=>s.A[d]? =some (.sc (.int ik x))∧(wO s.A d (.sc (.int ik c)) fun A=>ko t {s with A:=A} k)∧ko f s k
 | .sp _ t f,s,k=>ko t s k∧ko f s k
 | .fail,_,_=>True
 |g,s,k=>k g s
def qG:gF:=⟨fun _ _ _=>none,fun _ _ _=>none⟩
def GU(r:Option (aI×List af)):gF:=⟨fun _ _ _=>r,fun _ _ _=>none⟩
def GV(H:List af):Option Pre→Option (FuncId×List AVal×List af)
 |some (.gY f args ids)=>some (f,jk args,mask ids H)
 |_=>none
def zh(ids:List Nat):List Nat→Bool
 | []=>true
 |c::cs=>ids.contains c&&zh ids cs
def u7:List Nat→List Nat→List Nat
 | [],seen=>seen
 |b::todo,seen=>match seen.contains b with
  |true=>u7 todo seen
  |false=>u7 todo (b::seen)
def qH:List Nat→List Nat→List Nat
 | [],_=>[]
 |b::todo,seen=>match seen.contains b with
  |true=>qH todo seen
  |false=>b::qH todo (b::seen)
def nr(P:Program)[ax](cfg:dV)(ids:List Nat)(ai:Operand→AVal):Op→Option (FuncId×List AVal×List Nat×List Nat)
 | .call {callee:=.value f,args:=args,.. }=>match ai f with
  | .fn (.func n) p q=>match P.funcs[n]? with
   |some fn=>match fn.body.isNone||cfg.val n||cfg.fz n with
    |false=>
     let l:=AVal.kg (p++args.toList.map ai++q)
     match zh ids l&&Nat.ble l.length 900 with
     |true=>some (n,p++args.toList.map ai++q,u7 l [],qH l [])
     |false=>none
    |true=>none
   |none=>none
  |_=>none
 |_=>none
def Jh(H:List af)(b:Nat):Option (FuncId×List AVal×List Nat×List Nat)→Option (FuncId×List AVal×Option af)
 |some (f,args,ids,_)=>match ids.contains b with
  |true=>some (f,AVal.ua b (jk args),H[b]?)
  |false=>none
 |none=>none
def zi:Option (FuncId×List AVal×List Nat×List Nat)→List Nat×List Nat
 |some (_,_,ids,rs)=>(ids,rs)
 |none=>([],[])
def EC:Option Pre→Option (FuncId×List AVal)
 |some (.tv f args _)=>some (f,jk args)
 |_=>none
def nu(pr:List Nat)(H:List af):Nat→List Nat→List Nat→Option (List Nat×List Nat)
 |_,[],seen=>some (seen,[])
 | 0,_::_,_=>none
 |n+1,b::todo,seen=>match seen.contains b with
  |true=>nu pr H n todo seen
  |false=>match pr.contains b with
   |true=>(nu pr H n todo (b::seen)).map fun p=>(p.1,b::p.2)
   |false=>match H[b]? with
    |some (.row _ _ rows)=>(nu pr H n ((if rows.all AVal.aO then[]else AVal.kg rows.flatten)++todo) (b::seen)).map fun p=>(p.1,b::p.2)
    |some (.loop _ _ _ A _ _ _)=>(nu pr H n (AVal.kg A++todo) (b::seen)).map fun p=>(p.1,b::p.2)
    |some (.iter m _ _ _)=>(nu pr H n (AVal.refs m++todo) (b::seen)).map fun p=>(p.1,b::p.2)
    |some _=>(nu pr H n todo (b::seen)).map fun p=>(p.1,b::p.2)
    |none=>none
def AE(P:Program)[ax](cfg:dV)(pr:List Nat)(ai:Operand→AVal)(op:Op)(H:List af):Option ((FuncId⊕Nat)×List AVal×List Nat×List Nat):=
 match op with
 | .call {callee:=.value f,args:=args,.. }=>match ai f with
  | .fn (.func n) p q=>match P.funcs[n]? with
   |some fn=>match fn.body.isNone||cfg.val n||cfg.fz n with
    |false=>match nu pr H 1000 (AVal.kg (p++args.toList.map ai++q)) []with
     |some (ids,rs)=>some (.inl n,p++args.toList.map ai++q,ids,rs)
     |none=>none
    |true=>none
   |none=>none
  | .gj b=>match nu pr H 1000 (b::AVal.kg (args.toList.map ai)) []with
   |some (ids,rs)=>some (.inr b,args.toList.map ai,ids,rs)
   |none=>none
  |_=>none
 |_=>none
def yq(ids:List Nat)(H:List af)(a:aI)(H1:List af)(k:cF→List Nat→Bool→Prop)(kp:AVal→Prop):Prop:=
 match a with
 | .ret v=>match Nat.beq H1.length H.length with
  |true=>k {val:=v,cZ:=ids.map fun i=>(i,H1.getD i .dead)} ids false
  |false=>match dW H ids (some (.ret v,H1))with
   |some (.ok e)=>Cf e fun e=>k e (e.cZ.map (·.1)) (!e.news.isEmpty)
   |_=>False
 | .aM v=>match v.flat with
  |true=>kp v
  |false=>False
def ED(P:Program)[ax](cfg:dV)(ai:Operand→AVal)(op:Op):Option (FuncId×List AVal):=
 match op with
 | .call {callee:=.value f,args:=args,.. }=>match ai f with
  | .fn (.func n) p q=>match P.funcs[n]? with
   |some fn=>match fn.body.isNone|| !cfg.val n with
    |false=>some (n,p++args.toList.map ai++q)
    |true=>none
   |none=>none
  |_=>none
 |_=>none
def lR{ρ:Type}(P:Program)[gl:ax](X:Env P)(draw:Bool)(H0:List af)(ops:Array Oper)(n0:Nat)(o:Oper)(nid:Nat)(g:G P ρ)(s:St)(k:G P ρ→dw→eV→Prop):Prop:=
 match g with
 | .skip (n+1) g'=>match dx P X.cfg qG ops n0 o nid s with
  |some (r,f)=>k (G.less n g') r f
  |none=>Bq P ops o s g'
 | .op t kk=>fL ops s.A o=some true∧t.kf gl P X.cfg nid o.op (bQ s.A) s.H∧∀x,Cf (t.aT x) fun e=>mE s.A o.dst e.val fun A=>lP e s.H fun H=>
  k (kk x) (.ok {s with A:=A,H:=H}) (eF n0 t.ids (.aT e) (e.cZ.map (·.1)) (!e.news.isEmpty))
 | .call c x kk=>fL ops s.A o=some true∧EC ((bf P X.cfg nid (bQ s.A) o.op).run s.H)=some (c.f,c.args x)∧
  c.sh.all fun r=>match dx P X.cfg (GU (some (c.out r,[]))) ops n0 o nid s with
   |some (r',f)=>k (kk r) r' f
   |none=>Bq P ops o s (kk r)
 | .pO z c x kk=>fL ops s.A o=some true∧EA z.bs s.H∧ED P X.cfg (bQ s.A) o.op=some (c.f,z.wj)∧some (jk z.Cj)=some (c.args x)∧
  c.sh.all fun r=>match c.out r with
   | .ret u=>match u.flat with
    |true=>mE s.A o.dst u fun A=>k (kk r) (.ok {s with A:=A}) (eF n0 z.rs (.tv 0 [] false) [] false)
    |false=>False
   | .aM u=>match u.flat with
    |true=>k (kk r) (.aM u s) (eF n0 z.rs (.tv 0 [] false) [] false)
    |false=>False
 | .bz c x kk=>fL ops s.A o=some true∧GV s.H ((bf P X.cfg nid (bQ s.A) o.op).run s.H)=some (c.f,c.args x,c.heap x)∧
  c.sh.all fun r=>match dx P X.cfg (GU (some (c.out r,c.fu x r))) ops n0 o nid s with
   |some (r',f)=>k (kk r) r' f
   |none=>Bq P ops o s (kk r)
 | .gM c b v ex x kk=>fL ops s.A o=some true∧Gc ex s.H∧Jh s.H b (nr P X.cfg (b::ex.map (·.b)) (bQ s.A) o.op)=some (c.f,AVal.pL b v (c.args x),some ((c.blk x).iG v))∧
  c.sh.all fun r=>match c.out r with
   | .ret u=>mE s.A o.dst (u.u5 b v) fun A=>lP {val:=u.u5 b v,cZ:=[(b,(c.pM x r).iG v)]} s.H fun H=>k (kk r) (.ok {s with A:=A,H:=H})
    (eF n0 (zi (nr P X.cfg (b::ex.map (·.b)) (bQ s.A) o.op)).2 (.gY 0 [] []) (zi (nr P X.cfg (b::ex.map (·.b)) (bQ s.A) o.op)).1 false)
   | .aM u=>k (kk r) (.aM u {s with H:=(zi (nr P X.cfg (b::ex.map (·.b)) (bQ s.A) o.op)).1.foldl (fun H i=>H.set i .dead) s.H})
    (eF n0 (zi (nr P X.cfg (b::ex.map (·.b)) (bQ s.A) o.op)).2 (.gY 0 [] []) (zi (nr P X.cfg (b::ex.map (·.b)) (bQ s.A) o.op)).1 false)
 | .inl pr g'=>fL ops s.A o=some true∧Gc pr s.H∧match AE P X.cfg (pr.map (·.b)) (bQ s.A) o.op s.H with
  |some (.inl f,args,ids,rs)=>pq (mask ids s.H) fun Hm=>X.N.fn f args Hm g' fun g2 a H1=>yq ids s.H a H1 (fun e ws nw=>mE s.A o.dst e.val fun A=>lP e s.H fun H=>k g2 (.ok {s with A:=A,H:=H}) (eF n0 rs (.gY 0 [] []) ws nw))
   (fun v=>k g2 (.aM v {s with H:=ids.foldl (fun H i=>H.set i .dead) s.H}) (eF n0 rs (.gY 0 [] []) ids false))
  |some (.inr b,args,ids,rs)=>pq (mask ids s.H) fun Hm=>X.N.xE b args Hm g' fun g2 a H1=>yq ids s.H a H1 (fun e ws nw=>mE s.A o.dst e.val fun A=>lP e s.H fun H=>k g2 (.ok {s with A:=A,H:=H}) (eF n0 rs (.gY 0 [] []) ws nw))
   (fun v=>k g2 (.aM v {s with H:=ids.foldl (fun H i=>H.set i .dead) s.H}) (eF n0 rs (.gY 0 [] []) ids false))
  |none=>Bq P ops o s g'
 | .pick z seen kk=>match draw with
  |true=>False
  |false=>(match o.op with
   | .next it false=>fL ops s.A o=some true∧(bQ s.A it=.ptr z.b 0 0 0∧s.H[z.b]? =some (.iter (.mp z.mb) z.n seen z.n)∧s.H[z.mb]? =some (.map z.n z.es)∧
    (mE s.A o.dst (.bV [.sc (.bool false)]) fun A=>k (kk none) (.ok {s with A:=A}) ⟨[],[]⟩)∧
    ∀i,mE s.A o.dst (.bV [.sc (.bool true),.aq,.aq]) fun A=>lP {val:=nothing,cZ:=[(z.b,.iter (.mp z.mb) z.n (seen++[i]) z.n)]} s.H fun H=>k (kk (some i)) (.ok {s with A:=A,H:=H}) ⟨[],[]⟩)
   |_=>False)
 | .grow z kk=>match draw with
  |true=>False
  |false=>(match o.op with
   | .call {callee:=.builtin .append,args:=args,argTypes:=ats}=>match ats[0]?,ats[1]?,args[0]?,args[1]? with
    |some ST,some XT,some sx,some x=>fL ops s.A o=some true∧s.H[nid]? =some .aR∧decide (args.size=2)=true∧Bp P ST XT=some (z.n,z.bytes)∧bQ s.A sx=.sl z.b z.ak z.n 0 z.len∧s.H[z.b]? =some (.row z.ak z.n (z.l.map z.enc))∧
     (elems (bQ s.A x)).run s.H=some (z.m.map z.enc)∧(∀x,(z.enc x).length=z.n)∧z.m.isEmpty=false∧
     (mE s.A o.dst (.sl z.b z.ak z.n 0 (z.l++z.m).length) fun A=>lP {val:=nothing,cZ:=[(z.b,.row z.ak z.n ((z.l++z.m).map z.enc))]} s.H fun H=>k (kk true) (.ok {s with A:=A,H:=H}) ⟨[],[]⟩)∧
     (mE s.A o.dst (.sl nid 0 z.n 0 (z.l++z.m).length) fun A=>lP {val:=nothing,cZ:=[(nid,.row 0 z.n ((z.l++z.m).map z.enc))]} s.H fun H=>k (kk false) (.ok {s with A:=A,H:=H}) ⟨[],[]⟩)
    |_,_,_,_=>False
   |_=>False)
 | .fail=>True
 | .stop=>L6 P X ops n0 o nid s k draw H0
 |g=>Bq P ops o s g
def tB{ρ:Type}(P:Program)[gl:ax](X:Env P)(draw:Bool)(H0:List af)(ops:Array Oper)(n0:Nat)(o:Oper)(nid:Nat)(g:G P ρ)(s:St)(k:G P ρ→dw→eV→Prop):Prop:=
 match g with
 | .tidy l g'=>match draw with
  |true=>False
  |false=>fP H0 l s fun s'=>lR P X draw H0 ops n0 o nid g' s' k
 |g=>lR P X draw H0 ops n0 o nid g s k
def vC{ρ:Type}(P:Program)[ax](X:Env P)(draw:Bool)(H0:List af)(ops:Array Oper)(n0:Nat):List (Oper×Nat)→G P ρ→St→(G P ρ→dw→List eV→Prop)→Prop
 | [],g,s,k=>k g (.ok s) []
 | (o,nid)::rest,g,s,k=>ko g s fun g s=>tB P X draw H0 ops n0 o nid g s fun g r f=>match r with
  | .ok ⟨A,H,D⟩=>fJ A fun A=>fJ H fun H=>fJ D fun D=>vC P X draw H0 ops n0 rest g ⟨A,H,D⟩ fun g r fs=>k g r (f::fs)
  | .aM v s'=>k g (.aM v s') [f]
def nv{ρ:Type}(P:Program)[ax](X:Env P)(H0:List af)(ops:Array Oper)(draw:Bool)(g:G P ρ)(s:St)(k:G P ρ→dw→Prop):Prop:=
 gD (iX ops.toList) fun c=>gD (if c=0 then 0 else kY s.H) fun t=>gD (c - t) fun m=>
 Ba s.H (List.replicate m .aR) fun H1=>
 gD H1.length fun n0=>vC P X draw H0 ops n0 (numbered (s.H.length - t) ops.toList) g {s with H:=H1} fun g r feet=>
  if !draw then k g r else
  if qA ops&&feet.length==ops.size&&indep ops (CheckFast.beforeF ops) feet then
   match r with
   | .ok s'=>k g (.ok s')
   | .aM v s'=>if feet.all (fun f=>f.writes.isEmpty)then k g (.aM v {s' with A:=ops.toList.foldl (fun A o=>fG A o.dst .aq) s'.A})else False
  else False
def AF{ρ:Type}(H0:List af)(g:G P ρ)(s:St)(k:G P ρ→St→Prop):Prop:=match g with
 | .tidy l g'=>fP H0 l s fun s'=>k g' s'
 |g=>k g s
def zj{ρ:Type}(f:G P ρ→St→(G P ρ→aS→St→Prop)→Prop):Nat→G P ρ→St→(G P ρ→aS→St→Prop)→Prop
 | 0,_,_,_=>False
 |n+1,g,s,k=>f g s fun g o s'=>match o with
  | .normal=>zj f n g s' k
  |o=>k g o s'
def kK{σ:Type}{sh:Sh}(H0:List af)(E:σ→St)(X:sh.El→aS×St)(g:G P (σ⊕sh.El))(o:aS)(s:St):Prop:=
 match g with
 | .done ts (.inl a)=>fP H0 ts s fun s'=>(o,s')=(aS.normal,E a)
 | .done ts (.inr t)=>match o with
  | .normal=>False
  |o=>fP H0 ts s fun s'=>(o,s')=X t
 | .fail=>True
 |_=>Kn P H0 o s E X
def zk{sh:Sh}(H0:List af)(Y:sh.El→aS×St)(g:G P sh.El)(o:aS)(s:St):Prop:=
 match g with
 | .done ts t=>fP H0 ts s fun s'=>(o,s')=Y t
 | .fail=>True
 |_=>KT P H0 o s Y
def zl{ρ:Type}(P:Program)[ax](X:Env P)(H0:List af)(c:Operand)(a b:Code)(wa wb:G P ρ→St→(G P ρ→aS→St→Prop)→Prop)(g:G P ρ)(s:St)(k:G P ρ→aS→St→Prop):Prop:=
 AF H0 g s fun g s=>ko g s fun g s=>match g with
  | .skip (n+1) g=>match bQ s.A c with
   | .sc (.bool true)=>wa (G.less n g) s k
   | .sc (.bool false)=>wb (G.less n g) s k
   |_=>False
  | .fail=>True
  |_=>KP P X c a b s k H0
def wm{ρ:Type}(id:Nat)(k:G P ρ→aS→St→Prop)(g:G P ρ)(o:aS)(s':St):Prop:=match o with
 | .exit id'=>if id'=id then k g .normal s' else k g (.exit id') s'
 |o=>k g o s'
def tC(P:Program)[ax](cfg:dV)(L:Nat)(fn:Func)(m:Option AVal)(s:St):Option (aI×List af):=
 match leave P cfg qG L s.D m s.H with
 |some (m',H')=>match ending P fn s.A m' H' with
  |some (.ret v,H1)=>some (.ret (gm v),H1)
  |some (.aM v,H1)=>match v.flat with
   |true=>some (.aM v,H1)
   |false=>none
  |none=>none
 |none=>none
def mI(P:Program)[ax](cfg:dV)(L:Nat)(fn:Func)(o:aS)(s:St):Option (aI×List af):=
 match o with
 | .normal=>tC P cfg L fn none s
 | .ret=>tC P cfg L fn none s
 | .aM v=>tC P cfg L fn (some v) s
 | .exit _=>none
def zm{σ:Type}{sh:Sh}(N:vB P)(ro:Option Nat)(H0:List af)(b:Code)(E:σ→St)(s:St)(Y:sh.El→aS×St)(g:G P (σ⊕sh.El))(f:G P (σ⊕sh.El)→Prop):Prop:=
 match g with
 | .rE _ _ g=>N.lp ro H0 b g E s Y
 |g=>f g
def gv(P:Program)[ax](X:Env P)(H0:List af):Code→{ρ:Type}→G P ρ→St→(G P ρ→aS→St→Prop)→Prop
 | .skip,_,g,s,k=>k g .normal s
 | .region _ ops draw,_,g,s,k=>match X.ro.isSome&&ops.toList.any v7 with
  |true=>False
  |false=>AF H0 g s fun g s=>nv P (X.at draw) H0 ops draw g s fun g r=>match r with
   | .ok s'=>k g .normal s'
   | .aM v s'=>k g (.aM v) s'
 | .seq a b,_,g,s,k=>gv P X H0 a g s fun g o s'=>match o with
  | .normal=>gv P X H0 b g s' k
  |o=>k g o s'
 | .cond c a b,_,g,s,k=>match g with
  | .join sh Y g1 kk=>zl P X H0 c a b (fun g s k=>gv P X H0 a g s k) (fun g s k=>gv P X H0 b g s k) g1 s (zk H0 Y)∧sh.all fun t=>k (kk t) (Y t).1 (Y t).2
  |g=>zl P X H0 c a b (fun g s k=>gv P X H0 a g s k) (fun g s k=>gv P X H0 b g s k) g s k
 | .block id b,_,g,s,k=>match g with
  | .join sh Y g1 kk=>gv P X H0 b g1 s (wm id (zk H0 Y))∧sh.all fun t=>k (kk t) (Y t).1 (Y t).2
  |g=>gv P X H0 b g s (wm id k)
 | .loop b,_,g,s,k=>match g with
  | .eG n g=>zj (fun g s k=>gv P X H0 b g s k) n g s k
  | .loop sh hd E Y a0 body kk=>(fP H0 hd s fun s'=>s'=E a0)∧(∀a,zm X.N X.ro H0 b E (E a) Y (body a) fun g=>gv P X H0 b g (E a) (kK H0 E Y))∧sh.all fun t=>k (kk t) (Y t).1 (Y t).2
  | .jh hs sh hd E Y a0 body kk=>(fP H0 hd s fun s'=>s'=E a0)∧(hs.all fun a=>zm X.N X.ro H0 b E (E a) Y (body a) fun g=>gv P X H0 b g (E a) (kK H0 E Y))∧sh.all fun t=>k (kk t) (Y t).1 (Y t).2
  | .fail=>True
  |_=>KQ P X b s k H0
 | .exit id,_,g,s,k=>k g (.exit id) s
 | .ret,_,g,s,k=>k g .ret s
 | .rangeFunc f ps assign body,_,g,s,k=>AF H0 g s fun g s=>match g with
  | .inl pr g=>(some true=some true)∧match bQ s.A f with
   | .fn (.func n) p q=>match yd X.ro 0 ps assign body s with
    |some (l,H1,D1)=>fJ H1 fun H1=>Gc pr H1∧match nu (pr.map (·.b)) H1 1000 (AVal.kg (p++[.gj l]++q)) []with
     |some (ids,_)=>pq (mask ids H1) fun Hm=>X.N.fn n (p++[.gj l]++q) Hm g fun g2 a H2=>yq ids H1 a H2
      (fun e _ _=>lP e H1 fun H3=>match Ek l D1 s H3 with
       |some (out,s')=>k g2 out s'
       |none=>False)
      (fun v=>k g2 (.aM v) {s with H:=ids.foldl (fun H i=>H.set i .dead) H1,D:=D1})
     |none=>False
    |none=>False
   |_=>False
  | .fail=>True
  |_=>Km P X f ps assign body s k H0
 |_,_,_,_,_=>False
def AG(pr:List Nat)(n:Nat):Nat→List af→Bool
 |_,[]=>true
 |i,x::xs=>(match pr.contains i with
  |true=>true
  |false=>ry n x)&&AG pr n (i+1) xs
def aI.eR(n:Nat):aI→Bool
 | .ret v=>v.eR n
 | .aM _=>true
def JS(pr:List PR)(n:Nat)(a:aI)(H1:List af)(k:aI→List af→Prop):Prop:=
 Gc pr H1∧match a.eR n&&AG (pr.map (·.b)) n 0 (H1.take n)with
  |true=>fJ (H1.take n) fun H=>k a H
  |false=>k a H1
def Ji{ρ:Type}(P:Program)[ax](cfg:dV)(fn:Func)(H0:List af)(g:G P ρ)(o:aS)(s:St)(k:G P ρ→aI→List af→Prop):Prop:=
 match g with
 | .tidy ts (.inl pr g)=>fP H0 ts s fun s=>match mI P cfg 10 fn o s with
  |some (a,H1)=>(some true=some true)∧JS pr H0.length a H1 (k g)
  |none=>False
 | .fail=>True
 |_=>KR P fn o s H0 fun g pr o s=>match mI P cfg 10 fn o s with
  |some (a,H1)=>JS pr H0.length a H1 (k g)
  |none=>False
def JT(P:Program)[ax](cfg:dV)(nd:Bool)(N:vB P){ρ:Type}(f:FuncId)(args:List AVal)(H:List af)(g:G P ρ)(k:G P ρ→aI→List af→Prop):Prop:=
 match g with
 | .bz c x kk=>GS P f args H c x kk k
 |g=>match P.funcs[f]? with
  |some fn=>match fn.body with
   |some c=>gv P ⟨cfg,none,N,nd⟩ H c g ⟨iF fn.ntmps args,H,[]⟩ fun g o s=>Ji P cfg fn H g o s k
   |none=>False
  |none=>False
def Jj{ρ:Type}(P:Program)[ax](b:Nat)(H0:List af)(g:G P ρ)(o:aS)(s:St)(k:G P ρ→aI→List af→Prop):Prop:=
 match mF o with
 |some j=>match g with
  | .tidy ts g=>fP H0 ts s fun s=>match marked b (if j.isNone then .ready else .done) j s.H with
   |some H2=>k g (.ret (.sc (.bool j.isNone))) H2
   |none=>False
  | .fail=>True
  |_=>KS P b o s H0 fun g s=>match marked b (if j.isNone then .ready else .done) j s.H with
   |some H2=>k g (.ret (.sc (.bool j.isNone))) H2
   |none=>False
 |none=>False
def Jk(P:Program)[ax](cfg:dV)(nd:Bool)(N:vB P){ρ:Type}(b:Nat)(args:List AVal)(H:List af)(g:G P ρ)(k:G P ρ→aI→List af→Prop):Prop:=
 match H[b]? with
 |some (.loop _ _ _ A ps assign body)=>match Nat.beq ps.length args.length with
  |true=>gv P ⟨cfg,some b,N,nd⟩ H assign g ⟨nZ A ps args,H,[]⟩ fun g o s1=>match o with
   | .normal=>match s1.H[b]? with
    |some (.loop .ready pend1 fid1 A1 ps1 as1 bd1)=>fJ (s1.H.set b (.loop .busy pend1 fid1 A1 ps1 as1 bd1)) fun H1=>
     gv P ⟨cfg,some b,N,nd⟩ H body g {s1 with H:=H1} fun g o s2=>Jj P b H g o s2 k
    |_=>False
   |_=>False
  |false=>False
 |_=>False
inductive H9 (P:Program) [ax] (cfg:dV) (nd:Bool) (N:vB P) (ro:Option Nat) (H0:List af) (b:Code) {σ:Type} {sh:Sh} (g:G P (σ⊕sh.El)) (E:σ→St) (s:St) (Y:sh.El→aS×St):Prop
 |mk (h:gv P ⟨cfg,ro,N,nd⟩ H0 b g s (kK H0 E Y)):H9 P cfg nd N ro H0 b g E s Y
def gN(P:Program)[ax](cfg:dV)(nd:Bool):Nat→vB P
 | 0=>Lu P
 |n+1=>⟨JT P cfg nd (gN P cfg nd n),Jk P cfg nd (gN P cfg nd n),fun ro H0 b g E s Y=>H9 P cfg nd (gN P cfg nd n) ro H0 b g E s Y⟩
def GW(P:Program)[ax](cfg:dV):Env P:=⟨cfg,none,gN P cfg false 9,false⟩
def KU(P:Program)[ax](cfg:dV):Env P:=⟨cfg,none,gN P cfg true 9,true⟩
end
end Go.AM
end
section
namespace Go.AM
section
variable [ax] {P:Program} {g g':Gh} {w:World}
theorem yt(hst:∀k o,g.st k o→g'.st k o){c:Array Value}:∀(l:List AVal) (o:Nat),AVal.aO l=true→cC g w c l o→cC g' w c l o
 | [],_,_,_=>trivial
 |a::as,o,hp,h=>by
  simp only[AVal.aO,Bool.and_eq_true]at hp;obtain⟨⟨y,h1,h2,h3⟩,h4⟩:=h;exact⟨⟨y,h1,h2,gP hst a y hp.1 h3⟩,yt hst as (o+1) hp.2 h4⟩
theorem oh(hst:∀k o,g.st k o→g'.st k o){c:Array Value}{sz:Nat}:∀(l:List (List AVal)) (o:Nat),l.all AVal.aO=true→ez g w c sz l o→ez g' w c sz l o
 | [],_,_,_=>trivial
 |r::rs,o,hp,h=>by
  simp only[List.all_cons,Bool.and_eq_true]at hp;exact⟨⟨h.1.1,yt hst r o hp.1 h.1.2⟩,oh hst rs (o+sz) hp.2 h.2⟩
mutual
theorem JU{b v:Nat}(hst:∀k o,g.st k o→g'.st k o)(hrho:∀x,g.ai b v=some x→g'.ai 0 0=some x):∀(a:AVal) (x:Value),a.ox=true→R g w (a.tc b v) x→R g' w a x
 | .sc _,x,_,hr=>by simpa[R,AVal.tc]using hr
 | .agg cs,x,hp,hr=>by
  simp only[R,AVal.ox,AVal.tc]at hr hp ⊢;obtain⟨vs,e,h1,hl⟩:=hr;exact⟨vs,e,h1,ud hst hrho cs vs hp hl⟩
 | .bV cs,x,hp,hr=>by
  simp only[R,AVal.ox,AVal.tc]at hr hp ⊢;obtain⟨vs,e,hl⟩:=hr;exact⟨vs,e,ud hst hrho cs vs hp hl⟩
 | .ptr b' v' i o,x,hp,hr=>by
  grind [R,AVal.ox,AVal.tc]
 | .bp cs o,x,_,hr=>by
  grind [R,AVal.tc,gI]
 | .sl b' v' sz o n,x,hp,hr=>by
  grind [R,AVal.ox,AVal.tc]
 | .aD rows,x,_,hr=>gP hst _ x rfl (by simpa only[AVal.tc]using hr)
 | .fn f c d,x,hp,hr=>by
  simp only[R,AVal.ox,AVal.tc,Bool.and_eq_true]at hr hp ⊢;obtain⟨va,vb,e,h1,h2⟩:=hr;exact⟨va,vb,e,ud hst hrho c va hp.1 h1,ud hst hrho d vb hp.2 h2⟩
 | .ei t a,x,hp,hr=>by
  simp only[R,AVal.ox,AVal.tc]at hr hp ⊢;obtain⟨y,e,h1⟩:=hr;exact⟨y,e,JU hst hrho a y hp h1⟩
 | .mp _,_,hp,_=>by simp[AVal.ox]at hp
 | .gj _,_,hp,_=>by simp[AVal.ox]at hp
 | .sa b' v' i o s n,x,hp,hr=>by
  grind [R,AVal.ox,AVal.tc]
 | .eU i o,x,_,hr=>by simpa[R,AVal.tc]using hr
 | .emp,x,_,hr=>by simpa[R,AVal.tc]using hr
 | .nz _,x,_,hr=>by simpa[R,AVal.tc]using hr
 | .aq,x,_,_=>by simp[R]
theorem ud{b v:Nat}(hst:∀k o,g.st k o→g'.st k o)(hrho:∀x,g.ai b v=some x→g'.ai 0 0=some x):∀(a:List AVal) (x:List Value),AVal.jH a=true→RL g w (AVal.pL b v a) x→RL g' w a x
 | [],x,_,hr=>by simpa[RL,AVal.pL]using hr
 |a::as,x,hp,hr=>by
  simp only[RL,AVal.jH,AVal.pL,Bool.and_eq_true]at hr hp ⊢;obtain⟨y,ys,e,h1,h2⟩:=hr;exact⟨y,ys,e,JU hst hrho a y hp.1 h1,ud hst hrho as ys hp.2 h2⟩
end
theorem ue{x:af}(h:x.nI=true):∃sz rows,x=.row 0 sz rows∧rows.all AVal.aO=true:=by
 unfold af.nI at h;grind
open Classical in
theorem bB.move{f:FuncId}{args:List AVal}{x x':af}{r:aI}(h:bB P f args [x] r [x'])(ha:AVal.jH args=true)(hx:x.nI=true)(hx':x'.nI=true)(hr:r.yp=true)
 (b v:Nat) (H:List af) (hb:H[b]? =some (x.iG v)) (hd:∀b',b'≠b→∀y,H[b']? =some y→y=.dead):bB P f (AVal.pL b v args) H (r.u5 b v) (H.set b (x'.iG v)):=by
 obtain⟨sz,rows,rfl,hp⟩:=ue hx;obtain⟨sz',rows',rfl,hp'⟩:=ue hx';simp only[af.iG]at hb ⊢;have hblt:b<H.length:=(List.getElem?_eq_some_iff.1 hb).1;refine⟨h.1,fun g w vs hi hl=>?_⟩
 let g':Gh:=⟨fun b' v'=>if b'=0∧v'=0 then g.ai b v else none,g.st⟩
 have h00:g'.ai 0 0=g.ai b v:=by simp[g']
 have hno:∀b' v',¬(b'=0∧v'=0)→g'.ai b' v'=none:=fun b' v' hc=>by simp[g',hc]
 have hst:∀k o,g.st k o→g'.st k o:=fun _ _ h=>h
 have hi':Inv g' [.row 0 sz rows] w:=by
  refine⟨fun b' y hy=>?_,fun b1 b2 y1 y2 v1 v2 k z z' e1 e2 _ _ _ _=>?_,fun b' v' hc=>?_,fun b' y v1 v2 hy hv hlt=>?_,fun b' y v1 k z o hy hv hk=>?_,hi.dc,fun i cs hc=>⟨(hi.b9 i cs hc).1,gI hst _ _ _ (hi.b9 i cs hc).1 (hi.b9 i cs hc).2⟩⟩
  ·cases b' with
   |zero=>
    simp only[List.getElem?_cons_zero,Option.some.injEq]at hy;subst hy;rcases hi.good b _ hb with⟨k,c,e,h1,h2,h3,h4,h5⟩ |⟨h1,h2,h3⟩
    ·exact .inl ⟨k,c,e,by rw[h00];exact h1,h2,oh hst rows 0 hp h3,h4,h5⟩
    ·exact .inr ⟨h1,by rw[h00];exact h2,h3⟩
   |succ n=>simp at hy
  ·grind
  ·grind
  ·grind
  ·by_cases hc:b'=0∧v1=0
   ·obtain⟨rfl,rfl⟩:=hc;rw[h00]at hk;exact hi.free b _ v k z o hb rfl hk
   ·rw[hno _ _ hc]at hk;cases hk
 have hl':RL g' w args vs.toList:=ud hst (fun x hx=>by rw[h00];exact hx) _ _ ha hl
 refine(h.2 g' w vs hi' hl').mono fun e w' ⟨g1',hi1,hla,he⟩=>?_
 have hown:∀k,eD g' [.row 0 sz rows] k→eD g H k:=by
  rintro k ⟨b',y,v',z,hy,hv,hk⟩;by_cases hc:b'=0∧v'=0
  ·obtain⟨rfl,rfl⟩:=hc;rw[h00]at hk;exact⟨b,_,v,z,hb,rfl,hk⟩
  ·rw[hno _ _ hc]at hk;cases hk
 have hown':∀k,eD g H k→eD g' [.row 0 sz rows] k:=by
  rintro k ⟨b',y,v',z,hy,hv,hk⟩;by_cases hc:b'=b
  ·subst hc;rw[hb]at hy;cases hy;simp only[af.live,Option.some.injEq]at hv;subst hv;exact⟨0,_,0,z,rfl,rfl,by rw[h00];exact hk⟩
  ·rw[hd b' hc y hy]at hv;cases hv
 let g1:Gh:=⟨fun b' v'=>if b'=b∧v'=v then g1'.ai 0 0 else g.ai b' v',g1'.st⟩
 have e00:g1.ai b v=g1'.ai 0 0:=by simp[g1]
 have eno:∀b' v',¬(b'=b∧v'=v)→g1.ai b' v'=g.ai b' v':=fun b' v' hc=>by simp[g1,hc]
 have hst1:∀k o,g1'.st k o→g1.st k o:=fun _ _ h=>h
 have hget:∀b',b'≠b→(H.set b (.row v sz' rows'))[b']? =H[b']? :=fun b' hc=>List.getElem?_set_ne (Ne.symm hc)
 have hself:(H.set b (.row v sz' rows'))[b]? =some (.row v sz' rows'):=List.getElem?_set_self hblt;have hinv1:Inv g1 (H.set b (.row v sz' rows')) w':=by
  refine⟨fun b' y hy=>?_,fun b1 b2 y1 y2 v1 v2 k z z' e1 e2 l1 l2 _ _=>?_,fun b' v' hc=>?_,fun b' y v1 v2 hy hv hlt=>?_,fun b' y v1 k z o hy hv hk=>?_,hi1.dc,fun i cs hc=>⟨(hi1.b9 i cs hc).1,gI hst1 _ _ _ (hi1.b9 i cs hc).1 (hi1.b9 i cs hc).2⟩⟩
  ·by_cases hc:b'=b
   ·subst hc;rw[hself]at hy;cases hy;rcases hi1.good 0 _ rfl with⟨k,c,e,h1,h2,h3,h4,h5⟩ |⟨h1,h2,h3⟩
    ·exact .inl ⟨k,c,e,by rw[e00];exact h1,h2,oh hst1 rows' 0 hp' h3,h4,h5⟩
    ·exact .inr ⟨h1,by rw[e00];exact h2,h3⟩
   ·rw[hget b' hc]at hy;rw[hd b' hc y hy];trivial
  ·have key:∀(b':Nat) (y:af) (v':Nat),(H.set b (.row v sz' rows'))[b']? =some y→y.live=some v'→b'=b:=by
    intro b' y v' hy hv;by_cases hc:b'=b
    ·exact hc
    ·rw[hget b' hc]at hy;rw[hd b' hc y hy]at hv;cases hv
   grind
  ·have hne:b'≠b:=by
    rintro rfl;rcases hc with hc |hc
    ·rw[hself]at hc;cases hc
    ·rw[List.length_set]at hc;omega
   rw[eno _ _ (fun hh=>hne hh.1)]
   refine hi.fresh b' v' ?_;grind
  ·by_cases hc:b'=b
   ·subst hc;rw[hself]at hy;cases hy;simp only[af.live,Option.some.injEq]at hv;subst hv;rw[eno _ _ (by omega)]
    exact hi.next b' _ v v2 hb rfl hlt
   ·rw[hget b' hc]at hy;rw[hd b' hc y hy]at hv;cases hv
  ·by_cases hc:b'=b
   ·subst hc;rw[hself]at hy;cases hy;simp only[af.live,Option.some.injEq]at hv;subst hv;rw[e00]at hk;exact hi1.free 0 _ 0 k z o rfl rfl hk
   ·rw[hget b' hc]at hy;rw[hd b' hc y hy]at hv;cases hv
 have hback:∀k,eD g1 (H.set b (.row v sz' rows')) k→eD g1' [.row 0 sz' rows'] k:=by
  rintro k ⟨b',y,v',z,hy,hv,hkz⟩;by_cases hc:b'=b
  ·subst hc;rw[hself]at hy;cases hy;simp only[af.live,Option.some.injEq]at hv;subst hv;rw[e00]at hkz;exact⟨0,_,0,z,rfl,rfl,hkz⟩
  ·rw[hget b' hc]at hy;rw[hd b' hc y hy]at hv;cases hv
 refine⟨g1,hinv1,⟨⟨fun b' v' y hy=>?_,fun k o hk=>hla.ext.st k o hk,hla.ext.cell,hla.ext.shape⟩,hla.size,fun k hk ho=>hla.keep k hk fun hc=>ho (hown k hc),fun k hk ho=>?_,by grind,hla.os,hla.tape,hla.output,fun k o hk hs=>(hla.stk k o hk hs).imp_right fun h=>⟨hown k h.1,fun ho=>h.2 (hback k ho)⟩,fun b' hb'=>?_,fun b' v' k z hk=>?_⟩,?_⟩
 ·by_cases hc:b'=b∧v'=v
  ·obtain⟨rfl,rfl⟩:=hc;rw[e00];exact hla.ext.ai 0 0 y (by rw[h00];exact hy)
  ·rw[eno _ _ hc];exact hy
 ·refine hown k (hla.own k hk ?_);grind
 ·grind
 ·by_cases hc:b'=b∧v'=v
  ·obtain⟨rfl,rfl⟩:=hc;rw[e00]at hk;rcases hla.mz 0 0 k z hk with⟨v1,z1,h1⟩ |h1
   ·grind
   ·exact .inr h1
  grind
 ·cases r with
  |ret u=>
   obtain⟨y,rfl,hy⟩:=he;have hq:(∃sz o n,u=.sl 0 0 sz o n)∨(u.pure=true∧u.u5 b v=u):=by
    cases u with
    |sl b1 v1 sz o n=>
     grind [aI.yp]
    |_=>exact .inr ⟨hr,rfl⟩
   rcases hq with⟨sz,o,n,rfl⟩ |⟨hp2,he2⟩
   ·refine⟨y,rfl,?_⟩;grind [AVal.u5,R]
   ·refine⟨y,rfl,?_⟩;grind [gP]
  |aM u=>
   obtain⟨y,rfl,hy⟩:=he;exact⟨y,rfl,hU _ _ hr hy⟩
open Classical in
theorem bB.Lw{f:FuncId}{args:List AVal}{x:af}{r:aI}(h:bB P f args [x] r [.dead])(ha:AVal.jH args=true)(hx:x.nI=true)(hr:r.yp=true)
 (b v:Nat) (H:List af) (hb:H[b]? =some (x.iG v)) (hd:∀b',b'≠b→∀y,H[b']? =some y→y=.dead):bB P f (AVal.pL b v args) H (r.u5 b v) (H.set b .dead):=by
 obtain⟨sz,rows,rfl,hp⟩:=ue hx;simp only[af.iG]at hb ⊢;have hblt:b<H.length:=(List.getElem?_eq_some_iff.1 hb).1;refine⟨h.1,fun g w vs hi hl=>?_⟩
 let g':Gh:=⟨fun b' v'=>if b'=0∧v'=0 then g.ai b v else none,g.st⟩
 have h00:g'.ai 0 0=g.ai b v:=by simp[g']
 have hno:∀b' v',¬(b'=0∧v'=0)→g'.ai b' v'=none:=fun b' v' hc=>by simp[g',hc]
 have hst:∀k o,g.st k o→g'.st k o:=fun _ _ h=>h
 have hi':Inv g' [.row 0 sz rows] w:=by
  refine⟨fun b' y hy=>?_,fun b1 b2 y1 y2 v1 v2 k z z' e1 e2 _ _ _ _=>?_,fun b' v' hc=>?_,fun b' y v1 v2 hy hv hlt=>?_,fun b' y v1 k z o hy hv hk=>?_,hi.dc,fun i cs hc=>⟨(hi.b9 i cs hc).1,gI hst _ _ _ (hi.b9 i cs hc).1 (hi.b9 i cs hc).2⟩⟩
  ·cases b' with
   |zero=>
    simp only[List.getElem?_cons_zero,Option.some.injEq]at hy;subst hy;rcases hi.good b _ hb with⟨k,c,e,h1,h2,h3,h4,h5⟩ |⟨h1,h2,h3⟩
    ·exact .inl ⟨k,c,e,by rw[h00];exact h1,h2,oh hst rows 0 hp h3,h4,h5⟩
    ·exact .inr ⟨h1,by rw[h00];exact h2,h3⟩
   |succ n=>simp at hy
  ·grind
  ·grind
  ·grind
  ·by_cases hc:b'=0∧v1=0
   ·obtain⟨rfl,rfl⟩:=hc;rw[h00]at hk;exact hi.free b _ v k z o hb rfl hk
   ·rw[hno _ _ hc]at hk;cases hk
 have hl':RL g' w args vs.toList:=ud hst (fun x hx=>by rw[h00];exact hx) _ _ ha hl
 refine(h.2 g' w vs hi' hl').mono fun e w' ⟨g1',hi1,hla,he⟩=>?_
 have hown:∀k,eD g' [.row 0 sz rows] k→eD g H k:=by
  rintro k ⟨b',y,v',z,hy,hv,hk⟩;by_cases hc:b'=0∧v'=0
  ·obtain⟨rfl,rfl⟩:=hc;rw[h00]at hk;exact⟨b,_,v,z,hb,rfl,hk⟩
  ·rw[hno _ _ hc]at hk;cases hk
 have hown':∀k,eD g H k→eD g' [.row 0 sz rows] k:=by
  rintro k ⟨b',y,v',z,hy,hv,hk⟩;by_cases hc:b'=b
  ·subst hc;rw[hb]at hy;cases hy;simp only[af.live,Option.some.injEq]at hv;subst hv;exact⟨0,_,0,z,rfl,rfl,by rw[h00];exact hk⟩
  ·rw[hd b' hc y hy]at hv;cases hv
 let g1:Gh:=⟨fun b' v'=>if b'=b∧v'=v then g1'.ai 0 0 else g.ai b' v',g1'.st⟩
 have e00:g1.ai b v=g1'.ai 0 0:=by simp[g1]
 have eno:∀b' v',¬(b'=b∧v'=v)→g1.ai b' v'=g.ai b' v':=fun b' v' hc=>by simp[g1,hc]
 have hst1:∀k o,g1'.st k o→g1.st k o:=fun _ _ h=>h
 have hget:∀b',b'≠b→(H.set b .dead)[b']? =H[b']? :=fun b' hc=>List.getElem?_set_ne (Ne.symm hc)
 have hself:(H.set b .dead)[b]? =some .dead:=List.getElem?_set_self hblt;have hinv1:Inv g1 (H.set b .dead) w':=by
  refine⟨fun b' y hy=>?_,fun b1 b2 y1 y2 v1 v2 k z z' e1 e2 l1 l2 _ _=>?_,fun b' v' hc=>?_,fun b' y v1 v2 hy hv hlt=>?_,fun b' y v1 k z o hy hv hk=>?_,hi1.dc,fun i cs hc=>⟨(hi1.b9 i cs hc).1,gI hst1 _ _ _ (hi1.b9 i cs hc).1 (hi1.b9 i cs hc).2⟩⟩
  ·by_cases hc:b'=b
   ·subst hc;rw[hself]at hy;cases hy
    trivial
   ·rw[hget b' hc]at hy;rw[hd b' hc y hy];trivial
  ·have key:∀(b':Nat) (y:af) (v':Nat),(H.set b .dead)[b']? =some y→y.live=some v'→b'=b:=by
    intro b' y v' hy hv;by_cases hc:b'=b
    ·exact hc
    ·rw[hget b' hc]at hy;rw[hd b' hc y hy]at hv;cases hv
   grind
  ·have hne:b'≠b:=by
    rintro rfl;rcases hc with hc |hc
    ·rw[hself]at hc;cases hc
    ·rw[List.length_set]at hc;omega
   rw[eno _ _ (fun hh=>hne hh.1)]
   refine hi.fresh b' v' ?_;grind
  ·by_cases hc:b'=b
   ·subst hc;rw[hself]at hy;cases hy;cases hv
   ·rw[hget b' hc]at hy;rw[hd b' hc y hy]at hv;cases hv
  ·by_cases hc:b'=b
   ·subst hc;rw[hself]at hy;cases hy;cases hv
   ·rw[hget b' hc]at hy;rw[hd b' hc y hy]at hv;cases hv
 have hback:∀k,eD g1 (H.set b .dead) k→eD g1' [.dead] k:=by
  rintro k ⟨b',y,v',z,hy,hv,hkz⟩;by_cases hc:b'=b
  ·subst hc;rw[hself]at hy;cases hy;cases hv
  ·rw[hget b' hc]at hy;rw[hd b' hc y hy]at hv;cases hv
 refine⟨g1,hinv1,⟨⟨fun b' v' y hy=>?_,fun k o hk=>hla.ext.st k o hk,hla.ext.cell,hla.ext.shape⟩,hla.size,fun k hk ho=>hla.keep k hk fun hc=>ho (hown k hc),fun k hk ho=>?_,by grind,hla.os,hla.tape,hla.output,fun k o hk hs=>(hla.stk k o hk hs).imp_right fun h=>⟨hown k h.1,fun ho=>h.2 (hback k ho)⟩,fun b' hb'=>?_,fun b' v' k z hk=>?_⟩,?_⟩
 ·by_cases hc:b'=b∧v'=v
  ·obtain⟨rfl,rfl⟩:=hc;rw[e00];exact hla.ext.ai 0 0 y (by rw[h00];exact hy)
  ·rw[eno _ _ hc];exact hy
 ·refine hown k (hla.own k hk ?_);grind
 ·grind
 ·by_cases hc:b'=b∧v'=v
  ·obtain⟨rfl,rfl⟩:=hc;rw[e00]at hk;rcases hla.mz 0 0 k z hk with⟨v1,z1,h1⟩ |h1
   ·grind
   ·exact .inr h1
  grind
 ·cases r with
  |ret u=>
   obtain⟨y,rfl,hy⟩:=he;have hq:(∃sz o n,u=.sl 0 0 sz o n)∨(u.pure=true∧u.u5 b v=u):=by
    cases u with
    |sl b1 v1 sz o n=>
     grind [aI.yp]
    |_=>exact .inr ⟨hr,rfl⟩
   rcases hq with⟨sz,o,n,rfl⟩ |⟨hp2,he2⟩
   ·refine⟨y,rfl,?_⟩;grind [AVal.u5,R]
   ·refine⟨y,rfl,?_⟩;grind [gP]
  |aM u=>
   obtain⟨y,rfl,hy⟩:=he;exact⟨y,rfl,hU _ _ hr hy⟩
theorem bB.Lx{f:FuncId}{args:List AVal}{x x':af}{r:aI}(h:bB P f args [x] r [x'])(ha:AVal.jH args=true)(hx:x.nI=true)(hx':x'.nI=true∨x'=.dead)(hr:r.yp=true)
 (b v:Nat) (H:List af) (hb:H[b]? =some (x.iG v)) (hd:∀b',b'≠b→∀y,H[b']? =some y→y=.dead):bB P f (AVal.pL b v args) H (r.u5 b v) (H.set b (x'.iG v)):=by
 rcases hx' with hx' |rfl
 ·exact h.move ha hx hx' hr b v H hb hd
 ·exact h.Lw ha hx hr b v H hb hd
theorem bB.frame{f:FuncId}{args:List AVal}{H:List af}{r:aI}{b:Nat}{y:af}(h:bB P f args (mask [b] H) r ((mask [b] H).set b y))(hb:b<H.length):bB P f args H r (H.set b y):=by
 refine⟨h.1,fun g w vs hi hl=>(h.2 g w vs (k4 hi [b]) hl).mono fun e w' ⟨g1,hi1,hla,he⟩=>?_⟩
 have hlen:((mask [b] H).set b y).length=H.length:=by rw[List.length_set,lY]
 have:=Inv.merge hi hi1 hla (by omega)
 have e1:merged [b] H ((mask [b] H).set b y)=H.set b y:=by
  simp only[merged,List.foldl_cons,List.foldl_nil];rw[List.getD_eq_getElem?_getD,List.getElem?_set_self (by rw[lY];exact hb)];rfl
 have e2:((mask [b] H).set b y).drop H.length=[]:=List.drop_of_length_le (by omega)
 rw[e1,e2,List.append_nil]at this;exact⟨g1,this.1,this.2,he⟩
mutual
theorem rI(n:Nat):∀(v:AVal),v.pure=true→v.eR n=true
 | .sc _,_=>rfl
 | .agg cs,h=>by simp only[AVal.pure,AVal.eR]at h ⊢;exact ia n cs h
 | .bV cs,h=>by simp only[AVal.pure,AVal.eR]at h ⊢;exact ia n cs h
 | .ptr ..,h=>by simp[AVal.pure]at h
 | .bp ..,_=>rfl
 | .sl ..,h=>by simp[AVal.pure]at h
 | .aD _,_=>rfl
 | .fn f a b,h=>by
  simp only[AVal.pure,AVal.eR,Bool.and_eq_true]at h ⊢;exact⟨ia n a h.1,ia n b h.2⟩
 | .ei t v,h=>by simp only[AVal.pure,AVal.eR]at h ⊢;exact rI n v h
 | .mp _,h=>by simp[AVal.pure]at h
 | .gj _,h=>by simp[AVal.pure]at h
 | .sa ..,h=>by simp[AVal.pure]at h
 | .eU ..,_=>rfl
 | .emp,_=>rfl
 | .nz _,_=>rfl
 | .aq,_=>rfl
theorem ia(n:Nat):∀(l:List AVal),AVal.aO l=true→AVal.ku n l=true
 | [],_=>rfl
 |a::as,h=>by
  simp only[AVal.aO,AVal.ku,Bool.and_eq_true]at h ⊢;exact⟨rI n a h.1,ia n as h.2⟩
end
theorem bB.take{f:FuncId}{args:List AVal}{H H1:List af}{a:aI}(h:bB P f args H a H1)(h0:0<H.length)(ha:a.yp=true)(hb:∀x∈H1.take H.length,x.nI=true∨x=.dead):bB P f args H a (H1.take H.length):=by
 refine⟨h.1,fun g w vs hi hl=>(h.2 g w vs hi hl).mono fun e w' ⟨g1,hi1,hla,he⟩=>?_⟩
 have hlen:(H1.take H.length).length=H.length:=by rw[List.length_take];have:=hla.len;omega
 have hK:H1.take H.length++H1.drop H.length=H1:=List.take_append_drop _ _;obtain⟨i1,i2⟩:=Inv.drop (n:=H.length) (K:=H1.take H.length) (L:=H1.drop H.length) hi (by rw[hK];exact hi1) (by rw[hK];exact hla) hlen rfl fun b x hx=>.inl (by
  rcases hb x (List.mem_of_getElem? hx)with hb |rfl
  ·grind [ue,ry,ia]
  ·rfl)
 refine⟨g1.upto H.length,i1,i2,?_⟩;cases a with
 |ret v=>
  obtain⟨x,rfl,hx⟩:=he;refine⟨x,rfl,?_⟩;by_cases hp:v.pure=true
  ·exact gP (g:=g1) (g2:=g1.upto H.length) (fun _ _ h=>h) v x hp hx
  ·cases v<;>try exact absurd ha hp
   rename_i b ak sz o n;simp only[aI.yp,Bool.and_eq_true,beq_iff_eq]at ha;obtain⟨rfl,rfl⟩:=ha;simp only[R]at hx ⊢;rcases hx with hx |⟨k,cap,e,s,h1,h2⟩
   ·exact .inl hx
   ·exact .inr ⟨k,cap,e,s,by simpa[Gh.upto,h0]using h1,h2⟩
 |aM v=>
  obtain⟨x,rfl,hx⟩:=he;exact⟨x,rfl,hU v x ha hx⟩
theorem AH{pr:List Nat}{n:Nat}:∀{L:List af} {i:Nat},AG pr n i L=true→∀(b:Nat) (x:af),L[b]? =some x→pr.contains (i+b)=true∨ry n x=true
 | [],_,_,b,x,h=>by simp at h
 |y::ys,i,hl,0,x,h=>by
  grind [AG]
 |y::ys,i,hl,b+1,x,h=>by
  simp only[AG,Bool.and_eq_true]at hl;have:=AH hl.2 b x (by simpa using h)
  grind
theorem bB.trim{f:FuncId}{args:List AVal}{H H1:List af}{a:aI}{pr:List Nat}(h:bB P f args H a H1)(hpan:∀v,a=.aM v→v.flat=true)(ha:a.eR H.length=true)(hl:AG pr H.length 0 (H1.take H.length)=true)
 (hp:∀i,pr.contains i=true→∃x,H1[i]? =some x∧pN x=true):bB P f args H a (H1.take H.length):=by
 refine⟨h.1,fun g w vs hi hl'=>(h.2 g w vs hi hl').mono fun e w' ⟨g1,hi1,hla,he⟩=>?_⟩
 have hlen:(H1.take H.length).length=H.length:=by rw[List.length_take];have:=hla.len;omega
 have hK:H1.take H.length++H1.drop H.length=H1:=List.take_append_drop _ _;obtain⟨i1,i2⟩:=Inv.drop (n:=H.length) (K:=H1.take H.length) (L:=H1.drop H.length) hi (by rw[hK];exact hi1) (by rw[hK];exact hla) hlen rfl fun b x hx=>.inl (by
  rcases AH hl b x hx with hc |hc
  ·grind [u6,ry,ia,rI]
  ·exact hc)
 refine⟨g1.upto H.length,i1,i2,?_⟩;cases a with
 |ret v=>
  obtain⟨x,rfl,hx⟩:=he;exact⟨x,rfl,jD (n:=H.length) (g:=g1) (g2:=g1.upto H.length) (fun _ _ h=>h) (fun b ak x hb he=>by grind [Gh.upto]) v x ha hx⟩
 |aM v=>
  obtain⟨x,rfl,hx⟩:=he;exact⟨x,rfl,hU v x (hpan v rfl) hx⟩
mutual
theorem JV{b:Nat}:∀(a:AVal) (x:Value),R g w a x→R g w (a.but b) x
 | .sc _,x,hr=>by simpa only[AVal.but]using hr
 | .agg cs,x,hr=>by
  simp only[R,AVal.but]at hr ⊢;obtain⟨vs,e,h1,hl⟩:=hr;exact⟨vs,e,h1,wo cs vs hl⟩
 | .bV cs,x,hr=>by
  simp only[R,AVal.but]at hr ⊢;obtain⟨vs,e,hl⟩:=hr;exact⟨vs,e,wo cs vs hl⟩
 | .ptr ..,x,hr=>by
  grind [AVal.but,R]
 | .bp ..,x,hr=>by simpa only[AVal.but]using hr
 | .sl ..,x,hr=>by
  grind [AVal.but,R]
 | .aD _,x,hr=>by simpa only[AVal.but]using hr
 | .fn f c d,x,hr=>by
  simp only[R,AVal.but]at hr ⊢;obtain⟨va,vb,e,h1,h2⟩:=hr;exact⟨va,vb,e,wo c va h1,wo d vb h2⟩
 | .ei t a,x,hr=>by
  simp only[R,AVal.but]at hr ⊢;obtain⟨y,e,h1⟩:=hr;exact⟨y,e,JV a y h1⟩
 | .mp _,_,_=>by simp[AVal.but,R]
 | .gj _,_,_=>by simp[AVal.but,R]
 | .sa ..,x,hr=>by
  grind [AVal.but,R]
 | .eU ..,x,hr=>by simpa only[AVal.but]using hr
 | .emp,x,hr=>by simpa only[AVal.but]using hr
 | .nz _,x,hr=>by simpa only[AVal.but]using hr
 | .aq,x,_=>by simp[AVal.but,R]
theorem wo{b:Nat}:∀(a:List AVal) (x:List Value),RL g w a x→RL g w (AVal.ua b a) x
 | [],x,hr=>by simpa[RL,AVal.ua]using hr
 |a::as,x,hr=>by
  simp only[RL,AVal.ua]at hr ⊢;obtain⟨y,ys,e,h1,h2⟩:=hr;exact⟨y,ys,e,JV a y h1,wo as ys h2⟩
end
theorem bB.but{b:Nat}{f:FuncId}{args:List AVal}{H H1:List af}{r:aI}(h:bB P f (AVal.ua b args) H r H1):bB P f args H r H1:=
 ⟨h.1,fun g w vs hi hl=>h.2 g w vs hi (wo _ _ hl)⟩
end
end Go.AM
end
section
namespace Go.AM
section
variable [ax] {P:Program} {cfg:dV} {X:Env P}
theorem ny:eW P qG:=⟨fun _ _ _ _ _ h=>by simp[qG]at h,fun _ _ _ _ _ h=>by simp[qG]at h⟩
open Classical in
noncomputable def lS(f:FuncId)(args:List AVal)(H:List af)(r:aI)(H1:List af):gF:=
 ⟨fun f' args' H'=>if f'=f∧args'=args∧H'=H then some (r,H1)else none,fun _ _ _=>none⟩
theorem u9{f:FuncId}{args:List AVal}{H H1:List af}{r:aI}(h:bB P f args H r H1):eW P (lS f args H r H1):=by
 refine⟨fun f' args' H' r' H1' hr=>?_,fun _ _ _ _ _ h=>by simp[lS]at h⟩
 simp only[lS]at hr;split at hr
 ·rename_i hc;obtain⟨rfl,rfl,rfl⟩:=hc;simp only[Option.some.injEq,Prod.mk.injEq]at hr;obtain⟨rfl,rfl⟩:=hr;exact h
 ·cases hr
open Classical in
noncomputable def qI(f:FuncId)(args:List AVal)(r:aI):gF:=
 ⟨fun f' args' H=>if f'=f∧args'=args∧H=[]then some (r,[])else none,fun _ _ _=>none⟩
theorem Br{f:FuncId}{args:List AVal}{r:aI}(h:gG P f args r):eW P (qI f args r):=by
 refine⟨fun f' args' H r' H1 hr=>?_,fun _ _ _ _ _ h=>by simp[qI]at h⟩
 simp only[qI]at hr;split at hr
 ·rename_i hc;obtain⟨rfl,rfl,rfl⟩:=hc;simp only[Option.some.injEq,Prod.mk.injEq]at hr;obtain⟨rfl,rfl⟩:=hr;exact h
 ·cases hr
def Bs(P:Program)[ax](b:Nat)(args:List AVal)(H:List af)(r:aI)(H1:List af):Prop:=
 ∀g w (vs:Array Value) k sz,Inv g H w→RL g w args vs.toList→g.ai b 0=some (k,sz)→
  ∃rec,w.heap[k]? =some (.loop rec)∧vs.size=rec.params.size∧RoundIn Fence.wide 0 P k rec.fn (iY rec vs) rec.assign rec.body w (dL g H w r H1)
open Classical in
noncomputable def yu(b:Nat)(args:List AVal)(H:List af)(r:aI)(H1:List af):gF:=
 ⟨fun _ _ _=>none,fun b' args' H'=>if b'=b∧args'=args∧H'=H then some (r,H1)else none⟩
theorem Ia{b:Nat}{args:List AVal}{H H1:List af}{r:aI}(h:Bs P b args H r H1):eW P (yu b args H r H1):=by
 refine⟨fun _ _ _ _ _ h=>by simp[yu]at h,fun b' args' H' r' H1' hr=>?_⟩
 simp only[yu]at hr;split at hr
 ·rename_i hc;obtain⟨rfl,rfl,rfl⟩:=hc;simp only[Option.some.injEq,Prod.mk.injEq]at hr;obtain⟨rfl,rfl⟩:=hr;exact h
 ·cases hr
theorem Bs.wk{b:Nat}{args:List AVal}{H H1:List af}{r:aI}(h:Bs P b (jk args) H r H1):Bs P b args H r H1:=
 fun g w vs k sz hi hl hk=>h g w vs k sz hi (rV _ _ hl) hk
structure kL(P:Program)[ax](N:vB P):Prop where
 fn:∀{ρ:Type} {n:Nat} {f:FuncId} {args:List AVal} {H:List af} {g:G P ρ} {k:G P ρ→aI→List af→Prop} {r:ρ},N.fn f args H g k→g.run n=some r→
  ∃g' a H1,k g' a H1∧g'.run n=some r∧bB P f args H a H1
 xE:∀{ρ:Type} {n:Nat} {b:Nat} {args:List AVal} {H:List af} {g:G P ρ} {k:G P ρ→aI→List af→Prop} {r:ρ},N.xE b args H g k→g.run n=some r→
  ∃g' a H1,k g' a H1∧g'.run n=some r∧Bs P b args H a H1
 lp:∀{σ:Type} {sh:Sh} {n:Nat} {ro:Option Nat} {H0:List af} {b:Code} {g:G P (σ⊕sh.El)} {E:σ→St} {s:St} {Y:sh.El→aS×St} {q:σ⊕sh.El},N.lp ro H0 b g E s Y→g.run n=some q→
  ∃(g':G P (σ⊕sh.El)) (o:aS) (s':St),kK H0 E Y g' o s'∧g'.run n=some q∧∀fro g0 w0,Inv g0 H0 w0→jR g0 ro fro→dO P fro g0 H0 w0 b s fun o1 s1=>o1=o∧s1=s'
variable {ops:Array Oper} {n0 nid:Nat} {o:Oper} {s:St}
theorem yw{orc orc':gF}(h:fL ops s.A o=some true→∀pre,(bf P cfg nid (bQ s.A) o.op).run s.H=some pre→finish orc s.H pre=finish orc' s.H pre):
 dx P cfg orc ops n0 o nid s=dx P cfg orc' ops n0 o nid s:=by
 grind [dx]
theorem iQ{n:Nat}{ρ:Type}{r:ρ}:∀{g:G P ρ} {s:St} {k:G P ρ→St→Prop},ko g s k→g.run n=some r→∃g',k g' s∧g'.run n=some r
 | .br d c t f,s,k,h,hr=>by
  simp only[ko,kD]at h;obtain⟨hd,h1,h2⟩:=h;have hset:s.A.set d (.sc (.bool c))=s.A:=by
   apply List.ext_getElem?;intro j;by_cases hj:d=j
   ·grind
   ·rw[List.getElem?_set_ne hj]
  cases c with
  |true=>
   rw[hset]at h1;simp only[G.run,if_true]at hr;exact iQ h1 hr
  |false=>
   rw[hset]at h2;simp only[G.run,Bool.false_eq_true,if_false]at hr;exact iQ h2 hr
 | .z6 d ik x c t f,s,k,h,hr=>by
  simp only[ko,kD]at h;obtain⟨hd,h1,h2⟩:=h;by_cases hx:x=c
  ·subst hx;have hset:s.A.set d (.sc (.int ik x))=s.A:=by
    apply List.ext_getElem?;intro j;by_cases hj:d=j
    ·grind
    ·rw[List.getElem?_set_ne hj]
   rw[hset]at h1;simp only[G.run,if_true]at hr;exact iQ h1 hr
  ·simp only[G.run,hx,if_false]at hr;exact iQ h2 hr
 | .sp c t f,s,k,h,hr=>by
  simp only[ko]at h;cases c with
  |true=>
   simp only[G.run,if_true]at hr;exact iQ h.1 hr
  |false=>
   simp only[G.run,Bool.false_eq_true,if_false]at hr;exact iQ h.2 hr
 | .fail,s,k,h,hr=>by simp[G.run]at hr
 | .stop,s,k,h,hr=>by simp[G.run]at hr
 | .done ..,s,k,h,hr=>⟨_,h,hr⟩
 | .skip ..,s,k,h,hr=>⟨_,h,hr⟩
 | .op ..,s,k,h,hr=>⟨_,h,hr⟩
 | .call ..,s,k,h,hr=>⟨_,h,hr⟩
 | .bz ..,s,k,h,hr=>⟨_,h,hr⟩
 | .pO ..,s,k,h,hr=>⟨_,h,hr⟩
 | .gM ..,s,k,h,hr=>⟨_,h,hr⟩
 | .tidy ..,s,k,h,hr=>⟨_,h,hr⟩
 | .loop ..,s,k,h,hr=>⟨_,h,hr⟩
 | .jh ..,s,k,h,hr=>⟨_,h,hr⟩
 | .eG ..,s,k,h,hr=>⟨_,h,hr⟩
 | .rE ..,s,k,h,hr=>⟨_,h,hr⟩
 | .join ..,s,k,h,hr=>⟨_,h,hr⟩
 | .inl ..,s,k,h,hr=>⟨_,h,hr⟩
theorem FF{x:Option Pre}{f:FuncId}{args:List AVal}(h:EC x=some (f,args)):∃args' own,x=some (.tv f args' own)∧jk args'=args:=by
 unfold EC at h;grind
theorem gG.wk{f:FuncId}{args:List AVal}{r:aI}(h:gG P f (jk args) r):gG P f args r:=
 ⟨h.1,fun g w vs hi hl=>h.2 g w vs hi (rV _ _ hl)⟩
theorem GX{H:List af}{x:Option Pre}{f:FuncId}{args:List AVal}{H1:List af}(h:GV H x=some (f,args,H1)):∃args' ids,x=some (.gY f args' ids)∧jk args'=args∧mask ids H=H1:=by
 unfold GV at h;grind
theorem uf{ids:List Nat}{H:List af}(hp:∀i,ids.contains i=true→∃x,H[i]? =some x∧pN x=true):
 ∀(n:Nat) (l seen:List Nat),zh ids l=true→l.length≤n→(closure n l seen).run H=some (u7 l seen)∧(closure n l seen).reads H=qH l seen
 |_,[],_,_,_=>by simp[closure,Rd.run,Rd.reads,u7,qH]
 | 0,_::_,_,_,h=>by simp at h
 |n+1,c::cs,seen,h,hl=>by
  simp only[zh,Bool.and_eq_true]at h;simp only[List.length_cons]at hl;simp only[closure,u7,qH];cases hc:seen.contains c with
  |true=>
   simp only[if_true];exact uf hp n cs seen h.2 (by omega)
  |false=>
   obtain⟨x,hb,hpb⟩:=hp c h.1;obtain⟨q1,q2⟩:=uf hp n cs (c::seen) h.2 (by omega)
   grind [u6,Rd.run,Rd.reads]
theorem yx{ids:List Nat}:∀(l seen:List Nat),zh ids l=true→(∀i∈seen,ids.contains i=true)→∀i∈u7 l seen,ids.contains i=true
 | [],_,_,hs,i,hi=>hs i hi
 |c::cs,seen,h,hs,i,hi=>by
  simp only[zh,Bool.and_eq_true]at h;simp only[u7]at hi;cases hc:seen.contains c with
  |true=>rw[hc]at hi;exact yx cs seen h.2 hs i hi
  |false=>
   rw[hc]at hi;refine yx cs (c::seen) h.2 (fun j hj=>?_) i hi
   grind
theorem iB{α β:Type}{H:List af}:∀{m:Rd α} {f:α→β} {x:α},m.run H=some x→(m.bind fun y=>.done (f y)).run H=some (f x)∧(m.bind fun y=>.done (f y)).reads H=m.reads H
 | .done a,f,x,h=>by grind [Rd.run,Rd.bind,Rd.reads]
 | .get b k,f,x,h=>by
  simp only[Rd.run]at h;split at h
  ·rename_i y hy;have:=iB (f:=f) h;simp[Rd.bind,Rd.run,Rd.reads,hy,this]
  ·cases h
theorem EE{ids:List Nat}{ai:Operand→AVal}{op:Op}{nid:Nat}{H:List af}{f:FuncId}{args:List AVal}{js rs:List Nat}(h:nr P cfg ids ai op=some (f,args,js,rs))
 (hp:∀i,ids.contains i=true→∃x,H[i]? =some x∧pN x=true):
 (bf P cfg nid ai op).run H=some (.gY f args js)∧(bf P cfg nid ai op).reads H=rs∧∀i∈js,ids.contains i=true:=by
 unfold nr at h;split at h
 ·rename_i g _ _ _;split at h
  ·rename_i n p q hg;split at h
   ·rename_i fn hfn;split at h
    ·rename_i hc;simp only[Bool.or_eq_false_iff]at hc;dsimp only at h;split at h
     ·rename_i ho;simp only[Option.some.injEq,Prod.mk.injEq]at h;simp only[Bool.and_eq_true]at ho;have ho2:=Nat.le_of_ble_eq_true ho.2;obtain⟨rfl,rfl,rfl,rfl⟩:=h;obtain⟨q1,q2⟩:=uf hp 1000 _ [] ho.1 (by omega)
      simp only[bf,hg,hfn,hc.1.1,Bool.false_eq_true,if_false,kE,hc.1.2,hc.2];exact⟨(iB q1).1,(iB q1).2.trans q2,yx _ [] ho.1 (by simp)⟩
     ·cases h
    ·cases h
   ·cases h
  ·cases h
 ·cases h
theorem Ib{H:List af}{b:Nat}{x:Option (FuncId×List AVal×List Nat×List Nat)}{f:FuncId}{args:List AVal}{y:Option af}(h:Jh H b x=some (f,args,y)):∃args' ids rs,x=some (f,args',ids,rs)∧AVal.ua b (jk args')=args∧H[b]? =y∧ids.contains b=true:=by
 unfold Jh at h;grind
theorem wq:∀{l:List PR} {H:List af},Gc l H→∀i,(l.map (·.b)).contains i=true→∃x,H[i]? =some x∧pN x=true
 | [],_,_,i,h=>by simp at h
 |p::ps,H,hc,i,h=>by
  simp only[List.map_cons,List.contains_cons,Bool.or_eq_true,beq_iff_eq]at h;rcases h with rfl |h
  ·exact⟨_,hc.1,p.pf⟩
  ·exact wq hc.2 i h
theorem bB.wk{f:FuncId}{args:List AVal}{H H1:List af}{r:aI}(h:bB P f (jk args) H r H1):bB P f args H r H1:=
 ⟨h.1,fun g w vs hi hl=>h.2 g w vs hi (rV _ _ hl)⟩
theorem k8{pr:List Nat}{H:List af}(hp:∀i,pr.contains i=true→∃x,H[i]? =some x∧pN x=true):
 ∀(n:Nat) (l seen ids rs:List Nat),nu pr H n l seen=some (ids,rs)→(closure n l seen).run H=some ids∧(closure n l seen).reads H=rs
 |_,[],seen,ids,rs,h=>by
  grind [nu,closure,Rd.run,Rd.reads]
 | 0,_::_,_,_,_,h=>by simp[nu]at h
 |n+1,b::todo,seen,ids,rs,h=>by
  simp only[nu]at h;simp only[closure];cases hc:seen.contains b with
  |true=>
   rw[hc]at h;simp only[if_true];exact k8 hp n todo seen ids rs h
  |false=>
   rw[hc]at h;simp only[Bool.false_eq_true,if_false];cases hpr:pr.contains b with
   |true=>
    rw[hpr]at h;simp only[Option.map_eq_some_iff,Prod.exists,Prod.mk.injEq]at h;obtain⟨ids',rs',h,rfl,rfl⟩:=h;obtain⟨x,hb,hpb⟩:=hp b hpr;obtain⟨q1,q2⟩:=k8 hp n todo (b::seen) _ _ h;grind [u6,Rd.run,Rd.reads]
   |false=>
    rw[hpr]at h;simp only at h;split at h
    ·rename_i v sz rows hb;simp only[Option.map_eq_some_iff,Prod.exists,Prod.mk.injEq]at h;obtain⟨ids',rs',h,rfl,rfl⟩:=h;obtain⟨q1,q2⟩:=k8 hp n _ (b::seen) _ _ h;grind [Rd.run,Rd.reads]
    ·rename_i hb;simp only[Option.map_eq_some_iff,Prod.exists,Prod.mk.injEq]at h;obtain⟨ids',rs',h,rfl,rfl⟩:=h;obtain⟨q1,q2⟩:=k8 hp n _ (b::seen) _ _ h;grind [Rd.run,Rd.reads]
    ·rename_i hb;simp only[Option.map_eq_some_iff,Prod.exists,Prod.mk.injEq]at h;obtain⟨ids',rs',h,rfl,rfl⟩:=h;obtain⟨q1,q2⟩:=k8 hp n _ (b::seen) _ _ h;grind [Rd.run,Rd.reads]
    ·rename_i x hx hl hit hb;simp only[Option.map_eq_some_iff,Prod.exists,Prod.mk.injEq]at h;obtain⟨ids',rs',h,rfl,rfl⟩:=h;obtain⟨q1,q2⟩:=k8 hp n _ (b::seen) _ _ h;grind [Rd.run,Rd.reads]
    ·cases h
def EF:FuncId⊕Nat→List AVal→List Nat→Pre
 | .inl f,args,ids=>.gY f args ids
 | .inr b,args,ids=>.round b args ids
theorem Gd{cfg:dV}{pr:List Nat}{ai:Operand→AVal}{op:Op}{H:List af}{t:FuncId⊕Nat}{args:List AVal}{ids rs:List Nat}(hp:∀i,pr.contains i=true→∃x,H[i]? =some x∧pN x=true)
 (h:AE P cfg pr ai op H=some (t,args,ids,rs)):(bf P cfg nid ai op).run H=some (EF t args ids)∧(bf P cfg nid ai op).reads H=rs:=by
 unfold AE at h;split at h
 ·rename_i g _ _ _;split at h
  ·rename_i n p q hg;split at h
   ·rename_i fn hfn;split at h
    ·rename_i hc;simp only[Bool.or_eq_false_iff]at hc;split at h
     ·rename_i ids' rs' hcl;simp only[Option.some.injEq,Prod.mk.injEq]at h;obtain⟨rfl,rfl,rfl,rfl⟩:=h;obtain⟨q1,q2⟩:=k8 hp _ _ _ _ _ hcl;simp only[bf,hg,hfn,hc.1.1,Bool.false_eq_true,if_false,kE,hc.1.2,hc.2];exact⟨(iB q1).1,(iB q1).2.trans q2⟩
     ·cases h
    ·cases h
   ·cases h
  ·rename_i b hg;split at h
   ·rename_i ids' rs' hcl;simp only[Option.some.injEq,Prod.mk.injEq]at h;obtain⟨rfl,rfl,rfl,rfl⟩:=h;obtain⟨q1,q2⟩:=k8 hp _ _ _ _ _ hcl;simp only[bf,hg];exact⟨(iB q1).1,(iB q1).2.trans q2⟩
   ·cases h
  ·cases h
 ·cases h
theorem qJ{ids:List Nat}{H H1:List af}{a:aI}{k:cF→List Nat→Bool→Prop}{kp:AVal→Prop}(h:yq ids H a H1 k kp):
 (∃e,dW H ids (some (a,H1))=some (.ok e)∧k e (e.cZ.map (·.1)) (!e.news.isEmpty))∨(∃v,dW H ids (some (a,H1))=some (.aM v ids)∧kp v):=by
 unfold yq at h;split at h
 ·rename_i v;split at h
  ·rename_i hl;have hl:=Nat.eq_of_beq_eq_true hl;refine .inl ⟨{val:=v,cZ:=ids.map fun i=>(i,H1.getD i .dead)},?_,?_⟩
   ·grind [dW]
   ·simpa[List.map_map,Function.comp_def]using h
  grind [gR]
 grind [dW]
mutual
theorem AVal.yy:∀(u:AVal),u.flat=true→u.pure=true
 | .sc _,_=>rfl
 | .agg cs,h=>AVal.pP cs h
 | .bV cs,h=>AVal.pP cs h
 | .fn _ a b,h=>by
  simp only[AVal.flat,Bool.and_eq_true]at h;simp only[AVal.pure,AVal.pP a h.1,AVal.pP b h.2,Bool.and_self]
 | .ei _ v,h=>AVal.yy v h
 | .eU _ _,_=>rfl
 | .emp,_=>rfl
 | .nz _,_=>rfl
 | .aq,_=>rfl
theorem AVal.pP:∀(l:List AVal),AVal.tu l=true→AVal.aO l=true
 | [],_=>rfl
 |a::l,h=>by
  simp only[AVal.tu,Bool.and_eq_true]at h;simp only[AVal.aO,AVal.yy a h.1,AVal.pP l h.2,Bool.and_self]
end
theorem C5{α β:Type}(H:List af):∀(r:Rd α) (k:α→Rd β),(r.bind k).run H=(r.run H).bind fun x=>(k x).run H
 | .fail,_=>rfl
 | .done _,_=>rfl
 | .get b f,k=>by
  simp only[Rd.bind,Rd.run];cases H[b]? with
  |none=>rfl
  |some x=>exact C5 H (f x) k
theorem z8{α β:Type}(H:List af):∀(r:Rd α) (k:α→Rd β) (a:α),r.run H=some a→(r.bind k).reads H=r.reads H++(k a).reads H
 | .fail,_,_,h=>by cases h
 | .done _,_,_,h=>by obtain rfl:=Option.some.inj h;rfl
 | .get b f,k,a,h=>by
  simp only[Rd.bind,Rd.reads,Rd.run]at h ⊢;cases hb:H[b]? with
  |none=>rw[hb]at h;cases h
  |some x=>rw[hb]at h;simp only[z8 H (f x) k a h,List.cons_append]
theorem FG{ai:Operand→AVal}{op:Op}{f:FuncId}{wj:List AVal}{nid:Nat}{H:List af}{Cj:List AVal}{rs:List Nat}(h:ED P cfg ai op=some (f,wj))
 (h1:(gE (snap fm) wj).run H=some Cj) (h2:(gE (snap fm) wj).reads H=rs):
 (bf P cfg nid ai op).run H=some (.tv f Cj (AVal.aO wj))∧(bf P cfg nid ai op).reads H=rs:=by
 unfold ED at h;split at h
 ·rename_i g args _;split at h
  ·rename_i n p q hf;split at h
   ·rename_i fn hfn;split at h
    ·rename_i hb;simp only[Option.some.injEq,Prod.mk.injEq]at h;obtain⟨rfl,rfl⟩:=h;simp only[Bool.or_eq_false_iff,Bool.not_eq_false']at hb;simp only[bf,hf,hfn,hb.1,Bool.false_eq_true,if_false,kE,hb.2,if_true];exact⟨by rw[C5,h1];rfl,by rw[z8 H _ _ _ h1,h2];simp[Rd.reads]⟩
    ·cases h
   ·cases h
  ·cases h
 ·cases h
theorem gH(hNe:kL P X.N){n:Nat}{ρ:Type}{r:ρ}{g:G P ρ}{draw:Bool}{H0:List af}{k:G P ρ→dw→eV→Prop}(h:lR P X draw H0 ops n0 o nid g s k)(hr:g.run n=some r):
 ∃orc,eW P orc∧∃res f g',dx P X.cfg orc ops n0 o nid s=some (res,f)∧k g' res f∧g'.run n=some r:=by
 unfold lR at h;split at h
 ·rename_i m g';split at h
  ·rename_i res f hs;exact⟨qG,ny,res,f,_,hs,h,by rw[G.EB];simpa[G.run]using hr⟩
  ·exact nomatch h
 ·rename_i X t kk;obtain⟨hw,hc,hk⟩:=h;simp only[G.run]at hr;cases hx:t.run with
  |none=>rw[hx]at hr;cases hr
  |some x=>
   rw[hx]at hr;obtain⟨h1,h2⟩:=t.sound _ _ _ _ _ _ _ hc x hx;have hk:=hk x;simp only[gR,eu,dr]at hk;refine⟨qG,ny,_,_,kk x,?_,hk,by simpa using hr⟩
   grind [dx,finish,gR,eu,dr]
 ·rename_i c x kk;obtain⟨hw,hc,hk⟩:=h;simp only[G.run]at hr;cases hx:c.S n x with
  |none=>rw[hx]at hr;cases hr
  |some q=>
   rw[hx]at hr;have hk:=(c.sh.bC _).1 hk q;obtain⟨args',own,hp,he⟩:=FF hc;split at hk
   ·rename_i res f hs;refine⟨qI c.f args' (c.out q),Br (gG.wk (by rw[he];exact c.ok n x q hx)),res,f,kk q,?_,hk,by simpa using hr⟩
    rw[← hs];refine yw fun _ pre hpre=>?_
    rw[hp]at hpre;simp only[Option.some.injEq]at hpre;subst hpre;simp[finish,dM,qI,GU]
   ·exact nomatch hk
 ·rename_i z c x kk;obtain⟨hw,hz,hc,ha,hk⟩:=h;simp only[G.run]at hr;cases hx:c.S n x with
  |none=>rw[hx]at hr;cases hr
  |some q=>
   rw[hx]at hr;have hk:=(c.sh.bC _).1 hk q;obtain⟨z1,z2⟩:=z.pf _ hz;obtain⟨hp,hrd⟩:=FG (nid:=nid) hc z1 z2;have ha:=Option.some.inj ha;have horc:=Br (P:=P) (gG.wk (args:=z.Cj) (by rw[ha];exact c.ok n x q hx))
   split at hk
   ·rename_i u hu;split at hk
    ·rename_i hfl;simp only[eu]at hk;refine⟨_,horc,_,_,kk q,?_,hk,by simpa using hr⟩
     have hsn:(snap fm u).run []=some u:=by
      rw[show fm=8+1 from rfl];simp only[snap,AVal.yy u hfl,if_true,Rd.run]
     unfold dx;rw[hw];simp only[hp,hrd,finish,dM,qI,and_self,if_true,hu,hsn,hfl,Bool.or_true,gR,eu,dr,cF.apply,List.foldl_nil,List.append_nil,List.map_nil,List.isEmpty_nil,Bool.not_true,eF,nY];rfl
    ·exact hk.elim
   ·rename_i u hu;split at hk
    ·rename_i hfl;refine⟨_,horc,_,_,kk q,?_,hk,by simpa using hr⟩
     unfold dx;rw[hw];simp only[hp,hrd,finish,dM,qI,and_self,if_true,hu,hfl,List.foldl_nil,eF,nY];rfl
    ·exact hk.elim
 ·rename_i c x kk;obtain⟨hw,hc,hk⟩:=h;simp only[G.run]at hr;cases hx:c.S n x with
  |none=>rw[hx]at hr;cases hr
  |some q=>
   rw[hx]at hr;have hk:=(c.sh.bC _).1 hk q;obtain⟨args',ids,hp,he,hm⟩:=GX hc;split at hk
   ·rename_i res f hs;refine⟨lS c.f args' (c.heap x) (c.out q) (c.fu x q),u9 (bB.wk (by rw[he];exact c.ok n x q hx)),res,f,kk q,?_,hk,by simpa using hr⟩
    rw[← hs];refine yw fun _ pre hpre=>?_
    rw[hp]at hpre;simp only[Option.some.injEq]at hpre;subst hpre;simp[finish,dM,ct,lS,GU,hm]
   ·exact nomatch hk
 ·rename_i c b v ex x kk;obtain⟨hw,hex,hc,hk⟩:=h;simp only[G.run]at hr;cases hx:c.S n x with
  |none=>rw[hx]at hr;cases hr
  |some q=>
   rw[hx]at hr;have hk:=(c.sh.bC _).1 hk q;obtain⟨args',ids,rs,hp,he,hb,hbi⟩:=Ib hc;obtain⟨bsz,brows,hbx,hbp⟩:=ue (c.b0 x);have hpure:∀i,(b::ex.map (·.b)).contains i=true→∃x,s.H[i]? =some x∧pN x=true:=by
    intro i hi;simp only[List.contains_cons,Bool.or_eq_true,beq_iff_eq]at hi;rcases hi with rfl |hi
    ·exact⟨.row v bsz brows,by rw[hb,hbx];rfl,hbp⟩
    ·exact wq hex i hi
   have hcall:=hp;obtain⟨hp,hrd,hsub⟩:=EE (nid:=nid) (H:=s.H) hp hpure;have hlt:∀i∈ids,i<s.H.length:=fun i hi=>by
    grind
   have hblt:b<s.H.length:=(List.getElem?_eq_some_iff.1 hb).1
   let H':=mask ids s.H
   have hl':H'.length=s.H.length:=lY _ _;have hmb:(mask [b] H')[b]? =some ((c.blk x).iG v):=by rw[we (by simp),we hbi];exact hb
   have hmd:∀b',b'≠b→∀y,(mask [b] H')[b']? =some y→y=.dead:=by
    intro b' hne y hy;rcases mG hy with⟨h1,_⟩ |⟨_,h2,_⟩
    ·grind
    ·exact h2
   have href:=bB.frame (bB.Lx (c.ok n x q hx) (c.a0 x) (c.b0 x) (c.b1 x q) (c.r0 q) b v (mask [b] H') hmb hmd) (by omega)
   have horc:=u9 (P:=P) (bB.wk (args:=args') (bB.but (b:=b) (by rw[he];exact href)))
   refine⟨_,horc,?_⟩;have hlen:(H'.set b ((c.pM x q).iG v)).length=s.H.length:=by rw[List.length_set,lY]
   have hdrop:(H'.set b ((c.pM x q).iG v)).drop s.H.length=[]:=List.drop_of_length_le (by rw[hlen];exact Nat.le_refl _)
   have hid:zi (nr P X.cfg (b::ex.map (·.b)) (bQ s.A) o.op)=(ids,rs):=by rw[hcall];rfl
   cases ho:c.out q with
   |ret u=>
    rw[ho]at hk;simp only[eu,dr,hid]at hk;refine⟨_,_,kk q,?_,hk,by simpa using hr⟩
    have happ:∀val news,news=[]→cF.apply {val:=val,cZ:=ids.map fun i=>(i,(H'.set b ((c.pM x q).iG v)).getD i .dead),news:=news} s.H=cF.apply {val:=u.u5 b v,cZ:=[(b,(c.pM x q).iG v)]} s.H:=by
     intro val news hn;subst hn;simp only[cF.apply,List.append_nil,List.foldl_cons,List.foldl_nil,List.foldl_map];apply List.ext_getElem?;intro j;rw[qC,List.getElem?_set];by_cases hj:b=j
     ·grind
     ·grind [we]
    unfold dx;rw[hw];simp only[hp,hrd,finish,dM,ct,lS,and_self,if_true,aI.u5,dW,hlen,Nat.le_refl,hdrop,ite_self,gR,eu,dr,List.isEmpty_nil,Bool.not_true,H'];simp only[eF,nY];rw[happ _ _ rfl];simp_all
   |aM u=>
    rw[ho]at hk;have hfl:u.flat=true:=by have:=c.r0 q;rw[ho]at this;exact this
    simp only[hid]at hk;refine⟨_,_,kk q,?_,hk,by simpa using hr⟩
    unfold dx;rw[hw];simp only[hp,hrd,finish,dM,ct,lS,and_self,if_true,aI.u5,dW,hfl,H'];simp only[eF,nY]
 ·rename_i pr g';obtain⟨hw,hpr,hc⟩:=h;simp only[G.run]at hr;have hpure:=wq hpr;split at hc
  ·rename_i f args ids rs hx;obtain⟨hp,hrd⟩:=Gd (nid:=nid) hpure hx;simp only[EF]at hp;simp only[ct]at hc;obtain⟨g2,a,H1,hk,hr2,hfn⟩:=hNe.fn hc hr;refine⟨_,u9 hfn,?_⟩;rcases qJ hk with⟨e,hm,hk⟩ |⟨v,hm,hk⟩
   ·simp only[eu,dr]at hk;refine⟨_,_,g2,?_,hk,hr2⟩;unfold dx;rw[hw];simp only[hp,hrd,finish,dM,ct,lS,and_self,if_true,hm,gR,eu,dr];simp only[eF,nY]
   ·refine⟨_,_,g2,?_,hk,hr2⟩;unfold dx;rw[hw];simp only[hp,hrd,finish,dM,ct,lS,and_self,if_true,hm];simp only[eF,nY]
  ·rename_i b args ids rs hx;obtain⟨hp,hrd⟩:=Gd (nid:=nid) hpure hx;simp only[EF]at hp;simp only[ct]at hc;obtain⟨g2,a,H1,hk,hr2,hfn⟩:=hNe.xE hc hr;refine⟨_,Ia hfn,?_⟩;rcases qJ hk with⟨e,hm,hk⟩ |⟨v,hm,hk⟩
   ·simp only[eu,dr]at hk;refine⟨_,_,g2,?_,hk,hr2⟩;unfold dx;rw[hw];simp only[hp,hrd,finish,dM,ct,yu,and_self,if_true,hm,gR,eu,dr];simp only[eF,nY]
   ·refine⟨_,_,g2,?_,hk,hr2⟩;unfold dx;rw[hw];simp only[hp,hrd,finish,dM,ct,yu,and_self,if_true,hm];simp only[eF,nY]
  ·exact nomatch hc
 ·simp[G.run]at hr
 ·simp[G.run]at hr
 ·simp[G.run]at hr
 ·exact nomatch h
 ·exact nomatch h
theorem ug{orc orc':Nat→gF}:∀(l:List (Oper×Nat)) (i:Nat) (s:St),(∀j,i≤j→orc j=orc' j)→hM P X.cfg orc ops n0 i l s=hM P X.cfg orc' ops n0 i l s
 | [],_,_,_=>rfl
 | (o,nid)::rest,i,s,h=>by
  simp only[hM,h i (Nat.le_refl _)];split
  ·rw[ug rest (i+1) _ fun j hj=>h j (by omega)]
  ·rfl
  ·rfl
theorem FH(hNe:kL P X.N){n:Nat}{ρ:Type}{r:ρ}{g:G P ρ}{H0:List af}{k:G P ρ→dw→eV→Prop}(h:tB P X true H0 ops n0 o nid g s k)(hr:g.run n=some r):
 ∃orc,eW P orc∧∃res f g',dx P X.cfg orc ops n0 o nid s=some (res,f)∧k g' res f∧g'.run n=some r:=by
 unfold tB at h;grind [gH]
theorem Bt(hNe:kL P X.N){n:Nat}{ρ:Type}{r:ρ}{H0:List af}:∀(l:List (Oper×Nat)) (i:Nat) (g:G P ρ) (s:St) (k:G P ρ→dw→List eV→Prop),vC P X true H0 ops n0 l g s k→g.run n=some r→
 ∃orcs:Nat→gF,(∀j,eW P (orcs j))∧∃res fs g',hM P X.cfg orcs ops n0 i l s=some (res,fs)∧k g' res fs∧g'.run n=some r
 | [],i,g,s,k,h,hr=>⟨fun _=>qG,fun _=>ny,.ok s,[],g,rfl,h,hr⟩
 | (o,nid)::rest,i,g,s,k,h,hr=>by
  simp only[vC]at h;obtain⟨g1,h,hr⟩:=iQ h hr;obtain⟨orc,ho,res,f,g2,hs,h,hr⟩:=FH hNe h hr;cases res with
  |ok s'=>
   obtain⟨A,H,D⟩:=s';simp only[cR]at h;obtain⟨orcs,hos,res,fs,g3,hrun,hk,hr⟩:=Bt hNe rest (i+1) g2 _ _ h hr;refine⟨fun j=>if j=i then orc else orcs j,fun j=>(by grind:eW P (if j=i then orc else orcs j)),res,f::fs,g3,?_,hk,hr⟩
   grind [hM,ug]
  |aM v s'=>
   exact⟨fun _=>orc,fun _=>ho,.aM v s',[f],g2,by simp only[hM,hs],h,hr⟩
theorem DF(hNe:kL P X.N){n:Nat}{ρ:Type}{r:ρ}{H0:List af}{g:G P ρ}{s:St}{k:G P ρ→dw→Prop}(h:nv P X H0 ops true g s k)(hr:g.run n=some r):
 ∃orcs:Nat→gF,(∀j,eW P (orcs j))∧∃res g',oP P X.cfg orcs ops true s=some res∧k g' res∧g'.run n=some r:=by
 simp only[nv,fe,mC]at h;obtain⟨orcs,ho,res,fs,g',hrun,hk,hr⟩:=Bt hNe _ 0 _ _ _ h hr;refine⟨orcs,ho,?_⟩;simp only[oP,fe,mC,hrun];grind
theorem C6(keep:List Nat):∀(A:List AVal) (i j:Nat),(rH keep i A)[j]? =(A[j]?).map fun a=>match keep.contains (i+j)with |true=>a |false=>.aq
 | [],_,_=>by simp[rH]
 |a::as,i,0=>rfl
 |a::as,i,j+1=>by
  simp only[rH,List.getElem?_cons_succ];rw[C6 keep as (i+1) j,show i+1+j=i+(j+1)by omega]
theorem Ko{g:Gh}{w:World}{keep:List Nat}{A:List AVal}{vs:List Value}(h:RL g w A vs):RL g w (rH keep 0 A) vs:=by
 obtain⟨h1,h2⟩:=cK _ _ h;have hlen:(rH keep 0 A).length=A.length:=by
  have:∀(A:List AVal) (i:Nat),(rH keep i A).length=A.length:=by
   intro A;induction A with
   |nil=>intro i;rfl
   |cons a as ih=>intro i;simp[rH,ih]
  exact this A 0
 grind [o7,C6,R]
theorem EG:∀{l:List PU} {H:List af},Gb l H→yo (l.map (·.b)) H
 | [],_,_=>fun _ h=>by simp at h
 |p::ps,H,h=>by
  intro b hb x hx;simp only[List.map_cons,List.mem_cons]at hb;rcases hb with rfl |hb
  ·rw[h.1]at hx;cases hx;exact p.pf
  ·exact EG h.2 b hb x hx
theorem Ge:∀(l:List AVal),(jk l).length=l.length
 | []=>rfl
 |_::l=>by simp[jk,Ge l]
theorem Ic{g:Gh}{w:World}:∀(l:List (List AVal)) (k o sz:Nat),RR g w l k o sz→RR g w (l.map jk) k o sz
 | [],_,_,_,_=>by simp[RR]
 |r::rs,k,o,sz,h=>by
  simp only[RR,List.map_cons]at h ⊢;exact⟨⟨by rw[Ge];exact h.1.1,oI _ h.1.2.1,Ez _ _ _ h.1.2.2⟩,Ic rs k (o+sz) sz h.2⟩
theorem Jl{g:Gh}{w:World}{rows:List (List AVal)}{x:Value}(h:R g w (.aD rows) x):R g w (.aD (rows.map jk)) x:=by
 simp only[R,List.length_map]at h ⊢;obtain⟨a,cap,e,h1,h2⟩:=h;refine⟨a,cap,e,h1,?_⟩;rcases h2 with h2 |⟨k,off,sz,ha,hr⟩
 ·exact .inl h2
 ·exact .inr ⟨k,off,sz,ha,Ic _ _ _ _ hr⟩
theorem cu{H0:List af}:∀{ts:List TS} {s:St} {k:St→Prop},ej ts=true→fP H0 ts s k→∃s',fK H0 s s'∧k s'
 | [],s,k,_,h=>⟨s,.refl _ _,h⟩
 | .keep l::ts,s,k,hok,h=>by
  simp only[fP,cR]at h;obtain⟨s',h1,h2⟩:=cu (by simpa only[ej]using hok) h
  exact⟨s',fK.trans (s1:={s with A:=rH l 0 s.A}) (fun _ _ g a w _ hl hs=>⟨g,⟨hs.inv,Ko hs.tmps,hs.defs⟩,hl⟩) h1,h2⟩
 | .wk p::ts,s,k,hok,h=>by
  simp only[fP]at h;split at h
  ·rename_i s1 hw;obtain⟨s',h1,h2⟩:=cu (by simpa only[ej]using hok) h
   exact⟨s',(Jd hw).trans h1,h2⟩
  ·exact h.elim
 | .own p sz::ts,s,k,hok,h=>by
  simp only[fP]at h;split at h
  ·rename_i s1 hw;obtain⟨s',h1,h2⟩:=cu (by simpa only[ej]using hok) h
   exact⟨s',(HZ hw).trans h1,h2⟩
  ·exact h.elim
 | .gy z::ts,s,k,hok,h=>by
  simp only[fP]at h;simp only[ej,Bool.and_eq_true,decide_eq_true_eq]at hok;obtain⟨q1,q2,h⟩:=h;split at h
  ·rename_i s1 hw;obtain⟨s',h1,h2⟩:=cu hok.2 h;exact⟨s',(H6 ⟨z.b,z.ak,z.sz,by rw[q1,hok.1],q2,z.pf⟩ hw).trans h1,h2⟩
  ·exact h.elim
 | .JQ z::ts,s,k,hok,h=>by
  simp only[fP]at h;obtain⟨q1,q2,h⟩:=h;split at h
  ·rename_i s1 hw;obtain⟨s',h1,h2⟩:=cu (by simpa only[ej]using hok) h
   exact⟨s',(H7 ⟨z.b,z.ak,z.sz,q1,q2,z.pf⟩ hw).trans h1,h2⟩
  ·exact h.elim
 | .JR z::ts,s,k,hok,h=>by
  simp only[fP]at h;obtain⟨q1,h⟩:=h;obtain⟨s',h1,h2⟩:=cu (by simpa only[ej]using hok) h
  refine⟨s',fK.trans (s1:=vz s (.aD z.rows') z.p) (fun _ _ g a w _ hl hs=>?_) h1,h2⟩
  obtain⟨p1,p2⟩:=pK q1 hs (v':=.aD z.rows') fun x hx=>by rw[← z.pf];exact Jl hx
  exact⟨g,p1,hl.trans p2⟩
 | .cut bl bump pu::ts,s,k,hok,h=>by
  simp only[fP,cR]at h;obtain⟨q1,h⟩:=h;split at h
  ·rename_i A H D hw;obtain⟨s',h1,h2⟩:=cu (by simpa only[ej]using hok) h
   exact⟨s',(Jb (EG q1) hw).trans h1,h2⟩
  ·exact h.elim
theorem FI(hNe:kL P X.N){n:Nat}{ρ:Type}{r:ρ}{g:G P ρ}{H0:List af}{k:G P ρ→dw→eV→Prop}(h:tB P X false H0 ops n0 o nid g s k)(hr:g.run n=some r):
 ∃s2,fK H0 s s2∧∃orc,eW P orc∧∃res f g',dx P X.cfg orc ops n0 o nid s2=some (res,f)∧k g' res f∧g'.run n=some r:=by
 unfold tB at h;split at h
 ·grind [G.run,cu,gH]
 ·exact⟨s,.refl _ _,gH hNe h hr⟩
theorem Bu(hNe:kL P X.N){n:Nat}{ρ:Type}{r:ρ}{H0:List af}:∀(l:List (Oper×Nat)) (i:Nat) (g:G P ρ) (s:St) (k:G P ρ→dw→List eV→Prop),vC P X false H0 ops n0 l g s k→g.run n=some r→
 (∀(j:Nat),(l[j]?).map (fun(p:Oper×Nat)=>p.1)=(ops.toList.drop i)[j]?)→∃g' res fs,k g' res fs∧g'.run n=some r∧
 ∀(fro:Option Nat),(∀(k:Nat) (o:Oper),ops[k]? =some o→Calm fro o)→∀(gg:Gh) (ww:World) (Q:Exit→Act→World→Prop),Inv gg H0 ww→∀(g1:Gh) (a:Act) (w:World),dy g1 s a w→aK gg H0 ww g1 s.H w→lZ Q gg H0 ww res→wpOpsIn (Fr fro) 0 P ops Q (List.range' i l.length) a w
 | [],i,g,s,k,h,hr,_=>⟨g,.ok s,[],h,hr,fun _ _ _ _ _ _ g1 a w hs hl hp=>hp g1 a w hs hl⟩
 | (o,nid)::rest,i,g,s,k,h,hr,hj=>by
  have hi:ops[i]? =some o:=by
   have:=hj 0;simp at this;exact this.symm
  simp only[vC]at h;obtain⟨g',h,hr⟩:=iQ h hr;obtain⟨s2,hw2,orc,ho,res,f,g3,hst,h,hr⟩:=FI hNe h hr;cases res with
  |ok s'=>
   obtain⟨A,H,D⟩:=s';simp only[cR]at h;obtain⟨g4,res4,fs4,hk4,hr4,hwp⟩:=Bu hNe rest (i+1) g3 ⟨A,H,D⟩ _ h hr (fun j=>by
    have:=hj (j+1);grind)
   refine⟨g4,res4,_,hk4,hr4,fun fro hcalm gg ww Q hi0 g1 a w hs hl hp=>?_⟩
   simp only[List.length_cons,List.range'_succ,wpOpsIn_cons];obtain⟨g2,hs2,hl2⟩:=hw2 gg ww g1 a w hi0 hl hs;exact k7 ho hs2 hi (hcalm i o hi) hst fun g5 a' w' hs' hla=>hwp fro hcalm gg ww Q hi0 g5 a' w' hs' (hl2.trans hla) hp
  |aM v s'=>
   refine⟨g3,.aM v s',_,h,hr,fun fro hcalm gg ww Q hi0 g1 a w hs hl hp=>?_⟩
   simp only[List.length_cons,List.range'_succ,wpOpsIn_cons];obtain⟨g2,hs2,hl2⟩:=hw2 gg ww g1 a w hi0 hl hs;exact k7 ho hs2 hi (hcalm i o hi) hst fun g' w' x hv hs' hla hx=>hp g' a w' x hv hs' (hl2.trans hla) hx
theorem DG(hNe:kL P X.N){H0:List af}{n:Nat}{ρ:Type}{r:ρ}{id:Nat}{g:G P ρ}{s:St}{k:G P ρ→dw→Prop}(h:nv P X H0 ops false g s k)(hr:g.run n=some r):
 ∃g' res,k g' res∧g'.run n=some r∧∀(fro:Option Nat),(∀(k:Nat) (o:Oper),ops[k]? =some o→Calm fro o)→∀(gg:Gh) (ww:World),Inv gg H0 ww→dO P fro gg H0 ww (.region id ops false) s fun o s'=>o=(zg res).1∧s'=(zg res).2:=by
 simp only[nv,fe,mC]at h;generalize (if iX ops.toList=0 then 0 else kY s.H)=t0 at h
 generalize iX ops.toList - t0=m0 at h;generalize s.H.length - t0=f0 at h;obtain⟨g',res,fs,hk,hr',hwp⟩:=Bu hNe _ 0 _ _ _ h hr (fun j=>by rw[mH];simp)
 simp only[Bool.not_false,if_true]at hk;refine⟨g',res,hk,hr',fun fro hcalm gg ww hi0 Q g1 a w hs hl hp=>?_⟩
 obtain⟨i1,i2⟩:=hs.inv.reserve m0;have hs0:dy g1 {s with H:=s.H++List.replicate m0 .aR} a w:=⟨i1,hs.tmps,hs.defs⟩;refine wpIn_region ?_;rw[List.range_eq_range'];have:=hwp fro hcalm gg ww Q hi0 g1 a w hs0 (hl.trans i2) (by
  have:=hp _ _ ⟨rfl,rfl⟩;cases res with
  |ok s'=>exact this
  |aM v s'=>exact this)
 grind [pH]
theorem wZ{H0:List af}{n:Nat}{ρ:Type}{r:ρ}{g:G P ρ}{s:St}{k:G P ρ→St→Prop}(h:AF H0 g s k)(hr:g.run n=some r):∃s' g',fK H0 s s'∧k g' s'∧g'.run n=some r:=by
 unfold AF at h;split at h
 ·grind [G.run,cu]
 ·exact⟨s,g,.refl _ _,h,hr⟩
theorem C7{n:Nat}{σ:Type}{sh:Sh}{H0:List af}{E:σ→St}{X:sh.El→aS×St}{g:G P (σ⊕sh.El)}{o:aS}{s:St}{q:σ⊕sh.El}(h:kK H0 E X g o s)(hr:g.run n=some q):
 ∃s',fK H0 s s'∧match q with | .inl a=>o=.normal∧s'=E a | .inr t=>o≠ .normal∧(o,s')=X t:=by
 unfold kK at h;split at h
 ·grind [G.run,cu]
 ·grind [G.run,cu]
 ·simp[G.run]at hr
 ·exact nomatch h
def EH(P:Program)[ax](H0:List af)(ro:Option Nat)(b:Code):Nat→St→aS→St→Prop
 | 0,_,_,_=>False
 |n+1,s,o,s'=>∃o1 s1,(∀fro g0 w0,Inv g0 H0 w0→jR g0 ro fro→dO P fro g0 H0 w0 b s fun o2 s2=>o2=o1∧s2=s1)∧
  match o1 with
  | .normal=>EH P H0 ro b n s1 o s'
  |o1=>o1=o∧s1=s'
theorem C8{ro:Option Nat}{H0:List af}{b:Code}{n:Nat}{ρ:Type}{r:ρ}{k:G P ρ→aS→St→Prop}
 (ih:∀(g:G P ρ) (s:St) (k:G P ρ→aS→St→Prop),gv P X H0 b g s k→g.run n=some r→∃g' o s',k g' o s'∧g'.run n=some r∧∀fro g0 w0,Inv g0 H0 w0→jR g0 ro fro→dO P fro g0 H0 w0 b s fun o1 s1=>o1=o∧s1=s'):
 ∀(m:Nat) (g:G P ρ) (s:St),zj (fun g s k=>gv P X H0 b g s k) m g s k→g.run n=some r→∃g' o s',k g' o s'∧g'.run n=some r∧o≠ .normal∧EH P H0 ro b m s o s'
 | 0,_,_,h,_=>h.elim
 |m+1,g,s,h,hr=>by
  simp only[zj]at h;obtain⟨g1,o1,s1,hk,hr1,hd⟩:=ih g s _ h hr;cases o1 with
  |normal=>
   obtain⟨g',o,s',h1,h2,h3,h4⟩:=C8 ih m g1 s1 hk hr1;exact⟨g',o,s',h1,h2,h3,.normal,s1,hd,h4⟩
  |exit id=>exact⟨g1,_,s1,hk,hr1,(fun h=>(by cases h)),_,s1,hd,rfl,rfl⟩
  |ret=>exact⟨g1,_,s1,hk,hr1,(fun h=>(by cases h)),_,s1,hd,rfl,rfl⟩
  |aM v=>exact⟨g1,_,s1,hk,hr1,(fun h=>(by cases h)),_,s1,hd,rfl,rfl⟩
theorem qK{ro fro:Option Nat}{g0:Gh}{ops:Array Oper}(hro:jR g0 ro fro)(h:(ro.isSome&&ops.toList.any v7)=false):∀(k:Nat) (o:Oper),ops[k]? =some o→Calm fro o:=by
 intro k o hk;cases ro with
 |none=>
  cases fro with
  |none=>exact .inl rfl
  |some k=>exact hro.elim
 |some b=>
  right;grind
theorem dO.post{fro:Option Nat}{g0:Gh}{H0:List af}{w0:World}(hi0:Inv g0 H0 w0){c:Code}{s s1 s2:St}{o:aS}(hw:fK H0 s1 s2)(h:dO P fro g0 H0 w0 c s fun o1 s'=>o1=o∧s'=s1):
 dO P fro g0 H0 w0 c s fun o1 s'=>o1=o∧s'=s2:=
 fun Q g a w hs hl hk=>h Q g a w hs hl fun o' s' ⟨e1,e2⟩=>by grind [dN.weak]
theorem C9{H0:List af}{sh:Sh}{Y:sh.El→aS×St}{n:Nat}{g:G P sh.El}{o:aS}{s:St}{t:sh.El}(h:zk H0 Y g o s)(hr:g.run n=some t):∃s',fK H0 s s'∧(o,s')=Y t:=by
 unfold zk at h;split at h
 ·grind [G.run,cu]
 ·simp[G.run]at hr
 ·exact nomatch h
theorem Gf{ρ:Type}{n:Nat}{f:FuncId}{args:List AVal}{H:List af}{c:qF P}{x:c.X}{kk:c.sh.El→G P ρ}{k:G P ρ→aI→List af→Prop}{r:ρ}(h:GS P f args H c x kk k)(hr:(G.bz c x kk).run n=some r):
 ∃g' a H1,k g' a H1∧g'.run n=some r∧bB P f args H a H1:=by
 obtain⟨_,he,h⟩:=h;simp only[Option.some.injEq,Prod.mk.injEq]at he;obtain⟨rfl,ha,rfl⟩:=he;obtain⟨q,hq,hr⟩:=Option.bind_eq_some_iff.1 (show(c.S n x).bind (fun q=>(kk q).run n)=some r from hr)
 refine⟨kk q,c.out q,c.fu x q,(c.sh.bC _).1 h q,hr,bB.wk ?_⟩;rw[ha];exact c.ok n x q hq
theorem oJ:kL P (oy P):=by
 refine⟨fun h hr=>?_,fun h=>h.elim,fun h=>h.elim⟩
 simp only[oy]at h;split at h
 ·exact Gf h hr
 ·exact h.elim
theorem Lz(hNe:kL P X.N)(draw:Bool):kL P (X.at draw).N:=by
 grind [Env.at,oJ]
theorem KV(draw:Bool):(X.at draw).cfg=X.cfg:=by unfold Env.at;split<;>rfl
theorem Da(hNe:kL P X.N){H0:List af}{n:Nat}{σ:Type}{sh:Sh}{b:Code}{E:σ→St}{s:St}{Y:sh.El→aS×St}{q:σ⊕sh.El}{f:G P (σ⊕sh.El)→Prop}
 (ih:∀g,f g→g.run n=some q→∃(g':G P (σ⊕sh.El)) (o:aS) (s':St),kK H0 E Y g' o s'∧g'.run n=some q∧∀fro g0 w0,Inv g0 H0 w0→jR g0 X.ro fro→dO P fro g0 H0 w0 b s fun o1 s1=>o1=o∧s1=s')
 {g:G P (σ⊕sh.El)} (h:zm X.N X.ro H0 b E s Y g f) (hr:g.run n=some q):
 ∃(g':G P (σ⊕sh.El)) (o:aS) (s':St),kK H0 E Y g' o s'∧g'.run n=some q∧∀fro g0 w0,Inv g0 H0 w0→jR g0 X.ro fro→dO P fro g0 H0 w0 b s fun o1 s1=>o1=o∧s1=s':=by
 unfold zm at h;split at h
 ·exact hNe.lp h (by simpa[G.run]using hr)
 ·exact ih _ h hr
theorem tO(hm:P.follows .mixedOrders=true)(hNe:kL P X.N){H0:List af}{n:Nat}:∀(c:Code) {ρ:Type} (r:ρ) (g:G P ρ) (s:St) (k:G P ρ→aS→St→Prop),gv P X H0 c g s k→g.run n=some r→
 ∃g' o s',k g' o s'∧g'.run n=some r∧∀fro g0 w0,Inv g0 H0 w0→jR g0 X.ro fro→dO P fro g0 H0 w0 c s fun o1 s1=>o1=o∧s1=s':=by
 intro c;induction c with
 |skip=>intro ρ r g s k h hr;exact⟨g,.normal,s,h,hr,fun _ _ _ _ _=>.skip ⟨rfl,rfl⟩⟩
 |region id ops draw=>
  intro ρ r g s k h hr;simp only[gv]at h;split at h
  ·exact h.elim
  rename_i hoff;obtain⟨s1,g1,hw,h,hr⟩:=wZ h hr;cases draw with
  |false=>
   obtain⟨g',res,hk,hr',hd⟩:=DG hNe (id:=id) h hr;cases res with
   |ok s'=>exact⟨g',.normal,s',hk,hr',fun fro g0 w0 hi hro=>.weak hi hw (hd fro (qK hro hoff) g0 w0 hi)⟩
   |aM v s'=>exact⟨g',.aM v,s',hk,hr',fun fro g0 w0 hi hro=>.weak hi hw (hd fro (qK hro hoff) g0 w0 hi)⟩
  |true=>
   obtain⟨orcs,ho,res,g',hreg,h,hr⟩:=DF (Lz hNe true) h hr;rw[KV]at hreg;cases res with
   |ok s'=>exact⟨g',.normal,s',h,hr,fun fro g0 w0 hi hro=>.weak hi hw (.region hm ho (qK hro hoff) hreg ⟨rfl,rfl⟩)⟩
   |aM v s'=>exact⟨g',.aM v,s',h,hr,fun fro g0 w0 hi hro=>.weak hi hw (.region hm ho (qK hro hoff) hreg ⟨rfl,rfl⟩)⟩
 |seq a b iha ihb=>
  intro ρ r g s k h hr;simp only[gv]at h;obtain⟨g1,o1,s1,h1,hr1,d1⟩:=iha r g s _ h hr;cases o1 with
  |normal=>
   obtain⟨g2,o2,s2,h2,hr2,d2⟩:=ihb r g1 s1 k h1 hr1;refine⟨g2,o2,s2,h2,hr2,fun fro g0 w0 hi hro=>.seq ((d1 fro g0 w0 hi hro).mono fun o s' ⟨e1,e2⟩=>?_)⟩
   grind
  |exit id=>exact⟨g1,_,s1,h1,hr1,fun fro g0 w0 hi hro=>.seq ((d1 fro g0 w0 hi hro).mono fun o s' ⟨e1,e2⟩=>by grind)⟩
  |ret=>exact⟨g1,_,s1,h1,hr1,fun fro g0 w0 hi hro=>.seq ((d1 fro g0 w0 hi hro).mono fun o s' ⟨e1,e2⟩=>by grind)⟩
  |aM v=>exact⟨g1,_,s1,h1,hr1,fun fro g0 w0 hi hro=>.seq ((d1 fro g0 w0 hi hro).mono fun o s' ⟨e1,e2⟩=>by grind)⟩
 |cond c a b iha ihb=>
  have main:∀{ρ:Type} (r:ρ) (g:G P ρ) (s:St) (k:G P ρ→aS→St→Prop),zl P X H0 c a b (fun g s k=>gv P X H0 a g s k) (fun g s k=>gv P X H0 b g s k) g s k→g.run n=some r→
   ∃g' o s',k g' o s'∧g'.run n=some r∧∀fro g0 w0,Inv g0 H0 w0→jR g0 X.ro fro→dO P fro g0 H0 w0 (.cond c a b) s fun o1 s1=>o1=o∧s1=s':=by
   intro ρ r g s k h hr;unfold zl at h;obtain⟨s1,g1,hw,h,hr⟩:=wZ h hr;obtain⟨g1,h,hr⟩:=iQ h hr;split at h
   ·rename_i m g2;have hr2:(G.less m g2).run n=some r:=by rw[G.EB];simpa[G.run]using hr
    split at h
    ·rename_i hc;obtain⟨g',o,s',h1,h2,d⟩:=iha r _ _ k h hr2;exact⟨g',o,s',h1,h2,fun fro g0 w0 hi hro=>.weak hi hw (.cond true hc (d fro g0 w0 hi hro))⟩
    ·rename_i hc;obtain⟨g',o,s',h1,h2,d⟩:=ihb r _ _ k h hr2;exact⟨g',o,s',h1,h2,fun fro g0 w0 hi hro=>.weak hi hw (.cond false hc (d fro g0 w0 hi hro))⟩
    ·exact h.elim
   ·simp[G.run]at hr
   ·exact nomatch h
  intro ρ r g s k h hr;simp only[gv]at h;split at h
  ·rename_i sh Y g1 kk;obtain⟨t,ht,hr⟩:=Option.bind_eq_some_iff.1 (show(g1.run n).bind (fun t=>(kk t).run n)=some r from hr)
   obtain⟨g',o,s',h1,h2,d⟩:=main t g1 s _ h.1 ht;obtain⟨s'',hw,e⟩:=C9 h1 h2;have e1:o=(Y t).1:=congrArg Prod.fst e;have e2:s''=(Y t).2:=congrArg Prod.snd e;refine⟨kk t,(Y t).1,(Y t).2,(sh.bC _).1 h.2 t,hr,fun fro g0 w0 hi hro=>?_⟩
   rw[← e1,← e2];exact(d fro g0 w0 hi hro).post hi hw
  ·exact main r g s k h hr
 |block id b ih=>
  have main:∀{ρ:Type} (r:ρ) (g:G P ρ) (s:St) (k:G P ρ→aS→St→Prop),gv P X H0 b g s (wm id k)→g.run n=some r→
   ∃g' o s',k g' o s'∧g'.run n=some r∧∀fro g0 w0,Inv g0 H0 w0→jR g0 X.ro fro→dO P fro g0 H0 w0 (.block id b) s fun o1 s1=>o1=o∧s1=s':=by
   intro ρ r g s k h hr;obtain⟨g1,o1,s1,h1,hr1,d1⟩:=ih r g s _ h hr;refine⟨g1,behind id o1,s1,?_,hr1,fun fro g0 w0 hi hro=>.block ((d1 fro g0 w0 hi hro).mono fun o s' ⟨e1,e2⟩=>by grind)⟩
   unfold wm at h1;cases o1 with
   |exit id'=>
    grind [behind]
   |normal=>exact h1
   |ret=>exact h1
   |aM v=>exact h1
  intro ρ r g s k h hr;simp only[gv]at h;split at h
  ·rename_i sh Y g1 kk;obtain⟨t,ht,hr⟩:=Option.bind_eq_some_iff.1 (show(g1.run n).bind (fun t=>(kk t).run n)=some r from hr)
   obtain⟨g',o,s',h1,h2,d⟩:=main t g1 s _ h.1 ht;obtain⟨s'',hw,e⟩:=C9 h1 h2;have e1:o=(Y t).1:=congrArg Prod.fst e;have e2:s''=(Y t).2:=congrArg Prod.snd e;refine⟨kk t,(Y t).1,(Y t).2,(sh.bC _).1 h.2 t,hr,fun fro g0 w0 hi hro=>?_⟩
   rw[← e1,← e2];exact(d fro g0 w0 hi hro).post hi hw
  ·exact main r g s k h hr
 |loop b ih=>
  intro ρ r g s k h hr;simp only[gv]at h;split at h
  ·rename_i m g1;simp only[G.run]at hr;obtain⟨g',o,s',h1,h2,hne,hrd⟩:=C8 (ro:=X.ro) (fun g s k h hr=>ih r g s k h hr) m g1 s h hr
   refine⟨g',o,s',h1,h2,fun fro g0 w0 hi hro=>.loop hi (n:=m) (s0:=s) (fun m s=>EH P H0 X.ro b m s o s') (fun s h=>h.elim) (.refl _ _) hrd ?_⟩
   rintro m s1 ⟨o1,s2,hd,hx⟩;refine(hd fro g0 w0 hi hro).mono fun o3 s3 ⟨e1,e2⟩=>?_
   subst e1;subst e2;refine⟨s3,.refl _ _,?_⟩;grind
  ·rename_i σ sh hd E Y a0 body kk;obtain⟨h0,hb,hx⟩:=h;simp only[G.run,Option.ite_none_right_eq_some]at hr;obtain⟨hok,hr⟩:=hr;cases ht:kj (fun a=>(body a).run n) n a0 with
   |none=>rw[ht]at hr;cases hr
   |some t=>
    rw[ht]at hr;have hx:=(sh.bC _).1 hx t;obtain⟨_,h0,rfl⟩:=cu hok h0;refine⟨kk t,(Y t).1,(Y t).2,hx,by simpa using hr,fun fro g0 w0 hi hro=>.loop hi (n:=n) (s0:=E a0) (fun m s1=>∃a,s1=E a∧kj (fun a=>(body a).run n) m a=some t) (fun s ⟨a,_,h⟩=>by simp[kj]at h) h0 ⟨a0,rfl,ht⟩ ?_⟩
    rintro m s1 ⟨a,rfl,hit⟩;simp only[kj]at hit;cases hq:(body a).run n with
    |none=>rw[hq]at hit;cases hit
    |some q=>
     rw[hq]at hit;obtain⟨g',o',s',h',hr',d'⟩:=Da hNe (fun g h hr=>ih q g (E a) _ h hr) (hb a) hq
     refine(d' fro g0 w0 hi hro).mono fun o2 s2 ⟨e1,e2⟩=>?_
     grind [C7]
  ·rename_i hsh sh hd E Y a0 body kk;obtain⟨h0,hb,hx⟩:=h;have hb:=(hsh.bC _).1 hb;simp only[G.run,Option.ite_none_right_eq_some]at hr;obtain⟨hok,hr⟩:=hr;cases ht:kj (fun a=>(body a).run n) n a0 with
   |none=>rw[ht]at hr;cases hr
   |some t=>
    rw[ht]at hr;have hx:=(sh.bC _).1 hx t;obtain⟨_,h0,rfl⟩:=cu hok h0;refine⟨kk t,(Y t).1,(Y t).2,hx,by simpa using hr,fun fro g0 w0 hi hro=>.loop hi (n:=n) (s0:=E a0) (fun m s1=>∃a,s1=E a∧kj (fun a=>(body a).run n) m a=some t) (fun s ⟨a,_,h⟩=>by simp[kj]at h) h0 ⟨a0,rfl,ht⟩ ?_⟩
    rintro m s1 ⟨a,rfl,hit⟩;simp only[kj]at hit;cases hq:(body a).run n with
    |none=>rw[hq]at hit;cases hit
    |some q=>
     rw[hq]at hit;obtain⟨g',o',s',h',hr',d'⟩:=Da hNe (fun g h hr=>ih q g (E a) _ h hr) (hb a) hq
     refine(d' fro g0 w0 hi hro).mono fun o2 s2 ⟨e1,e2⟩=>?_
     grind [C7]
  ·simp[G.run]at hr
  ·exact nomatch h
 |exit id=>intro ρ r g s k h hr;exact⟨g,_,s,h,hr,fun _ _ _ _ _=>.exit ⟨rfl,rfl⟩⟩
 |ret=>intro ρ r g s k h hr;exact⟨g,_,s,h,hr,fun _ _ _ _ _=>.ret ⟨rfl,rfl⟩⟩
 |rangeFunc x ps as bd=>
  intro ρ r g s k h hr;simp only[gv]at h;obtain⟨s1,g1,hw,h,hr⟩:=wZ h hr;split at h
  ·rename_i pr g2;obtain⟨_,h⟩:=h;simp only[G.run]at hr;split at h
   ·rename_i f p q hf;split at h
    ·rename_i l H1 D1 hen;rw[cR]at h;obtain⟨hpr,h⟩:=h;split at h
     ·rename_i ids rs hcl;simp only[ct]at h;obtain⟨hq,_⟩:=k8 (wq hpr) _ _ _ _ _ hcl;obtain⟨g3,a,H2,hk,hr3,hfn⟩:=hNe.fn h hr;have ho:=u9 hfn;have hran:∀out s',vZ (lS f (p++[.gj l]++q) (mask ids H1) a H2) X.ro 0 (bQ s1.A x) ps as bd s1=some (out,s')→∀fro g0 w0,Inv g0 H0 w0→jR g0 X.ro fro→dO P fro g0 H0 w0 (.rangeFunc x ps as bd) s fun o1 s1=>o1=out∧s1=s':=by
       intro out s' hra fro g0 w0 hi hro;refine .weak hi hw fun Q g a w hs hl hp=>?_
       exact zV ho (hro.mono hl.ext) hra hs ((hp out s' ⟨rfl,rfl⟩).later hl)
      rcases qJ hk with⟨e,hm,hk⟩ |⟨v,hm,hk⟩
      ·simp only[dr]at hk;split at hk
       ·rename_i out s' hend;refine⟨g3,out,s',hk,hr3,hran out s' ?_⟩;simp only[vZ,hf,hen,cR,hq,finish,dM,ct,lS,and_self,if_true,hm,gR,dr,hend]
       ·exact hk.elim
      ·refine⟨g3,_,_,hk,hr3,hran _ _ ?_⟩;simp only[vZ,hf,hen,cR,hq,finish,dM,ct,lS,and_self,if_true,hm]
     ·exact h.elim
    ·exact h.elim
   ·exact h.elim
  ·simp[G.run]at hr
  ·exact nomatch h
 |_=>intro ρ r g s k h hr;exact h.elim
theorem gT{F:Fence}{fn:Func}{tmps:Array Value}{R R':Ending→World→Prop}(hR:∀e w,R e w→R' e w):∀{ds:List Deferred} {m:Nat} {u:FrameMode} {w:World},LeavesInM F m P fn tmps R ds u w→LeavesInM F m P fn tmps R' ds u w
 | [],m,u,w,h=>by
  cases u with
  |run=>exact h
  |returning=>obtain⟨v,h1,h2⟩:=h;exact⟨v,h1,hR _ _ h2⟩
  |panicking chain=>exact hR _ _ h
 |d::ds,m,u,w,h=>by
  obtain⟨hrun,h⟩:=h;refine⟨hrun,?_⟩;rcases h with⟨r,w',htar,htake,hrest⟩ |⟨hn,fv,cap,f,args,htar,hinv,hlead,hcall⟩
  ·exact .inl ⟨r,w',htar,htake,gT hR hrest⟩
  ·refine .inr ⟨hn,fv,cap,f,args,htar,hinv,hlead,hcall.mono fun e u' w' h=>?_⟩
   cases e with
   |returned v=>exact gT hR h
   |panicked chain=>exact gT hR h
   |outgrown=>exact hR _ _ h
theorem Db{L:Nat}{fn:Func}{m:Option AVal}{s:St}{r':aI}{H1:List af}(h:tC P cfg L fn m s=some (r',H1)):
 ∃m' H' r,leave P cfg qG L s.D m s.H=some (m',H')∧ending P fn s.A m' H'=some (r,H1)∧(∀v,r=.ret v→r'=.ret (gm v))∧(∀v,r=.aM v→r'=.aM v):=by
 grind [tC]
theorem bB.of(hm : P.follows .mixedOrders = true)(hN : ∀ (f : FuncId) (fn : Func), P.funcs[f]? = some fn → fn.name ≠ "runtime.NumGoroutine"){L : Nat}{f : FuncId}{fn : Func}{c : Code}{args : List AVal}{H0 H1 : List af}{a : aI}{o : aS}{s s' : St}
 (hf:P.funcs[f]? =some fn) (hb:fn.body=some c) (hd:∀g0 w0,Inv g0 H0 w0→dO P none g0 H0 w0 c ⟨iF fn.ntmps args,H0,[]⟩ fun o1 s1=>o1=o∧s1=s) (hwk:fK H0 s s') (hlo:mI P cfg L fn o s'=some (a,H1)):bB P f args H0 a H1:=by
 refine⟨⟨fn,c,hf,hb,hN f fn hf⟩,fun gh w vs hi hl=>callsIn_wide.1 (callsIn_of_wp_marks (F:=Fr none) (n:=0) hf hb trivial ?_)⟩
 have hsim:dy gh ⟨iF fn.ntmps args,H0,[]⟩ {tmps:=vs++Array.replicate (fn.ntmps - vs.size) undef,defers:=[]} w:=⟨hi,qE hl _,rfl⟩;refine hd gh w hi _ gh _ w hsim (aK.refl _ _ _) fun o1 s1 ⟨e1,e2⟩=>?_
 subst e1;subst e2;refine dN.weak hi hwk ?_;have key:∀(m:Option AVal) (u:FrameMode),tC P cfg L fn m s'=some (a,H1)→∀g' a' w',dy g' s' a' w'→aK gh H0 w g' s'.H w'→jF g' w' m u→
  LeavesInM (Fr none) 0 P fn a'.tmps (dL gh H0 w a H1) a'.defers u w':=by
  intro m u hla g' a' w' hs' hlat hmo;obtain⟨m',H',rr,h1,h2,h3,h4⟩:=Db hla;refine gT ?_ (gZ hm hN ny s'.D a'.defers m u s'.H g' w' m' H' hs'.defs hs'.inv hs'.tmps hmo h1 h2 hlat);rintro e w2 ⟨g2,hi2,hla2,he2⟩;refine⟨g2,hi2,hla2,?_⟩;cases rr with
  |ret v=>rw[h3 v rfl];obtain⟨x,rfl,hx⟩:=he2;exact⟨x,rfl,zf _ _ hx⟩
  |aM v=>rw[h4 v rfl];exact he2
 cases o1 with
 |normal=>exact fun g' a' w' hs' hlat=>key none .returning hlo g' a' w' hs' hlat rfl
 |ret=>exact fun g' a' w' hs' hlat=>key none .returning hlo g' a' w' hs' hlat rfl
 |exit id=>simp[mI]at hlo
 |aM v=>exact fun g' a' w' x hv hs' hlat hrx=>key (some v) (.panicking [{v:=x,recovered:=false}]) hlo g' a' w' hs' hlat ⟨hv,x,rfl,hrx⟩
theorem w5{L:Nat}{fn:Func}{m:Option AVal}{s:St}{a:aI}{H1:List af}(h:tC P cfg L fn m s=some (a,H1)):∀v,a=.aM v→v.flat=true:=by
 grind [tC]
theorem Aa{L:Nat}{fn:Func}{o:aS}{s:St}{a:aI}{H1:List af}(h:mI P cfg L fn o s=some (a,H1)):∀v,a=.aM v→v.flat=true:=by
 cases o with
 |normal=>exact w5 h
 |ret=>exact w5 h
 |exit id=>simp[mI]at h
 |aM v=>exact w5 h
theorem w6{nd : Bool}(hm : P.follows .mixedOrders = true)(hN : ∀ (f : FuncId) (fn : Func), P.funcs[f]? = some fn → fn.name ≠ "runtime.NumGoroutine") : ∀ d, kL P (gN P cfg nd d)
 | 0=>⟨fun h=>h.elim,fun h=>h.elim,fun h=>h.elim⟩
 |d+1=>by
  have ih:=w6 (nd:=nd) hm hN d;constructor
  ·intro ρ n f args H g k r h hr;simp only[gN,JT]at h;split at h
   ·exact Gf h hr
   split at h
   ·rename_i fn hf;split at h
    ·rename_i c hb;obtain⟨g1,o,s1,h,hr,hd⟩:=tO (X:=⟨cfg,none,gN P cfg nd d,nd⟩) hm ih c r g _ _ h hr;unfold Ji at h;split at h
     ·rename_i ts pr g2;simp only[G.run,Option.ite_none_right_eq_some]at hr;obtain⟨s',hw,h⟩:=cu hr.1 h;split at h
      ·rename_i a H1 hla;have hfn:=bB.of hm hN hf hb (fun g0 w0 hi=>hd none g0 w0 hi trivial) hw hla
       obtain⟨_,hpr,h⟩:=h;grind [cR,bB.trim,Aa,wq]
      ·exact h.elim
     ·simp[G.run]at hr
     ·exact nomatch h
    ·exact h.elim
   ·exact h.elim
  ·intro ρ n b args H g k r h hr;simp only[gN,Jk]at h;split at h
   ·rename_i st pend fid A ps assign body hb;split at h
    ·rename_i hlen;have hlen:=Nat.eq_of_beq_eq_true hlen;obtain⟨g1,o1,s1,h,hr,hd1⟩:=tO (X:=⟨cfg,some b,gN P cfg nd d,nd⟩) hm ih assign r g _ _ h hr;split at h
     ·split at h
      ·rename_i pend1 fid1 A1 ps1 as1 bd1 hb1;rw[cR]at h;obtain⟨g2,o2,s2,h,hr,hd2⟩:=tO (X:=⟨cfg,some b,gN P cfg nd d,nd⟩) hm ih body r g1 _ _ h hr;unfold Jj at h;split at h
       ·rename_i j hj;split at h
        ·rename_i ts g3;simp only[G.run,Option.ite_none_right_eq_some]at hr;obtain⟨s3,hw,h⟩:=cu hr.1 h;split at h
         ·rename_i H2 hmk;refine⟨g3,_,H2,h,hr.2,fun gh w vs k sz hi hl hk=>?_⟩
          obtain⟨k0,tmps0,dk0,fn0,q1,q2,q3⟩:=hi.good b _ hb;rw[hk]at q1;simp only[Option.some.injEq,Prod.mk.injEq]at q1;obtain⟨rfl,rfl⟩:=q1;have hvs:=(cK _ _ hl).1;refine⟨_,q2,by grind,?_⟩
          rw[tX _ ps vs rfl];have hsim:dy gh ⟨nZ A ps args,H,[]⟩ {tmps:=(ps.zip vs.toList).foldl (fun(tmps:Array Value) (p:Tmp×Value)=>tmps.setIfInBounds p.1 p.2) tmps0,defers:=[]} w:=
           ⟨hi,uZ ps args A _ tmps0 q3 hl,rfl⟩
          refine roundIn_of_wpIn trivial ?_;refine hd1 (some k) gh w hi ⟨0,hk⟩ _ gh _ w hsim (aK.refl _ _ _) fun oo ss ⟨e1,e2⟩=>?_
          subst e1;subst e2;intro gg1 a1 w1 hs1 hla1;have hk1:=hla1.ext.ai _ _ _ hk;obtain⟨k1,tmps1,dk1,fn1,u1,u2,u3⟩:=hs1.inv.good b _ hb1;rw[hk1]at u1;simp only[Option.some.injEq,Prod.mk.injEq]at u1;obtain⟨rfl,-⟩:=u1;refine⟨_,run_beginRound u2 rfl,?_⟩;obtain⟨i2,l2⟩:=hs1.inv.put (y:=.loop .busy pend1 fid1 A1 ps1 as1 bd1)
           (ob:=.loop {state:=.busy,pending:=pend1,fn:=fn1,tmps:=tmps1,params:=ps1.toArray,assign:=as1,body:=bd1,defers:=dk1}) hb1 rfl hk1 rfl (oc u2)
           fun hext=>⟨_,tmps1,dk1,fn1,hk1,World.putObj_heap_same (Array.getElem?_eq_some_iff.1 u2).1,bq hext _ _ u3⟩
          have hsim2:dy gg1 {ss with H:=ss.H.set b (.loop .busy pend1 fid1 A1 ps1 as1 bd1)} a1 (w1.putObj k (.loop {state:=.busy,pending:=pend1,fn:=fn1,tmps:=tmps1,params:=ps1.toArray,assign:=as1,body:=bd1,defers:=dk1})):=
           ⟨i2,bq l2.ext _ _ hs1.tmps,cT l2.ext _ _ hs1.defs⟩
          refine hd2 (some k) gh w hi ⟨0,hk⟩ _ gg1 a1 _ hsim2 (hla1.trans l2) fun oo2 ss2 ⟨e1,e2⟩=>?_
          subst e1;subst e2;refine dN.weak hi hw ?_;have hend:∀g' a' w',dy g' s3 a' w'→aK gh H w g' s3.H w'→
           ∃v w'',(Instr.endRound k j).run P w'=.ok v w''∧dL gh H w (.ret (.sc (.bool j.isNone))) H2 (.returned v) w'':=by
           intro g' a' w' hs' hla';obtain⟨rr,e1,e2,e3⟩:=tY hs'.inv (hla'.ext.ai _ _ _ hk) hmk;exact⟨_,_,run_endRound j e1,g',e2,hla'.trans e3,_,rfl,by simp[R]⟩
          cases oo2 with
          |normal=>
           simp only[mF,Option.some.injEq]at hj;subst hj;exact fun g' a' w' h1 h2=>hend g' a' w' h1 h2
          |ret=>
           simp only[mF,Option.some.injEq]at hj;subst hj;exact fun g' a' w' h1 h2=>hend g' a' w' h1 h2
          |exit id=>
           simp only[mF,Option.some.injEq]at hj;subst hj;exact fun g' a' w' h1 h2=>hend g' a' w' h1 h2
          |aM v=>cases hj
         ·exact h.elim
        ·simp[G.run]at hr
        ·exact nomatch h
       ·exact h.elim
      ·exact h.elim
     ·exact h.elim
    ·exact h.elim
   ·exact h.elim
  ·intro σ sh n ro H0 b g E s Y q h hr;obtain⟨h⟩:=h;exact tO (X:=⟨cfg,ro,gN P cfg nd d,nd⟩) hm ih b q g s _ h hr
end
end Go.AM
end
section
namespace Go.AM
section
variable [ax] {P:Program} {cfg:dV}
def w8(P:Program)[ax](cfg:dV)(L:Nat)(fn:Func)(m:Option AVal)(s:St):Option aI:=
 match leave P cfg qG L s.D m s.H with
 |some (m',H')=>match ending P fn s.A m' H' with
  |some (.ret v,H1)=>match(snap fm v).run H1 with
   |some v'=>some (.ret (gm v'))
   |none=>none
  |some (.aM v,_)=>match v.flat with
   |true=>some (.aM v)
   |false=>none
  |none=>none
 |none=>none
def Bv(P:Program)[ax](cfg:dV)(L:Nat)(fn:Func)(o:aS)(s:St):Option aI:=
 match o with
 | .normal=>w8 P cfg L fn none s
 | .ret=>w8 P cfg L fn none s
 | .aM v=>w8 P cfg L fn (some v) s
 | .exit _=>none
def Ck{ρ:Type}(P:Program)[ax](cfg:dV)(L:Nat)(fn:Func)(out:ρ→aI)(g:G P ρ)(o:aS)(s:St):Prop:=
 match g with
 | .done ts r=>fP [] ts s fun s=>Bv P cfg L fn o s=some (out r)
 | .fail=>True
 |_=>Lv P fn o s out
def KW{ρ:Type}(P:Program)[ax](cfg:dV)(L:Nat)(f:FuncId)(args:List AVal)(out:ρ→aI)(g:G P ρ):Prop:=
 match P.funcs[f]? with
 |some fn=>match fn.body with
  |some c=>gv P (GW P cfg) [] c g ⟨iF fn.ntmps args,[],[]⟩ fun g o s=>Ck P cfg L fn out g o s
  |none=>False
 |none=>False
def JW{ρ:Type}(out:ρ→aI)(r:ρ):Prop:=some (out r)=some (out r)
theorem Jm{n L:Nat}{ρ:Type}{fn:Func}{out:ρ→aI}{g:G P ρ}{o:aS}{s:St}{r:ρ}(h:Ck P cfg L fn out g o s)(hr:g.run n=some r):∃s',fK [] s s'∧Bv P cfg L fn o s'=some (out r):=by
 unfold Ck at h;split at h
 ·simp only[G.run,Option.ite_none_right_eq_some,Option.some.injEq]at hr;obtain⟨hok,rfl⟩:=hr;exact cu hok h
 ·simp[G.run]at hr
 ·exact nomatch h
theorem Bw{g g':Gh}{w w':World}{H1:List af}{r r':aI}{e:Ending}(hi:Inv g [] w)(hi':Inv g' H1 w')(hla:aK g [] w g' H1 w')(hl:(∀v,r=.ret v→∃v',(snap fm v).run H1=some v'∧r'=.ret (gm v'))∧(∀v,r=.aM v→v.flat=true∧r'=.aM v))
 (he:JP g' w' r e):dL g [] w r' [] e w':=by
 refine⟨gy g' H1,hi'.gy,⟨⟨fun b ak x hx=>?_,fun k o hk=>.inl (hla.ext.st k o hk),hla.ext.cell,hla.ext.shape⟩,hla.size,hla.keep,fun k _ ho=>absurd ho dS,Nat.le_refl _,hla.os,hla.tape,hla.output,fun k o hk hst=>?_,fun b hb=>by simp at hb,fun b ak k z h=>by cases h⟩,?_⟩
 ·rw[hi.fresh b ak (.inr (by simp))]at hx;cases hx
 ·rcases hst with hst |hst
  ·exact(hla.stk k o hk hst).imp_right fun h=>absurd h.1 dS
  ·exact absurd (hla.own k hk hst) dS
 ·cases r with
  |ret v=>
   obtain⟨v',hs,rfl⟩:=hl.1 v rfl;obtain⟨x,rfl,hr⟩:=he;exact⟨x,rfl,zf _ _ (kZ hi' _ _ _ _ hs hr).1⟩
  |aM v=>
   obtain⟨hf,rfl⟩:=hl.2 v rfl;obtain⟨x,rfl,hr⟩:=he;exact⟨x,rfl,hU _ _ hf hr⟩
theorem Dc{L:Nat}{fn:Func}{m:Option AVal}{s:St}{r':aI}(h:w8 P cfg L fn m s=some r'):
 ∃m' H' r H1,leave P cfg qG L s.D m s.H=some (m',H')∧ending P fn s.A m' H'=some (r,H1)∧(∀v,r=.ret v→∃v',(snap fm v).run H1=some v'∧r'=.ret (gm v'))∧(∀v,r=.aM v→v.flat=true∧r'=.aM v):=by
 unfold w8 at h;split at h
 ·rename_i m' H' hl;split at h
  ·rename_i v H1 he;split at h
   ·rename_i v' hs;simp only[Option.some.injEq]at h;subst h;refine⟨m',H',_,H1,hl,he,?_,?_⟩
    ·intro u hu;cases hu;exact⟨v',hs,rfl⟩
    ·intro u hu;cases hu
   ·cases h
  ·rename_i v H1 he;split at h
   ·rename_i hf;simp only[Option.some.injEq]at h;subst h;refine⟨m',H',_,H1,hl,he,?_,?_⟩
    ·intro u hu;cases hu
    ·intro u hu;cases hu;exact⟨hf,rfl⟩
   ·cases h
  ·cases h
 ·cases h
theorem Ie(hm : P.follows .mixedOrders = true)(hN : ∀ (f : FuncId) (fn : Func), P.funcs[f]? = some fn → fn.name ≠ "runtime.NumGoroutine"){L : Nat}{f : FuncId}{args : List AVal}{ρ : Type}{out : ρ → aI}{g : G P ρ}
 (h:KW P cfg L f args out g) {n:Nat} {r:ρ} (hr:g.run n=some r):gG P f args (out r):=by
 unfold KW at h;split at h
 ·rename_i fn hf;split at h
  ·rename_i c hb;refine⟨⟨fn,c,hf,hb,hN f fn hf⟩,fun gh w vs hi hl=>callsIn_wide.1 (callsIn_of_wp_marks (F:=Fr none) (n:=0) hf hb trivial ?_)⟩
   have hsim:dy gh ⟨iF fn.ntmps args,[],[]⟩ {tmps:=vs++Array.replicate (fn.ntmps - vs.size) undef,defers:=[]} w:=⟨hi,qE hl _,rfl⟩;obtain⟨g',o,s1,h',hr',hd⟩:=tO (X:=GW P cfg) hm (w6 hm hN 9) c r g _ _ h hr;obtain⟨s',hwk,hlo⟩:=Jm h' hr';refine hd none gh w hi trivial _ gh _ w hsim (aK.refl _ _ _) fun o1 s1 ⟨e1,e2⟩=>?_
   subst e1;subst e2;refine dN.weak hi hwk ?_;have key:∀(m:Option AVal) (u:FrameMode),w8 P cfg L fn m s'=some (out r)→∀g' a' w',dy g' s' a' w'→aK gh [] w g' s'.H w'→jF g' w' m u→
    LeavesInM (Fr none) 0 P fn a'.tmps (dL gh [] w (out r) []) a'.defers u w':=by
    intro m u hla g' a' w' hs' hlat hmo;obtain⟨m',H',rr,H1,h1,h2,h3⟩:=Dc hla;refine gT ?_ (gZ hm hN ny s'.D a'.defers m u s'.H g' w' m' H' hs'.defs hs'.inv hs'.tmps hmo h1 h2 hlat);rintro e w2 ⟨g2,hi2,hla2,he2⟩;exact Bw hi hi2 hla2 h3 he2
   cases o1 with
   |normal=>exact fun g' a' w' hs' hlat=>key none .returning hlo g' a' w' hs' hlat rfl
   |ret=>exact fun g' a' w' hs' hlat=>key none .returning hlo g' a' w' hs' hlat rfl
   |exit id=>simp[Bv]at hlo
   |aM v=>exact fun g' a' w' x hv hs' hlat hrx=>key (some v) (.panicking [{v:=x,recovered:=false}]) hlo g' a' w' hs' hlat ⟨hv,x,rfl,hrx⟩
  ·exact h.elim
 ·exact h.elim
inductive KX (P:Program) [ax] {ρ:Type} (fn:Func) (o:aS) (s:St) (H0:List af) (out:ρ→aI×List af):Prop
def GY(n:Nat):Option (aI×List af)→Option (aI×List af)
 |some (a,H)=>some (a,H.take n)
 |none=>none
def GZ{ρ:Type}(P:Program)[ax](cfg:dV)(L:Nat)(fn:Func)(H0:List af)(out:ρ→aI×List af)(g:G P ρ)(o:aS)(s:St):Prop:=
 match g with
 | .done ts r=>fP H0 ts s fun s=>GY H0.length (mI P cfg L fn o s)=some (out r)
 | .fail=>True
 |_=>KX P fn o s H0 out
def Jn{ρ:Type}(P:Program)[ax](cfg:dV)(L:Nat)(f:FuncId)(args:List AVal)(H0:List af)(out:ρ→aI×List af)(g:G P ρ):Prop:=
 match P.funcs[f]? with
 |some fn=>match fn.body with
  |some c=>gv P (GW P cfg) H0 c g ⟨iF fn.ntmps args,H0,[]⟩ fun g o s=>GZ P cfg L fn H0 out g o s
  |none=>False
 |none=>False
def G0{ρ:Type}(out:ρ→aI×List af)(r:ρ):Prop:=some (out r)=some (out r)
theorem Ig{n L:Nat}{ρ:Type}{fn:Func}{H0:List af}{out:ρ→aI×List af}{g:G P ρ}{o:aS}{s:St}{r:ρ}(h:GZ P cfg L fn H0 out g o s)(hr:g.run n=some r):∃s',fK H0 s s'∧GY H0.length (mI P cfg L fn o s')=some (out r):=by
 unfold GZ at h;split at h
 ·simp only[G.run,Option.ite_none_right_eq_some,Option.some.injEq]at hr;obtain⟨hok,rfl⟩:=hr;exact cu hok h
 ·simp[G.run]at hr
 ·exact nomatch h
theorem G1(hm : P.follows .mixedOrders = true)(hN : ∀ (f : FuncId) (fn : Func), P.funcs[f]? = some fn → fn.name ≠ "runtime.NumGoroutine"){L : Nat}{f : FuncId}{args : List AVal}{H0 : List af}{ρ : Type}{out : ρ → aI × List af}{g : G P ρ}
 (h:Jn P cfg L f args H0 out g) {n:Nat} {r:ρ} (hr:g.run n=some r) (h0:0<H0.length) (ha:(out r).1.yp=true) (hrow:∀x∈(out r).2,x.nI=true∨x=.dead):bB P f args H0 (out r).1 (out r).2:=by
 unfold Jn at h;split at h
 ·rename_i fn hf;split at h
  ·rename_i c hb;obtain⟨g',o,s1,h',hr',hd⟩:=tO (X:=GW P cfg) hm (w6 hm hN 9) c r g _ _ h hr;obtain⟨s',hwk,hlo⟩:=Ig h' hr';cases hl:mI P cfg L fn o s' with
   |none=>rw[hl]at hlo;cases hlo
   |some p=>
    obtain⟨a,H1⟩:=p;rw[hl]at hlo;simp only[GY,Option.some.injEq]at hlo;have:=bB.of hm hN hf hb (fun g0 w0 hi=>hd none g0 w0 hi trivial) hwk hl
    rw[← hlo]at ha hrow ⊢;exact bB.take this h0 ha hrow
  ·exact h.elim
 ·exact h.elim
class Plain (P:Program):Prop where
 mixed:P.follows .mixedOrders=true
 names : ∀ (f : FuncId) (fn : Func), P.funcs[f]? = some fn → fn.name ≠ "runtime.NumGoroutine"
def aA.of[hp:Plain P](cfg:dV)(L:Nat)(f:FuncId)(X:Type)(args:X→List AVal)(sh:Sh)(out:sh.El→aI)(g:X→G P sh.El)(h:∀x,KW P cfg L f (args x) out (g x)=(g x).dX (JW out)):aA P where
 f:=f
 X:=X
 args:=args
 sh:=sh
 out:=out
 S:=fun n x=>(g x).run n
 ok:=fun _ x _ hr=>Ie hp.mixed hp.names (by rw[h x];exact G.bA (fun _=>rfl) (g x)) hr
def jV.EI[hp:Plain P](cfg:dV)(L:Nat)(f:FuncId)(X:Type)(args:X→List AVal)(τ:Type)(sz:Nat)(enc:τ→List AVal)(b:X→List τ)(sh:Sh)(out:sh.El→aI)(bo:sh.El→List τ)(g:X→G P sh.El)
 (he:∀a,AVal.aO (enc a)=true) (ha:∀x,AVal.jH (args x)=true) (hr:sh.all fun r=>(out r).yp=true)
 (h:∀x,Jn P cfg L f (args x) [.row 0 sz ((b x).map enc)] (fun r=>(out r,[.row 0 sz ((bo r).map enc)])) (g x)=(g x).dX (G0 fun r=>(out r,[.row 0 sz ((bo r).map enc)]))):jV P where
 f:=f
 X:=X
 args:=args
 blk:=fun x=>.row 0 sz ((b x).map enc)
 sh:=sh
 out:=out
 pM:=fun _ r=>.row 0 sz ((bo r).map enc)
 S:=fun n x=>(g x).run n
 a0:=ha
 b0:=fun x=>by simp[af.nI,he]
 b1:=fun _ r=>.inl (by simp[af.nI,he])
 r0:=fun r=>(sh.bC _).1 hr r
 ok:=fun _ x r hr'=>G1 hp.mixed hp.names (out:=fun r=>(out r,[.row 0 sz ((bo r).map enc)])) (by rw[h x];exact G.bA (fun _=>rfl) (g x)) hr' (Nat.zero_lt_succ _) ((sh.bC _).1 hr r) fun y hy=>by
  simp only[List.mem_singleton]at hy;subst hy;exact .inl (by simp[af.nI,he])
end
end Go.AM
end
section
namespace Go.AM
def lT(P:Program)(T:TypeId):Option Nat:=match P.underlying T with
 |some (.slice e)=>cB P e
 |_=>none
def intOf:AVal→Option Int
 | .sc (.int _ n)=>some n
 |_=>none
theorem fM{v:AVal}{n:Int}(h:intOf v=some n):∃k,v=.sc (.int k n):=by
 unfold intOf at h;grind
def qn{X:Type}(l:List X)(i:Int):Option X:=if 0≤i then l[i.toNat]? else none
theorem gA{P:Program}{T:TypeId}{n:Nat}(h:lT P T=some n):∃e,P.underlying T=some (.slice e)∧cB P e=some n:=by
 grind [lT]
section
def bJ{X:Type}(l:List X)(enc:X→List AVal)(n:Nat)(i:Int):jo X where
 run:=qn l i
 aT x:={val:=.bp (enc x) 0}
 ids:=[]
 kf gl P cfg nid op ai H:=match op with
  | .indexAddr T a b=>ai a=.aD (l.map enc)∧intOf (ai b)=some i∧lT P T=some n∧∀x,(enc x).length=n
  |_=>False
 fI:=AVal.aD (l.map enc)=AVal.aD (l.map enc)∧some i=some i∧some n=some n∧∀_:X,n=n
 holds:=⟨rfl,rfl,rfl,fun _=>rfl⟩
 sound gl P cfg nid op ai H h x hx:=by
  cases op<;>try exact h.elim
  rename_i T a b;obtain⟨h1,h2,h3,h4⟩:=h;obtain⟨k,h2⟩:=fM h2;obtain⟨e,e1,e2⟩:=gA h3;unfold qn at hx;split at hx
  ·rename_i h0;simp[bf,cc,bN,h2,h1,jA,e1,e2,h0,hx,h4,yields,Rd.bind,Rd.run,Rd.reads]
  ·cases hx
def bO{X:Type}(l:List X)(enc:X→List AVal):jo Unit where
 run:=some ()
 aT _:={val:=.sc (.int .i64 l.length)}
 ids:=[]
 kf gl P cfg nid op ai H:=match op with
  | .call {callee:=.builtin .len,args,argTypes}=>match argTypes[0]?,args[0]? with
   |some T,some x=> @Eq Bool (lT P T).isSome true∧ai x=.aD (l.map enc)
   |_,_=>False
  |_=>False
 fI:=(@Eq Bool true true)∧AVal.aD (l.map enc)=AVal.aD (l.map enc)
 holds:=⟨by rfl,by rfl⟩
 sound gl P cfg nid op ai H h x hx:=by
  split at h
  ·split at h
   ·rename_i args argTypes _ _ T x hT ha;obtain⟨h1,h2⟩:=h;obtain⟨n,hn⟩:=Option.isSome_iff_exists.1 h1;obtain⟨e,e1,e2⟩:=gA hn;grind [bf,cc,bN,mw,Rd.bind,Rd.run,Rd.reads]
   ·exact h.elim
  ·exact h.elim
def Ih(P:Program)(T:TypeId):Option (Nat×Nat×Bool):=match P.info? T with
 |some i=>some (i.size,i.bytes,jK i)
 |none=>none
def uh(P:Program)(T:TypeId):Option (Nat×Nat×Bool):=match P.underlying T with
 |some (.slice e)=>Ih P e
 |_=>none
theorem sQ{P:Program}{T:TypeId}{n by_:Nat}{z:Bool}(h:uh P T=some (n,by_,z)):∃e i,P.underlying T=some (.slice e)∧P.info? e=some i∧i.size=n∧i.bytes=by_∧jK i=z:=by
 grind [uh,Ih]
theorem run_bind'{α β:Type}{H:List af}{m:Rd α}{f:α→Rd β}{x:α}(h:m.run H=some x):(m.bind f).run H=(f x).run H:=by
 induction m with
 |fail=>simp[Rd.run]at h
 |done a=>simp[Rd.run]at h;subst h;rfl
 |get b k ih=>
  grind [Rd.run,Rd.bind]
def G2{X:Type}(len:Nat)(l m:List X)(enc:X→List AVal)(n by_ b ak nid0:Nat)(eids:List Nat):jo Unit where
 run:=if len=l.length∧roomy (l.length+m.length) by_=true then some ()else none
 aT _:={val:=.sl b (ak+1) n 0 (l++m).length,cZ:=[(b,.row (ak+1) n ((l++m).map enc))]}
 ids:=nid0::(eids++[b])
 kf gl P cfg nid op ai H:=match op with
  | .call {callee:=.builtin .append,args,argTypes}=>match argTypes[0]?,argTypes[1]?,args[0]?,args[1]? with
   |some ST,some XT,some s,some x=>nid=nid0∧H[nid]? =some .aR∧decide (args.size=2)=true∧uh P ST=some (n,by_,true)∧(lT P XT).isSome=true∧decide (0<n)=true∧ai s=.sl b ak n 0 len∧H[b]? =some (.row ak n (l.map enc))∧
    (elems (ai x)).run H=some (m.map enc)∧(elems (ai x)).reads H=eids∧∀x,(enc x).length=n
   |_,_,_,_=>False
  |_=>False
 fI:=nid0=nid0∧some af.aR=some af.aR∧ @Eq Bool true true∧some (n,by_,true)=some (n,by_,true)∧ @Eq Bool true true∧ @Eq Bool true true∧AVal.sl b ak n 0 len=AVal.sl b ak n 0 len∧some (af.row ak n (l.map enc))=some (af.row ak n (l.map enc))∧
  some (m.map enc)=some (m.map enc)∧eids=eids∧∀_:X,n=n
 holds:=by simp
 sound gl P cfg nid op ai H h x hx:=by
  split at h
  ·split at h
   ·rename_i args argTypes _ _ _ _ ST XT sx x hT hX hs hxx;obtain⟨rfl,hunb,h0,h1,h2,h3,h4,h5,h6,h6',h7⟩:=h;obtain⟨e,i,e1,e2,e3,e4,e5⟩:=sQ h1;obtain⟨n2,hn2⟩:=Option.isSome_iff_exists.1 h2;obtain⟨e',e6,_⟩:=gA hn2;simp only[decide_eq_true_eq]at h0 h3;split at hx
    ·rename_i hroom;obtain⟨rfl,hroom⟩:=hroom;have hz:i.size≠0:=by omega
     have hall:(m.map enc).all (fun r=>r.length==i.size)=true:=by
      simp only[List.all_map,List.all_eq_true];intro y _;simp[h7,e3]
     have hop:bf P cfg nid ai (.call {callee:=.builtin .append,args:=args,argTypes:=argTypes})=.get nid fun
      | .aR=>(tL P nid ST XT (ai sx) (ai x)).bind fun e=>.done (.aT e)
      |_=>.fail:=by
      simp only[bf,cc,if_true,bN,hT,hX,hs,hxx,h0];congr 1
     have hap:tL P nid ST XT (ai sx) (ai x)=(elems (ai x)).bind fun new=>.get b fun
      | .row v sz rows=>if v=ak then(if 0=0∧l.length≤rows.length∧sz=i.size∧roomy (l.length+new.length) i.bytes=true∧new.all (fun r=>r.length==i.size)=true∧jK i=true then
       .done {val:=.sl b (ak+1) sz 0 (l.length+new.length),cZ:=[(b,.row (ak+1) sz (Gp l.length rows++new))]}else .fail)else .fail
      |_=>.fail:=by
      rw[h4];unfold tL;rw[e1,e6];simp only[e2,hz,if_false];congr 1
      funext new
      simp only[Rd.bind,rowOf];congr 1
      funext y
      cases y with
      |row v sz rows=>grind [Rd.bind]
      |_=>rfl
     rw[hop,hap];simp only[Rd.run,Rd.reads,hunb];have hb:∀{β:Type} (f:cF→Rd β) (g:List (List AVal)→Rd cF),(((elems (ai x)).bind g).bind f)=(elems (ai x)).bind fun n=>(g n).bind f:=by
      intro β f g;generalize elems (ai x)=q;induction q with
      |fail=>rfl
      |done a=>rfl
      |get b k ih=>simp only[Rd.bind,ih]
     grind [run_bind',wT,Rd.bind,Rd.run,Rd.reads,FY]
    ·cases hx
   ·exact h.elim
  ·exact h.elim
def bare:AVal→Bool
 | .sc (.slice none 0 0)=>true
 | .emp=>true
 |_=>false
def gx(m n b ak:Nat)(i:Int):jo Unit where
 run:=if 0≤i∧i<m then some ()else none
 aT _:={val:=.ptr b ak i.toNat 0}
 ids:=[]
 kf gl P cfg nid op ai H:=match op with
  | .indexAddr T a c=>ai a=.sl b ak n 0 m∧intOf (ai c)=some i∧lT P T=some n
  |_=>False
 fI:=AVal.sl b ak n 0 m=AVal.sl b ak n 0 m∧some i=some i∧some n=some n
 holds:=⟨rfl,rfl,rfl⟩
 sound gl P cfg nid op ai H h x hx:=by
  cases op<;>try exact h.elim
  rename_i T a c;obtain⟨h1,h2,h3⟩:=h;obtain⟨k,h2⟩:=fM h2;obtain⟨e,e1,e2⟩:=gA h3;split at hx
  ·rename_i h0;simp[bf,cc,bN,h2,h1,jA,e1,e2,h0.1,h0.2,yields,Rd.bind,Rd.run,Rd.reads]
  ·cases hx
def kM{X:Type}(l:List X)(enc:X→List AVal)(n b ak i o:Nat)(val:X→AVal):jo X where
 run:=l[i]?
 aT x:={val:=val x}
 ids:=[b]
 kf gl P cfg nid op ai H:=match op with
  | .load T a=>ai a=.ptr b ak i o∧H[b]? =some (.row ak n (l.map enc))∧∀x,jy P T (enc x) o=some (val x)
  |_=>False
 fI:=AVal.ptr b ak i o=AVal.ptr b ak i o∧some (af.row ak n (l.map enc))=some (af.row ak n (l.map enc))∧∀x,some (val x)=some (val x)
 holds:=⟨rfl,rfl,fun _=>rfl⟩
 sound gl P cfg nid op ai H h x hx:=by
  cases op<;>try exact h.elim
  rename_i T a;obtain⟨h1,h2,h3⟩:=h;simp[bf,cc,bN,h1,wK,rowOf,h2,hx,h3,yields,Rd.bind,Rd.run,Rd.reads]
def Gg{X:Type}(l:List X)(enc:X→List AVal)(n b ak i o:Nat)(y:X→X):jo X where
 run:=l[i]?
 aT x:={val:=nothing,cZ:=[(b,.row ak n ((l.set i (y x)).map enc))]}
 ids:=[b]
 kf gl P cfg nid op ai H:=match op with
  | .store T a v=>ai a=.ptr b ak i o∧H[b]? =some (.row ak n (l.map enc))∧∀x,(qv P T (ai v)).bind (y6 (enc x) o)=some (enc (y x))
  |_=>False
 fI:=AVal.ptr b ak i o=AVal.ptr b ak i o∧some (af.row ak n (l.map enc))=some (af.row ak n (l.map enc))∧∀x,some (enc (y x))=some (enc (y x))
 holds:=⟨rfl,rfl,fun _=>rfl⟩
 sound gl P cfg nid op ai H h x hx:=by
  cases op<;>try exact h.elim
  rename_i T a v;obtain⟨h1,h2,h3⟩:=h;obtain⟨vs,h4,h5⟩:=Option.bind_eq_some_iff.1 (h3 x);simp[bf,cc,bN,h1,xO,rowOf,h2,hx,h4,h5,Rd.bind,Rd.run,Rd.reads,List.map_set]
def KY{X:Type}(d:X)(enc:X→List AVal)(n by_ nid0:Nat)(k:Int):jo Unit where
 run:=if 0≤k∧roomy k.toNat by_=true then some ()else none
 aT _:={val:=.sl nid0 0 n 0 (List.replicate k.toNat d).length,cZ:=[(nid0,.row 0 n ((List.replicate k.toNat d).map enc))]}
 ids:=[nid0]
 kf gl P cfg nid op ai H:=match op with
  | .makeSlice T a c=>nid=nid0∧H[nid]? =some .aR∧intOf (ai a)=some k∧intOf (ai c)=some k∧uh P T=some (n,by_,true)∧(match P.underlying T with |some (.slice e)=>ga P e |_=>none)=some (enc d)∧(enc d).length=n∧decide (0<n)=true
  |_=>False
 fI:=nid0=nid0∧some af.aR=some af.aR∧some k=some k∧some k=some k∧some (n,by_,true)=some (n,by_,true)∧some (enc d)=some (enc d)∧n=n∧ @Eq Bool true true
 holds:=by simp
 sound gl P cfg nid op ai H h x hx:=by
  cases op<;>try exact h.elim
  rename_i T a c;obtain⟨rfl,hunb,h1,h2,h3,h4,h5,h6⟩:=h;obtain⟨k1,h1⟩:=fM h1;obtain⟨k2,h2⟩:=fM h2;obtain⟨e,i,e1,e2,e3,e4,e5⟩:=sQ h3;rw[e1]at h4;simp only at h4;simp only[decide_eq_true_eq]at h6;split at hx
  ·rename_i h0;have hop:kW P nid T (ai a) (ai c)=some {val:=.sl nid 0 i.size 0 k.toNat,cZ:=[(nid,.row 0 i.size (List.replicate k.toNat (enc d)))]}:=by
    rw[h1,h2];simp only[kW,e1,e2,h4];rw[if_pos ⟨h0.1,Int.le_refl _,by rw[e4];exact h0.2,by rw[h5,e3],by omega⟩]
   simp[bf,cc,bN,hop,o5,Rd.bind,Rd.run,Rd.reads,hunb,e3]
  ·cases hx
def Bx(d m:Nat):Option Int→Option Nat
 |none=>some d
 |some i=>if 0≤i∧i≤m then some i.toNat else none
def L7{X:Type}(l:List X)(enc:X→List AVal)(n:Nat)(lo hi:Option Int):jo (Nat×Nat) where
 run:=(Bx l.length l.length hi).bind fun h=>(Bx 0 h lo).map fun k=>(k,h)
 aT x:={val:=.aD (((l.take x.2).drop x.1).map enc)}
 ids:=[]
 kf gl P cfg nid op ai H:=match op with
  | .slice T a lo' hi' none=>ai a=.aD (l.map enc)∧(lo'.map fun x=>intOf (ai x))=lo.map some∧(hi'.map fun x=>intOf (ai x))=hi.map some∧lT P T=some n∧∀x,(enc x).length=n
  |_=>False
 fI:=AVal.aD (l.map enc)=AVal.aD (l.map enc)∧lo.map some=lo.map some∧hi.map some=hi.map some∧some n=some n∧∀_:X,n=n
 holds:=⟨rfl,rfl,rfl,rfl,fun _=>rfl⟩
 sound gl P cfg nid op ai H h x hx:=by
  cases op<;>try exact h.elim
  rename_i T a lo' hi' mx;cases mx with
  |some _=>exact h.elim
  |none=>
   obtain⟨h1,h2,h3,h4,h5⟩:=h;obtain⟨e,e1,e2⟩:=gA h4;have hb:∀(d m:Nat) (x':Option Operand) (x:Option Int),(x'.map fun x=>intOf (ai x))=x.map some→gB d m (x'.map ai)=Bx d m x:=by
    intro d m x' x hx;cases x'<;>cases x<;>simp at hx
    ·rfl
    ·grind [fM,gB,Bx]
   obtain⟨hh,q1,q2⟩:=Option.bind_eq_some_iff.1 hx;obtain⟨k,q3,rfl⟩:=Option.map_eq_some_iff.1 q2;have hall:(l.map enc).all (fun r=>cB P e==some r.length)=true:=by
    simp only[List.all_map,List.all_eq_true];intro y _;simp[h5,e2]
   have hop:kA P T (ai a) (lo'.map ai) (hi'.map ai)=some (.aD (((l.map enc).take hh).drop k)):=by
    unfold kA;rw[h1];simp only[e1,mw];rw[hb _ _ _ _ h3,List.length_map,q1];simp only[Option.bind_some];rw[hb _ _ _ _ h2,q3];rw[Option.bind_some,if_pos (by rw[hall,e2];rfl)]
   simp[bf,cc,bN,hop,yields,Rd.bind,Rd.run,Rd.reads,List.map_take,List.map_drop]
def w9(m n b ak o:Nat)(hi:Int):jo Nat where
 run:=if 0≤hi∧hi≤m then some hi.toNat else none
 aT x:={val:=.sl b ak n o x}
 ids:=[]
 kf gl P cfg nid op ai H:=match op with
  | .slice T a none (some h) none=>ai a=.sl b ak n o m∧intOf (ai h)=some hi∧lT P T=some n
  |_=>False
 fI:=AVal.sl b ak n o m=AVal.sl b ak n o m∧some hi=some hi∧some n=some n
 holds:=⟨rfl,rfl,rfl⟩
 sound gl P cfg nid op ai H h x hx:=by
  split at h
  ·rename_i T a c;obtain⟨h1,h2,h3⟩:=h;obtain⟨k,h2⟩:=fM h2;obtain⟨e,e1,e2⟩:=gA h3;split at hx
   ·rename_i h0;simp only[Option.some.injEq]at hx;subst hx;have hop:kA P T (ai a) none (some (ai c))=some (.sl b ak n o hi.toNat):=by
     unfold kA;rw[h1,h2,e1];simp only[mw,gB,h0,and_self,if_true,Option.bind_some,e2]
    simp[bf,cc,bN,hop,yields,Rd.bind,Rd.run,Rd.reads]
   ·cases hx
  ·exact h.elim
def G3(m n b ak o:Nat)(lo:Int):jo Nat where
 run:=if 0<lo∧lo<m then some lo.toNat else none
 aT x:={val:=.sl b ak n (o+x) (m - x)}
 ids:=[]
 kf gl P cfg nid op ai H:=match op with
  | .slice T a (some l) none none=>ai a=.sl b ak n o m∧intOf (ai l)=some lo∧lT P T=some n
  |_=>False
 fI:=AVal.sl b ak n o m=AVal.sl b ak n o m∧some lo=some lo∧some n=some n
 holds:=⟨rfl,rfl,rfl⟩
 sound gl P cfg nid op ai H h x hx:=by
  split at h
  ·rename_i T a c;obtain⟨h1,h2,h3⟩:=h;obtain⟨k,h2⟩:=fM h2;obtain⟨e,e1,e2⟩:=gA h3;split at hx
   ·rename_i h0;simp only[Option.some.injEq]at hx;subst hx;have hop:kA P T (ai a) (some (ai c)) none=some (.sl b ak n (o+lo.toNat) (m - lo.toNat)):=by
     unfold kA;rw[h1,h2,e1];have hb:0≤lo∧lo≤(m:Int):=⟨by omega,by omega⟩
     have hz:lo.toNat≠0:=by omega
     have hl:lo.toNat<m:=by omega
     simp only[mw,gB,hb,and_self,if_true,Option.bind_some,e2,if_neg hz,if_pos hl]
    simp[bf,cc,bN,hop,yields,Rd.bind,Rd.run,Rd.reads]
   ·cases hx
  ·exact h.elim
def JX(i:Int):Bool:=decide (i=0)
def JY(i:Int)(m:Nat):Bool:=decide (i<m)
def G4(m n b ak o:Nat)(lo:Int):jo Unit where
 run:=if lo=0 then some ()else none
 aT _:={val:=.sl b ak n o m}
 ids:=[]
 kf gl P cfg nid op ai H:=match op with
  | .slice T a (some l) none none=>ai a=.sl b ak n o m∧intOf (ai l)=some lo∧lT P T=some n
  |_=>False
 fI:=AVal.sl b ak n o m=AVal.sl b ak n o m∧some lo=some lo∧some n=some n
 holds:=⟨rfl,rfl,rfl⟩
 sound gl P cfg nid op ai H h x hx:=by
  split at h
  ·rename_i T a c;obtain⟨h1,h2,h3⟩:=h;obtain⟨k,h2⟩:=fM h2;obtain⟨e,e1,e2⟩:=gA h3;split at hx
   ·rename_i h0;subst h0;have hop:kA P T (ai a) (some (ai c)) none=some (.sl b ak n o m):=by
     unfold kA;rw[h1,h2,e1];have hb:(0:Int)≤0∧(0:Int)≤(m:Int):=⟨by omega,by omega⟩
     simp only[mw,gB,hb,and_self,if_true,Option.bind_some,e2,Int.toNat_zero]
    simp[bf,cc,bN,hop,yields,Rd.bind,Rd.run,Rd.reads]
   ·cases hx
  ·exact h.elim
def G5(m n b ak o:Nat)(lo:Int):jo Unit where
 run:=if lo=m∧0<m then some ()else none
 aT _:={val:=.aD []}
 ids:=[]
 kf gl P cfg nid op ai H:=match op with
  | .slice T a (some l) none none=>ai a=.sl b ak n o m∧intOf (ai l)=some lo∧lT P T=some n
  |_=>False
 fI:=AVal.sl b ak n o m=AVal.sl b ak n o m∧some lo=some lo∧some n=some n
 holds:=⟨rfl,rfl,rfl⟩
 sound gl P cfg nid op ai H h x hx:=by
  split at h
  ·rename_i T a c;obtain⟨h1,h2,h3⟩:=h;obtain⟨k,h2⟩:=fM h2;obtain⟨e,e1,e2⟩:=gA h3;split at hx
   ·rename_i h0;obtain⟨rfl,h0⟩:=h0;have hop:kA P T (ai a) (some (ai c)) none=some (.aD []):=by
     unfold kA;rw[h1,h2,e1];have hb:(0:Int)≤(m:Int)∧(m:Int)≤(m:Int):=⟨by omega,by omega⟩
     have hz:((m:Int)).toNat≠0:=by omega
     have hl:¬((m:Int)).toNat<m:=by omega
     simp only[mw,gB,hb,and_self,if_true,Option.bind_some,e2,if_neg hz,if_neg hl]
    simp[bf,cc,bN,hop,yields,Rd.bind,Rd.run,Rd.reads]
   ·cases hx
  ·exact h.elim
def Jo(m n b ak o:Nat)(i:Int):jo Unit where
 run:=if 0≤i∧i<m then some ()else none
 aT _:={val:=.ptr b ak (o+i.toNat) 0}
 ids:=[]
 kf gl P cfg nid op ai H:=match op with
  | .indexAddr T a c=>ai a=.sl b ak n o m∧intOf (ai c)=some i∧lT P T=some n
  |_=>False
 fI:=AVal.sl b ak n o m=AVal.sl b ak n o m∧some i=some i∧some n=some n
 holds:=⟨rfl,rfl,rfl⟩
 sound gl P cfg nid op ai H h x hx:=by
  cases op<;>try exact h.elim
  rename_i T a c;obtain⟨h1,h2,h3⟩:=h;obtain⟨k,h2⟩:=fM h2;obtain⟨e,e1,e2⟩:=gA h3;split at hx
  ·rename_i h0;simp[bf,cc,bN,h2,h1,jA,e1,e2,h0.1,h0.2,yields,Rd.bind,Rd.run,Rd.reads]
  ·cases hx
def Cl{X:Type}(l:List X)(d:X)(enc:X→List AVal)(m n b ak o:Nat):jo Unit where
 run:=if o+m≤l.length then some ()else none
 aT _:={val:=nothing,cZ:=[(b,.row ak n ((l.take o++List.replicate m d++l.drop (o+m)).map enc))]}
 ids:=[b]
 kf gl P cfg nid op ai H:=match op with
  | .call {callee:=.builtin .clear,args,argTypes}=>match argTypes[0]?,args[0]? with
   |some T,some s=>ai s=.sl b ak n o m∧H[b]? =some (.row ak n (l.map enc))∧decide (args.size=1)=true∧(match P.underlying T with |some (.slice e)=>ga P e |_=>none)=some (enc d)∧(enc d).length=n
   |_,_=>False
  |_=>False
 fI:=AVal.sl b ak n o m=AVal.sl b ak n o m∧some (af.row ak n (l.map enc))=some (af.row ak n (l.map enc))∧ @Eq Bool true true∧some (enc d)=some (enc d)∧n=n
 holds:=⟨rfl,rfl,rfl,rfl,rfl⟩
 sound gl P cfg nid op ai H h x hx:=by
  split at h
  ·split at h
   ·rename_i args argTypes _ _ T s hT hs;obtain⟨h1,h2,h3,h4,h5⟩:=h;simp only[decide_eq_true_eq]at h3;split at h4
    ·rename_i e he;split at hx
     ·rename_i hle;have hop:bf P cfg nid ai (.call {callee:=.builtin .clear,args:=args,argTypes:=argTypes})=(xP P T (ai s)).bind fun e=>.done (.aT e):=by
       simp only[bf,cc,bN,hT,hs,h3,if_true,if_false,Bool.false_eq_true]
      rw[hop,h1];unfold xP;rw[he];simp only[h4,rowOf,Rd.bind,Rd.run,Rd.reads,h2,if_true,List.length_map];rw[if_pos ⟨trivial,hle,h5⟩];simp[Rd.bind,Rd.run,Rd.reads,List.map_take,List.map_drop]
     ·cases hx
    ·cases h4
   ·exact h.elim
  ·exact h.elim
def L8(op:BinOp)(k k':IntKind)(a b:Int)(ok:Bool)(v:AVal)(h:ok=true→∀(P:Program) (T:TypeId),B8 P op T (.sc (.int k a)) (.sc (.int k' b))=some v):jo Unit where
 run:=if ok then some ()else none
 aT _:={val:=v}
 ids:=[]
 kf gl P cfg nid o ai H:=match o with
  | .binOp op' T x y _=>op'=op∧ai x=.sc (.int k a)∧ai y=.sc (.int k' b)∧(match y with | .const (.int _ _)=>true | .tmp _=>true |_=>false)=true
  |_=>False
 fI:=op=op∧AVal.sc (.int k a)=AVal.sc (.int k a)∧AVal.sc (.int k' b)=AVal.sc (.int k' b)∧ @Eq Bool true true
 holds:=⟨rfl,rfl,rfl,rfl⟩
 sound gl P cfg nid o ai H h' x hx:=by
  cases o<;>try exact h'.elim
  rename_i op' T x y yT;obtain⟨rfl,h1,h2,h3⟩:=h';cases ok with
  |false=>cases hx
  |true=>
   have hb:=h rfl P T;rw[← h1,← h2]at hb;split at h3
   ·simp[bf,cc,bN,qw,hb,yields,Rd.bind,Rd.run,Rd.reads]
   ·simp[bf,cc,bN,qw,hb,yields,Rd.bind,Rd.run,Rd.reads]
   ·cases h3
def G6(k k':IntKind)(a b:Int):jo Unit:=L8 .shl k k' a b (decide (0≤b)) (.sc (.int k (k.wrap (a*2 ^ (min b.toNat k.bits))))) fun h P T=>by
 grind [B8]
def Gi(P:Program)(T:TypeId):Option (Nat×Nat):=match P.underlying T with
 |some (.array n e)=>(cB P e).map fun s=>(n,s)
 |_=>none
def Jp(b ak j o n s:Nat)(i:Int):jo Unit where
 run:=if 0≤i∧i<n then some ()else none
 aT _:={val:=.ptr b ak j (o+i.toNat*s)}
 ids:=[]
 kf gl P cfg nid op ai H:=match op with
  | .indexAddr T a c=>ai a=.ptr b ak j o∧intOf (ai c)=some i∧Gi P T=some (n,s)
  |_=>False
 fI:=AVal.ptr b ak j o=AVal.ptr b ak j o∧some i=some i∧some (n,s)=some (n,s)
 holds:=⟨rfl,rfl,rfl⟩
 sound gl P cfg nid op ai H h x hx:=by
  cases op<;>try exact h.elim
  rename_i T a c;obtain⟨h1,h2,h3⟩:=h;obtain⟨k,h2⟩:=fM h2;unfold Gi at h3;split at h3
  ·rename_i n' e hu;obtain⟨s',hs,he⟩:=Option.map_eq_some_iff.1 h3;simp only[Prod.mk.injEq]at he;obtain⟨rfl,rfl⟩:=he;split at hx
   ·rename_i h0;have hop:jA P T (ai a) i=some (.ptr b ak j (o+i.toNat*s')):=by
     rw[h1];unfold jA;rw[hu];simp only[if_pos h0,hs,Option.bind_some,tK]
    simp[bf,cc,bN,h2,hop,yields,Rd.bind,Rd.run,Rd.reads]
   ·cases hx
  ·cases h3
def LW{X:Type}(l:List X)(c:X→AVal)(b ak sz o:Nat):jo X where
 run:=l[o]?
 aT x:={val:=c x}
 ids:=[b]
 kf gl P cfg nid op ai H:=match op with
  | .load T a=>ai a=.ptr b ak 0 o∧H[b]? =some (.row ak sz [l.map c])∧eE P T=false∧(P.underlying T).isSome=true
  |_=>False
 fI:=AVal.ptr b ak 0 o=AVal.ptr b ak 0 o∧some (af.row ak sz [l.map c])=some (af.row ak sz [l.map c])∧ @Eq Bool false false∧ @Eq Bool true true
 holds:=⟨rfl,rfl,rfl,rfl⟩
 sound gl P cfg nid op ai H h x hx:=by
  cases op<;>try exact h.elim
  rename_i T a;obtain⟨h1,h2,h3,h4⟩:=h;simp[bf,cc,bN,h1,wK,rowOf,h2,jy,h3,h4,hx,yields,Rd.bind,Rd.run,Rd.reads]
def Mt{X:Type}(l:List X)(c:X→AVal)(b ak sz o:Nat)(y:X):jo Unit where
 run:=if o<l.length then some ()else none
 aT _:={val:=nothing,cZ:=[(b,.row ak sz [(l.set o y).map c])]}
 ids:=[b]
 kf gl P cfg nid op ai H:=match op with
  | .store T a v=>ai a=.ptr b ak 0 o∧H[b]? =some (.row ak sz [l.map c])∧qv P T (ai v)=some [c y]
  |_=>False
 fI:=AVal.ptr b ak 0 o=AVal.ptr b ak 0 o∧some (af.row ak sz [l.map c])=some (af.row ak sz [l.map c])∧some [c y]=some [c y]
 holds:=⟨rfl,rfl,rfl⟩
 sound gl P cfg nid op ai H h x hx:=by
  cases op<;>try exact h.elim
  rename_i T a v;obtain⟨h1,h2,h3⟩:=h;split at hx
  ·rename_i h0;have hle:o+1≤l.length:=h0;simp[bf,cc,bN,h1,xO,rowOf,h2,h3,y6,hle,putAt,Rd.bind,Rd.run,Rd.reads,List.map_set]
  ·cases hx
section
variable {K V:Type}
def ay(ek:K→AVal)(ev:V→AVal):Nat→List (K×V)→List (AVal×AVal×Nat)
 |_,[]=>[]
 |n,p::ps=>(ek p.1,ev p.2,n)::ay ek ev (n+1) ps
def aW(eq:K→K→Bool)(k:K):List (K×V)→Nat→Option (Nat×V)
 | [],_=>none
 |p::ps,i=>if eq k p.1 then some (i,p.2)else aW eq k ps (i+1)
def bS(eq:K→K→Bool)(k:K)(v:V)(m:List (K×V)):List (K×V):=match aW eq k m 0 with
 |some (i,_)=>m.set i (k,v)
 |none=>m++[(k,v)]
theorem pQ{ks:List Kd}{ag:Bool}{ek:K→AVal}{ev:V→AVal}{eq:K→K→Bool}(hag:∀k,jB (ek k)=ag)(heq:∀k k',cz ks (ek k).cells (ek k').cells=some (eq k k'))(k:K):
 ∀(m:List (K×V)) (n i:Nat),oq ks ag (ek k) (ay ek ev n m) i=some ((aW eq k m i).map fun p=>(p.1,ev p.2,n+(p.1 - i)))
 | [],n,i=>rfl
 |p::ps,n,i=>by
  simp only[ay,oq,hag,if_true,heq,aW];cases h:eq k p.1 with
  |true=>simp
  |false=>
   simp only[Bool.false_eq_true,if_false];rw[pQ hag heq k ps (n+1) (i+1)];congr 1;have hge:∀(m:List (K×V)) (i:Nat) (q:Nat×V),aW eq k m i=some q→i≤q.1:=by
    intro m;induction m with
    |nil=>intro i q h;simp[aW]at h
    |cons p ps ih=>
     grind [aW]
   cases hf:aW eq k ps (i+1)with
   |none=>rfl
   |some q=>
    grind
theorem rJ(ek:K→AVal)(ev:V→AVal):∀(m:List (K×V)) (n:Nat),(ay ek ev n m).length=m.length
 | [],_=>rfl
 |_::ps,n=>by simp[ay,rJ ek ev ps]
theorem Ab(ek:K→AVal)(ev:V→AVal):∀(m m':List (K×V)) (n:Nat),ay ek ev n (m++m')=ay ek ev n m++ay ek ev (n+m.length) m'
 | [],m',n=>by simp[ay]
 |p::ps,m',n=>by simp[ay,Ab ek ev ps,Nat.add_assoc,Nat.add_comm 1]
theorem EJ(ek:K→AVal)(ev:V→AVal):∀(m:List (K×V)) (n i:Nat) (p:K×V),ay ek ev n (m.set i p)=(ay ek ev n m).set i (ek p.1,ev p.2,n+i)
 | [],n,i,p=>rfl
 |q::ps,n,0,p=>by simp[ay]
 |q::ps,n,i+1,p=>by simp[ay,EJ ek ev ps,Nat.add_assoc,Nat.add_comm 1]
def vc(P:Program)(T:TypeId):Option (Option (List Kd)×Bool×Option AVal):=match P.underlying T with
 |some (.map K E)=>some (cS P 9 K,eE P K,wL P E)
 |_=>none
def pR(m:List (K×V))(k:K)(ek:K→AVal)(ev:V→AVal)(eq:K→K→Bool)(d:V)(ks:List Kd)(ag ok:Bool)(b:Nat):jo Unit where
 run:=some ()
 aT _:={val:=match ok with
  |true=>.bV [ev (((aW eq k m 0).map (·.2)).getD d),.sc (.bool (aW eq k m 0).isSome)]
  |false=>ev (((aW eq k m 0).map (·.2)).getD d)}
 ids:=[b]
 kf gl P cfg nid op ai H:=match op with
  | .lookup T x i ok'=>ok'=ok∧ai x=.mp b∧ai i=ek k∧H[b]? =some (.map m.length (ay ek ev 0 m))∧vc P T=some (some ks,ag,some (ev d))∧(∀k,jB (ek k)=ag)∧∀k k',cz ks (ek k).cells (ek k').cells=some (eq k k')
  |_=>False
 fI:=ok=ok∧AVal.mp b=AVal.mp b∧ek k=ek k∧some (af.map m.length (ay ek ev 0 m))=some (af.map m.length (ay ek ev 0 m))∧some (some ks,ag,some (ev d))=some (some ks,ag,some (ev d))∧(∀_:K,ag=ag)∧∀k k',some (eq k k')=some (eq k k')
 holds:=⟨rfl,rfl,rfl,rfl,rfl,fun _=>rfl,fun _ _=>rfl⟩
 sound gl P cfg nid op ai H h x hx:=by
  cases op<;>try exact h.elim
  rename_i T a i ok';obtain⟨rfl,h1,h2,h3,h4,h5,h6⟩:=h;unfold vc at h4;split at h4
  ·rename_i TK TE hu;simp only[Option.some.injEq,Prod.mk.injEq]at h4;obtain⟨t1,t2,t3⟩:=h4;have hk:iw P TK (ek k)=some ks:=by simp[iw,t1,h5,t2]
   have hf:=pQ (ev:=ev) (eq:=eq) h5 h6 k m 0 0;simp only[bf,cc,bN,tM,hu,h2,hk,h1,mapOf,Rd.bind,Rd.run,Rd.reads,h3,h6,t2,hf,t3,if_false,Bool.false_eq_true];cases hfm:aW eq k m 0 with
   |none=>grind
   |some q=>grind
  ·cases h4
def oz(m:List (K×V))(k:K)(v:V)(ek:K→AVal)(ev:V→AVal)(eq:K→K→Bool)(ks:List Kd)(ag:Bool)(b:Nat):jo Unit where
 run:=some ()
 aT _:={val:=nothing,cZ:=[(b,.map (bS eq k v m).length (ay ek ev 0 (bS eq k v m)))]}
 ids:=[b]
 kf gl P cfg nid op ai H:=match op with
  | .mapUpdate T x i y=>ai x=.mp b∧ai i=ek k∧ai y=ev v∧H[b]? =some (.map m.length (ay ek ev 0 m))∧(vc P T).map (fun t=>(t.1,t.2.1))=some (some ks,ag)∧(∀k,jB (ek k)=ag)∧∀k k',cz ks (ek k).cells (ek k').cells=some (eq k k')
  |_=>False
 fI:=AVal.mp b=AVal.mp b∧ek k=ek k∧ev v=ev v∧some (af.map m.length (ay ek ev 0 m))=some (af.map m.length (ay ek ev 0 m))∧some (some ks,ag)=some (some ks,ag)∧(∀_:K,ag=ag)∧∀k k',some (eq k k')=some (eq k k')
 holds:=⟨rfl,rfl,rfl,rfl,rfl,fun _=>rfl,fun _ _=>rfl⟩
 sound gl P cfg nid op ai H h x hx:=by
  cases op<;>try exact h.elim
  rename_i T a i y;obtain⟨h1,h2,hy,h3,h4,h5,h6⟩:=h;obtain⟨t,h4,ht⟩:=Option.map_eq_some_iff.1 h4;unfold vc at h4;split at h4
  ·rename_i TK TE hu;simp only[Option.some.injEq]at h4;subst h4;simp only[Prod.mk.injEq]at ht;obtain⟨t1,t2⟩:=ht;have hk:iw P TK (ek k)=some ks:=by simp[iw,t1,h5,t2]
   have hf:=pQ (ev:=ev) (eq:=eq) h5 h6 k m 0 0;simp only[bf,cc,bN,oZ,hu,h2,hk,h1,mapOf,Rd.bind,Rd.run,Rd.reads,h3,h6,t2,hf,hy,if_false,Bool.false_eq_true];cases hfm:aW eq k m 0 with
   |none=>simp[Rd.bind,Rd.run,Rd.reads,bS,hfm,Ab,ay]
   |some q=>simp[Rd.bind,Rd.run,Rd.reads,bS,hfm,EJ,rJ]
  ·cases h4
end
end
def cI(k:IntKind)(n:Int):AVal:=.sc (.int k n)
def eI(k:IntKind)(n:Int):List AVal:=[.sc (.int k n)]
def eB(b:Bool):List AVal:=[.sc (.bool b)]
def eS(s:ByteArray):List AVal:=[.sc (.string s)]
def eL{α:Type}(enc:α→List AVal)(l:List α):List AVal:=[.aD (l.map enc)]
structure V2(α:Type) where
 (a0 a1:α)
def LX{α:Type}(c:α→AVal)(x:V2 α):List AVal:=[c x.a0,c x.a1]
structure V8(α:Type) where
 (a0 a1 a2 a3 a4 a5 a6 a7:α)
def qo{α:Type}(c:α→AVal)(x:V8 α):List AVal:=[c x.a0,c x.a1,c x.a2,c x.a3,c x.a4,c x.a5,c x.a6,c x.a7]
structure bE(α:Type) where
 (a0 a1 a2 a3 a4 a5 a6 a7 a8 a9:α)
def xb{α:Type}(c:α→AVal)(x:bE α):List AVal:=[c x.a0,c x.a1,c x.a2,c x.a3,c x.a4,c x.a5,c x.a6,c x.a7,c x.a8,c x.a9]
theorem Cm{X:Type}(l:List X)(enc:X→List AVal)(h:∀x,AVal.aO (enc x)=true):(l.map enc).all AVal.aO=true:=by
 grind
def oA{X:Type}(b ak sz:Nat)(l:List X)(enc:X→List AVal)(h:∀x,AVal.aO (enc x)=true):PU:=⟨b,.row ak sz (l.map enc),Cm l enc h⟩
theorem Cn{K V:Type}(ek:K→AVal)(ev:V→AVal)(h:∀k,(ek k).pure=true)(h':∀v,(ev v).pure=true):∀(m:List (K×V)) (n:Nat),(ay ek ev n m).all (fun p=>p.1.pure&&p.2.1.pure)=true
 | [],_=>rfl
 |p::ps,n=>by simp[ay,h,h',Cn ek ev h h' ps (n+1)]
def jI{K V:Type}(b:Nat)(m:List (K×V))(ek:K→AVal)(ev:V→AVal)(h:∀k,(ek k).pure=true)(h':∀v,(ev v).pure=true):PU:=⟨b,.map m.length (ay ek ev 0 m),Cn ek ev h h' m 0⟩
def tD{X:Type}(p:Pl)(b ak sz n:Nat)(l:List X)(enc:X→List AVal)(h:∀x,AVal.aO (enc x)=true):FZ:=⟨p,b,ak,sz,n,l.map enc,Cm l enc h⟩
def tE{X:Type}(b ak sz:Nat)(l:List X)(c:X→AVal)(h:∀x,(c x).pure=true):PU:=⟨b,.row ak sz [l.map c],by
 have:∀l:List X,AVal.aO (l.map c)=true:=by
  intro l;induction l with
  |nil=>rfl
  |cons x xs ih=>grind [AVal.aO]
 simp[l5,this]⟩
def xd{X:Type}(b ak sz:Nat)(l:List X)(enc:X→List AVal)(h:∀x,AVal.aO (enc x)=true):PR:=PR.ofRow b ak sz (l.map enc) (Cm l enc h)
def k9{K V:Type}(b:Nat)(m:List (K×V))(ek:K→AVal)(ev:V→AVal)(h:∀k,(ek k).pure=true)(h':∀v,(ev v).pure=true):PR:=⟨b,.map m.length (ay ek ev 0 m),Cn ek ev h h' m 0⟩
end Go.AM
end
