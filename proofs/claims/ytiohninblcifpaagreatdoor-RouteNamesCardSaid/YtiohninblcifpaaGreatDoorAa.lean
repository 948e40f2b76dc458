/- Parts put together. No conditions. -/
import Derived.Calls
import Derived.Laws.AppendOwn
import Derived.Below
import Derived.Laws.CopyRow
import Derived.Laws.StructEq
import Derived.ChangeKeysEq
import Derived.Laws.MakeOwn
import Derived.Laws.BytesString
set_option linter.unusedSectionVars false
section
namespace Go.AM
inductive AVal where
 |sc (v:Value)
 |agg (cs:List AVal)
 |bV (cs:List AVal)
 |ptr (b ak i o:Nat)
 |bp (cs:List AVal) (o:Nat)
 |sl (b ak sz o n:Nat)
 |aD (rows:List (List AVal))
 |fn (f:Fn) (first cap:List AVal)
 |ei (t:TypeId) (v:AVal)
 |mp (b:Nat)
 |gj (b:Nat)
 |sa (b ak i o s n:Nat)
 |eU (i o:Nat)
 |emp
 |nz (isNil:Bool)
 |aq
instance :Inhabited AVal:=⟨.aq⟩
namespace AVal
def cells:AVal→List AVal
 | .agg cs=>cs
 |v=>[v]
def storable:AVal→Bool
 | .sc v=>v.oneCell'
 | .agg _=>false
 | .bV _=>false
 | .aq=>false
 |_=>true
def qu:AVal→Option (List AVal)
 | .agg cs=>some cs
 |v=>if v.storable then some [v]else none
def ofValue:Value→AVal
 | .agg cs=>if cs.toList.all (·.oneCell')then .agg (cs.toList.map .sc)else .aq
 | .tuple cs=>.bV (cs.toList.map .sc)
 |v=>.sc v
mutual
def pure:AVal→Bool
 | .sc _=>true
 | .agg cs=>aO cs
 | .bV cs=>aO cs
 | .ptr .. =>false
 | .bp .. =>true
 | .sl .. =>false
 | .aD _=>true
 | .fn _ a b=>aO a&&aO b
 | .ei _ v=>pure v
 | .mp _=>false
 | .gj _=>false
 | .sa .. =>false
 | .eU _ _=>true
 | .emp=>true
 | .nz _=>true
 | .aq=>true
def aO:List AVal→Bool
 | []=>true
 |a::as=>pure a&&aO as
end
mutual
def eR(n:Nat):AVal→Bool
 | .sc _=>true
 | .agg cs=>ku n cs
 | .bV cs=>ku n cs
 | .ptr b .. =>decide (b<n)
 | .bp .. =>true
 | .sl b .. =>decide (b<n)
 | .aD _=>true
 | .fn _ a b=>ku n a&&ku n b
 | .ei _ v=>eR n v
 | .mp b=>decide (b<n)
 | .gj b=>decide (b<n)
 | .sa b .. =>decide (b<n)
 | .eU _ _=>true
 | .emp=>true
 | .nz _=>true
 | .aq=>true
def ku(n:Nat):List AVal→Bool
 | []=>true
 |a::as=>eR n a&&ku n as
end
end AVal
structure Gh where
 ai:Nat→Nat→Option (Nat×Nat)
 st:Nat→Nat→Prop
mutual
def R(g:Gh)(w:World):AVal→Value→Prop
 | .sc v,x=>x=v
 | .agg cs,x=>∃vs:List Value,x=.agg vs.toArray∧(∀y∈vs,y.oneCell'=true)∧RL g w cs vs
 | .bV cs,x=>∃vs:List Value,x=.tuple vs.toArray∧RL g w cs vs
 | .ptr b ak i o,x=>∃k sz,g.ai b ak=some (k,sz)∧x=.pointer (some ⟨k,i*sz+o,none⟩)
 | .bp cs o,x=>∃k off,x=.pointer (some ⟨k,off+o,none⟩)∧AVal.aO cs=true∧RC g w cs k off
 | .sl b ak sz o n,x=>(n=0∧x=.slice none 0 0)∨∃k cap e s,g.ai b ak=some (k,sz)∧x=.slice (some ⟨k,o*sz,none⟩) n cap∧w.shape? k=some (e,s)∧(o+cap)*sz=s∧n≤cap∧cap≤9223372036854775807
 | .aD rows,x=>∃a cap,x=.slice a rows.length cap∧rows.length≤cap∧(rows.length=0∨∃k off sz,a=some ⟨k,off,none⟩∧RR g w rows k off sz)
 | .fn f a b,x=>∃va vb:List Value,x=.func f va.toArray vb.toArray∧RL g w a va∧RL g w b vb
 | .ei t v,x=>∃y,x=.iface t y∧R g w v y
 | .mp b,x=>∃k sz,g.ai b 0=some (k,sz)∧x=.map (some k)
 | .gj b,x=>∃k sz,g.ai b 0=some (k,sz)∧x=.func (.yield k) #[] #[]
 | .sa b ak i o _ n,x=>∃k sz cap,g.ai b ak=some (k,sz)∧x=.slice (some ⟨k,i*sz+o,none⟩) n cap∧n≤cap
 | .eU i o,x=>x=.pointer (some ⟨i,o,none⟩)
 | .emp,x=>∃a,x=.slice a 0 0
 | .nz b,x=>∃a cap,x=.slice a 0 cap∧a.isNone=b
 | .aq,_=>True
def RL(g:Gh)(w:World):List AVal→List Value→Prop
 | [],vs=>vs=[]
 |a::as,vs=>∃x xs,vs=x::xs∧R g w a x∧RL g w as xs
def RC(g:Gh)(w:World):List AVal→Nat→Nat→Prop
 | [],_,_=>True
 |a::as,k,o=>(g.st k o∧∃y,w.cell? ⟨k,o,none⟩=some y∧y.oneCell'=true∧R g w a y)∧RC g w as k (o+1)
def RR(g:Gh)(w:World):List (List AVal)→Nat→Nat→Nat→Prop
 | [],_,_,_=>True
 |r::rs,k,o,sz=>(r.length=sz∧AVal.aO r=true∧RC g w r k o)∧RR g w rs k (o+sz) sz
end
structure Ext(g:Gh)(w:World)(g':Gh)(w':World):Prop where
 ai:∀b ak x,g.ai b ak=some x→g'.ai b ak=some x
 st:∀k o,g.st k o→g'.st k o
 cell:∀k o,g.st k o→w'.cell? ⟨k,o,none⟩=w.cell? ⟨k,o,none⟩
 shape:∀k x,w.shape? k=some x→w'.shape? k=some x
theorem Ext.refl(g:Gh)(w:World):Ext g w g w:=⟨fun _ _ _ h=>h,fun _ _ h=>h,fun _ _ _=>rfl,fun _ _ h=>h⟩
theorem Ext.trans{g g1 g2:Gh}{w w1 w2:World}(h:Ext g w g1 w1)(h':Ext g1 w1 g2 w2):Ext g w g2 w2:=
 ⟨fun b v x e=>h'.ai b v x (h.ai b v x e),fun k o e=>h'.st k o (h.st k o e),fun k o e=>(h'.cell k o (h.st k o e)).trans (h.cell k o e),fun k x e=>h'.shape k x (h.shape k x e)⟩
section
variable {g g':Gh} {w w':World} (h:Ext g w g' w')
include h
mutual
theorem jx:∀(v:AVal) (x:Value),R g w v x→R g' w' v x
 | .sc _,x,hr=>by simpa[R]using hr
 | .agg cs,x,hr=>by
  simp only[R]at hr ⊢;obtain⟨vs,e,h1,hl⟩:=hr;exact⟨vs,e,h1,bq cs vs hl⟩
 | .bV cs,x,hr=>by
  simp only[R]at hr ⊢;obtain⟨vs,e,hl⟩:=hr;exact⟨vs,e,bq cs vs hl⟩
 | .ptr b ak i o,x,hr=>by
  simp only[R]at hr ⊢;obtain⟨k,sz,e,hx⟩:=hr;exact⟨k,sz,h.ai _ _ _ e,hx⟩
 | .bp cs o,x,hr=>by
  simp only[R]at hr ⊢;obtain⟨k,off,e,hp,hc⟩:=hr;exact⟨k,off,e,hp,y5 cs k off hc⟩
 | .sl b ak sz o n,x,hr=>by
  simp only[R]at hr ⊢;rcases hr with hr |⟨k,cap,e,s,h1,h2,h3,h4⟩
  ·exact .inl hr
  ·exact .inr ⟨k,cap,e,s,h.ai _ _ _ h1,h2,h.shape _ _ h3,h4⟩
 | .aD rows,x,hr=>by
  simp only[R]at hr ⊢;obtain⟨a,cap,e,hle,hr⟩:=hr;refine⟨a,cap,e,hle,?_⟩;rcases hr with h0 |⟨k,off,sz,ha,hc⟩
  ·exact .inl h0
  ·exact .inr ⟨k,off,sz,ha,FX rows k off sz hc⟩
 | .fn f a b,x,hr=>by
  simp only[R]at hr ⊢;obtain⟨va,vb,e,h1,h2⟩:=hr;exact⟨va,vb,e,bq a va h1,bq b vb h2⟩
 | .ei t v,x,hr=>by
  simp only[R]at hr ⊢;obtain⟨y,e,h1⟩:=hr;exact⟨y,e,jx v y h1⟩
 | .mp b,x,hr=>by
  simp only[R]at hr ⊢;obtain⟨k,sz,e,hx⟩:=hr;exact⟨k,sz,h.ai _ _ _ e,hx⟩
 | .gj b,x,hr=>by
  simp only[R]at hr ⊢;obtain⟨k,sz,e,hx⟩:=hr;exact⟨k,sz,h.ai _ _ _ e,hx⟩
 | .sa b ak i o s n,x,hr=>by
  simp only[R]at hr ⊢;obtain⟨k,sz,cap,e,hx⟩:=hr;exact⟨k,sz,cap,h.ai _ _ _ e,hx⟩
 | .eU i o,x,hr=>by simpa[R]using hr
 | .emp,x,hr=>by simpa[R]using hr
 | .nz _,x,hr=>by simpa[R]using hr
 | .aq,x,_=>by simp[R]
theorem bq:∀(v:List AVal) (x:List Value),RL g w v x→RL g' w' v x
 | [],x,hr=>by simpa[RL]using hr
 |a::as,x,hr=>by
  simp only[RL]at hr ⊢;obtain⟨y,ys,e,h1,h2⟩:=hr;exact⟨y,ys,e,jx a y h1,bq as ys h2⟩
theorem y5:∀(v:List AVal) (k o:Nat),RC g w v k o→RC g' w' v k o
 | [],_,_,_=>by simp[RC]
 |a::as,k,o,hr=>by
  simp only[RC]at hr ⊢;obtain⟨⟨hs,y,hy,ho,hr1⟩,h2⟩:=hr;exact⟨⟨h.st _ _ hs,y,(h.cell _ _ hs).trans hy,ho,jx a y hr1⟩,y5 as k (o+1) h2⟩
theorem FX:∀(v:List (List AVal)) (k o sz:Nat),RR g w v k o sz→RR g' w' v k o sz
 | [],_,_,_,_=>by simp[RR]
 |r::rs,k,o,sz,hr=>by
  simp only[RR]at hr ⊢;obtain⟨⟨hs,hp,hr1⟩,h2⟩:=hr;exact⟨⟨hs,hp,y5 r k o hr1⟩,FX rs k (o+sz) sz h2⟩
end
end
end Go.AM
end
section
namespace Go.AM
structure Lq where
 cells:Nat→Option (List AVal)
 lazy:Bool:=false
abbrev ax:=Inhabited Lq
inductive af where
 |aR
 |dead
 |row (ak sz:Nat) (rows:List (List AVal))
 |map (clock:Nat) (es:List (AVal×AVal×Nat))
 |loop (st:LoopState) (pend:Option Code) (fid:FuncId) (A:List AVal) (ps:List Tmp) (assign body:Code)
 |defs
 |iter (m:AVal) (since:Nat) (seen:List Nat) (stepped:Nat)
def af.live:af→Option Nat
 | .row ak _ _=>some ak
 | .map _ _=>some 0
 | .loop .. =>some 0
 | .defs=>some 0
 | .iter .. =>some 0
 |_=>none
inductive Rd (α:Type) where
 |fail
 |done (a:α)
 |get (b:Nat) (k:af→Rd α)
namespace Rd
variable {α β:Type}
def run(H:List af):Rd α→Option α
 | .fail=>none
 | .done a=>some a
 | .get b k=>match H[b]? with
  |some x=>(k x).run H
  |none=>none
def reads(H:List af):Rd α→List Nat
 | .fail=>[]
 | .done _=>[]
 | .get b k=>b::match H[b]? with
  |some x=>(k x).reads H
  |none=>[]
def bind:Rd α→(α→Rd β)→Rd β
 | .fail,_=>.fail
 | .done a,f=>f a
 | .get b k,f=>.get b fun x=>(k x).bind f
end Rd
structure cF where
 val:AVal
 cZ:List (Nat×af):=[]
 news:List af:=[]
def nothing:AVal:=.sc (.tuple #[])
section
variable (P:Program)
def cB(T:TypeId):Option Nat:=(P.info? T).map (·.size)
def eE(T:TypeId):Bool:=match P.underlying T with
 |some (.struct _) |some (.array _ _)=>true
 |_=>false
def qv(T:TypeId)(v:AVal):Option (List AVal):=
 match v.qu with
 |some cs=>if cB P T=some cs.length then some cs else none
 |none=>none
def jy(T:TypeId)(cs:List AVal)(o:Nat):Option AVal:=
 if eE P T then
  match cB P T with
  |some n=>if o+n≤cs.length then some (.agg ((cs.drop o).take n))else none
  |none=>none
 else if(P.underlying T).isSome then cs[o]? else none
def putAt(cs:List AVal)(o:Nat):List AVal→List AVal
 | []=>cs
 |v::vs=>putAt (cs.set o v) (o+1) vs
def y6(cs:List AVal)(o:Nat)(vs:List AVal):Option (List AVal):=
 if o+vs.length≤cs.length then some (putAt cs o vs)else none
def ga(T:TypeId):Option (List AVal):=
 match P.info? T with
 |some i=>match i.zero with
  |some z=>if z.cells.toList.all (·.oneCell')then some (z.cells.toList.map .sc)else none
  |none=>none
 |none=>none
def wJ(place:Nat→Option (Nat×Nat))(cells:List AVal):List (Nat×AVal)→Option (List AVal)
 | []=>some cells
 | (i,v)::rest=>
  match place i with
  |none=>none
  |some (off,size)=>
   match v.qu with
   |some cs=>if cs.length≠size||off+cs.length>cells.length then none else wJ place (putAt cells off cs) rest
   |none=>none
def tJ(T:TypeId)(f:Nat):Option Field:=
 match P.underlying T with
 |some (.struct fs)=>fs[f]?
 |_=>none
def chunks(sz:Nat):Nat→List AVal→List (List AVal)
 | 0,_=>[]
 |n+1,cs=>cs.take sz::chunks sz n (cs.drop sz)
def A4(op:BinOp)(k:IntKind)(a b:Int):Option AVal:=
 match op with
 | .add=>some (.sc (.int k (k.wrap (a+b))))
 | .sub=>some (.sc (.int k (k.wrap (a - b))))
 | .mul=>some (.sc (.int k (k.wrap (a*b))))
 | .quo=>if b=0 then none else some (.sc (.int k (k.wrap (a.tdiv b))))
 | .rem=>if b=0 then none else some (.sc (.int k (a.tmod b)))
 | .and=>some (.sc (.int k (k.wrap (BitVec.ofInt k.bits a&&& BitVec.ofInt k.bits b).toNat)))
 | .or=>some (.sc (.int k (k.wrap (BitVec.ofInt k.bits a|||BitVec.ofInt k.bits b).toNat)))
 | .xor=>some (.sc (.int k (k.wrap (BitVec.ofInt k.bits a ^^^ BitVec.ofInt k.bits b).toNat)))
 | .andNot=>some (.sc (.int k (k.wrap (BitVec.ofInt k.bits a&&& ~~~(BitVec.ofInt k.bits b)).toNat)))
 | .eql=>some (.sc (.bool (a==b)))
 | .neq=>some (.sc (.bool (a != b)))
 | .lss=>some (.sc (.bool (decide (a<b))))
 | .leq=>some (.sc (.bool (decide (a≤b))))
 | .gtr=>some (.sc (.bool (decide (a>b))))
 | .geq=>some (.sc (.bool (decide (a≥b))))
 |_=>none
def Gm(op:BinOp)(x y:ByteArray):Option AVal:=
 let eq:=x.toList==y.toList
 let lt:=Op.bytesLess x.toList y.toList
 match op with
 | .add=>if x.size+y.size≤4294967296 then some (.sc (.string (x++y)))else none
 | .eql=>some (.sc (.bool eq))
 | .neq=>some (.sc (.bool !eq))
 | .lss=>some (.sc (.bool lt))
 | .leq=>some (.sc (.bool (lt||eq)))
 | .gtr=>some (.sc (.bool !(lt||eq)))
 | .geq=>some (.sc (.bool !lt))
 |_=>none
inductive Kd where
 |bool
 |int (k:IntKind)
 |str
 deriving DecidableEq
def vS:Kd→AVal→AVal→Option Bool
 | .int q,.sc (.int k a),.sc (.int k' b)=>if q=k∧k=k' then some (a==b)else none
 | .bool,.sc (.bool a),.sc (.bool b)=>some (a==b)
 | .str,.sc (.string a),.sc (.string b)=>some (a.toList==b.toList)
 |_,_,_=>none
def cz:List Kd→List AVal→List AVal→Option Bool
 | [],[],[]=>some true
 |q::qs,a::as,b::bs=>
  match vS q a b,cz qs as bs with
  |some x,some y=>some (x&&y)
  |_,_=>none
 |_,_,_=>none
def cS(P:Program):Nat→TypeId→Option (List Kd)
 | 0,_=>none
 |d+1,t=>
  match P.underlying t with
  |some .bool=>if cB P t==some 1 then some [.bool]else none
  |some (.int k)=>if cB P t==some 1 then some [.int k]else none
  |some .string=>if cB P t==some 1 then some [.str]else none
  |some (.struct fs)=>if P.stoodInHeld t then none else
   match kindsFields P (cS P d) fs.toList 0 with
   |some ks=>if cB P t==some ks.length then some ks else none
   |none=>none
  |some (.array n e)=>match cS P d e with
   |some ks=>if cB P e==some ks.length&&cB P t==some (n*ks.length)then some (List.replicate n ks).flatten else none
   |none=>none
  |_=>none
where kindsFields (P:Program) (K:TypeId→Option (List Kd)):List Field→Nat→Option (List Kd)
 | [],_=>some []
 | f :: fs, off => if f.name ≠ "_" ∧ f.offset = off then
  match K f.type with
  |some ks=>if cB P f.type==some ks.length then(kindsFields P K fs (off+ks.length)).map (ks++ ·)else none
  |none=>none
  else none
def B8(op:BinOp)(T:TypeId):AVal→AVal→Option AVal
 | .sc (.int k a),.sc (.int k' b)=>
  match op with
  | .shl=>if b<0 then none else some (.sc (.int k (k.wrap (a*2 ^ (min b.toNat k.bits)))))
  | .shr=>if b<0 then none else some (.sc (.int k (a.fdiv (2 ^ (min b.toNat k.bits)))))
  |_=>if k=k' then A4 op k a b else none
 | .sc (.string x),.sc (.string y)=>Gm op x y
 | .sc (.bool x),.sc (.bool y)=>
  match P.underlying T,op with
  |some .bool,.eql=>some (.sc (.bool (x==y)))
  |some .bool,.neq=>some (.sc (.bool (!(x==y))))
  |_,_=>none
 | .agg xs,.agg ys=>
  if P.eqGuardType P.depth T|| !eE P T then none else
  match cS P 9 T with
  |some ks=>match op,cz ks xs ys with
   | .eql,some b=>some (.sc (.bool b))
   | .neq,some b=>some (.sc (.bool !b))
   |_,_=>none
  |none=>none
 |_,_=>none
def KL(op:UnOp):AVal→Option AVal
 | .sc (.bool b)=>match op with
  | .not=>some (.sc (.bool !b))
  |_=>none
 | .sc (.int k n)=>match op with
  | .neg=>some (.sc (.int k (k.wrap (0 - n))))
  | .xor=>A4 .xor k (if k.signed then -1 else k.max) n
  |_=>none
 |_=>none
def Gn(src dst:TypeId):AVal→Option AVal
 | .sc (.int _ n)=>match P.underlying src,P.underlying dst with
  |some _,some (.int k)=>some (.sc (.int k (k.wrap n)))
  |_,_=>none
 | .sc (.string s)=>match P.underlying src,P.underlying dst with
  |some _,some .string=>some (.sc (.string s))
  |_,_=>none
 |_=>none
def rowOf(b ak:Nat):Rd (Nat×List (List AVal)):=
 .get b fun
  | .row v sz rows=>if v=ak then .done (sz,rows)else .fail
  |_=>.fail
def yields(v:Option AVal):Rd cF:=match v with
 |some v=>.done {val:=v}
 |none=>.fail
def wK[gl:ax](T:TypeId):AVal→Rd cF
 | .eU i o=>yields ((gl.default.cells i).bind fun cs=>jy P T cs o)
 | .ptr b ak i o=>(rowOf b ak).bind fun(_,rows)=>yields ((rows[i]?).bind fun cs=>jy P T cs o)
 | .bp cs o=>yields (jy P T cs o)
 |_=>.fail
def xO(T:TypeId)(v:AVal):AVal→Rd cF
 | .ptr b ak i o=>(rowOf b ak).bind fun(sz,rows)=>
  match rows[i]?,qv P T v with
  |some cs,some vs=>match y6 cs o vs with
   |some cs'=>.done {val:=nothing,cZ:=[(b,.row ak sz (rows.set i cs'))]}
   |none=>.fail
  |_,_=>.fail
 | .bp _ _=>match qv P T v with
  |some []=>.done {val:=nothing}
  |_=>.fail
 |_=>.fail
def elems:AVal→Rd (List (List AVal))
 | .emp=>.done []
 | .nz _=>.done []
 | .sc (.slice none 0 0)=>.done []
 | .aD rows=>.done rows
 | .sl b ak sz o n=>(rowOf b ak).bind fun(sz',rows)=>if sz'=sz∧o+n≤rows.length then .done ((rows.drop o).take n)else .fail
 | .sa b ak i o s n=>(rowOf b ak).bind fun(_,rows)=>match rows[i]? with
  |some cs=>if o+n*s≤cs.length then .done (chunks s n ((cs.drop o).take (n*s)))else .fail
  |none=>.fail
 |_=>.fail
def mw:AVal→Option Nat
 | .emp=>some 0
 | .nz _=>some 0
 | .sc (.slice none 0 0)=>some 0
 | .sc (.string s)=>some s.size
 | .aD rows=>some rows.length
 | .sl _ _ _ _ n=>some n
 | .sa _ _ _ _ _ n=>some n
 |_=>none
def tK(n:Nat):AVal→Option AVal
 | .ptr b ak i o=>some (.ptr b ak i (o+n))
 | .bp cs o=>some (.bp cs (o+n))
 | .eU i o=>some (.eU i (o+n))
 |_=>none
def jA(T:TypeId)(x:AVal)(i:Int):Option AVal:=
 match P.underlying T,x with
 |some (.slice e),.aD rows=>if 0≤i then(rows[i.toNat]?).bind fun r=>if cB P e=some r.length then some (.bp r 0)else none else none
 |some (.slice e),.sl b ak sz o n=>if 0≤i∧i<n∧cB P e=some sz then some (.ptr b ak (o+i.toNat) 0)else none
 |some (.slice e),.sa b ak j o s n=>if 0≤i∧i<n∧cB P e=some s then some (.ptr b ak j (o+i.toNat*s))else none
 |some (.array n e),x=>if 0≤i∧i<n then(cB P e).bind fun s=>tK (i.toNat*s) x else none
 |_,_=>none
def A5(T:TypeId)(x:AVal)(i:Int):Option AVal:=
 match P.underlying T,x with
 |some (.array n e),.agg cs=>if 0≤i∧i<n then(cB P e).bind fun s=>jy P e cs (i.toNat*s)else none
 |some .string,.sc (.string s)=>if 0≤i then(s[i.toNat]?).map fun b=>.sc (.int .u8 b.toNat)else none
 |_,_=>none
def gB(d:Nat)(m:Nat):Option AVal→Option Nat
 |none=>some d
 |some (.sc (.int _ i))=>if 0≤i∧i≤m then some i.toNat else none
 |_=>none
def D5[gl:ax](n s l h:Nat):AVal→Option AVal
 | .ptr b ak i o=>if l<h then some (.sa b ak i (o+l*s) s (h - l))else some (.aD [])
 | .bp cs o=>if o+n*s≤cs.length then some (.aD (if l<h then chunks s (h - l) ((cs.drop (o+l*s)).take ((h - l)*s))else[]))else none
 | .eU i o=>(gl.default.cells i).bind fun cs=>if o+n*s≤cs.length then some (.aD (if l<h then chunks s (h - l) ((cs.drop (o+l*s)).take ((h - l)*s))else[]))else none
 |_=>none
def kA[ax](T:TypeId)(x:AVal)(lo hi:Option AVal):Option AVal:=
 match P.underlying T with
 |some (.array n e)=>(gB n n hi).bind fun h=>(gB 0 h lo).bind fun l=>(cB P e).bind fun s=>D5 n s l h x
 |_=>
 match mw x with
 |none=>none
 |some n=>
  (gB n n hi).bind fun h=>(gB 0 h lo).bind fun l=>
   match P.underlying T,x with
   |some (.slice e),.sc (.slice none 0 0)=>if(cB P e).isSome then some (.sc (.slice none 0 0))else none
   |some (.slice e),.aD rows=>if rows.all (fun r=>cB P e==some r.length)&&(cB P e).isSome then some (.aD ((rows.take h).drop l))else none
   |some (.slice e),.sl b ak sz o _=>if cB P e=some sz then(if l=0 then some (.sl b ak sz o h)else if l<h then some (.sl b ak sz (o+l) (h - l))else some (.aD []))else none
   |some (.slice e),.sa b ak i o s _=>if cB P e=some s then(if l<h then some (.sa b ak i (o+l*s) s (h - l))else some (.aD []))else none
   |some .string,.sc (.string s)=>some (.sc (.string (s.extract l h)))
   |_,_=>none
def roomy(n bytes:Nat):Bool:=decide (n*bytes≤35184372088832)&&decide (n≤4398046511104)
def jK(i:TypeInfo):Bool:=match i.zero with
 |some z=>z.cells.size==i.size
 |none=>false
def Gp{α:Type}(n:Nat)(l:List α):List α:=match Nat.beq l.length n with
 |true=>l
 |false=>l.take n
theorem FY{α:Type}(n:Nat)(l:List α)(_h:n≤l.length):Gp n l=l.take n:=by
 unfold Gp;split
 ·rename_i hb;have:=Nat.eq_of_beq_eq_true hb;rw[← this,List.take_length]
 ·rfl
def tL(nid:Nat)(ST XT:TypeId)(s x:AVal):Rd cF:=
 match P.underlying ST,P.underlying XT with
 |some (.slice e),some (.slice _)=>
  match P.info? e with
  |some i=>if i.size=0 then .fail else(elems x).bind fun new=>
   match s with
   | .sc (.slice none 0 0)=>
    if new.length=0 then .done {val:=s}
    else if roomy new.length i.bytes&&new.all (fun r=>r.length==i.size)&&jK i then .done {val:=.sl nid 0 i.size 0 new.length,cZ:=[(nid,.row 0 i.size new)]}else .fail
   | .aD _=>if new.length=0 then .done {val:=s}else .fail
   | .emp=>
    if new.length=0 then .done {val:=s}
    else if roomy new.length i.bytes&&new.all (fun r=>r.length==i.size)&&jK i then .done {val:=.sl nid 0 i.size 0 new.length,cZ:=[(nid,.row 0 i.size new)]}else .fail
   | .sl b ak _ o n=>(rowOf b ak).bind fun(sz,rows)=>
    if o=0∧n≤rows.length∧sz=i.size∧roomy (n+new.length) i.bytes=true∧new.all (fun r=>r.length==i.size)=true∧jK i=true then
     .done {val:=.sl b (ak+1) sz 0 (n+new.length),cZ:=[(b,.row (ak+1) sz (Gp n rows++new))]}
    else .fail
   |_=>.fail
  |none=>.fail
 |_,_=>.fail
def Gq(DT:TypeId)(d x:AVal):Rd cF:=
 match P.underlying DT with
 |some (.slice e)=>(elems x).bind fun new=>
  match d with
  | .sl b ak _ o n=>(rowOf b ak).bind fun(sz,rows)=>
   let m:=min new.length n
   if o+n≤rows.length∧cB P e=some sz∧new.all (fun r=>r.length==sz)=true then
    .done {val:=.sc (.int .i64 m),cZ:=[(b,.row ak sz (rows.take o++new.take m++rows.drop (o+m)))]}
   else .fail
  | .sa b ak i o s n=>(rowOf b ak).bind fun(sz,rows)=>
   let m:=min new.length n
   match rows[i]? with
   |some cs=>if o+n*s≤cs.length∧cB P e=some s∧new.all (fun r=>r.length==s)=true then
    .done {val:=.sc (.int .i64 m),cZ:=[(b,.row ak sz (rows.set i (putAt cs o (new.take m).flatten)))]}
    else .fail
   |none=>.fail
  |_=>.fail
 |_=>.fail
def kW(nid:Nat)(T:TypeId):AVal→AVal→Option cF
 | .sc (.int _ l),.sc (.int _ c)=>
  match P.underlying T with
  |some (.slice e)=>
   match P.info? e,ga P e with
   |some i,some z=>if 0≤l∧l≤c∧roomy c.toNat i.bytes=true∧z.length=i.size∧0<i.size then
    some {val:=.sl nid 0 i.size 0 l.toNat,cZ:=[(nid,.row 0 i.size (List.replicate l.toNat z))]}else none
   |_,_=>none
  |_=>none
 |_,_=>none
def D6(T:TypeId)(parts:List (Nat×AVal)):Option AVal:=
 match ga P T,P.underlying T with
 |some z,some (.struct fs)=>if fs.toList.all (fun f=>(cB P f.type).isSome)then(wJ (fun i=>(fs[i]?).map fun f=>(f.offset,(cB P f.type).getD 0)) z parts).map .agg else none
 |some z,some (.array _ e)=>match cB P e with
  |some s=>(wJ (fun i=>some (i*s,s)) z parts).map .agg
  |none=>none
 |_,_=>none
def vm(nid:Nat)(T:TypeId)(len:Nat)(parts:List (Nat×AVal)):Option cF:=
 match P.underlying T with
 |some (.slice e)=>
  match cB P e,ga P e with
  |some s,some z=>
   if 0<s∧z.length=s∧len*s≤16777216 then
    (wJ (fun i=>some (i*s,s)) ((List.replicate len z).flatten) parts).map fun cs=>{val:=.sl nid 0 s 0 len,cZ:=[(nid,.row 0 s (chunks s len cs))]}
   else none
  |_,_=>none
 |_=>none
def B9(nid:Nat)(cs:List AVal):Option cF:=if 0<cs.length then some {val:=.ptr nid 0 0 0,cZ:=[(nid,.row 0 cs.length [cs])]}else none
def jB:AVal→Bool
 | .agg _=>true
 |_=>false
def oq(ks:List Kd)(ag:Bool)(k:AVal):List (AVal×AVal×Nat)→Nat→Option (Option (Nat×AVal×Nat))
 | [],_=>some none
 | (k',v,born)::es,i=>if jB k'=ag then match cz ks k.cells k'.cells with
  |some true=>some (some (i,v,born))
  |some false=>oq ks ag k es (i+1)
  |none=>none
  else none
def mapOf:AVal→Rd (Option (Nat×Nat×List (AVal×AVal×Nat)))
 | .sc (.map none)=>.done none
 | .mp b=>.get b fun
  | .map clock es=>.done (some (b,clock,es))
  |_=>.fail
 |_=>.fail
def wL(T:TypeId):Option AVal:=
 match P.info? T with
 |some i=>i.zero.map AVal.ofValue
 |none=>none
def iw(K:TypeId)(k:AVal):Option (List Kd):=
 match cS P 9 K with
 |some ks=>if jB k=eE P K then some ks else none
 |none=>none
def tM(T:TypeId)(x k:AVal)(ok:Bool):Rd cF:=
 match P.underlying T with
 |some (.map K E)=>match iw P K k with
  |some ks=>(mapOf x).bind fun m=>
   match cz ks k.cells k.cells,oq ks (eE P K) k (match m with |some (_,_,es)=>es |none=>[]) 0,wL P E with
   |some _,some r,some z=>
    let v:=match r with |some (_,v,_)=>v |none=>z
    .done {val:=if ok then .bV [v,.sc (.bool r.isSome)]else v}
   |_,_,_=>.fail
  |none=>.fail
 |_=>.fail
def oZ(T:TypeId)(m k x:AVal):Rd cF:=
 match P.underlying T with
 |some (.map K _)=>match iw P K k with
  |some ks=>(mapOf m).bind fun
   |some (b,clock,es)=>match cz ks k.cells k.cells,oq ks (eE P K) k es 0 with
    |some _,some (some (i,_,born))=>.done {val:=nothing,cZ:=[(b,.map clock (es.set i (k,x,born)))]}
    |some _,some none=>.done {val:=nothing,cZ:=[(b,.map (clock+1) (es++[(k,x,clock)]))]}
    |_,_=>.fail
   |none=>.fail
  |none=>.fail
 |_=>.fail
def o5(x:Option cF):Rd cF:=match x with
 |some e=>.done e
 |none=>.fail
def D7(op:BinOp)(T:TypeId)(x:AVal):Option AVal:=
 match P.underlying T with
 |some (.interface _)=>match x,op with
  | .ei _ _,.eql=>some (.sc (.bool false))
  | .ei _ _,.neq=>some (.sc (.bool true))
  | .sc .nilIface,.eql=>some (.sc (.bool true))
  | .sc .nilIface,.neq=>some (.sc (.bool false))
  |_,_=>none
 |_=>none
def Gr:AVal→Option Bool
 | .sc (.slice none 0 0)=>some true
 | .aD (_::_)=>some false
 | .sl _ _ _ _ (_+1)=>some false
 | .sa .. =>some false
 | .nz b=>some b
 |_=>none
def qw:Operand→Bool
 | .const (.slice none 0 0)=>true
 |_=>false
def y7(op:BinOp)(T:TypeId)(x:AVal):Option AVal:=
 match P.underlying T with
 |some (.slice _)=>match op,Gr x with
  | .eql,some b=>some (.sc (.bool b))
  | .neq,some b=>some (.sc (.bool !b))
  |_,_=>none
 |_=>none
def vn(T:TypeId)(ok:Bool)(x:AVal):Option AVal:=
 match P.underlying T with
 |none=>none
 |some (.interface _)=>none
 |some _=>match x with
  | .ei t v=>if t=T then some (if ok then .bV [v,.sc (.bool true)]else v)else if ok then(wL P T).map fun z=>.bV [z,.sc (.bool false)]else none
  | .sc .nilIface=>if ok then(wL P T).map fun z=>.bV [z,.sc (.bool false)]else none
  |_=>none
def Ca(T:TypeId)(x:AVal)(lo hi mx:Option AVal):Option AVal:=
 match P.underlying T with
 |some (.slice e)=>match mw x,gB 1 0 lo,gB 1 0 hi,gB 1 0 mx with
  |some _,some 0,some 0,some 0=>if(cB P e).isSome&& !(match x with | .sc (.string _)=>true |_=>false)then some .emp else none
  |_,_,_,_=>none
 |_=>none
def xP(T:TypeId)(x:AVal):Rd cF:=
 match P.underlying T,x with
 |some (.slice _),.sc (.slice none 0 0)=>.done {val:=nothing}
 |some (.slice _),.aD []=>.done {val:=nothing}
 |some (.slice e),.sl b ak sz o n=>match ga P e with
  |some z=>(rowOf b ak).bind fun(sz',rows)=>if sz'=sz∧o+n≤rows.length∧z.length=sz then .done {val:=nothing,cZ:=[(b,.row ak sz (rows.take o++List.replicate n z++rows.drop (o+n)))]}else .fail
  |none=>.fail
 |_,_=>.fail
def D8(T:TypeId)(x:AVal):Option AVal:=
 match P.underlying T with
 |some (.array n _)=>match x with
  | .sa b ak i o _ m=>if n≤m then some (.ptr b ak i o)else none
  | .aD rows=>if 0<rows.length∧n≤rows.length then some (.bp rows.flatten 0)else none
  |_=>none
 |_=>none
def o6:List (List AVal)→Option (List Int)
 | []=>some []
 | [.sc (.int .u8 n)]::rs=>(o6 rs).map (n:: ·)
 |_=>none
def mY(xs:List Int):ByteArray:=⟨(xs.map fun n=>UInt8.ofNat n.toNat).toArray⟩
def Cb(P:Program)(s d:TypeId):Bool:=match P.underlying s,P.underlying d with
 |some (.slice e),some .string=>match P.underlying e with
  |some (.int .u8)=>true
  |_=>false
 |_,_=>false
def IK:AVal→AVal→Option AVal
 | .sc (.int k x),.sc (.int _ y)=>some (.sc (.int k (if y<x then y else x)))
 |_,_=>none
def xQ(nid:Nat)(T:TypeId)(x:AVal):Rd cF:=match P.underlying T with
 |some (.map _ _)=>(mapOf x).bind fun
  |some (b,clock,_)=>.done {val:=.ptr nid 0 0 0,cZ:=[(nid,.iter (.mp b) clock [] clock)]}
  |none=>.done {val:=.ptr nid 0 0 0,cZ:=[(nid,.iter (.sc (.map none)) 0 [] 0)]}
 |_=>.fail
def y8(seen:List Nat)(es:List (AVal×AVal×Nat)):Option AVal:=match seen.getLast? with
 |some s=>(es.find? fun p=>p.2.2==s).map fun p=>.bV [p.1,p.2.1]
 |none=>none
def A6:AVal→Rd cF
 | .ptr b 0 0 0=>.get b fun
  | .iter m _ seen stepped=>(mapOf m).bind fun
   |some (_,clock,es)=>if clock=stepped then yields (y8 seen es)else .fail
   |none=>.fail
  |_=>.fail
 |_=>.fail
def bN[ax](nid:Nat)(ai:Operand→AVal):Op→Rd cF
 | .move x=>.done {val:=ai x}
 | .assign x=>.done {val:=ai x}
 | .pick c a b=>match ai c with
  | .sc (.bool t)=>.done {val:=if t then ai a else ai b}
  |_=>.fail
 | .alloc T=>match ga P T with
  |some []=>.done {val:=.bp [] 0}
  |z=>o5 (z.bind (B9 nid))
 | .box _ x=>o5 ((ai x).qu.bind (B9 nid))
 | .build T parts=>yields (D6 P T (parts.toList.map fun p=>(p.1,ai p.2)))
 | .buildSlice T len parts=>o5 (vm P nid T len (parts.toList.map fun p=>(p.1,ai p.2)))
 | .load T a=>wK P T (ai a)
 | .store T a v=>xO P T (ai v) (ai a)
 | .nilCheck x=>match ai x with
  | .ptr b v i o=>.done {val:=.ptr b v i o}
  | .bp cs o=>.done {val:=.bp cs o}
  | .eU i o=>.done {val:=.eU i o}
  | .fn (.func f) a b=>.done {val:=.fn (.func f) a b}
  |_=>.fail
 | .binOp op T x (.const .nilIface) _=>yields (D7 P op T (ai x))
 | .typeAssert x _ T ok=>yields (vn P T ok (ai x))
 | .binOp op T x y _=>if qw y then yields (y7 P op T (ai x))else yields (B8 P op T (ai x) (ai y))
 | .unOp op _ x=>yields (KL op (ai x))
 | .convert s d x=>match Cb P s d with
  |true=>(elems (ai x)).bind fun rows=>match o6 rows with
   |some xs=>.done {val:=.sc (.string (mY xs))}
   |none=>.fail
  |false=>yields (Gn P s d (ai x))
 | .makeInterface T x=>match P.underlying T with
  |some (.interface _)=>.fail
  |some _=>.done {val:=.ei T (ai x)}
  |none=>.fail
 | .makeFunc f a b=>.done {val:=.fn f (a.toList.map ai) (b.toList.map ai)}
 | .makeMap T none=>match P.underlying T with
  |some (.map _ _)=>.done {val:=.mp nid,cZ:=[(nid,.map 0 [])]}
  |_=>.fail
 | .makeMap T (some h)=>match P.underlying T,ai h with
  |some (.map _ _),.sc (.int _ _)=>.done {val:=.mp nid,cZ:=[(nid,.map 0 [])]}
  |_,_=>.fail
 | .lookup T x k ok=>tM P T (ai x) (ai k) ok
 | .range T x=>xQ P nid T (ai x)
 | .entry x=>A6 (ai x)
 | .mapUpdate T m k x=>oZ P T (ai m) (ai k) (ai x)
 | .insert T m k x=>oZ P T (ai m) (ai k) (ai x)
 | .makeSlice T l c=>o5 (kW P nid T (ai l) (ai c))
 | .slice T x lo hi none=>yields (kA P T (ai x) (lo.map ai) (hi.map ai))
 | .slice T x lo hi (some mx)=>yields (Ca P T (ai x) (lo.map ai) (hi.map ai) (some (ai mx)))
 | .sliceToArrayPointer T x=>yields (D8 P T (ai x))
 | .fieldAddr T x f=>match tJ P T f with
  |some fd=>match cB P fd.type with
   |some (_+1)=>yields (tK fd.offset (ai x))
   |_=>.fail
  |none=>.fail
 | .field T x f=>match tJ P T f,ai x with
  |some fd,.agg cs=>yields (jy P fd.type cs fd.offset)
  |_,_=>.fail
 | .indexAddr T x i=>match ai i with
  | .sc (.int _ n)=>yields (jA P T (ai x) n)
  |_=>.fail
 | .index T x i=>match ai i with
  | .sc (.int _ n)=>yields (A5 P T (ai x) n)
  |_=>.fail
 | .extract t i=>match ai t with
  | .bV cs=>yields (cs[i]?)
  |_=>.fail
 | .call {callee:=.builtin .len,args,argTypes}=>match argTypes[0]?,args[0]? with
  |some T,some x=>match P.underlying T,mw (ai x)with
   |some (.map _ _),_=>(mapOf (ai x)).bind fun m=>.done {val:=.sc (.int .i64 (match m with |some (_,_,es)=>(es.length:Int) |none=>0))}
   |some .string,some n=>if(match ai x with | .sc (.string _)=>true |_=>false)then .done {val:=.sc (.int .i64 n)}else .fail
   |some (.slice _),some n=>if(match ai x with | .sc (.string _)=>false |_=>true)then .done {val:=.sc (.int .i64 n)}else .fail
   |_,_=>.fail
  |_,_=>.fail
 | .call {callee:=.builtin .append,args,argTypes}=>match argTypes[0]?,argTypes[1]?,args[0]?,args[1]? with
  |some ST,some XT,some s,some x=>if args.size=2 then tL P nid ST XT (ai s) (ai x)else .fail
  |_,_,_,_=>.fail
 | .call {callee:=.builtin .copy,args,argTypes}=>match argTypes[0]?,args[0]?,args[1]? with
  |some DT,some d,some x=>Gq P DT (ai d) (ai x)
  |_,_,_=>.fail
 | .call {callee:=.builtin .clear,args,argTypes}=>match argTypes[0]?,args[0]? with
  |some T,some x=>if args.size=1 then xP P T (ai x)else .fail
  |_,_=>.fail
 | .call {callee:=.builtin .min,args,.. }=>match args[0]?,args[1]? with
  |some x,some y=>if args.size=2 then yields (IK (ai x) (ai y))else .fail
  |_,_=>.fail
 |_=>.fail
end
end Go.AM
end
section
namespace Go.AM
def cC(g:Gh)(w:World)(c:Array Value):List AVal→Nat→Prop
 | [],_=>True
 |a::as,o=>(∃y,c[o]? =some y∧y.oneCell'=true∧R g w a y)∧cC g w c as (o+1)
def ez(g:Gh)(w:World)(c:Array Value)(sz:Nat):List (List AVal)→Nat→Prop
 | [],_=>True
 |r::rs,o=>(r.length=sz∧cC g w c r o)∧ez g w c sz rs (o+sz)
def gO(g:Gh)(w:World):List (AVal×AVal×Nat)→List MapEntry→Prop
 | [],es=>es=[]
 |p::ps,es=>∃e es',es=e::es'∧R g w p.1 e.key∧R g w p.2.1 e.val∧e.born=p.2.2∧gO g w ps es'
def Kb(g:Gh)(w:World)(b ak sz:Nat)(rows:List (List AVal)):Prop:=
 ∃k c e,g.ai b ak=some (k,sz)∧w.heap[k]? =some (.cells c e (0,0))∧ez g w c sz rows 0∧rows.length*sz≤c.size∧0<sz
def Good(g:Gh)(w:World)(b:Nat):af→Prop
 | .row ak sz rows=>Kb g w b ak sz rows∨(rows=[]∧g.ai b ak=none∧0<sz)
 | .map clock es=>∃k ents,g.ai b 0=some (k,0)∧w.heap[k]? =some (.map ents clock)∧gO g w es ents.toList
 | .loop st pend _ A ps assign body=>∃k tmps dk fn,g.ai b 0=some (k,0)∧
  w.heap[k]? =some (.loop {state:=st,pending:=pend,fn:=fn,tmps:=tmps,params:=ps.toArray,assign:=assign,body:=body,defers:=dk})∧RL g w A tmps.toList
 | .defs=>∃k,g.ai b 0=some (k,0)∧w.heap[k]? =some (.deferred (some []))
 | .iter m since seen stepped=>∃k mo,g.ai b 0=some (k,0)∧w.heap[k]? =some (.mapIter mo since seen.toArray stepped)∧R g w m (.map mo)
 |_=>True
def kB[gl:ax](g:Gh)(w:World):Prop:=∀i cs,gl.default.cells i=some cs→AVal.aO cs=true∧RC g w cs i 0
theorem kB.mono[ax]{g g':Gh}{w w':World}(hg:kB g w)(h:Ext g w g' w'):kB g' w':=
 fun i cs hi=>⟨(hg i cs hi).1,y5 h _ _ _ (hg i cs hi).2⟩
structure Inv[ax](g:Gh)(H:List af)(w:World):Prop where
 good:∀b x,H[b]? =some x→Good g w b x
 inj:∀b b' x x' v v' k z z',H[b]? =some x→H[b']? =some x'→x.live=some v→x'.live=some v'→g.ai b v=some (k,z)→g.ai b' v'=some (k,z')→b=b'
 fresh:∀b ak,(H[b]? =some .aR∨H.length≤b)→g.ai b ak=none
 next:∀b x v ver',H[b]? =some x→x.live=some v→v<ver'→g.ai b ver'=none
 free:∀b x v k z o,H[b]? =some x→x.live=some v→g.ai b v=some (k,z)→¬g.st k o
 dc:∀k o,g.st k o→k<w.heap.size
 b9:kB g w
section
variable [ax]
theorem Inv.row{g:Gh}{H:List af}{w:World}(hi:Inv g H w)(b ak sz:Nat)(rows:List (List AVal))(h:H[b]? =some (.row ak sz rows)){kz:Nat×Nat}(hkz:g.ai b ak=some kz):∃k c e,g.ai b ak=some (k,sz)∧w.heap[k]? =some (.cells c e (0,0))∧ez g w c sz rows 0∧rows.length*sz≤c.size∧0<sz∧∀o,¬g.st k o:=by
 rcases hi.good b _ h with⟨k,c,e,h1,h2,h3,h4,h5⟩ |⟨_,h1,_⟩
 ·exact⟨k,c,e,h1,h2,h3,h4,h5,fun o=>hi.free b _ ak k sz o h rfl h1⟩
 ·rw[hkz]at h1;cases h1
theorem Inv.jL{g:Gh}{H:List af}{w:World}(hi:Inv g H w){b:Nat}{x:af}{v k z:Nat}(h:H[b]? =some x)(hv:x.live=some v)(hk:g.ai b v=some (k,z)):k<w.heap.size:=by
 have hg:=hi.good b x h;cases x with
 |aR=>cases hv
 |dead=>cases hv
 |row ak sz rows=>
  simp[af.live]at hv;subst hv;rcases hg with⟨k',c,e,h1,h2,_⟩ |⟨_,h1,_⟩
  ·grind
  ·rw[hk]at h1;cases h1
 |map clock es=>
  simp[af.live]at hv;subst hv;obtain⟨k',c,h1,h2,_⟩:=hg;grind
 |loop st pend fid A ps assign body=>
  simp[af.live]at hv;subst hv;obtain⟨k',c,dk,fn,h1,h2,_⟩:=hg;grind
 |defs=>
  simp[af.live]at hv;subst hv;obtain⟨k',h1,h2⟩:=hg;grind
 |iter m since seen stepped=>
  simp[af.live]at hv;subst hv;obtain⟨k',mo,h1,h2,_⟩:=hg;grind
def eD(g:Gh)(H:List af)(k:Nat):Prop:=∃b x v z,H[b]? =some x∧x.live=some v∧g.ai b v=some (k,z)
structure aK(g:Gh)(H:List af)(w:World)(g':Gh)(H':List af)(w':World):Prop where
 ext:Ext g w g' w'
 size:w.heap.size≤w'.heap.size
 keep:∀k,k<w.heap.size→¬eD g H k→w'.heap[k]? =w.heap[k]?
 own:∀k,k<w.heap.size→eD g' H' k→eD g H k
 len:H.length≤H'.length
 os:w'.os=w.os
 tape:w'.tape=w.tape∧w.drawn≤w'.drawn
 output:w'.output=w.output
 stk:∀k o,k<w.heap.size→g'.st k o→g.st k o∨(eD g H k∧¬eD g' H' k)
 ot:∀b,H[b]? =some .dead→H'[b]? =some .dead∧∀ak,g'.ai b ak=g.ai b ak
 mz:∀b ak k z,g'.ai b ak=some (k,z)→(∃ver' z',g.ai b ver'=some (k,z'))∨w.heap.size≤k
theorem aK.refl(g:Gh)(H:List af)(w:World):aK g H w g H w:=
 ⟨Ext.refl g w,Nat.le_refl _,fun _ _ _=>rfl,fun _ _ h=>h,Nat.le_refl _,rfl,⟨rfl,Nat.le_refl _⟩,rfl,fun _ _ _ h=>.inl h,fun _ h=>⟨h,fun _=>rfl⟩,fun _ ak _ z h=>.inl ⟨ak,z,h⟩⟩
theorem aK.trans{g g1 g2:Gh}{H H1 H2:List af}{w w1 w2:World}(h:aK g H w g1 H1 w1)(h':aK g1 H1 w1 g2 H2 w2):aK g H w g2 H2 w2:=by
 refine⟨h.ext.trans h'.ext,Nat.le_trans h.size h'.size,fun k hk ho=>?_,fun k hk ho=>?_,Nat.le_trans h.len h'.len,h'.os.trans h.os,⟨h'.tape.1.trans h.tape.1,Nat.le_trans h.tape.2 h'.tape.2⟩,h'.output.trans h.output,fun k o hk ho=>?_,fun b hb=>?_,fun b ak k z hk=>?_⟩
 ·have h1:=h'.keep k (Nat.lt_of_lt_of_le hk h.size) (fun o1=>ho (h.own k hk o1))
  exact h1.trans (h.keep k hk ho)
 ·exact h.own k hk (h'.own k (Nat.lt_of_lt_of_le hk h.size) ho)
 ·have hk1:=Nat.lt_of_lt_of_le hk h.size;rcases h'.stk k o hk1 ho with h1 |⟨h1,h2⟩
  ·rcases h.stk k o hk h1 with h3 |⟨h3,h4⟩
   ·exact .inl h3
   ·exact .inr ⟨h3,fun h5=>h4 (h'.own k hk1 h5)⟩
  ·exact .inr ⟨h.own k hk h1,h2⟩
 ·obtain⟨h1,h2⟩:=h.ot b hb;obtain⟨h3,h4⟩:=h'.ot b h1;grind
 ·rcases h'.mz b ak k z hk with⟨v1,z1,h1⟩ |h1
  ·exact h.mz b v1 k z1 h1
  ·exact .inr (Nat.le_trans h.size h1)
theorem gK{w w':World}{k:Nat}(h:w'.heap[k]? =w.heap[k]?)(o:Nat):w'.cell? ⟨k,o,none⟩=w.cell? ⟨k,o,none⟩:=by
 simp[World.cell?,h]
theorem fc{w:World}{k o:Nat}{c:Array Value}{e:TypeId}{z:Nat×Nat}(h:w.heap[k]? =some (.cells c e z)):w.cell? ⟨k,o,none⟩=c[o]? :=by
 simp[World.cell?,h]
section
variable {g g':Gh} {w w':World} (h:Ext g w g' w')
include h
theorem xR{c:Array Value}:∀(l:List AVal) (o:Nat),cC g w c l o→cC g' w' c l o
 | [],_,_=>trivial
 |a::as,o,hr=>by
  obtain⟨⟨y,h1,h2,h3⟩,h4⟩:=hr;exact⟨⟨y,h1,h2,jx h a y h3⟩,xR as (o+1) h4⟩
theorem nX{c:Array Value}{sz:Nat}:∀(l:List (List AVal)) (o:Nat),ez g w c sz l o→ez g' w' c sz l o
 | [],_,_=>trivial
 |r::rs,o,hr=>by
  obtain⟨⟨h1,h2⟩,h3⟩:=hr;exact⟨⟨h1,xR h r o h2⟩,nX rs (o+sz) h3⟩
end
theorem vo{g g':Gh}{w w':World}(h:Ext g w g' w'):∀(l:List (AVal×AVal×Nat)) (es:List MapEntry),gO g w l es→gO g' w' l es
 | [],_,hr=>hr
 |p::ps,es,hr=>by
  obtain⟨e,es',rfl,h1,h2,hb,h3⟩:=hr;exact⟨e,es',rfl,jx h _ _ h1,jx h _ _ h2,hb,vo h ps es' h3⟩
theorem gq{g g':Gh}{w w':World}(h:Ext g w g' w'){b:Nat}{x:af}(hx:Good g w b x)(hk:∀v k z,x.live=some v→g.ai b v=some (k,z)→w'.heap[k]? =w.heap[k]?)
 (hn:∀v,x.live=some v→g.ai b v=none→g'.ai b v=none):Good g' w' b x:=by
 cases x with
 |aR=>trivial
 |dead=>trivial
 |row ak sz rows=>
  rcases hx with⟨k,c,e,h1,h2,h3,h4⟩ |⟨h1,h2,h3⟩
  ·exact .inl ⟨k,c,e,h.ai _ _ _ h1,(hk _ _ _ rfl h1).trans h2,nX h rows 0 h3,h4⟩
  ·exact .inr ⟨h1,hn _ rfl h2,h3⟩
 |map clock es=>
  obtain⟨k,ents,h1,h2,h3⟩:=hx;exact⟨k,ents,h.ai _ _ _ h1,(hk _ _ _ rfl h1).trans h2,vo h es _ h3⟩
 |loop st pend fid A ps assign body=>
  obtain⟨k,tmps,dk,fn,h1,h2,h3⟩:=hx;exact⟨k,tmps,dk,fn,h.ai _ _ _ h1,(hk _ _ _ rfl h1).trans h2,bq h _ _ h3⟩
 |defs=>
  obtain⟨k,h1,h2⟩:=hx;exact⟨k,h.ai _ _ _ h1,(hk _ _ _ rfl h1).trans h2⟩
 |iter m since seen stepped=>
  obtain⟨k,mo,h1,h2,h3⟩:=hx;exact⟨k,mo,h.ai _ _ _ h1,(hk _ _ _ rfl h1).trans h2,jx h _ _ h3⟩
theorem iy{g:Gh}{w:World}{c c':Array Value}:∀(l:List AVal) (o o':Nat),(∀j,j<l.length→c'[o'+j]? =c[o+j]?)→cC g w c l o→cC g w c' l o'
 | [],_,_,_,_=>trivial
 |a::as,o,o',hc,hr=>by
  obtain⟨⟨y,h1,h2,h3⟩,h4⟩:=hr;refine⟨⟨y,?_,h2,h3⟩,iy as (o+1) (o'+1) (fun j hj=>?_) h4⟩
  ·have:=hc 0 (by simp);simpa[h1]using this
  ·have:=hc (j+1) (by simp;omega)
   grind
theorem gW{g:Gh}{w:World}{c:Array Value}:∀(l:List AVal) (o j:Nat) (a:AVal),cC g w c l o→l[j]? =some a→∃y,c[o+j]? =some y∧y.oneCell'=true∧R g w a y
 | [],_,_,_,_,hj=>by simp at hj
 |b::bs,o,0,a,hr,hj=>by
  simp at hj;subst hj;exact hr.1
 |b::bs,o,j+1,a,hr,hj=>by
  have:=gW bs (o+1) j a hr.2 (by simpa using hj)
  grind
theorem bR{g:Gh}{w:World}{c:Array Value}{sz:Nat}:∀(l:List (List AVal)) (o j:Nat) (r:List AVal),ez g w c sz l o→l[j]? =some r→r.length=sz∧cC g w c r (o+j*sz)
 | [],_,_,_,_,hj=>by simp at hj
 |b::bs,o,0,a,hr,hj=>by
  simp at hj;subst hj;simpa using hr.1
 |b::bs,o,j+1,a,hr,hj=>by
  have:=bR bs (o+sz) j a hr.2 (by simpa using hj)
  grind
theorem mZ{g:Gh}{w:World}{c:Array Value}:∀(l:List AVal) (o:Nat),(∀j a,l[j]? =some a→∃y,c[o+j]? =some y∧y.oneCell'=true∧R g w a y)→cC g w c l o
 | [],_,_=>trivial
 |a::as,o,hc=>⟨by have:=hc 0 a (by simp);simpa using this,mZ as (o+1) fun j b hb=>by
  have:=hc (j+1) b (by simpa using hb)
  grind⟩
theorem gr{g:Gh}{w:World}{c:Array Value}{sz:Nat}:∀(l:List (List AVal)) (o:Nat),(∀j r,l[j]? =some r→r.length=sz∧cC g w c r (o+j*sz))→ez g w c sz l o
 | [],_,_=>trivial
 |r::rs,o,hc=>⟨by have:=hc 0 r (by simp);simpa using this,gr rs (o+sz) fun j b hb=>by
  have:=hc (j+1) b (by simpa using hb)
  grind⟩
theorem cK{g:Gh}{w:World}:∀(l:List AVal) (vs:List Value),RL g w l vs→vs.length=l.length∧∀(j:Nat) (a:AVal),l[j]? =some a→∃y,vs[j]? =some y∧R g w a y
 | [],vs,h=>by simp only[RL]at h;subst h;simp
 |a::as,vs,h=>by
  simp only[RL]at h;obtain⟨x,xs,rfl,h1,h2⟩:=h;obtain⟨h3,h4⟩:=cK as xs h2;grind
theorem o7{g:Gh}{w:World}:∀(l:List AVal) (vs:List Value),vs.length=l.length→(∀(j:Nat) (a:AVal) (y:Value),l[j]? =some a→vs[j]? =some y→R g w a y)→RL g w l vs
 | [],vs,h,_=>by grind [RL]
 |a::as,[],h,_=>by simp at h
 |a::as,x::xs,h,hc=>by
  simp only[RL];exact⟨x,xs,rfl,hc 0 a x (by simp) (by simp),o7 as xs (by simpa using h) fun j b y hb hy=>hc (j+1) b y (by simpa using hb) (by simpa using hy)⟩
theorem dn{g:Gh}{w:World}{a b:List AVal}{x y:List Value}(h:RL g w a x)(h':RL g w b y):RL g w (a++b) (x++y):=by
 induction a generalizing x with
 |nil=>grind [RL]
 |cons c cs ih=>
  grind [RL]
theorem y9{g:Gh}{w:World}:∀(vs:List Value),RL g w (vs.map .sc) vs
 | []=>by simp[RL]
 |v::vs=>by simp only[List.map_cons,RL];exact⟨v,vs,rfl,by simp[R],y9 vs⟩
theorem CQ{g:Gh}{w:World}(v:Value):R g w (AVal.ofValue v) v:=by
 cases v<;>simp only[AVal.ofValue]
 case agg cs=>
  grind [R,y9]
 case tuple cs=>grind [R,y9]
 all_goals simp[R]
theorem bu{H:List af}{b b':Nat}{x y:af}(h:(H.set b x)[b']? =some y):(b'=b∧y=x∧b<H.length)∨(b'≠b∧H[b']? =some y):=by
 grind
def Gh.born(g:Gh)(b ak:Nat)(x:Nat×Nat):Gh:={g with ai:=fun b' ver'=>if b'=b∧ver'=ak then some x else g.ai b' ver'}
theorem Ext.born{g:Gh}{w w':World}{b ak:Nat}{x:Nat×Nat}(hf:g.ai b ak=none)(hc:∀k o,g.st k o→w'.cell? ⟨k,o,none⟩=w.cell? ⟨k,o,none⟩)(hs:∀k x,w.shape? k=some x→w'.shape? k=some x):Ext g w (g.born b ak x) w':=by
 refine⟨fun b' ver' y hy=>?_,fun _ _ h=>h,hc,hs⟩
 grind [Gh.born]
theorem o8{w:World}{o:Obj}{k:Nat}{x:TypeId×Nat}(h:w.shape? k=some x):(w.alloc o).shape? k=some x:=by
 have hk:k<w.heap.size:=by
  apply Decidable.byContradiction;intro hn;simp[World.shape?,Array.getElem?_eq_none (Nat.le_of_not_lt hn)]at h
 simpa[World.shape?,RowKit.Below.heap_alloc w o k hk]using h
theorem iV{w:World}{o:Obj}:(w.alloc o).heap[w.heap.size]? =some o:=by
 show(w.heap.push o)[w.heap.size]? =some o;simp
theorem Inv.tR{g:Gh}{H:List af}{w:World}(hi:Inv g H w){nid sz:Nat}{y:af}{ob:Obj}(hn:H[nid]? =some .aR)(hv:y.live=some 0)(hg:Good (g.born nid 0 (w.heap.size,sz)) (w.alloc ob) nid y):
 Inv (g.born nid 0 (w.heap.size,sz)) (H.set nid y) (w.alloc ob)∧aK g H w (g.born nid 0 (w.heap.size,sz)) (H.set nid y) (w.alloc ob)∧(g.born nid 0 (w.heap.size,sz)).ai nid 0=some (w.heap.size,sz):=by
 have hf:∀ak,g.ai nid ak=none:=fun ak=>hi.fresh nid ak (.inl hn)
 have hlt:nid<H.length:=(List.getElem?_eq_some_iff.1 hn).1;have hstc:∀k o,g.st k o→(w.alloc ob).cell? ⟨k,o,none⟩=w.cell? ⟨k,o,none⟩:=fun k o hs=>gK (RowKit.Below.heap_alloc w _ k (hi.dc k o hs)) o
 have hext:Ext g w (g.born nid 0 (w.heap.size,sz)) (w.alloc ob):=Ext.born (hf 0) hstc fun k x hx=>o8 hx
 have hro:∀b ak k z,(g.born nid 0 (w.heap.size,sz)).ai b ak=some (k,z)→(b=nid∧ak=0∧k=w.heap.size∧z=sz)∨(b≠nid∧g.ai b ak=some (k,z)):=by
  intro b ak k z h;simp only[Gh.born]at h;split at h
  ·grind
  ·grind
 have hrn:(g.born nid 0 (w.heap.size,sz)).ai nid 0=some (w.heap.size,sz):=by simp[Gh.born]
 refine⟨⟨?_,?_,?_,?_,?_,?_,hi.b9.mono hext⟩,⟨hext,by simp,?_,?_,by simp,rfl,⟨rfl,Nat.le_refl _⟩,rfl,fun _ _ _ h=>.inl h,fun b hb=>?_,fun b ak k z h=>(hro b ak k z h).elim (fun e=>.inr (by rw[e.2.2.1];exact Nat.le_refl _)) fun e=>.inl ⟨ak,z,e.2⟩⟩,hrn⟩
 ·intro b x hb;rcases bu hb with⟨rfl,he,_⟩ |⟨hne,hq⟩
  ·subst he;exact hg
  ·exact gq hext (hi.good b x hq) (fun v k z h1 h2=>RowKit.Below.heap_alloc w _ k (hi.jL hq h1 h2)) fun v _ h=>by simp[Gh.born,hne,h]
 ·intro b b' x x' v v' k z z' hb hb' h1 h1' hk hk';rcases bu hb with⟨rfl,he,_⟩ |⟨hne,hq⟩<;>rcases bu hb' with⟨hb2,he',_⟩ |⟨hne',hq'⟩
  ·exact hb2.symm
  ·rcases hro _ _ _ _ hk' with⟨h1,_⟩ |⟨_,hk2⟩
   ·exact absurd h1 hne'
   ·have:=hi.jL hq' h1' hk2;grind
  ·subst hb2;rcases hro _ _ _ _ hk with⟨h1,_⟩ |⟨_,hk2⟩
   ·exact absurd h1 hne
   ·have:=hi.jL hq h1 hk2;grind
  ·rcases hro _ _ _ _ hk with⟨h1,_⟩ |⟨_,hk2⟩
   ·exact absurd h1 hne
   ·rcases hro _ _ _ _ hk' with⟨h1,_⟩ |⟨_,hk2'⟩
    ·exact absurd h1 hne'
    ·exact hi.inj b b' x x' v v' k z z' hq hq' h1 h1' hk2 hk2'
 ·intro b ak hb;have hbn:b≠nid:=by
   rintro rfl;rcases hb with hb |hb
   ·rw[List.getElem?_set_self hlt]at hb;simp at hb;subst hb;cases hv
   ·simp at hb;omega
  grind [hi.fresh,Gh.born]
 ·intro b x v ver' hb hl hlt';rcases bu hb with⟨rfl,he,_⟩ |⟨hne,hq⟩
  ·grind [Gh.born]
  ·simp only[Gh.born];rw[if_neg (by simp[hne])]
   exact hi.next b x v ver' hq hl hlt'
 ·intro b x v k z o hb hl hk hs;have hs':g.st k o:=hs;rcases hro _ _ _ _ hk with⟨_,_,h1,_⟩ |⟨hbn,hk2⟩
  ·have:=hi.dc _ _ hs';omega
  ·rcases bu hb with⟨rfl,he,_⟩ |⟨hne,hq⟩
   ·exact absurd rfl hbn
   ·exact hi.free b x v k z o hq hl hk2 hs'
 ·intro k o hs;have:=hi.dc k o hs;simp;omega
 ·intro k hk _;exact RowKit.Below.heap_alloc w _ k hk
 ·rintro k hk ⟨b,x,v,z,hb,hl,hz⟩;rcases hro _ _ _ _ hz with⟨_,_,h1,_⟩ |⟨hbn,hz2⟩
  ·omega
  ·rcases bu hb with⟨rfl,he,_⟩ |⟨hne,hq⟩
   ·exact absurd rfl hbn
   ·exact⟨b,x,v,z,hq,hl,hz2⟩
 grind [Gh.born]
theorem Inv.alloc{g:Gh}{H:List af}{w:World}(hi:Inv g H w){nid sz:Nat}{rows:List (List AVal)}{c:Array Value}{e:TypeId}(hn:H[nid]? =some .aR)(hsz:0<sz)
 (hr:ez g w c sz rows 0) (hl:rows.length*sz≤c.size):
 Inv (g.born nid 0 (w.heap.size,sz)) (H.set nid (.row 0 sz rows)) (w.alloc (.cells c e))∧aK g H w (g.born nid 0 (w.heap.size,sz)) (H.set nid (.row 0 sz rows)) (w.alloc (.cells c e))∧
 (g.born nid 0 (w.heap.size,sz)).ai nid 0=some (w.heap.size,sz):=by
 refine hi.tR hn rfl (.inl ⟨w.heap.size,c,e,by simp[Gh.born],iV,?_,hl,hsz⟩)
 refine nX (Ext.born (hi.fresh nid 0 (.inl hn)) (fun k o hs=>gK (RowKit.Below.heap_alloc w _ k (hi.dc k o hs)) o) fun k x hx=>o8 hx) rows 0 hr
theorem Cc{w w':World}{k:Nat}{c c':Array Value}{e:TypeId}{z z':Nat×Nat}(h1:w.heap[k]? =some (.cells c e z))(h2:w'.heap[k]? =some (.cells c' e z'))(hs:c'.size=c.size)
 (ho:∀j,j≠k→w'.heap[j]? =w.heap[j]?):∀j x,w.shape? j=some x→w'.shape? j=some x:=by
 intro j x hx;by_cases hj:j=k
 ·subst hj;simpa[World.shape?,h1,h2,hs]using hx
 ·simpa[World.shape?,ho j hj]using hx
theorem Inv.za{g:Gh}{H:List af}{w w':World}(hi:Inv g H w){b v k z:Nat}{x y:af}(hb:H[b]? =some x)(hv:x.live=some v)(hk:g.ai b v=some (k,z))(hy:y.live=some v)
 (ho:∀j,j≠k→w'.heap[j]? =w.heap[j]?) (hz:w'.heap.size=w.heap.size) (hshape:∀j x,w.shape? j=some x→w'.shape? j=some x)
 (hos:w'.os=w.os) (htp:w'.tape=w.tape∧w.drawn≤w'.drawn) (hout:w'.output=w.output) (hg:Ext g w g w'→Good g w' b y):
 Inv g (H.set b y) w'∧aK g H w g (H.set b y) w':=by
 have hlt:b<H.length:=(List.getElem?_eq_some_iff.1 hb).1;have hfree:∀o,¬g.st k o:=fun o=>hi.free b x v k z o hb hv hk
 have hst:∀k' o,g.st k' o→w'.cell? ⟨k',o,none⟩=w.cell? ⟨k',o,none⟩:=fun k' o h=>
  gK (ho k' (fun e=>hfree o (e▸h))) o
 have hext:Ext g w g w':=⟨fun _ _ _ h=>h,fun _ _ h=>h,hst,hshape⟩
 have f:∀(b1 v1:Nat) (x1:af),(H.set b y)[b1]? =some x1→x1.live=some v1→∃x2,H[b1]? =some x2∧x2.live=some v1:=by
  intro b1 v1 x1 h hl;rcases bu h with⟨rfl,he,_⟩ |⟨_,h⟩
  ·grind
  ·exact⟨_,h,hl⟩
 refine⟨⟨?_,?_,?_,?_,?_,?_,hi.b9.mono hext⟩,⟨hext,by omega,?_,?_,by simp,hos,htp,hout,fun _ _ _ h=>.inl h,fun b1 hb1=>?_,fun _ ak _ z h=>.inl ⟨ak,z,h⟩⟩⟩
 ·intro b' x' hb';rcases bu hb' with⟨rfl,he,_⟩ |⟨hne,hq⟩
  ·subst he;exact hg hext
  ·exact gq hext (hi.good b' x' hq) (fun v' k' z' h1 h2=>ho k' (fun e=>hne (hi.inj b' b x' x v' v k z' z hq hb h1 hv (e▸h2) hk))) fun _ _ h=>h
 ·intro b1 b2 x1 x2 v1 v2 k' z1 z2 hb1 hb2 hl1 hl2 hk1 hk2;obtain⟨y1,q1,q1'⟩:=f _ _ _ hb1 hl1;obtain⟨y2,q2,q2'⟩:=f _ _ _ hb2 hl2;exact hi.inj b1 b2 y1 y2 v1 v2 k' z1 z2 q1 q2 q1' q2' hk1 hk2
 ·intro b' ver' h;apply hi.fresh;by_cases hbb:b'=b
  ·subst hbb;rcases h with h |h
   ·rw[List.getElem?_set_self hlt]at h;simp at h;subst h;cases hy
   ·simp at h;omega
  grind
 ·intro b' x' v1 v2 h hl hlt';obtain⟨y1,q1,q1'⟩:=f _ _ _ h hl;exact hi.next _ _ _ _ q1 q1' hlt'
 ·intro b' x' v1 k' z' o h hl hk' hs;obtain⟨y1,q1,q1'⟩:=f _ _ _ h hl;exact hi.free b' y1 v1 k' z' o q1 q1' hk' hs
 ·intro k' o h;rw[hz];exact hi.dc k' o h
 ·intro k' _ hn;exact ho k' (fun e=>hn (e▸⟨b,x,v,z,hb,hv,hk⟩))
 ·rintro k' _ ⟨b',x',v1,z1,h,hl,hz'⟩;obtain⟨y1,q1,q1'⟩:=f _ _ _ h hl;exact⟨b',y1,v1,z1,q1,q1',hz'⟩
 ·have hbn:b1≠b:=by rintro rfl;rw[hb]at hb1;simp at hb1;subst hb1;cases hv
  grind
theorem Inv.store{g:Gh}{H:List af}{w w':World}(hi:Inv g H w){b ak sz k:Nat}{rows rows':List (List AVal)}{c c':Array Value}{e:TypeId}(hb:H[b]? =some (.row ak sz rows))(hk:g.ai b ak=some (k,sz))
 (h1:w.heap[k]? =some (.cells c e (0,0))) (h2:w'.heap[k]? =some (.cells c' e (0,0))) (hs:c'.size=c.size) (ho:∀j,j≠k→w'.heap[j]? =w.heap[j]?) (hz:w'.heap.size=w.heap.size)
 (hos:w'.os=w.os) (htp:w'.tape=w.tape∧w.drawn≤w'.drawn) (hout:w'.output=w.output) (hr:ez g w c' sz rows' 0) (hl:rows'.length*sz≤c'.size):
 Inv g (H.set b (.row ak sz rows')) w'∧aK g H w g (H.set b (.row ak sz rows')) w':=by
 obtain⟨_,_,_,_,_,_,_,r5,_⟩:=hi.row b ak sz rows hb hk;exact hi.za hb rfl hk rfl ho hz (Cc h1 h2 hs ho) hos htp hout fun hext=>.inl ⟨k,c',e,hk,h2,nX hext _ 0 hr,hl,r5⟩
theorem Inv.grow{g:Gh}{H:List af}{w w':World}(hi:Inv g H w){b ak sz k k':Nat}{rows rows':List (List AVal)}{c c':Array Value}{e e2:TypeId}(hb:H[b]? =some (.row ak sz rows))(r5:0<sz)
 (h2:w'.heap[k']? =some (.cells c' e2 (0,0))) (hnew:(k'=k∧c'.size=c.size∧e2=e∧g.ai b ak=some (k,sz)∧w.heap[k]? =some (.cells c e (0,0)))∨w.heap.size≤k') (ho:∀j,j<w.heap.size→j≠k'→w'.heap[j]? =w.heap[j]?) (hz:w.heap.size≤w'.heap.size)
 (hos:w'.os=w.os) (htp:w'.tape=w.tape∧w.drawn≤w'.drawn) (hout:w'.output=w.output) (hr:ez g w c' sz rows' 0) (hl:rows'.length*sz≤c'.size):
 Inv (g.born b (ak+1) (k',sz)) (H.set b (.row (ak+1) sz rows')) w'∧aK g H w (g.born b (ak+1) (k',sz)) (H.set b (.row (ak+1) sz rows')) w':=by
 have hlt:b<H.length:=(List.getElem?_eq_some_iff.1 hb).1;have hf:g.ai b (ak+1)=none:=hi.next b _ ak (ak+1) hb rfl (by omega)
 have hst6:∀o,¬g.st k' o:=by
  intro o h;rcases hnew with⟨rfl,_,_,hk,_⟩ |hn
  ·obtain⟨k0,c0,e0,r1,r2,r3,r4,r5,r6⟩:=hi.row b ak sz rows hb hk;grind
  ·exact absurd (hi.dc k' o h) (by omega)
 have hst:∀j o,g.st j o→w'.cell? ⟨j,o,none⟩=w.cell? ⟨j,o,none⟩:=fun j o h=>
  gK (ho j (hi.dc j o h) (fun e=>hst6 o (e▸h))) o
 have hshape:∀j x,w.shape? j=some x→w'.shape? j=some x:=by
  intro j x hx;have hj:j<w.heap.size:=by
   apply Decidable.byContradiction;intro hn;simp[World.shape?,Array.getElem?_eq_none (Nat.le_of_not_lt hn)]at hx
  by_cases hjk:j=k'
  ·subst hjk;rcases hnew with⟨rfl,hs,he2,_,h1⟩ |hn
   ·subst he2;simpa[World.shape?,h1,h2,hs]using hx
   ·omega
  ·simpa[World.shape?,ho j hj hjk]using hx
 have hext:Ext g w (g.born b (ak+1) (k',sz)) w':=Ext.born hf hst hshape;have hro:∀b1 v1 k1 z1,(g.born b (ak+1) (k',sz)).ai b1 v1=some (k1,z1)→(b1=b∧v1=ak+1∧k1=k'∧z1=sz)∨(¬(b1=b∧v1=ak+1)∧g.ai b1 v1=some (k1,z1)):=by
  intro b1 v1 k1 z1 h;simp only[Gh.born]at h;split at h
  ·grind
  ·rename_i hh;exact .inr ⟨hh,h⟩
 have hrn:(g.born b (ak+1) (k',sz)).ai b (ak+1)=some (k',sz):=by simp[Gh.born]
 have hother:∀b1 v1 x1 k1 z1,b1≠b→H[b1]? =some x1→x1.live=some v1→g.ai b1 v1=some (k1,z1)→k1≠k'∧k1<w.heap.size:=by
  intro b1 v1 x1 k1 z1 hne hb1 hl1 hk1;have hk1l:=hi.jL hb1 hl1 hk1;refine⟨fun e=>?_,hk1l⟩
  rcases hnew with⟨hkk,_,_,hk,_⟩ |hn
  ·exact hne (hi.inj b1 b x1 _ v1 ak k z1 sz hb1 hb hl1 rfl (by rw[hk1,e,hkk]) hk)
  ·omega
 refine⟨⟨?_,?_,?_,?_,?_,?_,hi.b9.mono hext⟩,⟨hext,hz,?_,?_,by simp,hos,htp,hout,fun _ _ _ h=>.inl h,fun b1 hb1=>?_,fun b1 v1 k1 z1 h=>(hro b1 v1 k1 z1 h).elim (fun e=>by
  grind) fun e=>.inl ⟨v1,z1,e.2⟩⟩⟩
 ·intro b' x' hb';rcases bu hb' with⟨rfl,he,_⟩ |⟨hne,hq⟩
  ·subst he;exact .inl ⟨k',c',e2,hrn,h2,nX hext _ 0 hr,hl,r5⟩
  ·refine gq hext (hi.good b' x' hq) (fun v1 k1 z1 hl1 hk1=>?_) fun v _ h=>by simp[Gh.born,hne,h]
   grind
 ·intro b1 b2 x1 x2 v1 v2 kk z z' hb1 hb2 hl1 hl2 hk1 hk2;rcases bu hb1 with⟨rfl,he1,_⟩ |⟨hne1,hq1⟩<;>rcases bu hb2 with⟨e2,he2,_⟩ |⟨hne2,hq2⟩
  ·exact e2.symm
  ·grind [af.live]
  ·grind [af.live]
  ·rcases hro _ _ _ _ hk1 with⟨h,_⟩ |⟨_,hk1⟩
   ·exact absurd h hne1
   ·rcases hro _ _ _ _ hk2 with⟨h,_⟩ |⟨_,hk2⟩
    ·exact absurd h hne2
    ·exact hi.inj b1 b2 x1 x2 v1 v2 kk z z' hq1 hq2 hl1 hl2 hk1 hk2
 ·grind [hi.fresh,Gh.born]
 ·intro b' x' v1 v2 h hl hlt';rcases bu h with⟨rfl,he,_⟩ |⟨hne,h⟩
  ·subst he;simp[af.live]at hl;subst hl;simp only[Gh.born];rw[if_neg (by omega)]
   exact hi.next _ _ _ _ hb rfl (by omega)
  ·simp only[Gh.born];rw[if_neg (by simp[hne])]
   exact hi.next _ _ _ _ h hl hlt'
 ·intro b' x' v1 k1 z1 o h hl hk1 hs;rcases hro _ _ _ _ hk1 with⟨_,_,h1,_⟩ |⟨hnn,hk2⟩
  ·subst h1;exact hst6 o hs
  ·rcases bu h with⟨rfl,he,_⟩ |⟨hne,hq⟩
   ·grind [af.live]
   ·exact hi.free b' x' v1 k1 z1 o hq hl hk2 hs
 ·intro j o h;exact Nat.lt_of_lt_of_le (hi.dc j o h) hz
 ·intro j hj hn;refine ho j hj (fun e=>?_)
  rcases hnew with⟨hkk,_,_,hk,_⟩ |hn'
  ·exact hn (e.trans hkk▸⟨b,_,ak,sz,hb,rfl,hk⟩)
  ·omega
 ·rintro j hj ⟨b',x',v1,z,h,hl,hz'⟩;rcases hro _ _ _ _ hz' with⟨h1,_,h3,_⟩ |⟨hnn,hz2⟩
  ·rcases hnew with⟨hkk,_,_,hk,_⟩ |hn'
   ·exact⟨b,_,ak,sz,hb,rfl,by rw[hk,h3,hkk]⟩
   ·omega
  ·rcases bu h with⟨rfl,he,_⟩ |⟨hne,hq⟩
   ·grind [af.live]
   ·exact⟨b',x',v1,z,hq,hl,hz2⟩
 grind [Gh.born]
theorem Inv.blank{g:Gh}{H:List af}{w:World}(hi:Inv g H w){b ak sz:Nat}{rows:List (List AVal)}(hb:H[b]? =some (.row ak sz rows))(hsz:0<sz):
 Inv g (H.set b (.row (ak+1) sz [])) w∧aK g H w g (H.set b (.row (ak+1) sz [])) w:=by
 have hf:g.ai b (ak+1)=none:=hi.next b _ ak (ak+1) hb rfl (by omega)
 have hlt:b<H.length:=(List.getElem?_eq_some_iff.1 hb).1;refine⟨⟨?_,?_,?_,?_,?_,hi.dc,hi.b9⟩,⟨Ext.refl g w,Nat.le_refl _,fun _ _ _=>rfl,?_,by simp,rfl,⟨rfl,Nat.le_refl _⟩,rfl,fun _ _ _ h=>.inl h,?_,fun _ ak _ z h=>.inl ⟨ak,z,h⟩⟩⟩
 ·intro b' x h;rcases bu h with⟨rfl,he,_⟩ |⟨hne,h⟩
  ·subst he;exact .inr ⟨rfl,hf,hsz⟩
  ·exact hi.good b' x h
 ·intro b1 b2 x1 x2 v1 v2 k z1 z2 h1 h2 l1 l2 k1 k2;rcases bu h1 with⟨rfl,he,_⟩ |⟨_,h1⟩
  ·grind [af.live]
  ·rcases bu h2 with⟨rfl,he,_⟩ |⟨_,h2⟩
   ·grind [af.live]
   ·exact hi.inj b1 b2 x1 x2 v1 v2 k z1 z2 h1 h2 l1 l2 k1 k2
 ·intro b' v h;rcases h with h |h
  ·rcases bu h with⟨rfl,he,_⟩ |⟨_,h⟩
   ·cases he
   ·exact hi.fresh b' v (.inl h)
  ·exact hi.fresh b' v (.inr (by simpa using h))
 ·intro b' x v v' h hl hv;rcases bu h with⟨rfl,he,_⟩ |⟨_,h⟩
  ·subst he;simp[af.live]at hl;subst hl;exact hi.next _ _ ak _ hb rfl (by omega)
  ·exact hi.next b' x v v' h hl hv
 ·intro b' x v k z o h hl hk;rcases bu h with⟨rfl,he,_⟩ |⟨_,h⟩
  ·grind [af.live]
  ·exact hi.free b' x v k z o h hl hk
 ·rintro k _ ⟨b',x,v,z,h,hl,hz⟩;rcases bu h with⟨rfl,he,_⟩ |⟨_,h⟩
  ·grind [af.live]
  ·exact⟨b',x,v,z,h,hl,hz⟩
 grind
theorem Inv.L4{g:Gh}{H:List af}{w:World}(hi:Inv g H w){sz:Nat}(hsz:0<sz):
 Inv g (H++[.row 0 sz []]) w∧aK g H w g (H++[.row 0 sz []]) w:=by
 have side:∀(b:Nat) (x:af),(H++[af.row 0 sz []])[b]? =some x→H[b]? =some x∨(b=H.length∧x=.row 0 sz []):=by
  intro b x h;by_cases hb:b<H.length
  ·grind
  ·grind
 have hf:∀v,g.ai H.length v=none:=fun v=>hi.fresh _ v (.inr (Nat.le_refl _))
 refine⟨⟨?_,?_,?_,?_,?_,hi.dc,hi.b9⟩,⟨Ext.refl g w,Nat.le_refl _,fun _ _ _=>rfl,?_,by simp,rfl,⟨rfl,Nat.le_refl _⟩,rfl,fun _ _ _ h=>.inl h,?_,fun _ ak _ z h=>.inl ⟨ak,z,h⟩⟩⟩
 ·intro b x h;rcases side b x h with h |⟨rfl,rfl⟩
  ·exact hi.good b x h
  ·exact .inr ⟨rfl,hf 0,hsz⟩
 ·intro b1 b2 x1 x2 v1 v2 k z1 z2 h1 h2 l1 l2 k1 k2;rcases side _ _ h1 with h1 |⟨rfl,rfl⟩
  ·rcases side _ _ h2 with h2 |⟨rfl,rfl⟩
   ·exact hi.inj b1 b2 x1 x2 v1 v2 k z1 z2 h1 h2 l1 l2 k1 k2
   ·rw[hf]at k2;cases k2
  ·rw[hf]at k1;cases k1
 ·intro b v h;rcases h with h |h
  ·rcases side _ _ h with h |⟨_,h⟩
   ·exact hi.fresh b v (.inl h)
   ·cases h
  ·exact hi.fresh b v (.inr (by simp at h;omega))
 ·intro b x v v' h hl hv;rcases side _ _ h with h |⟨rfl,rfl⟩
  ·exact hi.next b x v v' h hl hv
  ·exact hf v'
 ·intro b x v k z o h hl hk;rcases side _ _ h with h |⟨rfl,rfl⟩
  ·exact hi.free b x v k z o h hl hk
  ·rw[hf]at hk;cases hk
 ·rintro k _ ⟨b,x,v,z,h,hl,hz⟩;rcases side _ _ h with h |⟨rfl,rfl⟩
  ·exact⟨b,x,v,z,h,hl,hz⟩
  ·rw[hf]at hz;cases hz
 grind
end
end Go.AM
end
section
namespace Go.AM
def cF.apply(e:cF)(H:List af):List af:=e.cZ.foldl (fun H p=>H.set p.1 p.2) H++e.news
def bD[ax](P:Program)(a:Act)(o:Oper)(g:Gh)(H:List af)(w:World)(aT:cF):Prop:=
 ∃v w' g',((execOp a.eval o).run P w=.ok (.value v) w'∨((execOp a.eval o).run P w=.ok .skip w'∧v=undef))∧
  Inv g' (aT.apply H) w'∧R g' w' aT.val v∧aK g H w g' (aT.apply H) w'
section
variable [ax] {P:Program} {a:Act} {o:Oper} {g:Gh} {H:List af} {w:World}
theorem Inv.frame{g:Gh}{H:List af}{w w1:World}(hi:Inv g H w)(hk:∀k,k<w.heap.size→w1.heap[k]? =w.heap[k]?)(hs:w.heap.size≤w1.heap.size)(hos:w1.os=w.os)(htp:w1.tape=w.tape∧w.drawn≤w1.drawn)(hout:w1.output=w.output):
 Inv g H w1∧aK g H w g H w1:=by
 have hshape:∀j x,w.shape? j=some x→w1.shape? j=some x:=by
  intro j x hx;have hj:j<w.heap.size:=by
   apply Decidable.byContradiction;intro hn;simp[World.shape?,Array.getElem?_eq_none (Nat.le_of_not_lt hn)]at hx
  simpa[World.shape?,hk j hj]using hx
 have hext:Ext g w g w1:=⟨fun _ _ _ h=>h,fun _ _ h=>h,fun k o h=>gK (hk k (hi.dc k o h)) o,hshape⟩
 refine⟨⟨fun b x hb=>gq hext (hi.good b x hb) (fun v k z h1 h2=>hk k (hi.jL hb h1 h2)) (fun _ _ h=>h),hi.inj,hi.fresh,hi.next,hi.free,fun k o h=>Nat.lt_of_lt_of_le (hi.dc k o h) hs,hi.b9.mono hext⟩,?_⟩
 exact⟨hext,hs,fun k h _=>hk k h,fun k _ h=>h,Nat.le_refl _,hos,htp,hout,fun _ _ _ h=>.inl h,fun _ h=>⟨h,fun _=>rfl⟩,fun _ ak _ z h=>.inl ⟨ak,z,h⟩⟩
theorem bD.pure{v:Value}{x:AVal}(hi:Inv g H w)(h:(execOp a.eval o).run P w=.ok (.value v) w)(hr:R g w x v):bD P a o g H w {val:=x}:=
 ⟨v,w,g,.inl h,by simpa[cF.apply]using hi,hr,by simpa[cF.apply]using aK.refl g H w⟩
theorem cm{H:List af}{v:Option AVal}{e:cF}(h:(yields v).run H=some e):∃x,v=some x∧e={val:=x}:=by
 cases v with
 |none=>simp[yields,Rd.run]at h
 |some x=>grind [yields,Rd.run]
theorem ru{H:List af}{v:Option cF}{e:cF}(h:(o5 v).run H=some e):v=some e:=by
 cases v with
 |none=>simp[o5,Rd.run]at h
 |some x=>simpa[o5,Rd.run]using h
theorem bind_some{α β:Type}{H:List af}:∀{m:Rd α} {f:α→Rd β} {x:β},(m.bind f).run H=some x→∃y,m.run H=some y∧(f y).run H=some x
 | .fail,_,_,h=>by simp[Rd.bind,Rd.run]at h
 | .done a,f,x,h=>⟨a,rfl,h⟩
 | .get b k,f,x,h=>by
  simp only[Rd.bind,Rd.run]at h ⊢;split at h
  ·exact bind_some h
  ·cases h
theorem gb{H:List af}{b ak:Nat}{x:Nat×List (List AVal)}(h:(rowOf b ak).run H=some x):H[b]? =some (.row ak x.1 x.2):=by
 grind [rowOf,Rd.run]
theorem cD{T n:Nat}(h:cB P T=some n):(sizeOf T).run P w=.ok n w:=by
 unfold cB at h;cases hi:P.info? T with
 |none=>simp[hi]at h
 |some i=>simp[hi]at h;simp[sizeOf,typeInfo,hi,h]
theorem Aq{T:Nat}(hu:(P.underlying T).isSome):(isAgg T).run P w=.ok (eE P T) w:=by
 obtain⟨d,hd⟩:=Option.isSome_iff_exists.1 hu;unfold isAgg eE;simp only[hd,Sem.run_bind,run_underlying hd,Result.andThen_ok];cases d<;>rfl
theorem xS{T o:Nat}{cs:List AVal}{x:AVal}(h:jy P T cs o=some x):(P.underlying T).isSome:=by
 grind [jy,eE]
theorem uU{v:AVal}{x:Value}{cs:List AVal}(h:R g w v x)(hc:v.qu=some cs):x.cells.size=cs.length∧(∀y∈x.cells.toList,y.oneCell'=true)∧RL g w cs x.cells.toList:=by
 have single:∀(v:AVal) (x:Value),R g w v x→v.storable=true→x.oneCell'=true:=by
  intro v x h hs;cases v<;>simp only[AVal.storable,R]at h hs
  case sc v=>subst h;exact hs
  case agg=>cases hs
  case bV=>cases hs
  case aq=>cases hs
  case ptr=>obtain⟨_,_,_,rfl⟩:=h;rfl
  case bp=>obtain⟨_,_,rfl,_⟩:=h;rfl
  case sl=>rcases h with⟨_,rfl⟩ |⟨_,_,_,_,_,rfl,_⟩<;>rfl
  case aD=>obtain⟨_,_,rfl,_⟩:=h;rfl
  case fn=>obtain⟨_,_,rfl,_⟩:=h;rfl
  case ei=>obtain⟨_,rfl,_⟩:=h;rfl
  case mp=>obtain⟨_,_,_,rfl⟩:=h;rfl
  case gj=>obtain⟨_,_,_,rfl⟩:=h;rfl
  case sa=>obtain⟨_,_,_,_,rfl,_⟩:=h;rfl
  case eU=>subst h;rfl
  case emp=>obtain⟨_,rfl⟩:=h;rfl
  case nz=>obtain⟨_,_,rfl,_⟩:=h;rfl
 by_cases ha:∃ds,v=.agg ds
 ·obtain⟨ds,rfl⟩:=ha;simp[AVal.qu]at hc;subst hc;simp only[R]at h;obtain⟨vs,rfl,h1,h2⟩:=h;obtain⟨h3,_⟩:=cK _ _ h2;exact⟨by simp[Value.cells,h3],by simpa[Value.cells]using h1,by simpa[Value.cells]using h2⟩
 ·have hs:v.storable=true∧cs=[v]:=by
   cases v<;>simp only[AVal.qu]at hc<;>first | (exact absurd ⟨_,rfl⟩ ha) |skip
   all_goals
    grind
  obtain⟨hs,rfl⟩:=hs;have h1:=single v x h hs;have hcx:x.cells= #[x]:=by cases x<;>simp[Value.oneCell',Value.cells]at h1 ⊢
  grind [RL]
theorem cW{c:Array Value}{o:Nat}{cs:List AVal}{vs:List Value}(h:RL g w cs vs)(h1:∀y∈vs,y.oneCell'=true)(hc:∀j,j<vs.length→c[o+j]? =vs[j]?):cC g w c cs o:=by
 grind [cK,mZ]
theorem dR{c:Array Value}{o:Nat}{cs:List AVal}(h:cC g w c cs o):∃vs:List Value,vs.length=cs.length∧(∀y∈vs,y.oneCell'=true)∧RL g w cs vs∧∀j,j<vs.length→c[o+j]? =vs[j]? :=by
 induction cs generalizing o with
 |nil=>exact⟨[],rfl,by simp,by simp[RL],by simp⟩
 |cons a as ih=>
  obtain⟨⟨y,h1,h2,h3⟩,h4⟩:=h;obtain⟨vs,q1,q2,q3,q4⟩:=ih h4;refine⟨y::vs,by simp[q1],by simpa using⟨h2,q2⟩,by grind [RL],fun j hj=>?_⟩
  grind
theorem tS{k o:Nat}{cs:List AVal}(h:RC g w cs k o):∃vs:List Value,vs.length=cs.length∧(∀y∈vs,y.oneCell'=true)∧RL g w cs vs∧∀j,j<vs.length→w.cell? ⟨k,o+j,none⟩=vs[j]? :=by
 induction cs generalizing o with
 |nil=>exact⟨[],rfl,by simp,by simp[RL],by simp⟩
 |cons a as ih=>
  simp only[RC]at h;obtain⟨⟨_,y,h1,h2,h3⟩,h4⟩:=h;obtain⟨vs,q1,q2,q3,q4⟩:=ih h4;refine⟨y::vs,by simp[q1],by simpa using⟨h2,q2⟩,by grind [RL],fun j hj=>?_⟩
  grind
theorem o9{cs:List AVal}{vs:List Value}(h:RL g w cs vs)(o n:Nat):RL g w ((cs.drop o).take n) ((vs.drop o).take n):=by
 grind [cK,o7]
theorem fN(k o n:Nat):(⟨k,o,none⟩:Addr).add n=⟨k,o+n,none⟩:=by
 unfold Addr.add;split<;>simp_all
theorem lX{T k o p:Nat}{cs:List AVal}{vs:List Value}{x:AVal}(hl:jy P T cs o=some x)(hv:RL g w cs vs)(h1:∀y∈vs,y.oneCell'=true)
 (hc:∀j,j<vs.length→w.cell? ⟨k,p+j,none⟩=vs[j]?):∃v,(loadVar T ⟨k,p+o,none⟩).run P w=.ok v w∧R g w x v:=by
 obtain⟨hlen,hg⟩:=cK _ _ hv;have hu:=xS hl;unfold jy at hl;unfold loadVar;simp only[Sem.run_bind,Aq hu,Result.andThen_ok];by_cases hagg:eE P T=true
 ·simp only[hagg,if_true]at hl ⊢;cases hs:cB P T with
  |none=>simp[hs]at hl
  |some n=>
   simp only[hs]at hl;split at hl
   ·rename_i hle;simp at hl;subst hl;have hlen':((vs.drop o).take n).length=n:=by simp;omega
    have hrun:=run_loadCells_list (P:=P) w ⟨k,p+o,none⟩ ((vs.drop o).take n) (fun j v hj=>by
     grind [fN])
    rw[hlen']at hrun;refine⟨.agg ((vs.drop o).take n).toArray,?_,?_⟩
    ·simp[cD hs,hrun]
    grind [R,o9]
   ·cases hl
 ·simp only[hagg,hu,if_true]at hl ⊢;obtain⟨y,hy,hr⟩:=hg o x hl;have hlt:o<vs.length:=(List.getElem?_eq_some_iff.1 hy).1;simp_all
theorem D9{T o:Nat}{cs:List AVal}{vs:List Value}{x:AVal}(hl:jy P T cs o=some x)(hv:RL g w cs vs)(h1:∀y∈vs,y.oneCell'=true):
 ∃v,(part T vs.toArray o).run P w=.ok v w∧R g w x v:=by
 obtain⟨hlen,hg⟩:=cK _ _ hv;have hu:=xS hl;unfold jy at hl;unfold part;simp only[Sem.run_bind,Aq hu,Result.andThen_ok];by_cases hagg:eE P T=true
 ·simp only[hagg,if_true]at hl ⊢;cases hs:cB P T with
  |none=>simp[hs]at hl
  |some n=>
   simp only[hs]at hl;split at hl
   ·rename_i hle;simp at hl;subst hl;refine⟨.agg ((vs.drop o).take n).toArray,?_,?_⟩
    ·simp[cD hs,List.take_drop]
    grind [R,o9]
   ·cases hl
 ·simp only[hagg,hu,if_true]at hl ⊢;obtain⟨y,hy,hr⟩:=hg o x hl;exact⟨y,by simp[hy],hr⟩
theorem Ea{x:Operand}{ai:Operand→AVal}(hi:Inv g H w)(hρ:∀x,R g w (ai x) (a.eval x))(ho:o.op=.move x∨o.op=.assign x):bD P a o g H w {val:=ai x}:=by
 refine bD.pure hi ?_ (hρ x);rcases ho with ho |ho<;>simp[execOp,ho]
theorem IL{c x y:Operand}{t:Bool}{ai:Operand→AVal}(hi:Inv g H w)(hρ:∀x,R g w (ai x) (a.eval x))(ho:o.op=.pick c x y)(hc:ai c=.sc (.bool t)):
 bD P a o g H w {val:=if t then ai x else ai y}:=by
 have hb:=hρ c;rw[hc]at hb;simp only[R]at hb;cases t<;>exact bD.pure hi (by simp[execOp,ho,hb,asBool]) (hρ _)
theorem bk(H:List af)(v:AVal)(b:Nat)(x:af):({val:=v,cZ:=[(b,x)]}:cF).apply H=H.set b x:=by simp[cF.apply]
theorem F0{nid:Nat}{cs:List AVal}{vs:List Value}{e:TypeId}{aT:cF}(hi:Inv g H w)(hn:H[nid]? =some .aR)(hl:RL g w cs vs)(h1:∀y∈vs,y.oneCell'=true)(hb:B9 nid cs=some aT)
 (hr:(execOp a.eval o).run P w=.ok (.value (.pointer (some ⟨w.heap.size,0,none⟩))) (w.alloc (.cells vs.toArray e))):bD P a o g H w aT:=by
 unfold B9 at hb;split at hb
 ·rename_i hp;simp at hb;subst hb;obtain⟨hlen,_⟩:=cK _ _ hl;have hc:cC g w vs.toArray cs 0:=cW hl h1 (fun j _=>by simp)
  obtain⟨h2,h3,h4⟩:=hi.alloc (c:=vs.toArray) (e:=e) (rows:=[cs]) (sz:=cs.length) hn hp ⟨⟨rfl,hc⟩,trivial⟩ (by simp[hlen])
  refine⟨_,_,_,.inl hr,by rw[bk];exact h2,?_,by rw[bk];exact h3⟩
  grind [R]
 ·cases hb
theorem gC{T:Nat}{cs:List AVal}(h:ga P T=some cs):∃i z,P.info? T=some i∧i.zero=some z∧cs=z.cells.toList.map .sc∧∀y∈z.cells.toList,y.oneCell'=true:=by
 grind [ga]
theorem HA{nid T:Nat}{aT:cF}(hi:Inv g H w)(hn:H[nid]? =some .aR)(ho:o.op=.alloc T)(h:(ga P T).bind (B9 nid)=some aT):bD P a o g H w aT:=by
 obtain⟨cs,hz,hb⟩:=Option.bind_eq_some_iff.1 h;obtain⟨i,z,h1,h2,rfl,h4⟩:=gC hz;refine F0 (e:=T) (vs:=z.cells.toList) hi hn (y9 _) h4 hb ?_;simp[execOp,ho,Instr.alloc,zeroValue,typeInfo,h1,h2,newVar,newRow]
theorem Gs{T:Nat}(hi:Inv g H w)(ho:o.op=.alloc T)(h:ga P T=some []):bD P a o g H w {val:=.bp [] 0}:=by
 obtain⟨i,z,h1,h2,h3,h4⟩:=gC h;obtain⟨f1,f2⟩:=hi.frame (w1:=w.alloc (.cells z.cells T)) (fun k hk=>RowKit.Below.heap_alloc w _ k hk) (by simp) rfl ⟨rfl,Nat.le_refl _⟩ rfl
 refine⟨.pointer (some ⟨w.heap.size,0,none⟩),w.alloc (.cells z.cells T),g,.inl ?_,by simpa[cF.apply]using f1,?_,by simpa[cF.apply]using f2⟩
 ·simp[execOp,ho,Instr.alloc,zeroValue,typeInfo,h1,h2,newVar,newRow]
 ·simp only[R];exact⟨w.heap.size,0,rfl,rfl,by simp[RC]⟩
theorem HB{nid T:Nat}{x:Operand}{aT:cF}{ai:Operand→AVal}(hi:Inv g H w)(hρ:∀x,R g w (ai x) (a.eval x))(hn:H[nid]? =some .aR)(ho:o.op=.box T x)(h:(ai x).qu.bind (B9 nid)=some aT):bD P a o g H w aT:=by
 obtain⟨cs,hz,hb⟩:=Option.bind_eq_some_iff.1 h;obtain⟨_,h2,h3⟩:=uU (hρ x) hz;refine F0 (e:=T) (vs:=(a.eval x).cells.toList) hi hn h3 h2 hb ?_;simp[execOp,ho,Instr.box,newVar,newRow]
theorem IM{T:Nat}{x:Operand}{aT:cF}{ai:Operand→AVal}(hi:Inv g H w)(hρ:∀x,R g w (ai x) (a.eval x))(ho:o.op=.load T x)(h:(wK P T (ai x)).run H=some aT):bD P a o g H w aT:=by
 have hx:=hρ x;unfold wK at h;split at h
 ·rename_i b off hb;rw[hb]at hx;simp only[R]at hx;obtain⟨y,hy,rfl⟩:=cm h;obtain⟨cs,hcs,hl⟩:=Option.bind_eq_some_iff.1 hy;obtain⟨vs,v1,v2,v3,v4⟩:=tS (hi.b9 _ _ hcs).2;obtain⟨v,r1,r2⟩:=lX (P:=P) (k:=b) (p:=0) hl v3 v2 v4;refine bD.pure hi ?_ r2;simp only[Nat.zero_add]at r1;simp[execOp,ho,hx,Instr.loadAt,Instr.sureAddr,r1]
 ·rename_i b ak i off hb;rw[hb]at hx;simp only[R]at hx;obtain⟨k,sz,hk,hv⟩:=hx;obtain⟨⟨sz',rows⟩,h1,h2⟩:=bind_some h;have hrow:=gb h1;obtain⟨y,hy,rfl⟩:=cm h2;obtain⟨cs,hcs,hl⟩:=Option.bind_eq_some_iff.1 hy;obtain⟨k',c,e,q1,q2,q3,_⟩:=hi.row b ak _ _ hrow hk;rw[hk]at q1;simp at q1;obtain⟨rfl,rfl⟩:=q1;obtain⟨_,q4⟩:=bR _ _ _ _ q3 hcs;obtain⟨vs,v1,v2,v3,v4⟩:=dR q4;obtain⟨v,r1,r2⟩:=lX (P:=P) (k:=k) (p:=0+i*sz) hl v3 v2 (fun j hj=>by rw[fc q2];exact v4 j hj)
  refine bD.pure hi ?_ r2;simp at r1;simp[execOp,ho,hv,Instr.loadAt,Instr.sureAddr,r1]
 ·rename_i cs off hb;rw[hb]at hx;simp only[R]at hx;obtain⟨k,p,hv,_,hc⟩:=hx;obtain⟨y,hy,rfl⟩:=cm h;obtain⟨vs,v1,v2,v3,v4⟩:=tS hc;obtain⟨v,r1,r2⟩:=lX (P:=P) (k:=k) (p:=p) hy v3 v2 v4;refine bD.pure hi ?_ r2;simp[execOp,ho,hv,Instr.loadAt,Instr.sureAddr,r1]
 ·simp[Rd.run]at h
theorem mA(cs:List AVal)(o:Nat)(vs:List AVal):(putAt cs o vs).length=cs.length:=by
 induction vs generalizing cs o with
 |nil=>rfl
 |cons v vs ih=>simp[putAt,ih]
theorem CR(cs:List AVal)(o:Nat)(vs:List AVal)(h:o+vs.length≤cs.length)(j:Nat):(putAt cs o vs)[j]? =if o≤j∧j<o+vs.length then vs[j - o]? else cs[j]? :=by
 induction vs generalizing cs o with
 |nil=>simp[putAt];omega
 |cons v vs ih=>
  grind [putAt]
theorem HC{cs vs:List AVal}{o:Nat}{xs ys:List Value}(h:RL g w cs xs)(h':RL g w vs ys)(hl:o+vs.length≤cs.length):RL g w (putAt cs o vs) (xs.take o++ys++xs.drop (o+ys.length)):=by
 obtain⟨l1,g1⟩:=cK _ _ h;obtain⟨l2,g2⟩:=cK _ _ h';refine o7 _ _ (by simp[mA];omega) fun j x y hx hy=>?_
 rw[CR _ _ _ hl]at hx;split at hx
 ·grind
 ·rename_i hj;obtain⟨z,hz,hr⟩:=g1 _ _ hx;grind
theorem setRow_size(w:World)(k:Nat)(c:Array Value):(w.setRow k c).heap.size=w.heap.size:=by simp[World.setRow]
theorem setRow_other(w:World)(k j:Nat)(c:Array Value)(h:j≠k):(w.setRow k c).heap[j]? =w.heap[j]? :=by
 simp only[World.setRow,Array.getElem?_modify];rw[if_neg (by omega)]
theorem Fv{b ak sz i off k:Nat}{rows:List (List AVal)}{cs ds:List AVal}{ys:List Value}{c:Array Value}{e:TypeId}(hi:Inv g H w)(hrow:H[b]? =some (.row ak sz rows))(hcs:rows[i]? =some cs)(hle:off+ds.length≤cs.length)
 (hk:g.ai b ak=some (k,sz)) (q2:w.heap[k]? =some (.cells c e (0,0))) (y2:∀y∈ys,y.oneCell'=true) (y3:RL g w ds ys):
 i*sz+off+ys.length≤c.size∧Inv g (H.set b (.row ak sz (rows.set i (putAt cs off ds)))) (w.setRow k (c.toList.take (i*sz+off)++ys++c.toList.drop (i*sz+off+ys.length)).toArray)∧
 aK g H w g (H.set b (.row ak sz (rows.set i (putAt cs off ds)))) (w.setRow k (c.toList.take (i*sz+off)++ys++c.toList.drop (i*sz+off+ys.length)).toArray):=by
 obtain⟨k',c',e',p1,p2,q3,q4,q5,q6⟩:=hi.row b ak _ _ hrow hk;rw[hk]at p1;simp at p1;subst p1;rw[q2]at p2;simp at p2;obtain⟨rfl,-⟩:=p2;obtain⟨qlen,qc⟩:=bR _ _ _ _ q3 hcs;obtain⟨us,u1,u2,u3,u4⟩:=dR qc;have hilt:i<rows.length:=(List.getElem?_eq_some_iff.1 hcs).1;have hrm:i*sz+sz≤c.size:=by
  have:(i+1)*sz≤rows.length*sz:=Nat.mul_le_mul_right sz hilt;rw[Nat.add_mul,Nat.one_mul]at this;omega
 have hlen:ys.length=ds.length:=(cK _ _ y3).1;have hrl:=HC (o:=off) u3 y3 hle;have hnewrow:cC g w (c.toList.take (i*sz+off)++ys++c.toList.drop (i*sz+off+ys.length)).toArray (putAt cs off ds) (0+i*sz):=by
  refine cW hrl ?_ ?_
  ·grind
  ·intro j hj;have hul:us.length=cs.length:=u1;have hcu:∀j,j<cs.length→c[i*sz+j]? =us[j]? :=fun j hj=>by
    grind
   simp only[List.length_append,List.length_take,List.length_drop]at hj;simp only[Nat.zero_add,List.getElem?_toArray];by_cases hj1:j<off
   ·grind
   ·by_cases hj2:j<off+ds.length
    ·rw[List.append_assoc,List.getElem?_append_right (by simp;omega),List.getElem?_append_left (by simp;omega),List.append_assoc,List.getElem?_append_right (by simp;omega),List.getElem?_append_left (by simp;omega)]
     congr 1;simp;omega
    ·rw[List.getElem?_append_right (by simp;omega),List.getElem?_append_right (by simp;omega),List.getElem?_drop,List.getElem?_drop]
     have e1:i*sz+off+ys.length+(i*sz+j - (List.take (i*sz+off) c.toList++ys).length)=i*sz+j:=by simp;omega
     have e2:off+ys.length+(j - (List.take off us++ys).length)=j:=by simp;omega
     rw[e1,e2,← hcu j (by omega)];simp
 have hc'size:(c.toList.take (i*sz+off)++ys++c.toList.drop (i*sz+off+ys.length)).toArray.size=c.size:=by simp;omega
 have hother:∀p,(p<i*sz∨i*sz+sz≤p)→(c.toList.take (i*sz+off)++ys++c.toList.drop (i*sz+off+ys.length)).toArray[p]? =c[p]? :=by
  intro p hp;simp only[List.getElem?_toArray];rcases hp with hp |hp
  ·grind
  ·rw[List.getElem?_append_right (by simp;omega),List.getElem?_drop]
   grind
 have hrows:ez g w (c.toList.take (i*sz+off)++ys++c.toList.drop (i*sz+off+ys.length)).toArray sz (rows.set i (putAt cs off ds)) 0:=by
  refine gr _ _ fun j r hr=>?_
  rw[List.getElem?_set]at hr;split at hr
  ·grind [mA]
  ·rename_i hij;obtain⟨r1,r2⟩:=bR _ _ _ _ q3 hr;refine⟨r1,iy _ _ _ (fun p hp=>?_) r2⟩
   apply hother;rw[r1]at hp;rcases Nat.lt_or_ge j i with hji |hji
   ·left;have:(j+1)*sz≤i*sz:=Nat.mul_le_mul_right sz hji;grind
   ·right;have:(i+1)*sz≤j*sz:=Nat.mul_le_mul_right sz (by omega)
    grind
 obtain⟨s1,s2⟩:=hi.store (rows':=rows.set i (putAt cs off ds)) hrow hk q2 (setRow_heap w k c _ e (0,0) q2) hc'size (fun j hj=>setRow_other w k j _ hj) (setRow_size w k _) rfl ⟨rfl,Nat.le_of_eq rfl⟩ rfl hrows (by rw[hc'size];simpa using q4)
 exact⟨by omega,s1,s2⟩
theorem HD{T:Nat}{x y:Operand}{aT:cF}{ai:Operand→AVal}(hi:Inv g H w)(hρ:∀x,R g w (ai x) (a.eval x))(ho:o.op=.store T x y)(h:(xO P T (ai y) (ai x)).run H=some aT):bD P a o g H w aT:=by
 have hx:=hρ x;unfold xO at h;split at h
 ·rename_i b ak i off hb;rw[hb]at hx;simp only[R]at hx;obtain⟨k,sz,hk,hv⟩:=hx;obtain⟨⟨sz',rows⟩,h1,h2⟩:=bind_some h;have hrow:=gb h1;simp only at hrow h2;split at h2
  ·rename_i cs vs hcs hvs;split at h2
   ·rename_i cs' hst;simp[Rd.run]at h2;subst h2;unfold y6 at hst;split at hst
    ·rename_i hle;simp at hst;subst hst;obtain⟨k',c,e,q1,q2,q3,q4,q5,q6⟩:=hi.row b ak _ _ hrow hk;rw[hk]at q1;simp at q1;obtain⟨rfl,rfl⟩:=q1;obtain⟨qlen,qc⟩:=bR _ _ _ _ q3 hcs;unfold qv at hvs;split at hvs
     ·rename_i ds hds;split at hvs
      ·rename_i hsz;simp at hvs;subst hvs;obtain⟨y1,y2,y3⟩:=uU (hρ y) hds;obtain⟨us,u1,u2,u3,u4⟩:=dR qc;have hilt:i<rows.length:=(List.getElem?_eq_some_iff.1 hcs).1;have hrm:i*sz+sz≤c.size:=by
        have:(i+1)*sz≤rows.length*sz:=Nat.mul_le_mul_right sz hilt;rw[Nat.add_mul,Nat.one_mul]at this;omega
       have hrun:=run_storeCells_at P k (i*sz+off) e (a.eval y).cells.toList 0 c w q2 (by simp[y1];omega) y2
       have hev:(execOp a.eval o).run P w=.ok .skip (w.setRow k (c.toList.take (i*sz+off)++(a.eval y).cells.toList++c.toList.drop (i*sz+off+(a.eval y).cells.toList.length)).toArray):=by
        simp only[execOp,ho];simp[hv,Instr.storeAt,Instr.sureAddr,storeVar,cD hsz,y1];simpa[y1]using congrArg (fun r=>r.andThen fun _ w'=>Result.ok Next.skip w') hrun
       have hlen:(a.eval y).cells.toList.length=ds.length:=by simpa using y1
       have hrl:=HC (o:=off) u3 y3 hle;have hnewrow:cC g w (c.toList.take (i*sz+off)++(a.eval y).cells.toList++c.toList.drop (i*sz+off+(a.eval y).cells.toList.length)).toArray (putAt cs off ds) (0+i*sz):=by
        refine cW hrl ?_ ?_
        ·grind
        ·intro j hj;have hul:us.length=cs.length:=u1;have hcu:∀j,j<cs.length→c[i*sz+j]? =us[j]? :=fun j hj=>by
          grind
         simp only[List.length_append,List.length_take,List.length_drop]at hj;simp only[Nat.zero_add,List.getElem?_toArray];by_cases hj1:j<off
         ·grind
         ·by_cases hj2:j<off+ds.length
          ·rw[List.append_assoc,List.getElem?_append_right (by simp;omega),List.getElem?_append_left (by simp;omega),List.append_assoc,List.getElem?_append_right (by simp;omega),List.getElem?_append_left (by simp;omega)]
           grind
          ·rw[List.getElem?_append_right (by simp;omega),List.getElem?_append_right (by simp;omega),List.getElem?_drop,List.getElem?_drop]
           grind
       have hc'size:(c.toList.take (i*sz+off)++(a.eval y).cells.toList++c.toList.drop (i*sz+off+(a.eval y).cells.toList.length)).toArray.size=c.size:=by simp;omega
       have hother:∀p,(p<i*sz∨i*sz+sz≤p)→(c.toList.take (i*sz+off)++(a.eval y).cells.toList++c.toList.drop (i*sz+off+(a.eval y).cells.toList.length)).toArray[p]? =c[p]? :=by
        intro p hp;simp only[List.getElem?_toArray];rcases hp with hp |hp
        ·grind
        ·rw[List.getElem?_append_right (by simp;omega),List.getElem?_drop]
         have e1:i*sz+off+(a.eval y).cells.toList.length+(p - (List.take (i*sz+off) c.toList++(a.eval y).cells.toList).length)=p:=by simp;omega
         rw[e1];simp
       have hrows:ez g w (c.toList.take (i*sz+off)++(a.eval y).cells.toList++c.toList.drop (i*sz+off+(a.eval y).cells.toList.length)).toArray sz (rows.set i (putAt cs off ds)) 0:=by
        refine gr _ _ fun j r hr=>?_
        rw[List.getElem?_set]at hr;split at hr
        ·grind [mA]
        ·rename_i hij;obtain⟨r1,r2⟩:=bR _ _ _ _ q3 hr;refine⟨r1,iy _ _ _ (fun p hp=>?_) r2⟩
         apply hother;rw[r1]at hp;rcases Nat.lt_or_ge j i with hji |hji
         ·left;have:(j+1)*sz≤i*sz:=Nat.mul_le_mul_right sz hji;grind
         ·right;have:(i+1)*sz≤j*sz:=Nat.mul_le_mul_right sz (by omega)
          grind
       obtain⟨s1,s2⟩:=hi.store (rows':=rows.set i (putAt cs off ds)) hrow hk q2 (setRow_heap w k c _ e (0,0) q2) hc'size (fun j hj=>setRow_other w k j _ hj) (setRow_size w k _) rfl ⟨rfl,Nat.le_of_eq rfl⟩ rfl hrows (by rw[hc'size];simpa using q4)
       exact⟨undef,_,g,.inr ⟨hev,rfl⟩,by rw[bk];exact s1,by simp[nothing,R,undef],by rw[bk];exact s2⟩
      ·cases hvs
     ·cases hvs
    ·cases hst
   ·simp[Rd.run]at h2
  ·simp[Rd.run]at h2
 ·
  rename_i cs off hb;rw[hb]at hx;simp only[R]at hx;obtain⟨k,of0,hv,_⟩:=hx;split at h
  ·rename_i hvs;simp[Rd.run]at h;subst h;unfold qv at hvs;split at hvs
   ·rename_i ds hds;split at hvs
    ·rename_i hsz;simp at hvs;subst hvs;obtain⟨y1,y2,y3⟩:=uU (hρ y) hds;have hnil:(a.eval y).cells.toList=[]:=List.eq_nil_of_length_eq_zero (by simpa using y1)
     have hsize:(a.eval y).cells.size=0:=by simpa using y1
     have hev:(execOp a.eval o).run P w=.ok .skip w:=by
      simp only[execOp,ho];simp[hv,Instr.storeAt,Instr.sureAddr,storeVar,cD hsz,hnil,hsize,storeCells]
     exact⟨undef,w,g,.inr ⟨hev,rfl⟩,by simpa[cF.apply]using hi,by simp[nothing,R,undef],by simpa[cF.apply]using aK.refl g H w⟩
    ·cases hvs
   ·cases hvs
  ·simp[Rd.run]at h
 ·simp[Rd.run]at h
end
end Go.AM
end
section
namespace Go.AM
section
variable [ax] {P:Program} {g:Gh}
theorem iW:∀{ks:List Kd} {xs ys:List AVal} {b:Bool},cz ks xs ys=some b→xs.length=ks.length∧ys.length=ks.length
 | [],[],[],_,_=>by simp
 | [],[],_::_,_,h=>by simp[cz]at h
 | [],_::_,_,_,h=>by simp[cz]at h
 |_::_,[],_,_,h=>by simp[cz]at h
 |_::_,_::_,[],_,h=>by simp[cz]at h
 |q::qs,a::as,c::cs,b,h=>by
  simp only[cz]at h;split at h
  ·rename_i x y h1 h2;have:=iW h2;simp;omega
  ·cases h
theorem qx:∀{ks ls:List Kd} {xs ys:List AVal} {b:Bool},cz (ks++ls) xs ys=some b→
 ∃b1 b2,cz ks (xs.take ks.length) (ys.take ks.length)=some b1∧cz ls (xs.drop ks.length) (ys.drop ks.length)=some b2∧b=(b1&&b2)
 | [],ls,xs,ys,b,h=>⟨true,b,by simp[cz],by simpa using h,by simp⟩
 |q::qs,ls,[],_,_,h=>by simp[cz]at h
 |q::qs,ls,_::_,[],_,h=>by simp[cz]at h
 |q::qs,ls,a::as,c::cs,b,h=>by
  simp only[List.cons_append,cz]at h;split at h
  ·rename_i x y h1 h2;simp at h;subst h;obtain⟨b1,b2,e1,e2,e3⟩:=qx h2;grind [cz]
  ·cases h
def gX(P:Program)(t:TypeId)(vs:List Value)(x:Value):Prop:=if eE P t=true then x=.agg vs.toArray else vs=[x]
theorem ng{t n off:Nat}{vs:List Value}{w:World}(hs:cB P t=some n)(hu:(P.underlying t).isSome)(h1:eE P t=false→n=1∧off<vs.length):
 ∃x,(part t vs.toArray off).run P w=.ok x w∧gX P t ((vs.drop off).take n) x:=by
 unfold part gX;simp only[Sem.run_bind,Aq hu,Result.andThen_ok];by_cases ha:eE P t=true
 ·simp only[ha,if_true];exact⟨_,by simp only[Sem.run_bind,cD hs,Result.andThen_ok,Sem.run_pure];rfl,by simp[List.take_drop]⟩
 ·obtain⟨h2,hlt⟩:=h1 (by simpa using ha)
  subst h2;have hd:(vs.drop off).take 1=[vs[off]]:=by
   rw[List.drop_eq_getElem_cons hlt];simp only[List.take_succ_cons,List.take_zero]
  simp_all
theorem je:∀{d t:Nat} {ks:List Kd},cS P d t=some ks→cB P t=some ks.length∧(P.underlying t).isSome=true∧(eE P t=false→ks.length=1)
 | 0,_,_,h=>by simp[cS]at h
 |d+1,t,ks,h=>by
  unfold cS at h;unfold eE;split at h
  ·grind
  ·grind
  ·grind
  ·grind
  ·rename_i n e hu;split at h
   ·split at h<;>simp at h
    subst h;simp_all
   ·cases h
  ·cases h
def KM(P:Program)(g:Gh)(D d t:Nat):Prop:=∀(ks:List Kd),cS P d t=some ks→∀{cs ds:List AVal} {vs us:List Value} {b:Bool} {w:World} {x y:Value},RL g w cs vs→RL g w ds us→cz ks cs ds=some b→
 gX P t vs x→gX P t us y→(Op.equalIn (D+d) t x y).run P w=.ok b w
theorem xC{D d:Nat}(IH:∀t,KM P g D d t):∀(fs:List Field) (off:Nat) {ks:List Kd},cS.kindsFields P (cS P d) fs off=some ks→∀{cs ds:List AVal} {vs us:List Value} {b:Bool} {w:World},RL g w cs vs→RL g w ds us→
 cz ks (cs.drop off) (ds.drop off)=some b→(Op.eqFields (D+d) vs.toArray us.toArray fs).run P w=.ok b w
 | [],off,ks,h,cs,ds,vs,us,b,w,hc,hd,he=>by
  simp[cS.kindsFields]at h;subst h;have:b=true:=by
   cases hx:cs.drop off<;>cases hy:ds.drop off<;>simp[hx,hy,cz]at he
   exact he
  subst this;simp[Op.eqFields]
 |f::fs,off,ks,h,cs,ds,vs,us,b,w,hc,hd,he=>by
  unfold cS.kindsFields at h;split at h
  ·rename_i hf;split at h
   ·rename_i k1 hk;split at h
    ·rename_i hsz;obtain⟨k2,hk2,rfl⟩:=Option.map_eq_some_iff.1 h;obtain⟨s1,s2,s3⟩:=je hk;obtain⟨b1,b2,e1,e2,rfl⟩:=qx he;obtain⟨l1,l2⟩:=iW he;simp only[List.length_append,List.length_drop]at l1 l2;obtain⟨lc,_⟩:=cK _ _ hc;obtain⟨ld,_⟩:=cK _ _ hd;have ec:=iW e1;simp only[List.length_take,List.length_drop]at ec;have hlen:eE P f.type=false→k1.length=1∧off<vs.length∧off<us.length:=fun ha=>by
      have:=s3 ha;omega
     obtain⟨x,p1,p2⟩:=ng (P:=P) (w:=w) (vs:=vs) (off:=off) s1 s2 (fun ha=>⟨(hlen ha).1,(hlen ha).2.1⟩)
     obtain⟨y,p3,p4⟩:=ng (P:=P) (w:=w) (vs:=us) (off:=off) s1 s2 (fun ha=>⟨(hlen ha).1,(hlen ha).2.2⟩)
     have heq:=IH f.type _ hk (w:=w) (o9 hc off k1.length) (o9 hd off k1.length) e1 p2 p4;have htail:=xC IH fs (off+k1.length) hk2 (w:=w) hc hd (by simpa[List.drop_drop]using e2)
     simp only[Op.eqFields,hf.1,ne_eq,not_false_eq_true,if_true,Sem.run_bind,hf.2,p1,p3,Result.andThen_ok,heq];cases b1
     ·simp
     ·simpa using htail
    ·cases h
   ·cases h
  ·cases h
theorem xU{D d e:Nat}(IH:KM P g D d e){k:List Kd}(hk:cS P d e=some k):∀(n m:Nat),∀{cs ds:List AVal} {vs us:List Value} {b:Bool} {w:World},RL g w cs vs→RL g w ds us→
 cz (List.replicate n k).flatten (cs.drop (m*k.length)) (ds.drop (m*k.length))=some b→(Op.eqItems (D+d) e k.length vs.toArray us.toArray (List.range' m n)).run P w=.ok b w
 | 0,m,cs,ds,vs,us,b,w,hc,hd,he=>by
  have:b=true:=by
   cases hx:cs.drop (m*k.length)<;>cases hy:ds.drop (m*k.length)<;>simp[hx,hy,cz]at he
   exact he
  subst this;simp[Op.eqItems]
 |n+1,m,cs,ds,vs,us,b,w,hc,hd,he=>by
  obtain⟨s1,s2,s3⟩:=je hk;rw[List.replicate_succ,List.flatten_cons]at he;obtain⟨b1,b2,e1,e2,rfl⟩:=qx he;obtain⟨l1,l2⟩:=iW he;simp only[List.length_append,List.length_drop]at l1 l2;obtain⟨lc,_⟩:=cK _ _ hc;obtain⟨ld,_⟩:=cK _ _ hd;have hlen:eE P e=false→k.length=1∧m*k.length<vs.length∧m*k.length<us.length:=fun ha=>by
   have:=s3 ha;omega
  obtain⟨x,p1,p2⟩:=ng (P:=P) (w:=w) (vs:=vs) (off:=m*k.length) s1 s2 (fun ha=>⟨(hlen ha).1,(hlen ha).2.1⟩)
  obtain⟨y,p3,p4⟩:=ng (P:=P) (w:=w) (vs:=us) (off:=m*k.length) s1 s2 (fun ha=>⟨(hlen ha).1,(hlen ha).2.2⟩)
  have heq:=IH _ hk (w:=w) (o9 hc _ k.length) (o9 hd _ k.length) e1 p2 p4;have htail:=xU IH hk n (m+1) (w:=w) hc hd (by rw[Nat.add_mul,Nat.one_mul];simpa[List.drop_drop]using e2)
  simp only[List.range'_succ,Op.eqItems,Sem.run_bind,p1,p3,Result.andThen_ok,heq];cases b1
  ·simp
  ·simpa using htail
theorem pe(D:Nat):∀(d t:Nat),KM P g D d t
 | 0,t=>by intro ks h;simp[cS]at h
 |d+1,t=>by
  intro ks h cs ds vs us b w x y hc hd he hx hy;have leaf:∀q,ks=[q]→eE P t=false→∃c e,cs=[c]∧ds=[e]∧vS q c e=some b∧R g w c x∧R g w e y:=by
   intro q hq ha;subst hq;obtain⟨l1,l2⟩:=iW he
   match cs,ds,l1,l2 with
   | [c],[e],_,_=>
    grind [cz,gX,RL]
  unfold cS at h;split at h
  ·rename_i hu;split at h<;>simp at h
   obtain⟨c,e,_,_,h1,r1,r2⟩:=leaf _ h.symm (by simp[eE,hu])
   unfold vS at h1;split at h1<;>simp_all [R]
   subst h1;exact run_equalIn_bool' w _ _ _ _ hu
  ·rename_i k hu;split at h<;>simp at h
   obtain⟨c,e,_,_,h1,r1,r2⟩:=leaf _ h.symm (by simp[eE,hu])
   unfold vS at h1;split at h1<;>simp_all [R]
   obtain⟨⟨rfl,rfl⟩,rfl⟩:=h1;exact run_equalIn_int w _ _ _ _ _ _ hu
  ·rename_i hu;split at h<;>simp at h
   obtain⟨c,e,_,_,h1,r1,r2⟩:=leaf _ h.symm (by simp[eE,hu])
   unfold vS at h1;split at h1<;>simp_all [R]
   subst h1;exact run_equalIn_string w _ _ _ _ hu
  ·rename_i fs hu;split at h
   ·cases h
   ·rename_i hst;split at h
    ·rename_i ks' hks;split at h<;>simp at h
     subst h;have ha:eE P t=true:=by simp[eE,hu]
     simp only[gX,ha,if_true]at hx hy;subst hx;subst hy;have hfs:P.fieldsOf t=fs:=by simp[Program.fieldsOf,hu]
     rw[← Nat.add_assoc,run_equalIn_struct w (D+d) t _ _ (by rw[hfs];exact hu) (by simpa using hst),hfs]
     exact xC (pe D d) fs.toList 0 hks hc hd (by simpa using he)
    ·cases h
  ·rename_i n e hu;split at h
   ·rename_i ks' hks;split at h<;>simp at h
    rename_i hsz;subst h;have ha:eE P t=true:=by simp[eE,hu]
    simp only[gX,ha,if_true]at hx hy;subst hx;subst hy;simp only[Bool.and_eq_true,beq_iff_eq]at hsz;have hi:∃i,P.info? e=some i∧i.size=ks'.length:=by
     unfold cB at hsz;cases hq:P.info? e with
     |none=>simp[hq]at hsz
     |some i=>grind
    obtain⟨i,hi,hsi⟩:=hi;have hce:P.cellsOf e=ks'.length:=by simp[Program.cellsOf,hi,hsi]
    rw[← Nat.add_assoc,run_equalIn_array w (D+d) _ _ hu hi,hce,List.range_eq_range'];exact xU (pe D d e) hks n 0 hc hd (by simpa using he)
   ·cases h
  ·cases h
end
end Go.AM
end
section
namespace Go.AM
section
variable [ax] {P:Program} {a:Act} {o:Oper} {g:Gh} {H:List af} {w:World} {ai:Operand→AVal}
theorem eC{v x:Value}(h:R g w (.sc v) x):x=v:=by simpa[R]using h
theorem HE{op:BinOp}{k:IntKind}{x y:Int}{v:AVal}{T:Nat}(h:A4 op k x y=some v):∃u,v=.sc u∧(binOp op T (.int k x) (.int k y)).run P w=.ok u w:=by
 unfold A4 at h;cases op<;>simp only at h
 case quo=>split at h<;>simp at h;subst h;rename_i h0;exact⟨_,rfl,by simp[binOp,Op.intDiv,h0]⟩
 case rem=>split at h<;>simp at h;subst h;rename_i h0;exact⟨_,rfl,by simp[binOp,Op.intDiv,h0]⟩
 all_goals (try simp at h)
 all_goals (try (subst h;refine⟨_,rfl,?_⟩;simp[binOp,Op.intArith,Op.intBits,Op.intCmp]))
theorem HF{op:BinOp}{x y:ByteArray}{v:AVal}{T:Nat}(h:Gm op x y=some v):∃u,v=.sc u∧(binOp op T (.string x) (.string y)).run P w=.ok u w:=by
 unfold Gm at h;cases op<;>simp only at h
 case add=>
  split at h<;>simp at h
  rename_i hle;subst h;refine⟨_,rfl,?_⟩;simp only[binOp,Op.stringOp];rw[if_neg (by simp[IntKind.max,IntKind.bits,IntKind.signed];omega)]
  rfl
 all_goals (try simp at h)
 all_goals (try (subst h;refine⟨_,rfl,?_⟩;simp[binOp,Op.stringOp]))
theorem sN{op:BinOp}{T:Nat}{x y:Operand}{u v:Value}(h:(∀cs,u≠ .agg cs)∧u≠ .nilIface):(eqGuard op T x y u v).run P w=.ok () w:=by
 cases op<;>cases u<;>first |exact absurd rfl h.2|exact absurd rfl (h.1 _) |rfl | (cases v<;>rfl)
theorem HG{op:BinOp}{T yT:Nat}{x y:Operand}{v:AVal}(hi:Inv g H w)(hρ:∀x,R g w (ai x) (a.eval x))(ho:o.op=.binOp op T x y yT)(h:B8 P op T (ai x) (ai y)=some v):bD P a o g H w {val:=v}:=by
 have hx:=hρ x;have hy:=hρ y;have fin:∀{u:Value},v=.sc u→(eqGuard op T x y (a.eval x) (a.eval y)).run P w=.ok () w→(binOp op T (a.eval x) (a.eval y)).run P w=.ok u w→bD P a o g H w {val:=v}:=by
  intro u hv h1 h2;subst hv;refine bD.pure hi ?_ (by simp[R]:R g w (.sc u) u)
  simp[execOp,ho,h1,h2]
 unfold B8 at h;split at h
 ·rename_i k p k' q e1 e2;rw[e1]at hx;rw[e2]at hy;have hx:=eC hx;have hy:=eC hy;have hg:(eqGuard op T x y (a.eval x) (a.eval y)).run P w=.ok () w:=by rw[hx];exact sN ⟨by simp,by simp⟩
  split at h
  ·split at h<;>simp at h
   subst h;exact fin rfl hg (by rw[hx,hy];simp[binOp,Op.shift, *])
  ·split at h<;>simp at h
   subst h;exact fin rfl hg (by rw[hx,hy];simp[binOp,Op.shift, *])
  ·split at h
   ·rename_i hk;subst hk;obtain⟨u,h1,h2⟩:=HE (T:=T) (P:=P) (w:=w) h;grind
   ·cases h
 ·rename_i p q e1 e2;rw[e1]at hx;rw[e2]at hy;have hx:=eC hx;have hy:=eC hy;obtain⟨u,h1,h2⟩:=HF (T:=T) (P:=P) (w:=w) h;grind [sN]
 ·rename_i p q e1 e2;rw[e1]at hx;rw[e2]at hy;have hx:=eC hx;have hy:=eC hy;have hg:(eqGuard op T x y (a.eval x) (a.eval y)).run P w=.ok () w:=by rw[hx];exact sN ⟨by simp,by simp⟩
  have e:=run_equalIn_bool' (P:=P) w 9999 T p q;split at h<;>simp at h
  all_goals
   subst h;rename_i hu;exact fin rfl hg (by rw[hx,hy];simp[binOp,Op.equal,Op.maxDepth,e hu])
 ·rename_i xs ys e1 e2;rw[e1]at hx;rw[e2]at hy;simp only[R]at hx hy;obtain⟨vs,hx,_,hl⟩:=hx;obtain⟨us,hy,_,hl'⟩:=hy;split at h
  ·cases h
  ·rename_i hgt;split at h
   ·rename_i ks hks;obtain⟨s1,s2,s3⟩:=je hks;have key:∀{b},cz ks xs ys=some b→(Op.equalIn 10000 T (.agg vs.toArray) (.agg us.toArray)).run P w=.ok b w:=by
     intro b hb;have ha:eE P T=true:=by simp at hgt;exact hgt.2
     exact pe (g:=g) 9991 9 T ks hks hl hl' hb (by simp[gX,ha]) (by simp[gX,ha])
    have hg:(eqGuard op T x y (a.eval x) (a.eval y)).run P w=.ok () w:=by
     rw[hx,hy];exact run_eqGuard_agg w op T x y _ _ (by simp at hgt;exact hgt.1)
    split at h<;>simp at h
    ·rename_i hb;subst h;exact fin rfl hg (by rw[hx,hy,run_eql_struct,key hb];rfl)
    ·rename_i hb;subst h;exact fin rfl hg (by rw[hx,hy,run_neq_struct,key hb];rfl)
   ·cases h
 ·cases h
theorem IQ{op:UnOp}{T:Nat}{x:Operand}{v:AVal}(hi:Inv g H w)(hρ:∀x,R g w (ai x) (a.eval x))(ho:o.op=.unOp op T x)(h:KL op (ai x)=some v):bD P a o g H w {val:=v}:=by
 have hx:=hρ x;unfold KL at h;split at h
 ·rename_i b e;rw[e]at hx;have hx:=eC hx;split at h<;>simp at h
  subst h;exact bD.pure hi (v:=.bool !b) (by simp[execOp,ho,hx,Op.unary]) (by simp[R])
 ·rename_i k n e;rw[e]at hx;have hx:=eC hx;split at h
  ·simp at h;subst h;exact bD.pure hi (v:=.int k (k.wrap (0 - n))) (by simp[execOp,ho,hx,Op.unary,Op.intArith]) (by simp[R])
  ·simp[A4]at h;subst h;exact bD.pure hi (v:=_) (by simp only[execOp,ho,hx,Op.unary,Op.intBits];rfl) (by simp[R])
  ·cases h
 ·cases h
theorem Fw{s d:Nat}{x:Operand}{v:AVal}(hi:Inv g H w)(hρ:∀x,R g w (ai x) (a.eval x))(ho:o.op=.convert s d x)(h:Gn P s d (ai x)=some v):bD P a o g H w {val:=v}:=by
 have hx:=hρ x;unfold Gn at h;split at h
 ·rename_i k n e;rw[e]at hx;have hx:=eC hx;split at h<;>simp at h
  rename_i q k' hs hd;subst h;exact bD.pure hi (v:=.int k' (k'.wrap n)) (by simp[execOp,ho,hx,convert,run_underlying hs,run_underlying hd,Conv.intToInt]) (by simp[R])
 ·rename_i t e;rw[e]at hx;have hx:=eC hx;split at h<;>simp at h
  rename_i hs hd;subst h;exact bD.pure hi (v:=.string t) (by simp[execOp,ho,hx,convert,run_underlying hs,run_underlying hd]) (by simp[R])
 ·cases h
theorem zF{T:Nat}{x:Operand}(hi:Inv g H w)(hρ:∀x,R g w (ai x) (a.eval x))(ho:o.op=.makeInterface T x)(hu:(P.underlying T).isSome)(hn:∀ms,P.underlying T≠some (.interface ms)):bD P a o g H w {val:=.ei T (ai x)}:=by
 obtain⟨d,hd⟩:=Option.isSome_iff_exists.1 hu;refine bD.pure hi (v:=.iface T (a.eval x)) ?_ (by grind [R])
 simp only[execOp,ho,Instr.makeInterface,Sem.run_bind,run_underlying hd,Result.andThen_ok];simp_all
theorem Eb(hρ:∀x,R g w (ai x) (a.eval x)):∀(l:List Operand),RL g w (l.map ai) (l.map a.eval)
 | []=>by simp[RL]
 |x::l=>by simp only[List.map_cons,RL];exact⟨_,_,rfl,hρ x,Eb hρ l⟩
theorem Ec{f:Fn}{x y:Array Operand}(hi:Inv g H w)(hρ:∀x,R g w (ai x) (a.eval x))(ho:o.op=.makeFunc f x y):bD P a o g H w {val:=.fn f (x.toList.map ai) (y.toList.map ai)}:=by
 refine bD.pure hi (v:=.func f (x.map a.eval) (y.map a.eval)) (by simp[execOp,ho,Instr.makeFunc]) ?_
 simp only[R];exact⟨(x.map a.eval).toList,(y.map a.eval).toList,by simp only[Array.toArray_toList],by simpa using Eb hρ x.toList,by simpa using Eb hρ y.toList⟩
theorem pg{x:Operand}{v:AVal}(hi:Inv g H w)(hρ:∀x,R g w (ai x) (a.eval x))(ho:o.op=.nilCheck x)(h:ai x=v)(hv:(∃b ak i o,v=.ptr b ak i o)∨(∃cs o,v=.bp cs o)∨(∃i o,v=.eU i o)∨(∃f p q,v=.fn (.func f) p q)):bD P a o g H w {val:=v}:=by
 have hx:=hρ x;rw[h]at hx;refine bD.pure hi (v:=a.eval x) ?_ hx;rcases hv with⟨b,ak,i,o',rfl⟩ |⟨cs,o',rfl⟩ |⟨i,o',rfl⟩ |⟨f,p,q,rfl⟩<;>simp only[R]at hx
 ·obtain⟨_,_,_,e⟩:=hx;simp[execOp,ho,e]
 ·obtain⟨_,_,e,_⟩:=hx;simp[execOp,ho,e]
 ·simp[execOp,ho,hx]
 ·obtain⟨_,_,e,_⟩:=hx;simp[execOp,ho,e]
theorem Fx{x:Operand}{i:Nat}{cs:List AVal}{v:AVal}(hi:Inv g H w)(hρ:∀x,R g w (ai x) (a.eval x))(ho:o.op=.extract x i)(he:ai x=.bV cs)(h:cs[i]? =some v):bD P a o g H w {val:=v}:=by
 have hx:=hρ x;rw[he]at hx;simp only[R]at hx;obtain⟨vs,e,hl⟩:=hx;obtain⟨u,hu,hr⟩:=(cK _ _ hl).2 i v h;exact bD.pure hi (v:=u) (by simp[execOp,ho,e,Instr.extract,hu]) hr
theorem xV{T f:Nat}{fd:Field}(h:tJ P T f=some fd):∃fs,P.underlying T=some (.struct fs)∧fs[f]? =some fd:=by
 grind [tJ]
theorem Ed{x:AVal}{v:Value}{n:Nat}{y:AVal}(hx:R g w x v)(h:tK n x=some y):∃k o,v=.pointer (some ⟨k,o,none⟩)∧R g w y (.pointer (some ⟨k,o+n,none⟩)):=by
 unfold tK at h;grind [R]
theorem Dv{T f n:Nat}{x:Operand}{fd:Field}{y:AVal}(hi:Inv g H w)(hρ:∀x,R g w (ai x) (a.eval x))(ho:o.op=.fieldAddr T x f)(hf:tJ P T f=some fd)(hs:cB P fd.type=some (n+1))(h:tK fd.offset (ai x)=some y):bD P a o g H w {val:=y}:=by
 obtain⟨fs,hu,hfs⟩:=xV hf;obtain⟨k,p,e,hr⟩:=Ed (hρ x) h;refine bD.pure hi (v:=_) ?_ hr;simp[execOp,ho,Instr.fieldAt,run_underlying hu,hfs,e,Instr.sureAddr,fieldPlace,cD hs,fN]
theorem HH{T f:Nat}{x:Operand}{fd:Field}{cs:List AVal}{y:AVal}(hi:Inv g H w)(hρ:∀x,R g w (ai x) (a.eval x))(ho:o.op=.field T x f)(hf:tJ P T f=some fd)(he:ai x=.agg cs)(h:jy P fd.type cs fd.offset=some y):bD P a o g H w {val:=y}:=by
 obtain⟨fs,hu,hfs⟩:=xV hf;have hx:=hρ x;rw[he]at hx;simp only[R]at hx;obtain⟨vs,e,h1,hl⟩:=hx;obtain⟨v,r1,r2⟩:=D9 (P:=P) (w:=w) h hl h1;refine bD.pure hi (v:=v) ?_ r2;simp[execOp,ho,Instr.field,run_underlying hu,hfs,e,asAgg,r1]
theorem A7{k sz:Nat}:∀{rows:List (List AVal)} {off i:Nat} {r:List AVal},RR g w rows k off sz→rows[i]? =some r→r.length=sz∧AVal.aO r=true∧RC g w r k (off+i*sz)
 | [],_,_,_,_,h=>by simp at h
 |q::qs,off,0,r,h,hr=>by
  grind [RR]
 |q::qs,off,i+1,r,h,hr=>by
  simp only[RR]at h;have:=A7 h.2 (by simpa using hr:qs[i]? =some r)
  grind
theorem mB:∀{l:List AVal},AVal.aO l=true↔∀x∈l,x.pure=true
 | []=>by simp[AVal.aO]
 |a::as=>by simp[AVal.aO,mB (l:=as)]
theorem HI{k:Nat}:∀{l:List AVal} {o:Nat},RC g w l k o→∀(i:Nat) (x:AVal),l[i]? =some x→g.st k (o+i)∧∃y,w.cell? ⟨k,o+i,none⟩=some y∧y.oneCell'=true∧R g w x y
 | [],_,_,_,_,h=>by simp at h
 |a::as,o,h,0,x,hx=>by
  grind [RC]
 |a::as,o,h,i+1,x,hx=>by
  simp only[RC]at h;have:=HI h.2 i x (by simpa using hx)
  grind
theorem HJ{k:Nat}:∀{l:List AVal} {o:Nat},(∀(i:Nat) (x:AVal),l[i]? =some x→g.st k (o+i)∧∃y,w.cell? ⟨k,o+i,none⟩=some y∧y.oneCell'=true∧R g w x y)→RC g w l k o
 | [],_,_=>by simp[RC]
 |a::as,o,h=>by
  simp only[RC];refine⟨by simpa using h 0 a (by simp),HJ fun i x hx=>?_⟩
  have:=h (i+1) x (by simpa using hx)
  grind
theorem Ee{k o p n:Nat}{l:List AVal}(h:RC g w l k o):RC g w ((l.drop p).take n) k (o+p):=
 HJ fun i x hx=>by
  rw[List.getElem?_take]at hx;split at hx
  ·rw[List.getElem?_drop]at hx;have:=HI h _ x hx;rwa[← Nat.add_assoc]at this
  ·cases hx
theorem CS{l:List AVal}{p n:Nat}(h:AVal.aO l=true):AVal.aO ((l.drop p).take n)=true:=
 mB.2 fun x hx=>mB.1 h x (List.mem_of_mem_drop (List.mem_of_mem_take hx))
theorem iz(sz:Nat):∀(n:Nat) (cs:List AVal),(chunks sz n cs).length=n
 | 0,_=>rfl
 |n+1,cs=>by simp[chunks,iz sz n]
theorem vp(sz:Nat):∀(n:Nat) (cs:List AVal),cs.length=n*sz→(∀r∈chunks sz n cs,r.length=sz)∧(chunks sz n cs).flatten=cs
 | 0,cs,h=>by grind [chunks]
 |n+1,cs,h=>by
  rw[Nat.add_mul,Nat.one_mul]at h;obtain⟨h1,h2⟩:=vp sz n (cs.drop sz) (by simp;omega)
  refine⟨?_,?_⟩
  ·grind [chunks]
  ·simp[chunks,h2]
theorem xW{k s:Nat}:∀(n:Nat) {l:List AVal} {o:Nat},l.length=n*s→AVal.aO l=true→RC g w l k o→RR g w (chunks s n l) k o s
 | 0,_,_,_,_,_=>by simp[chunks,RR]
 |n+1,l,o,hl,hp,h=>by
  rw[Nat.add_mul,Nat.one_mul]at hl;simp only[chunks,RR];refine⟨⟨by simp;omega,?_,?_⟩,xW n (by simp;omega) ?_ ?_⟩
  ·have:=CS (p:=0) (n:=s) hp;simpa using this
  ·have:=Ee (p:=0) (n:=s) h;simpa using this
  ·grind [mB]
  ·have:=Ee (p:=s) (n:=l.length) h;rwa[List.take_of_length_le (by simp)]at this
theorem Dw{T:Nat}{x ix:Operand}{q:IntKind}{n:Int}{y:AVal}(hi:Inv g H w)(hρ:∀x,R g w (ai x) (a.eval x))(ho:o.op=.indexAddr T x ix)(hn:ai ix=.sc (.int q n))(h:jA P T (ai x) n=some y):bD P a o g H w {val:=y}:=by
 have hx:=hρ x;have hix:=hρ ix;rw[hn]at hix;have hix:=eC hix;unfold jA at h;split at h
 ·rename_i e rows hu e1;split at h
  ·rename_i hn0;obtain⟨r,hr,h⟩:=Option.bind_eq_some_iff.1 h;split at h<;>simp at h
   rename_i hsz;subst h;rw[e1]at hx;simp only[R]at hx;obtain⟨ad,cap,ex,_,hc⟩:=hx;have hlt:n.toNat<rows.length:=(List.getElem?_eq_some_iff.1 hr).1;rcases hc with h0 |⟨k,off,sz,rfl,hrr⟩
   ·omega
   ·obtain⟨r1,r2,r3⟩:=A7 hrr hr;have hs2:=cD (w:=w) hsz;refine bD.pure hi (v:=.pointer (some ⟨k,off+n.toNat*sz,none⟩)) ?_ (by grind [R])
    have hin:0≤n∧n<(rows.length:Int):=⟨hn0,by omega⟩
    simp[execOp,ho,Instr.indexAt,hix,asIntOf,run_underlying hu,ex,hin,hs2,fN,r1]
  ·cases h
 ·rename_i e b ak sz ob m hu e1;split at h<;>simp at h
  rename_i hc;obtain⟨hc1,hc2,hc3⟩:=hc;subst h;rw[e1]at hx;simp only[R]at hx;rcases hx with⟨rfl,_⟩ |⟨k,cap,e',s,hk,ex,hsh,hcap,hm,_⟩
  ·omega
  have hs2:=cD (w:=w) hc3;refine bD.pure hi (v:=.pointer (some ⟨k,ob*sz+n.toNat*sz,none⟩)) ?_ (by grind [R])
  have hin:0≤n∧n<(m:Int):=⟨hc1,hc2⟩;simp[execOp,ho,Instr.indexAt,hix,asIntOf,run_underlying hu,ex,hin,hs2,fN]
 ·rename_i e b ak jr ob sz m hu e1;split at h<;>simp at h
  rename_i hc;obtain⟨hc1,hc2,hc3⟩:=hc;subst h;rw[e1]at hx;simp only[R]at hx;obtain⟨k,szr,cap,hk,ex,hm⟩:=hx;have hs2:=cD (w:=w) hc3;refine bD.pure hi (v:=.pointer (some ⟨k,jr*szr+ob+n.toNat*sz,none⟩)) ?_ (by grind [R])
  have hin:0≤n∧n<(m:Int):=⟨hc1,hc2⟩;simp[execOp,ho,Instr.indexAt,hix,asIntOf,run_underlying hu,ex,hin,hs2,fN]
 ·rename_i m e z hu;split at h
  ·rename_i hc;obtain⟨s,hs,h⟩:=Option.bind_eq_some_iff.1 h;obtain⟨k,p,ex,hr⟩:=Ed hx h;have hs2:=cD (w:=w) hs;refine bD.pure hi (v:=_) ?_ hr;simp[execOp,ho,Instr.indexAt,hix,asIntOf,run_underlying hu,ex,Instr.sureAddr,hc,hs2,fN]
  ·cases h
 ·cases h
theorem HK{T:Nat}{x ix:Operand}{q:IntKind}{n:Int}{y:AVal}(hi:Inv g H w)(hρ:∀x,R g w (ai x) (a.eval x))(ho:o.op=.index T x ix)(hn:ai ix=.sc (.int q n))(h:A5 P T (ai x) n=some y):bD P a o g H w {val:=y}:=by
 have hx:=hρ x;have hix:=hρ ix;rw[hn]at hix;have hix:=eC hix;unfold A5 at h;split at h
 ·rename_i m e cs hu e1;split at h
  ·rename_i hc;obtain⟨s,hs,h⟩:=Option.bind_eq_some_iff.1 h;rw[e1]at hx;simp only[R]at hx;obtain⟨vs,ex,h1,hl⟩:=hx;obtain⟨v,r1,r2⟩:=D9 (P:=P) (w:=w) h hl h1;have hs2:=cD (w:=w) hs;refine bD.pure hi (v:=v) ?_ r2;simp[execOp,ho,Instr.index,hix,asIntOf,run_underlying hu,ex,hc,hs2,r1]
  ·cases h
 ·rename_i s hu e1;split at h
  ·rename_i hn0;obtain⟨b,hb,rfl⟩:=Option.map_eq_some_iff.1 h;rw[e1]at hx;have hx:=eC hx;refine bD.pure hi (v:=.int .u8 b.toNat) ?_ (by simp[R])
   simp[execOp,ho,Instr.index,hix,asIntOf,run_underlying hu,hx,hn0,hb]
  ·cases h
 ·cases h
theorem CT{x:AVal}{n:Nat}{v:Value}(h:mw x=some n)(hr:R g w x v):(∃a cap,v=.slice a n cap∧n≤cap+n∧(∀s,x≠ .sc (.string s)))∨(∃s,x=.sc (.string s)∧v=.string s∧s.size=n):=by
 unfold mw at h;grind [R,eC]
theorem Ke{args:Array Operand}{ats:Array TypeId}{x y:Operand}{v:AVal}(hi:Inv g H w)(hρ:∀x,R g w (ai x) (a.eval x))(ho:o.op=.call {callee:=.builtin .min,args:=args,argTypes:=ats})(h0:args[0]? =some x)(h1:args[1]? =some y)(hsz:args.size=2)
 (h:IK (ai x) (ai y)=some v):bD P a o g H w {val:=v}:=by
 unfold IK at h;split at h
 ·rename_i k p k' q hx hy;simp only[Option.some.injEq]at h;subst h;have hx':=hρ x;have hy':=hρ y;rw[hx]at hx';rw[hy]at hy';have hx':=eC hx';have hy':=eC hy';have hl:args.toList=[x,y]:=by
   obtain⟨l⟩:=args;simp at h0 h1 hsz
   match l,hsz with
   | [u,t],_=>simp at h0 h1;subst h0;subst h1;rfl
  refine bD.pure hi (v:=.int k (if q<p then q else p)) ?_ (by simp[R])
  simp[execOp,ho,resolve,invoke,builtin,Builtin.min_,Builtin.min2,hl,hx',hy']
 ·cases h
theorem F1{args:Array Operand}{ats:Array TypeId}{T n:Nat}{x:Operand}(hi:Inv g H w)(hρ:∀x,R g w (ai x) (a.eval x))(ho:o.op=.call {callee:=.builtin .len,args:=args,argTypes:=ats})(h0:ats[0]? =some T)(h1:args[0]? =some x)
 (h:mw (ai x)=some n) (hu:(P.underlying T=some .string∧∃s,ai x=.sc (.string s))∨(∃e,P.underlying T=some (.slice e))∧∀s,ai x≠ .sc (.string s)):bD P a o g H w {val:=.sc (.int .i64 n)}:=by
 refine bD.pure hi (v:=.int .i64 n) ?_ (by simp[R])
 have hmap:(args.map a.eval)[0]? =some (a.eval x):=by simp[h1]
 rcases CT h (hρ x)with⟨ad,cap,ev,_,hns⟩ |⟨s,es,ev,hsz⟩
 ·rcases hu with⟨_,s,hs⟩ |⟨⟨e,hu⟩,_⟩
  ·exact absurd hs (hns s)
  ·simp[execOp,ho,resolve,invoke,builtin,Builtin.len_,h0,h1,run_underlying hu,ev,goInt]
 ·rcases hu with⟨hu,_⟩ |⟨_,hn⟩
  ·simp[execOp,ho,resolve,invoke,builtin,Builtin.len_,h0,h1,run_underlying hu,ev,hsz,goInt]
  ·exact absurd es (hn s)
end
end Go.AM
end
section
namespace Go.AM
section
variable [ax] {P:Program} {a:Act} {o:Oper} {g:Gh} {H:List af} {w:World} {ai:Operand→AVal}
theorem F2{k sz:Nat}:∀{rows:List (List AVal)} {off:Nat} (l:Nat),RR g w rows k off sz→RR g w (rows.drop l) k (off+l*sz) sz
 | [],_,_,_=>by simp[RR]
 |r::rs,off,0,h=>by simpa using h
 |r::rs,off,l+1,h=>by
  simp only[RR]at h;have:=F2 l h.2;grind
theorem F3{k sz:Nat}:∀{rows:List (List AVal)} {off:Nat} (l:Nat),RR g w rows k off sz→RR g w (rows.take l) k off sz
 | [],_,_,_=>by simp[RR]
 |r::rs,off,0,h=>by simp[RR]
 |r::rs,off,l+1,h=>by
  simp only[RR]at h;simp only[List.take_succ_cons,RR];exact⟨h.1,F3 l h.2⟩
theorem Kf{k sz:Nat}:∀{rows:List (List AVal)} {off i:Nat} {r:List AVal},RR g w rows k off sz→rows[i]? =some r→r.length=sz:=fun h hr=>(A7 h hr).1
theorem kX{isS:Bool}{len cap h l:Nat}{lo hi:Option AVal}{vlo vhi:Option Value}(hlo:match lo,vlo with |none,none=>True |some p,some q=>R g w p q |_,_=>False)
 (hhi:match hi,vhi with |none,none=>True |some p,some q=>R g w p q |_,_=>False) (hcap:len≤cap) (h1:gB len len hi=some h) (h2:gB 0 h lo=some l):
 (Instr.sliceBounds isS len cap vlo vhi none).run P w=.ok (l,h,cap) w∧l≤h∧h≤len:=by
 have hb:∀{d m n:Nat} {x:Option AVal},gB d m x=some n→(x=none∧n=d)∨(∃k i,x=some (.sc (.int k i))∧0≤i∧i≤m∧n=i.toNat):=by
  intro d m n x h;unfold gB at h;split at h
  ·simp at h;exact .inl ⟨rfl,h.symm⟩
  ·grind
  ·cases h
 unfold Instr.sliceBounds;rcases hb h1 with⟨rfl,rfl⟩ |⟨k1,i1,rfl,p1,p2,rfl⟩<;>rcases hb h2 with⟨rfl,rfl⟩ |⟨k2,i2,rfl,p3,p4,rfl⟩<;>cases vlo<;>cases vhi<;>simp only at hlo hhi
 ·simp
 ·have:=eC hlo;subst this;refine⟨?_,by omega,by omega⟩
  simp[Instr.sliceBound,asIntOf,p3,p4]
 ·have:=eC hhi;subst this;refine⟨?_,by omega,by omega⟩
  have:i1≤(cap:Int):=by omega
  simp[Instr.sliceBound,asIntOf,p1,this]
 ·have:=eC hlo;subst this;have:=eC hhi;subst this;refine⟨?_,by omega,by omega⟩
  have h3:i1≤(cap:Int):=by omega
  have h4:i2≤max i1 0:=by omega
  simp[Instr.sliceBound,asIntOf,p1,h3,p3,h4]
theorem HL{T:Nat}{x:Operand}{lo hi:Option Operand}{y:AVal}(hI:Inv g H w)(hρ:∀x,R g w (ai x) (a.eval x))(ho:o.op=.slice T x lo hi none)(h:kA P T (ai x) (lo.map ai) (hi.map ai)=some y):bD P a o g H w {val:=y}:=by
 have hx:=hρ x;have hlo:match lo.map ai,lo.map a.eval with |none,none=>True |some p,some q=>R g w p q |_,_=>False:=by cases lo<;>simp[hρ]
 have hhi:match hi.map ai,hi.map a.eval with |none,none=>True |some p,some q=>R g w p q |_,_=>False:=by cases hi<;>simp[hρ]
 unfold kA at h;split at h
 ·rename_i n e hu;obtain⟨hh,h1,h'⟩:=Option.bind_eq_some_iff.1 h;obtain⟨l,h2,h''⟩:=Option.bind_eq_some_iff.1 h';obtain⟨s,hs,h'''⟩:=Option.bind_eq_some_iff.1 h'';clear h h' h'';have h:=h''';clear h''';have hs2:=cD (w:=w) hs;obtain⟨hb,hb1,hb2⟩:=kX (P:=P) (isS:=false) (cap:=n) hlo hhi (Nat.le_refl n) h1 h2;have hexec:∀(k p:Nat),a.eval x=.pointer (some ⟨k,p,none⟩)→(execOp a.eval o).run P w=.ok (.value (.slice (some (if n=l then⟨k,p,none⟩else⟨k,p+l*s,none⟩)) (hh - l) (n - l))) w:=by
   intro k p ex;simp only[execOp,ho];simp[Instr.sliceAt,run_underlying hu,ex,Instr.sureAddr,hb,hs2,fN]
  have hlst:∀(k p:Nat) (cs:List AVal) (off:Nat),a.eval x=.pointer (some ⟨k,off+p,none⟩)→AVal.aO cs=true→RC g w cs k off→p+n*s≤cs.length→
   bD P a o g H w {val:=.aD (if l<hh then chunks s (hh - l) ((cs.drop (p+l*s)).take ((hh - l)*s))else[])}:=by
   intro k p cs off ex hp hc hle;refine bD.pure hI (hexec k _ ex) ?_;simp only[R];by_cases hll:l<hh
   ·rw[if_pos hll,if_neg (show ¬n=l by omega)]
    refine⟨_,n - l,by rw[iz],by rw[iz];omega,.inr ⟨k,off+(p+l*s),s,by simp[Nat.add_assoc],?_⟩⟩
    have hms:(hh - l)*s+l*s≤n*s:=by rw[← Nat.add_mul];exact Nat.mul_le_mul_right s (by omega)
    exact xW _ (by simp;omega) (CS hp) (Ee hc)
   ·rw[if_neg hll];simp_all
  unfold D5 at h;split at h
  ·rename_i b ak i ob e1;rw[e1]at hx;simp only[R]at hx;obtain⟨k,sz,hk,ex⟩:=hx;split at h<;>simp at h<;>subst h
   ·grind [bD.pure,R]
   ·rename_i hll;refine bD.pure hI (hexec k _ ex) ?_;have:hh - l=0:=by omega
    grind [R]
  ·grind [R]
  ·rename_i i ob e1;rw[e1]at hx;simp only[R]at hx;obtain⟨cs,hcs,h⟩:=Option.bind_eq_some_iff.1 h;split at h
   ·rename_i hle;simp only[Option.some.injEq]at h;subst h;obtain⟨hp,hc⟩:=hI.b9 _ _ hcs;grind
   ·cases h
  ·cases h
 rename_i hnarr;split at h
 ·cases h
 ·rename_i n hn;obtain⟨hh,h1,h'⟩:=Option.bind_eq_some_iff.1 h;clear h;obtain⟨l,h2,h⟩:=Option.bind_eq_some_iff.1 h';clear h';split at h
  ·rename_i e hu e1;split at h<;>simp at h
   rename_i hs;obtain⟨sz,hs⟩:=Option.isSome_iff_exists.1 hs;have hs2:=cD (w:=w) hs;subst h;rw[e1]at hx hn;have hx:=eC hx;simp[mw]at hn;subst hn;obtain⟨hb,hb1,hb2⟩:=kX (P:=P) (isS:=true) (cap:=0) hlo hhi (Nat.le_refl 0) h1 h2;have hh0:hh=0:=by omega
   have hl0:l=0:=by omega
   subst hh0;subst hl0;refine bD.pure hI (v:=.slice none 0 0) ?_ (by simp[R])
   simp[execOp,ho,Instr.sliceAt,Instr.slice,run_underlying hu,hx,hb,hs2]
  ·rename_i e rows hu e1;split at h<;>simp at h
   rename_i hs;simp only[Bool.and_eq_true,List.all_eq_true,beq_iff_eq]at hs;obtain⟨hs1,hs⟩:=hs;obtain⟨sz,hs⟩:=Option.isSome_iff_exists.1 hs;have hs2:=cD (w:=w) hs;subst h;rw[e1]at hx hn;simp only[R]at hx;obtain⟨ad,cap,ex,hcap,hc⟩:=hx;simp[mw]at hn;subst hn;obtain⟨hb,hb1,hb2⟩:=kX (P:=P) (isS:=true) (cap:=cap) hlo hhi hcap h1 h2;have hlen:((rows.take hh).drop l).length=hh - l:=by simp;omega
   refine bD.pure hI (v:=.slice (if cap=l then ad else ad.map (·.add (l*sz))) (hh - l) (cap - l)) ?_ ?_
   ·simp[execOp,ho,Instr.sliceAt,Instr.slice,run_underlying hu,ex,hb,hs2]
   ·simp only[R];refine⟨_,cap - l,by rw[hlen],by omega,?_⟩
    rcases hc with h0 |⟨k,off,sz',rfl,hrr⟩
    ·left;omega
    ·by_cases he:hh=l
     ·left;omega
     ·right;have hne:cap≠l:=by omega
      have hrow:∃r,rows[0]? =some r:=⟨rows[0]'(by omega),by simp⟩
      obtain⟨r,hr⟩:=hrow;have e2:=Kf hrr hr;have e3:=hs1 r (List.mem_of_getElem? hr);rw[hs]at e3;simp at e3;have hszz:sz'=sz:=by omega
      subst hszz;refine⟨k,off+l*sz',sz',by simp[hne,fN],?_⟩
      exact F2 l (F3 hh hrr)
  ·rename_i e b ak sz ob m hu e1;split at h
   ·rename_i hs;have hs2:=cD (w:=w) hs;rw[e1]at hx hn;simp only[R]at hx;simp[mw]at hn;subst hn;rcases hx with⟨rfl,ex⟩ |⟨k,cap,e',s,hk,ex,hsh,hcs,hm,hmax⟩
    ·obtain⟨hb,hb1,hb2⟩:=kX (P:=P) (isS:=true) (cap:=0) hlo hhi (Nat.le_refl _) h1 h2;have hl0:l=0:=by omega
     have hh0:hh=0:=by omega
     subst hl0;subst hh0;simp at h;subst h;refine bD.pure hI (v:=.slice none 0 0) ?_ (by simp[R])
     simp[execOp,ho,Instr.sliceAt,Instr.slice,run_underlying hu,ex,hb,hs2]
    obtain⟨hb,hb1,hb2⟩:=kX (P:=P) (isS:=true) (cap:=cap) hlo hhi hm h1 h2;have hrun:(execOp a.eval o).run P w=.ok (.value (.slice (some (if cap=l then⟨k,ob*sz,none⟩else⟨k,ob*sz+l*sz,none⟩)) (hh - l) (cap - l))) w:=by
     simp only[execOp,ho];simp[Instr.sliceAt,Instr.slice,run_underlying hu,ex,hb,hs2,fN];split<;>rfl
    split at h
    ·rename_i hl0;simp at h;subst h;subst hl0;grind [bD.pure,R]
    ·split at h
     ·rename_i hll;simp at h;subst h;refine bD.pure hI hrun ?_;simp only[R];refine .inr ⟨k,cap - l,e',s,hk,?_,hsh,?_,by omega,by omega⟩
      ·rw[if_neg (by omega),Nat.add_mul]
      grind
     grind [bD.pure,R]
   ·cases h
  ·rename_i e b ak i ob sz m hu e1;split at h
   ·rename_i hs;have hs2:=cD (w:=w) hs;rw[e1]at hx hn;simp only[R]at hx;obtain⟨k,szr,cap,hk,ex,hm⟩:=hx;simp[mw]at hn;subst hn;obtain⟨hb,hb1,hb2⟩:=kX (P:=P) (isS:=true) (cap:=cap) hlo hhi hm h1 h2;have hrun:(execOp a.eval o).run P w=.ok (.value (.slice (some (if cap=l then⟨k,i*szr+ob,none⟩else⟨k,i*szr+ob+l*sz,none⟩)) (hh - l) (cap - l))) w:=by
     simp only[execOp,ho];simp[Instr.sliceAt,Instr.slice,run_underlying hu,ex,hb,hs2,fN];split<;>rfl
    split at h<;>simp at h<;>subst h
    ·grind [bD.pure,R]
    ·rename_i hll;refine bD.pure hI hrun ?_;simp only[R];simp_all
   ·cases h
  ·rename_i s hu e1;simp at h;subst h;rw[e1]at hx hn;have hx:=eC hx;simp[mw]at hn;subst hn;obtain⟨hb,hb1,hb2⟩:=kX (P:=P) (isS:=false) (cap:=s.size) hlo hhi (Nat.le_refl _) h1 h2;refine bD.pure hI (v:=.string (s.extract l hh)) ?_ (by simp[R])
   simp[execOp,ho,Instr.sliceAt,Instr.slice,run_underlying hu,hx,hb]
  ·cases h
theorem Gt{T:Nat}{x mx:Operand}{lo hi:Option Operand}{y:AVal}(hI:Inv g H w)(hρ:∀x,R g w (ai x) (a.eval x))(ho:o.op=.slice T x lo hi (some mx))(h:Ca P T (ai x) (lo.map ai) (hi.map ai) (some (ai mx))=some y):bD P a o g H w {val:=y}:=by
 have hx:=hρ x;have hb:∀{z:Option AVal} {v:Option Value},(match z,v with |none,none=>True |some p,some q=>R g w p q |_,_=>False)→gB 1 0 z=some 0→∃k,v=some (.int k 0):=by
  intro z v hz hb;unfold gB at hb;split at hb
  ·simp at hb
  ·grind [eC]
  ·cases hb
 have hlo:match lo.map ai,lo.map a.eval with |none,none=>True |some p,some q=>R g w p q |_,_=>False:=by cases lo<;>simp[hρ]
 have hhi:match hi.map ai,hi.map a.eval with |none,none=>True |some p,some q=>R g w p q |_,_=>False:=by cases hi<;>simp[hρ]
 have hmx:match some (ai mx),some (a.eval mx)with |none,none=>True |some p,some q=>R g w p q |_,_=>False:=hρ mx
 unfold Ca at h;split at h
 ·rename_i e hu;split at h
  ·rename_i n h1 h2 h3 h4;split at h
   ·simp at h
   rename_i hc2;simp only[Bool.not_false,Bool.and_true,Option.ite_none_right_eq_some,Option.some.injEq]at h;obtain⟨hc1,rfl⟩:=h;obtain⟨sz,hs⟩:=Option.isSome_iff_exists.1 hc1;have hs2:=cD (w:=w) hs;obtain⟨k1,e1⟩:=hb (v:=lo.map a.eval) hlo h2;obtain⟨k2,e2⟩:=hb (v:=hi.map a.eval) hhi h3;obtain⟨k3,e3⟩:=hb (v:=some (a.eval mx)) hmx h4;simp only[Option.some.injEq]at e3;have hsl:∃ad m cap,a.eval x=.slice ad m cap:=by
    rcases CT h1 hx with⟨ad,cap,e,_⟩ |⟨s,e,_⟩
    ·exact⟨ad,_,cap,e⟩
    ·exact(hc2 _ e).elim
   obtain⟨ad,m,cap,ex⟩:=hsl;refine bD.pure hI (v:=.slice ad 0 0) ?_ (by simp only[R];exact⟨ad,rfl⟩)
   simp[execOp,ho,e1,e2,e3,Instr.sliceAt,Instr.slice,run_underlying hu,ex,Instr.sliceBounds,Instr.sliceBound,asIntOf,hs2]
  ·cases h
 ·cases h
theorem xX(off:Nat):∀(l:List Value) (i:Nat) (cs:Array Value),((l.zipIdx i).foldl (fun(cs:Array Value) (p:Value×Nat)=>cs.setIfInBounds (off+p.2) p.1) cs).size=cs.size
 | [],_,_=>rfl
 |v::l,i,cs=>by simp[List.zipIdx_cons,xX off l]
theorem Ar(off:Nat):∀(l:List Value) (i:Nat) (cs:Array Value),off+i+l.length≤cs.size→∀j,((l.zipIdx i).foldl (fun(cs:Array Value) (p:Value×Nat)=>cs.setIfInBounds (off+p.2) p.1) cs)[j]? =if off+i≤j∧j<off+i+l.length then l[j - (off+i)]? else cs[j]?
 | [],_,_,_,j=>by simp;omega
 |v::l,i,cs,h,j=>by
  simp only[List.length_cons]at h;simp only[List.zipIdx_cons,List.foldl_cons];rw[Ar off l (i+1) _ (by simp;omega) j]
  grind
theorem Kg{cells cs:List AVal}{c:Array Value}{vs:List Value}{off:Nat}(h:RL g w cells c.toList)(h':RL g w cs vs)(hl:off+cs.length≤cells.length):
 RL g w (putAt cells off cs) ((vs.zipIdx 0).foldl (fun(c:Array Value) (p:Value×Nat)=>c.setIfInBounds (off+p.2) p.1) c).toList:=by
 obtain⟨l1,g1⟩:=cK _ _ h;obtain⟨l2,g2⟩:=cK _ _ h';have hsz:c.size=cells.length:=by simpa using l1
 refine o7 _ _ (by simp[mA,xX,hsz]) fun j x y hx hy=>?_
 rw[CR _ _ _ hl]at hx;rw[Array.getElem?_toList,Ar off vs 0 c (by omega) j]at hy
 grind
theorem IU{c:Array Value}{vs:List Value}{off:Nat}(h:∀y∈c.toList,y.oneCell'=true)(h':∀y∈vs,y.oneCell'=true)(hl:off+vs.length≤c.size):
 ∀y∈((vs.zipIdx 0).foldl (fun(c:Array Value) (p:Value×Nat)=>c.setIfInBounds (off+p.2) p.1) c).toList,y.oneCell'=true:=by
 intro y hy;obtain⟨j,hj⟩:=List.getElem?_of_mem hy;rw[Array.getElem?_toList,Ar off vs 0 c (by omega) j]at hj
 grind
theorem wM{place:Nat→Option (Nat×Nat)}(hρ:∀x,R g w (ai x) (a.eval x)):∀{parts:List (Nat×Operand)} {cells out:List AVal} {c:Array Value},wJ place cells (parts.map fun p=>(p.1,ai p.2))=some out→RL g w cells c.toList→(∀y∈c.toList,y.oneCell'=true)→
 ∃c',Instr.fill place c (parts.map fun p=>(p.1,a.eval p.2))=some c'∧RL g w out c'.toList∧(∀y∈c'.toList,y.oneCell'=true)∧c'.size=c.size∧out.length=cells.length
 | [],cells,out,c,h,hl,h1=>by
  simp[wJ]at h;subst h;exact⟨c,rfl,hl,h1,rfl,rfl⟩
 | (i,x)::rest,cells,out,c,h,hl,h1=>by
  simp only[List.map_cons,wJ]at h;simp only[List.map_cons,Instr.fill];split at h
  ·cases h
  ·rename_i off size hp;split at h
   ·rename_i cs hcs;split at h
    ·cases h
    ·rename_i hb;obtain⟨y1,y2,y3⟩:=uU (hρ x) hcs;obtain⟨l1,_⟩:=cK _ _ hl;have hsz:c.size=cells.length:=by simpa using l1
     simp only[Bool.or_eq_true,decide_eq_true_eq,ne_eq,not_or,Decidable.not_not,gt_iff_lt,Nat.not_lt]at hb;obtain⟨hb1,hb2⟩:=hb;have e:(a.eval x).cells.zipIdx.foldl (fun cs (x:Value×Nat)=>cs.setIfInBounds (off+x.2) x.1) c=((a.eval x).cells.toList.zipIdx 0).foldl (fun(c:Array Value) (p:Value×Nat)=>c.setIfInBounds (off+p.2) p.1) c:=by
      rw[← Array.foldl_toList,Array.toList_zipIdx]
     have hlen2:off+(a.eval x).cells.toList.length≤c.size:=by simp[y1];omega
     obtain⟨c',f1,f2,f3,f4,f5⟩:=wM hρ (c:=((a.eval x).cells.toList.zipIdx 0).foldl (fun(c:Array Value) (p:Value×Nat)=>c.setIfInBounds (off+p.2) p.1) c) h (Kg hl y3 (by omega)) (IU h1 y2 hlen2)
     refine⟨c',?_,f2,f3,by rw[f4,xX],by rw[f5,mA]⟩
     grind
   ·cases h
theorem Fy(fs:Array Field)(h:∀f∈fs.toList,(cB P f.type).isSome):(fs.mapM fun f=>Prod.mk f.offset<$>sizeOf f.type).run P w=.ok (fs.map fun f=>(f.offset,(cB P f.type).getD 0)) w:=by
 rw[Array.mapM_eq_mapM_toList];have key:∀(l:List Field),(∀f∈l,(cB P f.type).isSome)→(l.mapM fun f=>Prod.mk f.offset<$>sizeOf f.type).run P w=.ok (l.map fun f=>(f.offset,(cB P f.type).getD 0)) w:=by
  intro l;induction l with
  |nil=>intro _;simp
  |cons f l ih=>
   intro h;obtain⟨s,hs⟩:=Option.isSome_iff_exists.1 (h f (by simp))
   have:=ih (fun q hq=>h q (by simp[hq]))
   simp[List.mapM_cons,cD hs,this,hs]
 have:=key fs.toList h;simp only[Sem.run_map,this,Result.andThen_ok];rw[← Array.toList_map,Array.toArray_toList]
theorem HM{T:Nat}{parts:Array (Nat×Operand)}{v:AVal}(hi:Inv g H w)(hρ:∀x,R g w (ai x) (a.eval x))(ho:o.op=.build T parts)(h:D6 P T (parts.toList.map fun p=>(p.1,ai p.2))=some v):bD P a o g H w {val:=v}:=by
 unfold D6 at h;split at h
 ·rename_i z fs hz hu;split at h
  ·rename_i hall;obtain⟨cs,hf,rfl⟩:=Option.map_eq_some_iff.1 h;obtain⟨i,zv,q1,q2,rfl,q4⟩:=gC hz;have hall':∀f∈fs.toList,(cB P f.type).isSome:=fun f hf=>List.all_eq_true.1 hall f hf
   have hplaces:=Fy (w:=w) fs hall';obtain⟨c',f1,f2,f3,_⟩:=wM (c:=zv.cells) hρ hf (y9 _) q4;refine bD.pure hi (v:=.agg c') ?_ (by grind [R])
   have e:(fun x:Nat=>(fs.map fun f=>(f.offset,(cB P f.type).getD 0))[x]?)=fun i=>(fs[i]?).map fun f=>(f.offset,(cB P f.type).getD 0):=by
    funext x;simp
   simp[execOp,ho,Instr.build,zeroValue,typeInfo,q1,q2,run_underlying hu,hplaces,f1]
  ·cases h
 ·rename_i z n e hz hu;split at h
  ·rename_i s hs;obtain⟨cs,hf,rfl⟩:=Option.map_eq_some_iff.1 h;obtain⟨i,zv,q1,q2,rfl,q4⟩:=gC hz;obtain⟨c',f1,f2,f3,_⟩:=wM (c:=zv.cells) hρ hf (y9 _) q4;refine bD.pure hi (v:=.agg c') ?_ (by grind [R])
   simp[execOp,ho,Instr.build,zeroValue,typeInfo,q1,q2,run_underlying hu,cD hs,f1]
  ·cases h
 ·cases h
end
end Go.AM
end
section
namespace Go.AM
section
variable [ax] {P:Program} {a:Act} {o:Oper} {g:Gh} {H:List af} {w:World} {ai:Operand→AVal}
theorem vT{c:Array Value}:∀{l l':List AVal} {o:Nat},cC g w c (l++l') o↔cC g w c l o∧cC g w c l' (o+l.length)
 | [],l',o=>by simp[cC]
 |x::l,l',o=>by
  simp only[List.cons_append,cC,List.length_cons,vT (l:=l) (l':=l') (o:=o+1),and_assoc];grind
theorem dZ{c:Array Value}{sz:Nat}:∀{rows:List (List AVal)} {o:Nat},ez g w c sz rows o↔(∀r∈rows,r.length=sz)∧cC g w c rows.flatten o
 | [],o=>by simp[ez,cC]
 |r::rs,o=>by
  simp only[ez,List.flatten_cons,vT,List.mem_cons,forall_eq_or_imp,dZ (rows:=rs)];grind
theorem CU{k:Nat}:∀{l l':List AVal} {o:Nat},RC g w l k o→RC g w l' k (o+l.length)→RC g w (l++l') k o
 | [],l',o,_,h=>by simpa using h
 |x::l,l',o,h,h'=>by
  simp only[RC]at h;simp only[List.cons_append,RC];exact⟨h.1,CU h.2 (by grind)⟩
theorem Cd{k sz:Nat}:∀{rows:List (List AVal)} {o:Nat},RR g w rows k o sz→(∀r∈rows,r.length=sz)∧RC g w rows.flatten k o
 | [],o,_=>by simp[RC]
 |r::rs,o,h=>by
  simp only[RR]at h;obtain⟨⟨h1,_,h2⟩,h3⟩:=h;obtain⟨h4,h5⟩:=Cd h3;grind [CU]
theorem gz{sz:Nat}:∀{rows:List (List AVal)},(∀r∈rows,r.length=sz)→rows.flatten.length=rows.length*sz
 | [],_=>by simp
 |r::rs,h=>by
  simp only[List.flatten_cons,List.length_append,List.length_cons,h r (by simp),gz (rows:=rs) (sz:=sz) (fun q hq=>h q (List.mem_cons_of_mem _ hq)),Nat.add_mul,Nat.one_mul]
  omega
theorem kC{x:AVal}{v:Value}{rows:List (List AVal)}{sz:Nat}(hi:Inv g H w)(hr:R g w x v)(h:(elems x).run H=some rows)(hsz:∀r∈rows,r.length=sz):
 ∃ad cap news,v=.slice ad rows.length cap∧news.length=rows.length*sz∧RL g w rows.flatten news∧(∀y∈news,y.oneCell'=true)∧
  (rows.length=0∨∃A,ad=some A∧∀j u,news[j]? =some u→w.cell? (A.add j)=some u):=by
 unfold elems at h;split at h
 ·simp[Rd.run]at h;subst h;simp only[R]at hr;obtain⟨ad,rfl⟩:=hr;exact⟨ad,0,[],rfl,by simp,by simp[RL],by simp,.inl rfl⟩
 ·simp[Rd.run]at h;subst h;simp only[R]at hr;obtain⟨ad,cap,rfl,_⟩:=hr;exact⟨ad,cap,[],rfl,by simp,by simp[RL],by simp,.inl rfl⟩
 ·simp[Rd.run]at h;subst h;have:=eC hr;subst this;exact⟨none,0,[],rfl,by simp,by simp[RL],by simp,.inl rfl⟩
 ·rename_i rows;simp[Rd.run]at h;subst h;simp only[R]at hr;obtain⟨ad,cap,rfl,_,hc⟩:=hr;rcases hc with h0 |⟨k,off,sz',rfl,hrr⟩
  ·have:rows=[]:=List.eq_nil_of_length_eq_zero h0;subst this;exact⟨ad,cap,[],rfl,by simp,by simp[RL],by simp,.inl rfl⟩
  ·obtain⟨f1,f2⟩:=Cd hrr;grind [tS,gz,fN]
 ·rename_i b ak sz' ob n;obtain⟨⟨s1,rows'⟩,h1,h2⟩:=bind_some h;have hrow:=gb h1;simp only at h2 hrow;split at h2<;>simp[Rd.run]at h2
  rename_i hc;obtain⟨rfl,hle⟩:=hc;subst h2;simp only[R]at hr;rcases hr with⟨rfl,rfl⟩ |⟨k,cap,e,s,hk,rfl,_⟩
  ·exact⟨none,0,[],by simp,by simp,by simp[RL],by simp,.inl (by simp)⟩
  obtain⟨k',c,e',q1,q2,q3,_⟩:=hi.row b ak _ _ hrow hk;rw[hk]at q1;simp at q1;subst q1;have hlen:((rows'.drop ob).take n).length=n:=by simp;omega
  have hrows:ez g w c s1 ((rows'.drop ob).take n) (ob*s1):=by
   refine gr _ _ fun j r hr=>?_
   rw[List.getElem?_take]at hr;split at hr
   ·rw[List.getElem?_drop]at hr;obtain⟨r1,r2⟩:=bR _ _ _ _ q3 hr;grind
   ·cases hr
  obtain⟨f1,f2⟩:=dZ.1 hrows;obtain⟨vs,v1,v2,v3,v4⟩:=dR f2;refine⟨_,cap,vs,by rw[hlen],by rw[v1,gz hsz],v3,v2,.inr ⟨_,rfl,fun j u hu=>?_⟩⟩
  grind [fN,fc]
 ·rename_i b ak ir ob s n;obtain⟨⟨s1,rows'⟩,h1,h2⟩:=bind_some h;have hrow:=gb h1;simp only at h2 hrow;split at h2
  ·rename_i cs hcs;split at h2<;>simp[Rd.run]at h2
   rename_i hle;subst h2;simp only[R]at hr;obtain⟨k,szr,cap,hk,rfl,_⟩:=hr;obtain⟨k',c,e',q1,q2,q3,_⟩:=hi.row b ak _ _ hrow hk;rw[hk]at q1;simp at q1;obtain⟨rfl,rfl⟩:=q1;obtain⟨r1,r2⟩:=bR _ _ _ _ q3 hcs;have hlen:((cs.drop ob).take (n*s)).length=n*s:=by simp;omega
   obtain⟨f1,f2⟩:=vp s n _ hlen;have hcl:=iz s n ((cs.drop ob).take (n*s));have hs:n=0∨s=sz:=by
    cases n with
    |zero=>exact .inl rfl
    |succ n=>
     grind [chunks]
   obtain⟨vs,v1,v2,v3,v4⟩:=dR r2;have hsub:RL g w ((cs.drop ob).take (n*s)) ((vs.drop ob).take (n*s)):=o9 v3 ob (n*s);refine⟨_,cap,(vs.drop ob).take (n*s),by rw[hcl],?_,by rw[f2];exact hsub,fun y hy=>v2 y (List.mem_of_mem_drop (List.mem_of_mem_take hy)),.inr ⟨_,rfl,fun j u hu=>?_⟩⟩
   ·grind
   grind [fN,fc]
  ·simp[Rd.run]at h2
 ·simp[Rd.run]at h
theorem vq:∀{rows:List (List AVal)} {xs:List Int},o6 rows=some xs→rows=xs.map fun n=>[AVal.sc (.int .u8 n)]
 | [],xs,h=>by simp[o6]at h;subst h;rfl
 |r::rs,xs,h=>by
  unfold o6 at h;split at h
  ·cases ‹_=[]›
  ·rename_i n rs' he;injection he with e1 e2;subst e1;subst e2;obtain⟨ys,hy,rfl⟩:=Option.map_eq_some_iff.1 h;rw[vq hy];rfl
  ·cases h
theorem zO:∀(xs:List Int) (s:ByteArray),xs.foldl (fun r n=>r.push (UInt8.ofNat n.toNat)) s=⟨s.data++(xs.map fun n=>UInt8.ofNat n.toNat).toArray⟩
 | [],s=>by cases s;simp
 |x::xs,s=>by
  rw[List.foldl_cons,zO xs];cases s;simp[ByteArray.push]
theorem Fz{s d:Nat}{x:Operand}{rows:List (List AVal)}{xs:List Int}(hi:Inv g H w)(hρ:∀x,R g w (ai x) (a.eval x))(ho:o.op=.convert s d x)(hb:Cb P s d=true)(h:(elems (ai x)).run H=some rows)(hx:o6 rows=some xs):
 bD P a o g H w {val:=.sc (.string (mY xs))}:=by
 unfold Cb at hb;split at hb
 ·rename_i e hs hd;split at hb
  ·rename_i he;have hrows:=vq hx;obtain⟨ad,cap,news,ev,n1,n2,n3,n4⟩:=kC (sz:=1) hi (hρ x) h (fun r hr=>by
    grind)
   have hlen:rows.length=xs.length:=by rw[hrows];simp
   have hflat:rows.flatten=xs.map fun n=>AVal.sc (.int .u8 n):=by
    rw[hrows];clear hrows hx n1 n2 n4 h hlen ev;induction xs with
    |nil=>rfl
    |cons x xs ih=>simp[ih]
   have hnews:news=xs.map (Value.int .u8):=by
    rw[hflat]at n2;clear hflat hrows hx n1 n3 n4 h hlen ev;induction xs generalizing news with
    |nil=>simpa[RL]using n2
    |cons x xs ih=>
     grind [RL,R]
   refine bD.pure hi (v:=.string (mY xs)) ?_ (by simp[R])
   have key:(Conv.bytesToString (.slice ad rows.length cap)).run P w=.ok (.string (mY xs)) w:=by
    cases ad with
    |none=>
     rcases n4 with h0 |⟨A,hA,_⟩
     ·have:xs=[]:=List.eq_nil_of_length_eq_zero (by omega)
      subst this;simp[Conv.bytesToString,mY];rfl
     ·cases hA
    |some A=>
     have hl:(loadCells A rows.length).run P w=.ok (xs.map (Value.int .u8)).toArray w:=by
      have:=run_loadCells_list (P:=P) w A (xs.map (Value.int .u8)) (fun j v hj=>by
       grind)
      rw[List.length_map]at this;rw[hlen];exact this
     rw[run_bytesToString w A _ cap xs hl,zO];simp[mY,ByteArray.empty,ByteArray.emptyWithCapacity];rfl
   simp only[execOp,ho,ev,Sem.run_bind,run_convert_bytes_string w s d e ad rows.length cap hs he hd,key];rfl
  ·cases hb
 ·cases hb
theorem HN{T:Nat}{x:Operand}{y:AVal}(hi:Inv g H w)(hρ:∀x,R g w (ai x) (a.eval x))(ho:o.op=.sliceToArrayPointer T x)(h:D8 P T (ai x)=some y):bD P a o g H w {val:=y}:=by
 have hx:=hρ x;unfold D8 at h;split at h
 ·rename_i n e hu;split at h
  ·rename_i b ak i ob s m e1;split at h<;>simp at h
   rename_i hle;subst h;rw[e1]at hx;simp only[R]at hx;obtain⟨k,sz,cap,hk,ex,_⟩:=hx;refine bD.pure hi (v:=.pointer (some ⟨k,i*sz+ob,none⟩)) ?_ (by grind [R])
   have hn:¬m<n:=by omega
   simp[execOp,ho,Instr.arrayAt,run_underlying hu,ex,hn]
  ·rename_i rows e1;split at h<;>simp at h
   rename_i hle;subst h;rw[e1]at hx;simp only[R]at hx;obtain⟨ad,cap,ex,_,hc⟩:=hx;rcases hc with h0 |⟨k,off,sz,rfl,hrr⟩
   ·omega
   ·obtain⟨_,f2⟩:=Cd hrr;have hp:AVal.aO rows.flatten=true:=mB.2 fun x hx=>by
     obtain⟨r,hr,hxr⟩:=List.mem_flatten.1 hx;obtain⟨j,hj⟩:=List.getElem?_of_mem hr;exact mB.1 (A7 hrr hj).2.1 x hxr
    refine bD.pure hi (v:=.pointer (some ⟨k,off,none⟩)) ?_ (by grind [R])
    have hn:¬rows.length<n:=by omega
    simp[execOp,ho,Instr.arrayAt,run_underlying hu,ex,hn]
  ·cases h
 ·cases h
theorem ja{size m cap:Nat}{ad:Option Addr}{news:List Value}(hl:news.length=m*size)(h:m=0∨∃A,ad=some A∧∀j u,news[j]? =some u→w.cell? (A.add j)=some u):
 (Builtin.firstCells size m (.slice ad m cap)).run P w=.ok news.toArray w:=by
 rcases h with rfl |⟨A,rfl,h⟩
 ·have:news=[]:=List.eq_nil_of_length_eq_zero (by simpa using hl)
  subst this;cases ad<;>simp[Builtin.firstCells,loadCells,loadCellsFrom]
 ·exact run_firstCells_some w size m A m cap news hl h
theorem nh{ST XT ty e:Nat}{i:TypeInfo}{z:Value}{ats:Array TypeId}{base:Option Addr}{n cap m c:Nat}{ad:Option Addr}{olds news:List Value}{E:TypeId}{cur:Array Value}(h0:ats[0]? =some ST)(h1:ats[1]? =some XT)(hs:P.underlying ST=some (.slice e))
 (hx:∃e',P.underlying XT=some (.slice e')) (hi:P.info? e=some i) (hz:i.zero=some z) (ho:olds.length=n*i.size) (hol:n=0∨∃A,base=some A∧∀j u,olds[j]? =some u→w.cell? (A.add j)=some u)
 (hl:news.length=m*i.size) (hnew:m=0∨∃A,ad=some A∧∀j u,news[j]? =some u→w.cell? (A.add j)=some u) (hone:∀y∈news,y.oneCell'=true) (hroom:(n+m)*i.bytes≤140737488355328) (h63:n+m≤9223372036854775807)
 (hb:(n=0∧cap=0)∨∃k,base=some ⟨k,0,none⟩∧w.heap[k]? =some (.cells cur E (0,0))∧cap*i.size=cur.size):
 ((n+m≤cap∧∃w',(Builtin.append_ ats ty #[.slice base n cap,.slice ad m c]).run P w=.ok (.slice base (n+m) cap) w'∧
  ((m=0∧w'=w)∨∃k,base=some ⟨k,0,none⟩∧w'=w.setRow k (cur.toList.take (n*i.size)++news++cur.toList.drop (n*i.size+news.length)).toArray))∨
  (cap<n+m∧∃nc,n+m≤nc∧nc≤9223372036854775807∧(Builtin.append_ ats ty #[.slice base n cap,.slice ad m c]).run P w=.ok (.slice (some ⟨w.heap.size,0,none⟩) (n+m) nc)
   (w.drew.alloc (.cells (olds.toArray++news.toArray++Builtin.zeroCells z.cells (nc - (n+m))) e)))):=by
 obtain⟨e',hx⟩:=hx;have hf:∀w':World,(∀A,w'.cell? A=w.cell? A)→(Builtin.firstCells i.size m (.slice ad m c)).run P w'=.ok news.toArray w':=fun w' hw=>ja hl (by
  grind)
 have hfo:∀w':World,(∀A,w'.cell? A=w.cell? A)→(Builtin.firstCells i.size n (.slice base n cap)).run P w'=.ok olds.toArray w':=fun w' hw=>ja ho (by
  grind)
 by_cases hc:n+m≤cap
 ·left;refine⟨hc,?_⟩;rcases hb with⟨rfl,rfl⟩ |⟨k,rfl,hk,hcap⟩
  ·have hm:m=0:=by omega
   subst hm;have:news=[]:=List.eq_nil_of_length_eq_zero (by simpa using hl)
   subst this;refine⟨w,?_,.inl ⟨rfl,rfl⟩⟩;have:=hf w (fun _=>rfl)
   cases base<;>simp[Builtin.append_,h0,h1,run_underlying hs,run_underlying hx,sizeOf,typeInfo,hi,Builtin.lenOf,this,storeCells]
  ·have hfit:n*i.size+news.length≤cur.size:=by rw[hl,← hcap,← Nat.add_mul];exact Nat.mul_le_mul_right _ hc
   have hst:=run_storeCells_at P k (n*i.size) E news 0 cur w hk (by simpa using hfit) hone
   simp only[Nat.add_zero]at hst;refine⟨_,?_,.inr ⟨k,rfl,rfl⟩⟩;have:=hf w (fun _=>rfl)
   simp[Builtin.append_,h0,h1,run_underlying hs,run_underlying hx,sizeOf,typeInfo,hi,Builtin.lenOf,hc,this,fN,hst]
 ·right;have hge:=grownCap_ge w (n+m) cap e;have hle:=grownCap_le_maxLen w (n+m) cap e (by simp only[maxLen];omega)
  refine⟨by omega,grownCap w (n+m) cap e,hge,by simpa[maxLen]using hle,?_⟩
  have h63':¬(9223372036854775807<((n:Int)+(m:Int))):=by omega
  have hfit:=growslice_fits (need:=n+m) (old:=cap) (bytes:=i.bytes) (by omega) hroom
  have h48':¬(281474976710656<Builtin.nextslicecap (n+m) cap*i.bytes):=by omega
  have f1:=hf w.drew (fun A=>by simp)
  have f2:=hfo w.drew (fun A=>by simp)
  simp[Builtin.append_,h0,h1,run_underlying hs,run_underlying hx,sizeOf,typeInfo,zeroValue,hi,hz,Builtin.lenOf,hc,h63',h48',Question.forced,f1,f2,newRow,grownCap];congr 2;apply Array.ext';simp
theorem tN{rows:List (List AVal)}{n:Nat}(h:(rows.all fun r=>r.length==n)=true):∀r∈rows,r.length=n:=by
 grind
theorem aK.draw{g':Gh}{H':List af}{w':World}(h:aK g H w.drew g' H' w'):aK g H w g' H' w':=
 ⟨⟨h.ext.ai,h.ext.st,h.ext.cell,h.ext.shape⟩,h.size,h.keep,h.own,h.len,h.os,⟨h.tape.1,Nat.le_of_succ_le h.tape.2⟩,h.output,h.stk,h.ot,h.mz⟩
theorem Ext.draw(g:Gh)(w:World):Ext g w g w.drew:=⟨fun _ _ _ h=>h,fun _ _ h=>h,fun _ _ _=>rfl,fun _ _ h=>h⟩
theorem Inv.draw(h:Inv g H w):Inv g H w.drew:=
 ⟨fun b x hb=>gq (Ext.draw g w) (h.good b x hb) (fun _ _ _ _ _=>rfl) fun _ _ h=>h,h.inj,h.fresh,h.next,h.free,h.dc,h.b9.mono (Ext.draw g w)⟩
theorem ou{i:TypeInfo}(h:jK i=true):∃z,i.zero=some z∧z.cells.size=i.size:=by
 grind [jK]
theorem pn{n b:Nat}(h:roomy n b=true):n*b≤35184372088832∧n≤4398046511104:=by
 simpa[roomy]using h
theorem fO(w:World)(c:Array Value)(e:TypeId):(w.alloc (.cells c e)).shape? w.heap.size=some (e,c.size):=by
 have:=iV (w:=w) (o:=Obj.cells c e);simp only[World.shape?,this]
theorem Gu{nid ST XT:Nat}{args:Array Operand}{ats:Array TypeId}{s x:Operand}{aT:cF}(hi:Inv g H w)(hρ:∀x,R g w (ai x) (a.eval x))(hn:H[nid]? =some .aR)
 (ho:o.op=.call {callee:=.builtin .append,args:=args,argTypes:=ats}) (h0:ats[0]? =some ST) (h1:ats[1]? =some XT) (hs0:args[0]? =some s) (hx0:args[1]? =some x) (hsz:args.size=2)
 (h:(tL P nid ST XT (ai s) (ai x)).run H=some aT):bD P a o g H w aT:=by
 have hargs:args= #[s,x]:=by
  obtain⟨l⟩:=args
  match l,hsz with
  | [p,q],_=>simp at hs0 hx0;simp[hs0,hx0]
 have hexec:∀{v w'},(Builtin.append_ ats o.type #[a.eval s,a.eval x]).run P w=.ok v w'→(execOp a.eval o).run P w=.ok (.value v) w':=by
  intro v w' hr;simp[execOp,ho,resolve,invoke,builtin,hargs,hr]
 have hS:=hρ s;have hX:=hρ x;unfold tL at h;split at h
 ·rename_i e e' hus hux;split at h
  ·rename_i i hinfo;split at h
   ·simp[Rd.run]at h
   ·rename_i hz0;obtain⟨new,hnew,h⟩:=bind_some h;split at h
    ·
     rename_i es;rw[es]at hS;have hS:=eC hS;split at h
     ·rename_i hl0;simp[Rd.run]at h;subst h;have hnil:new=[]:=List.eq_nil_of_length_eq_zero hl0;subst hnil;obtain⟨ad,cap,news,ev,n1,n2,n3,n4⟩:=kC (sz:=i.size) hi hX hnew (by simp)
      have hnews:news=[]:=List.eq_nil_of_length_eq_zero (by simpa using n1)
      subst hnews;refine bD.pure hi (v:=.slice none 0 0) (hexec ?_) (by rw[es];simp[R])
      have:=ja (P:=P) (w:=w) (size:=i.size) (m:=0) (cap:=cap) (ad:=ad) (news:=[]) (by simp) (.inl rfl)
      rw[hS,ev];simp only[List.length_nil];simp[Builtin.append_,h0,h1,run_underlying hus,run_underlying hux,sizeOf,typeInfo,hinfo,Builtin.lenOf,this]
     ·rename_i hl0;split at h
      ·rename_i hc;simp only[Bool.and_eq_true]at hc;obtain⟨⟨hc1,hc2⟩,hc3⟩:=hc;simp[Rd.run]at h;subst h;have hall:=tN hc2;obtain⟨ad,cap,news,ev,n1,n2,n3,n4⟩:=kC hi hX hnew hall;obtain⟨z,hz,hzs⟩:=ou hc3;obtain⟨hr1,hr2⟩:=pn hc1;rcases nh (P:=P) (w:=w) (ty:=o.type) (base:=none) (n:=0) (cap:=0) (olds:=[]) (E:=e) (cur:= #[]) (c:=cap) h0 h1 hus ⟨e',hux⟩ hinfo hz (by simp) (.inl rfl) n1 n4 n3 (by rw[Nat.zero_add];omega) (by omega) (.inl ⟨rfl,rfl⟩)with⟨hle,_⟩ |⟨_,nc,c1,c2,c3⟩
       ·omega
       ·simp only[Nat.zero_add]at c1 c3;have hcells:cC g w.drew (#[]++news.toArray++Builtin.zeroCells z.cells (nc - new.length)) new.flatten 0:=by
         refine cW (bq (Ext.draw g w) _ _ n2) n3 fun j hj=>?_
         simp[Array.getElem?_append];omega
        obtain⟨a1,a2,a3⟩:=hi.draw.alloc (e:=e) (c:= #[]++news.toArray++Builtin.zeroCells z.cells (nc - new.length)) (rows:=new) (sz:=i.size) hn (by omega) (dZ.2 ⟨hall,hcells⟩) (by simp[n1])
        refine⟨_,_,_,.inl (hexec (by rw[hS,ev];exact c3)),by rw[bk];exact a1,?_,by rw[bk];exact a2.draw⟩
        simp only[R];refine .inr ⟨_,nc,e,(#[]++news.toArray++Builtin.zeroCells z.cells (nc - new.length)).size,a3,by simp,?_,?_,c1,c2⟩
        ·exact fO _ _ _
        ·have e5:(#[]++news.toArray++Builtin.zeroCells z.cells (nc - new.length):Array Value).size=new.length*i.size+(nc - new.length)*i.size:=by simp[size_zeroCells,hzs,n1]
         rw[e5,← Nat.add_mul];congr 1;omega
      ·simp[Rd.run]at h
    ·
     rename_i rows es;split at h
     ·rename_i hl0;simp[Rd.run]at h;subst h;have hnil:new=[]:=List.eq_nil_of_length_eq_zero hl0;subst hnil;obtain⟨ad,cap,news,ev,n1,n2,n3,n4⟩:=kC (sz:=i.size) hi hX hnew (by simp)
      have hS':=hS;rw[es]at hS';simp only[R]at hS';obtain⟨ad2,cap2,ev2,hcap2,_⟩:=hS';refine bD.pure hi (v:=a.eval s) (hexec ?_) hS;have:=ja (P:=P) (w:=w) (size:=i.size) (m:=0) (cap:=cap) (ad:=ad) (news:=[]) (by simp) (.inl rfl)
      rw[ev,ev2];simp only[List.length_nil];cases ad2<;>simp[Builtin.append_,h0,h1,run_underlying hus,run_underlying hux,sizeOf,typeInfo,hinfo,Builtin.lenOf,this,hcap2,storeCells]
     ·simp[Rd.run]at h
    ·
     rename_i es;have hS0:=hS;rw[es]at hS;simp only[R]at hS;obtain⟨ad2,hS⟩:=hS;split at h
     ·rename_i hl0;simp[Rd.run]at h;subst h;have hnil:new=[]:=List.eq_nil_of_length_eq_zero hl0;subst hnil;obtain⟨ad,cap,news,ev,n1,n2,n3,n4⟩:=kC (sz:=i.size) hi hX hnew (by simp)
      have hnews:news=[]:=List.eq_nil_of_length_eq_zero (by simpa using n1)
      subst hnews;refine bD.pure hi (v:=a.eval s) (hexec ?_) hS0;have:=ja (P:=P) (w:=w) (size:=i.size) (m:=0) (cap:=cap) (ad:=ad) (news:=[]) (by simp) (.inl rfl)
      rw[hS,ev];simp only[List.length_nil];cases ad2<;>simp[Builtin.append_,h0,h1,run_underlying hus,run_underlying hux,sizeOf,typeInfo,hinfo,Builtin.lenOf,this,storeCells]
     ·rename_i hl0;split at h
      ·rename_i hc;simp only[Bool.and_eq_true]at hc;obtain⟨⟨hc1,hc2⟩,hc3⟩:=hc;simp[Rd.run]at h;subst h;have hall:=tN hc2;obtain⟨ad,cap,news,ev,n1,n2,n3,n4⟩:=kC hi hX hnew hall;obtain⟨z,hz,hzs⟩:=ou hc3;obtain⟨hr1,hr2⟩:=pn hc1;rcases nh (P:=P) (w:=w) (ty:=o.type) (base:=ad2) (n:=0) (cap:=0) (olds:=[]) (E:=e) (cur:= #[]) (c:=cap) h0 h1 hus ⟨e',hux⟩ hinfo hz (by simp) (.inl rfl) n1 n4 n3 (by rw[Nat.zero_add];omega) (by omega) (.inl ⟨rfl,rfl⟩)with⟨hle,_⟩ |⟨_,nc,c1,c2,c3⟩
       ·omega
       ·simp only[Nat.zero_add]at c1 c3;have hcells:cC g w.drew (#[]++news.toArray++Builtin.zeroCells z.cells (nc - new.length)) new.flatten 0:=by
         refine cW (bq (Ext.draw g w) _ _ n2) n3 fun j hj=>?_
         simp[Array.getElem?_append];omega
        obtain⟨a1,a2,a3⟩:=hi.draw.alloc (e:=e) (c:= #[]++news.toArray++Builtin.zeroCells z.cells (nc - new.length)) (rows:=new) (sz:=i.size) hn (by omega) (dZ.2 ⟨hall,hcells⟩) (by simp[n1])
        refine⟨_,_,_,.inl (hexec (by rw[hS,ev];exact c3)),by rw[bk];exact a1,?_,by rw[bk];exact a2.draw⟩
        simp only[R];refine .inr ⟨_,nc,e,(#[]++news.toArray++Builtin.zeroCells z.cells (nc - new.length)).size,a3,by simp,?_,?_,c1,c2⟩
        ·exact fO _ _ _
        ·have e5:(#[]++news.toArray++Builtin.zeroCells z.cells (nc - new.length):Array Value).size=new.length*i.size+(nc - new.length)*i.size:=by simp[size_zeroCells,hzs,n1]
         rw[e5,← Nat.add_mul];congr 1;omega
      ·simp[Rd.run]at h
    ·
     rename_i b ak szs ob n es;obtain⟨⟨sz,rows⟩,hr1,h⟩:=bind_some h;have hrow:=gb hr1;simp only at hrow h;split at h
     ·rename_i hc;obtain⟨rfl,hle0,rfl,hroom,hall,hzf⟩:=hc;simp[Rd.run]at h;subst h;have hall:=tN hall;rw[FY n rows hle0];have hlen:(rows.take n).length=n:=by rw[List.length_take];omega
      obtain⟨ad,cap,news,ev,n1,n2,n3,n4⟩:=kC hi hX hnew hall;obtain⟨z,hz,hzs⟩:=ou hzf;obtain⟨rm1,rm2⟩:=pn hroom;rw[es]at hS;simp only[R]at hS;rcases hS with⟨rfl,evs⟩ |⟨k,scap,E',s',hk,evs,hsh,hcs,hns,hmax⟩
      ·rw[List.take_zero];have hpos:0<i.size:=by omega
       simp only[Nat.zero_add]at rm1 rm2;by_cases hl0:new.length=0
       ·have hnil:new=[]:=List.eq_nil_of_length_eq_zero hl0;subst hnil;have hnews:news=[]:=List.eq_nil_of_length_eq_zero (by simpa using n1)
        subst hnews;obtain⟨b1,b2⟩:=hi.blank hrow hpos;refine⟨.slice none 0 0,w,g,.inl (hexec ?_),by rw[bk];exact b1,by simp[R],by rw[bk];exact b2⟩
        have:=ja (P:=P) (w:=w) (size:=i.size) (m:=0) (cap:=cap) (ad:=ad) (news:=[]) (by simp) (.inl rfl)
        rw[evs,ev];simp only[List.length_nil];simp[Builtin.append_,h0,h1,run_underlying hus,run_underlying hux,sizeOf,typeInfo,hinfo,Builtin.lenOf,this]
       ·rcases nh (P:=P) (w:=w) (ty:=o.type) (base:=none) (n:=0) (cap:=0) (olds:=[]) (E:=e) (cur:= #[]) (c:=cap) h0 h1 hus ⟨e',hux⟩ hinfo hz (by simp) (.inl rfl) n1 n4 n3 (by rw[Nat.zero_add];omega) (by omega) (.inl ⟨rfl,rfl⟩)with⟨hle,_⟩ |⟨_,nc,c1,c2,c3⟩
        ·omega
        ·simp only[Nat.zero_add]at c1 c3;have hsz':(#[]++news.toArray++Builtin.zeroCells z.cells (nc - new.length)).size=nc*i.size:=by
          have e5:(#[]++news.toArray++Builtin.zeroCells z.cells (nc - new.length):Array Value).size=new.length*i.size+(nc - new.length)*i.size:=by simp[size_zeroCells,hzs,n1]
          rw[e5,← Nat.add_mul];congr 1;omega
         have hcells:cC g w (#[]++news.toArray++Builtin.zeroCells z.cells (nc - new.length)) ([]++new).flatten 0:=by
          refine cW (by simpa using n2) n3 fun j hj=>?_
          simp[Array.getElem?_append];omega
         obtain⟨s1,s2⟩:=hi.grow (w':=w.drew.alloc (.cells (#[]++news.toArray++Builtin.zeroCells z.cells (nc - new.length)) e)) (k':=w.heap.size) (rows':=[]++new) (k:=0) (c:= #[]) (e:=e) hrow hpos (iV (w:=w.drew)) (.inr (Nat.le_refl _)) (fun j hj _=>RowKit.Below.heap_alloc w.drew _ j hj) (by simp) rfl ⟨rfl,Nat.le_succ _⟩ rfl (dZ.2 ⟨by simpa using hall,hcells⟩)
          (by grind)
         refine⟨_,_,_,.inl (hexec (by rw[evs,ev];exact c3)),by rw[bk];exact s1,?_,by rw[bk];exact s2⟩
         simp only[R];exact .inr ⟨w.heap.size,nc,e,nc*i.size,by simp[Gh.born],by simp,by have:=fO w.drew (#[]++news.toArray++Builtin.zeroCells z.cells (nc - new.length)) e;rw[hsz']at this;exact this,by simp,by simpa using c1,c2⟩
      obtain⟨k',cur,E,q1,q2,q3,q4,q5,q6⟩:=hi.row b ak _ _ hrow hk;rw[hk]at q1;simp at q1;obtain⟨rfl,rfl⟩:=q1;have hs':s'=cur.size∧E'=E:=by
       simp only[World.shape?,q2]at hsh;simp at hsh;exact⟨hsh.2.symm,hsh.1.symm⟩
      obtain⟨rfl,rfl⟩:=hs';simp only[Nat.zero_mul,Nat.zero_add]at evs hcs;have q3:ez g w cur i.size (rows.take n) 0:=gr _ _ fun j r hr=>by
       rw[List.getElem?_take]at hr;split at hr
       ·exact bR _ _ _ _ q3 hr
       ·cases hr
      generalize rows.take n=rowsN at q3 hlen ⊢;obtain⟨fl1,fl2⟩:=dZ.1 q3;obtain⟨olds,o1,o2,o3,o4⟩:=dR fl2;have ol:olds.length=n*i.size:=by rw[o1,gz fl1,hlen]
      have hcat:RL g w (rowsN++new).flatten (olds++news):=by rw[List.flatten_append];exact dn o3 n2
      have hone2:∀y∈olds++news,y.oneCell'=true:=by
       intro y hy;rcases List.mem_append.1 hy with h |h
       ·exact o2 y h
       ·exact n3 y h
      have hlens:∀r∈rowsN++new,r.length=i.size:=by
       intro r hr;rcases List.mem_append.1 hr with h |h
       ·exact fl1 r h
       ·exact hall r h
      have ocur:∀j,j<olds.length→cur[j]? =olds[j]? :=fun j hj=>by simpa using o4 j hj
      rcases nh (P:=P) (w:=w) (ty:=o.type) (base:=some ⟨k,0,none⟩) (n:=n) (cap:=scap) (olds:=olds) (E:=E') (cur:=cur) (c:=cap) h0 h1 hus ⟨e',hux⟩ hinfo hz ol
       (.inr ⟨_,rfl,fun j u hu=>by
        grind [fN,fc]⟩) n1 n4 n3 (by omega) (by omega) (.inr ⟨k,rfl,q2,hcs⟩)with⟨hle,w',hr,hw⟩ |⟨hlt,nc,c1,c2,c3⟩
      ·
       have hcsz:n*i.size+news.length≤cur.size:=by rw[n1,← Nat.add_mul,← hcs];exact Nat.mul_le_mul_right _ hle
       have hw':w'=w.setRow k (cur.toList.take (n*i.size)++news++cur.toList.drop (n*i.size+news.length)).toArray:=by
        rcases hw with⟨hm,hw⟩ |⟨k2,hk2,hw⟩
        ·have hnn:news=[]:=List.eq_nil_of_length_eq_zero (by rw[n1,hm];simp)
         subst hnn;simp only[List.append_nil,List.length_nil,Nat.add_zero,List.take_append_drop,Array.toArray_toList];rw[setRow_self w k cur _ _ q2];exact hw
        ·simp at hk2;subst hk2;exact hw
       have hsz':(cur.toList.take (n*i.size)++news++cur.toList.drop (n*i.size+news.length)).toArray.size=cur.size:=by simp;omega
       have hcells:cC g w (cur.toList.take (n*i.size)++news++cur.toList.drop (n*i.size+news.length)).toArray (rowsN++new).flatten 0:=by
        refine cW hcat hone2 fun j hj=>?_
        simp only[Nat.zero_add,List.getElem?_toArray];simp only[List.length_append]at hj;rw[List.append_assoc];by_cases hjo:j<olds.length
        ·grind
        ·grind
       obtain⟨s1,s2⟩:=hi.grow (k':=k) (rows':=rowsN++new) hrow q5 (setRow_heap w k cur _ E' (0,0) q2) (.inl ⟨rfl,hsz',rfl,hk,q2⟩) (fun j _ hj=>setRow_other w k j _ hj) (by rw[setRow_size];exact Nat.le_refl _) rfl ⟨rfl,Nat.le_of_eq rfl⟩ rfl (dZ.2 ⟨hlens,hcells⟩)
        (by rw[hsz',← hcs,List.length_append,hlen];exact Nat.mul_le_mul_right _ hle)
       refine⟨_,_,_,.inl (hexec (by rw[evs,ev,hr])),by rw[bk,hw'];exact s1,?_,by rw[bk,hw'];exact s2⟩
       simp only[R];refine .inr ⟨k,scap,E',cur.size,by simp[Gh.born],by simp,?_,by simpa using hcs,by omega,hmax⟩
       rw[hw'];have:=setRow_heap w k cur (cur.toList.take (n*i.size)++news++cur.toList.drop (n*i.size+news.length)).toArray E' (0,0) q2;simp only[World.shape?,this,hsz']
      ·
       have hsz':(olds.toArray++news.toArray++Builtin.zeroCells z.cells (nc - (n+new.length))).size=nc*i.size:=by
        simp only[Array.size_append,size_zeroCells,hzs,List.size_toArray,n1,ol,← Nat.add_mul];congr 1;omega
       have hcells:cC g w (olds.toArray++news.toArray++Builtin.zeroCells z.cells (nc - (n+new.length))) (rowsN++new).flatten 0:=by
        refine cW hcat hone2 fun j hj=>?_
        simp only[List.length_append]at hj;rw[Nat.zero_add,Array.getElem?_append_left (by simp;omega)]
        simp
       obtain⟨s1,s2⟩:=hi.grow (w':=w.drew.alloc (.cells (olds.toArray++news.toArray++Builtin.zeroCells z.cells (nc - (n+new.length))) e)) (k':=w.heap.size) (rows':=rowsN++new) (k:=k) (c:=cur) (e:=E') hrow q5 (iV (w:=w.drew)) (.inr (Nat.le_refl _)) (fun j hj _=>RowKit.Below.heap_alloc w.drew _ j hj) (by simp) rfl ⟨rfl,Nat.le_succ _⟩ rfl (dZ.2 ⟨hlens,hcells⟩)
        (by rw[hsz',List.length_append,hlen];exact Nat.mul_le_mul_right _ c1)
       refine⟨_,_,_,.inl (hexec (by rw[evs,ev];exact c3)),by rw[bk];exact s1,?_,by rw[bk];exact s2⟩
       simp only[R];exact .inr ⟨w.heap.size,nc,e,nc*i.size,by simp[Gh.born],by simp,by have:=fO w.drew (olds.toArray++news.toArray++Builtin.zeroCells z.cells (nc - (n+new.length))) e;rw[hsz']at this;exact this,by simp,c1,c2⟩
     ·simp[Rd.run]at h
    ·simp[Rd.run]at h
  ·simp[Rd.run]at h
 ·simp[Rd.run]at h
end
end Go.AM
end
section
namespace Go.AM
section
variable [ax] {P:Program} {a:Act} {o:Oper} {g:Gh} {H:List af} {w:World} {ai:Operand→AVal}
theorem Ef{z:Array Value}{n j k:Nat}(hk:k<z.size)(hj:j*z.size+k<n):(madeCells z n)[j*z.size+k]? =z[k]? :=by
 have hmod:(j*z.size+k) % z.size=k:=by
  rw[Nat.mul_comm,Nat.mul_add_mod];exact Nat.mod_eq_of_lt hk
 simp[madeCells,hj,hmod,hk]
theorem xY{z:Array Value}{n l sz:Nat}(hs:z.size=sz)(hl:l*sz≤n)(h1:∀y∈z.toList,y.oneCell'=true):ez g w (madeCells z n) sz (List.replicate l (z.toList.map .sc)) 0:=by
 refine gr _ _ fun j r hr=>?_
 rw[List.getElem?_replicate]at hr;split at hr
 ·rename_i hj;simp at hr;subst hr;refine⟨by simp[hs],mZ _ _ fun k x hx=>?_⟩
  rw[List.getElem?_map]at hx;obtain⟨y,hy,rfl⟩:=Option.map_eq_some_iff.1 hx;rw[Array.getElem?_toList]at hy;have hk:k<z.size:=(Array.getElem?_eq_some_iff.1 hy).1;refine⟨y,?_,h1 y (by grind),by simp[R]⟩
  have hb:(j+1)*sz≤l*sz:=Nat.mul_le_mul_right sz hj;grind [Ef]
 ·cases hr
theorem Dx{nid T:Nat}{l c:Operand}{aT:cF}(hi:Inv g H w)(hρ:∀x,R g w (ai x) (a.eval x))(hn:H[nid]? =some .aR)(ho:o.op=.makeSlice T l c)(h:kW P nid T (ai l) (ai c)=some aT):bD P a o g H w aT:=by
 have hl:=hρ l;have hc:=hρ c;unfold kW at h;split at h
 ·rename_i kl nl kc nc e1 e2;rw[e1]at hl;rw[e2]at hc;have hl:=eC hl;have hc:=eC hc;split at h
  ·rename_i e hu;split at h
   ·rename_i i z hinfo hz;split at h<;>simp at h
    rename_i hcond;obtain⟨c1,c2,c3,c4,c5⟩:=hcond;subst h;obtain⟨i',zv,q1,q2,rfl,q4⟩:=gC hz;rw[hinfo]at q1;cases q1;obtain⟨r1,r2⟩:=pn c3;have hsz:zv.cells.size=i.size:=by simpa using c4
    have hb:(i.bytes:Int)*nc≤281474976710656:=by
     have hnc:nc=(nc.toNat:Int):=by omega
     rw[hnc];have:((i.bytes*nc.toNat:Nat):Int)≤281474976710656:=by rw[Nat.mul_comm];omega
     rwa[Int.natCast_mul]at this
    have hr:=run_make (P:=P) w T e i zv hu hinfo q2 kl kc nl nc c1 c2 hb (by omega)
    have hle:nl.toNat*i.size≤nc.toNat*i.size:=Nat.mul_le_mul_right _ (by omega)
    obtain⟨a1,a2,a3⟩:=hi.alloc (e:=e) (c:=madeCells zv.cells (nc.toNat*i.size)) (rows:=List.replicate nl.toNat (zv.cells.toList.map .sc)) (sz:=i.size) hn c5 (xY hsz hle q4) (by simp[size_madeCells];exact hle)
    refine⟨.slice (some ⟨w.heap.size,0,none⟩) nl.toNat nc.toNat,w.alloc (.cells (madeCells zv.cells (nc.toNat*i.size)) e),_,.inl (by simp[execOp,ho,hl,hc,hr]),by rw[bk];exact a1,?_,by rw[bk];exact a2⟩
    simp only[R];exact .inr ⟨w.heap.size,nc.toNat,e,nc.toNat*i.size,a3,by simp,by have:=fO w (madeCells zv.cells (nc.toNat*i.size)) e;rw[size_madeCells]at this;exact this,by simp,by omega,by omega⟩
   ·cases h
  ·cases h
 ·cases h
theorem Ce{nid T len:Nat}{parts:Array (Nat×Operand)}{aT:cF}(hi:Inv g H w)(hρ:∀x,R g w (ai x) (a.eval x))(hn:H[nid]? =some .aR)(ho:o.op=.buildSlice T len parts)(h:vm P nid T len (parts.toList.map fun p=>(p.1,ai p.2))=some aT):bD P a o g H w aT:=by
 unfold vm at h;split at h
 ·rename_i e hu;split at h
  ·rename_i s z hs hz;split at h
   ·rename_i hc;obtain⟨c1,c2,c3⟩:=hc;obtain⟨cs,hf,rfl⟩:=Option.map_eq_some_iff.1 h;obtain⟨i,zv,q1,q2,rfl,q4⟩:=gC hz;have hsz:zv.cells.size=s:=by simpa using c2
    have hmade:((Array.range (len*s)).map (zv.cells[· % zv.cells.size]!))=madeCells zv.cells (len*s):=rfl;have hrows:ez g w (madeCells zv.cells (len*s)) s (List.replicate len (zv.cells.toList.map .sc)) 0:=xY hsz (Nat.le_refl _) q4;obtain⟨fl1,fl2⟩:=dZ.1 hrows;have hflen:(List.replicate len (zv.cells.toList.map AVal.sc)).flatten.length=len*s:=by rw[gz fl1];simp
    obtain⟨vs,v1,v2,v3,v4⟩:=dR fl2;have hvs:vs=(madeCells zv.cells (len*s)).toList:=by
     apply List.ext_getElem?;intro j;by_cases hj:j<vs.length
     ·grind
     ·grind
    obtain⟨c',f1,f2,f3,f4,f5⟩:=wM (c:=madeCells zv.cells (len*s)) hρ hf (by rw[← hvs];exact v3) (by rw[← hvs];exact v2)
    have hcs:cs.length=len*s:=by rw[f5,hflen]
    obtain⟨g1,g2⟩:=vp s len cs hcs;have hc's:c'.size=len*s:=by rw[f4,size_madeCells]
    have hcells:cC g w c' (chunks s len cs).flatten 0:=by
     rw[g2];exact cW f2 f3 fun j _=>by simp
    obtain⟨a1,a2,a3⟩:=hi.alloc (e:=e) (c:=c') (rows:=chunks s len cs) (sz:=s) hn c1 (dZ.2 ⟨g1,hcells⟩) (by grind [iz])
    have hle:len≤len*s:=Nat.le_mul_of_pos_right len c1;refine⟨.slice (some ⟨w.heap.size,0,none⟩) len len,w.alloc (.cells c' e),_,.inl ?_,by rw[bk];exact a1,?_,by rw[bk];exact a2⟩
    ·have hno:¬(16777216<len*s):=by omega
     by_cases h0:len*s=0
     ·have hl0:len=0:=by
       rcases Nat.mul_eq_zero.1 h0 with h |h
       ·exact h
       ·omega
      subst hl0;have hm0:madeCells zv.cells (0*s)= #[]:=by simp[madeCells,Array.range_zero']
      rw[hm0]at f1;simp[execOp,ho,Instr.buildSlice,run_underlying hu,cD hs,newRow];rw[show(Array.map (fun _=>(default:Value)) (Array.range 0))= #[]from by simp[Array.range_zero'],f1]
      simp
     ·simp[execOp,ho,Instr.buildSlice,run_underlying hu,cD hs,hno,h0,zeroValue,typeInfo,q1,q2,newRow];rw[hmade,f1];simp
    grind [R,fO]
   ·cases h
  ·cases h
 ·cases h
theorem Gv{b ak sz ob k:Nat}{rows new:List (List AVal)}{news:List Value}{cur:Array Value}{E:TypeId}(hi:Inv g H w)(hrow:H[b]? =some (.row ak sz rows))(hk:g.ai b ak=some (k,sz))(q2:w.heap[k]? =some (.cells cur E (0,0)))
 (hle:ob+new.length≤rows.length) (hall:∀r∈new,r.length=sz) (n2:RL g w new.flatten news) (n3:∀y∈news,y.oneCell'=true):
 ob*sz+news.length≤cur.size∧Inv g (H.set b (.row ak sz (rows.take ob++new++rows.drop (ob+new.length)))) (w.setRow k (cur.toList.take (ob*sz)++news++cur.toList.drop (ob*sz+news.length)).toArray)∧
 aK g H w g (H.set b (.row ak sz (rows.take ob++new++rows.drop (ob+new.length)))) (w.setRow k (cur.toList.take (ob*sz)++news++cur.toList.drop (ob*sz+news.length)).toArray):=by
 obtain⟨k',cur',E',p1,p2,q3,q4,q5,q6⟩:=hi.row b ak _ _ hrow hk;rw[hk]at p1;simp at p1;subst p1;rw[q2]at p2;simp at p2;obtain⟨rfl,-⟩:=p2;have n1:news.length=new.length*sz:=by rw[(cK _ _ n2).1,gz hall]
 have hbound:(ob+new.length)*sz≤rows.length*sz:=Nat.mul_le_mul_right _ hle;rw[Nat.add_mul]at hbound;rw[n1];have hsz':(cur.toList.take (ob*sz)++news++cur.toList.drop (ob*sz+new.length*sz)).toArray.size=cur.size:=by
  simp;omega
 have hgetnew:∀p,(cur.toList.take (ob*sz)++news++cur.toList.drop (ob*sz+new.length*sz)).toArray[p]? =if ob*sz≤p∧p<ob*sz+new.length*sz then news[p - ob*sz]? else cur[p]? :=by
  intro p;simp only[List.getElem?_toArray];by_cases h1:p<ob*sz
  ·grind
  ·by_cases h2:p<ob*sz+new.length*sz
   ·grind
   ·rw[if_neg (by omega),List.getElem?_append_right (by simp;omega),List.getElem?_drop]
    grind
 have hrows:ez g w (cur.toList.take (ob*sz)++news++cur.toList.drop (ob*sz+new.length*sz)).toArray sz (rows.take ob++new++rows.drop (ob+new.length)) 0:=by
  refine gr _ _ fun j r hr=>?_
  have hor:ob≤rows.length:=by omega
  by_cases h1:j<ob
  ·rw[List.append_assoc,List.getElem?_append_left (by simp;omega),List.getElem?_take,if_pos h1]at hr
   obtain⟨r1,r2⟩:=bR _ _ _ _ q3 hr;refine⟨r1,iy _ _ _ (fun p hp=>?_) r2⟩
   rw[r1]at hp;have:(j+1)*sz≤ob*sz:=Nat.mul_le_mul_right _ h1;grind
  ·by_cases h2:j<ob+new.length
   ·rw[List.append_assoc,List.getElem?_append_right (by simp;omega),List.getElem?_append_left (by simp;omega)]at hr
    have e0:(rows.take ob).length=ob:=by simp;omega
    rw[e0]at hr;have r1:=hall r (List.mem_of_getElem? hr);refine⟨r1,?_⟩;have hr':new[j - ob]? =some r:=hr;refine mZ _ _ fun p y hy=>?_
    have hp:p<sz:=by have:=(List.getElem?_eq_some_iff.1 hy).1;omega
    have hidx:new.flatten[(j - ob)*sz+p]? =some y:=by
     clear hr' hgetnew hsz';have:∀(l:List (List AVal)) (q:Nat),(∀r∈l,r.length=sz)→l[q]? =some r→l.flatten[q*sz+p]? =some y:=by
      intro l;induction l with
      |nil=>intro q _ h;simp at h
      |cons u us ih=>
       intro q hl h;have hu':=hl u (by simp)
       cases q with
       |zero=>
        grind
       |succ q=>
        grind
     exact this new _ hall hr
    obtain⟨z,hz1,hz2⟩:=(cK _ _ n2).2 _ _ hidx;have hjm:(j - ob+1)*sz≤new.length*sz:=Nat.mul_le_mul_right _ (by omega)
    rw[Nat.add_mul,Nat.one_mul]at hjm;have hjo:j*sz=ob*sz+(j - ob)*sz:=by rw[← Nat.add_mul];congr 1;omega
    refine⟨z,?_,n3 z (List.mem_of_getElem? hz1),hz2⟩;rw[Nat.zero_add,hgetnew,if_pos (by omega),← hz1]
    congr 1;omega
   ·rw[List.getElem?_append_right (by simp;omega),List.getElem?_drop]at hr
    have e0:ob+new.length+(j - (rows.take ob++new).length)=j:=by simp;omega
    rw[e0]at hr;obtain⟨r1,r2⟩:=bR _ _ _ _ q3 hr;refine⟨r1,iy _ _ _ (fun p hp=>?_) r2⟩
    have:(ob+new.length)*sz≤j*sz:=Nat.mul_le_mul_right _ (by omega)
    grind
 obtain⟨s1,s2⟩:=hi.store (rows':=rows.take ob++new++rows.drop (ob+new.length)) hrow hk q2 (setRow_heap w k cur _ E (0,0) q2) hsz' (fun j hj=>setRow_other w k j _ hj) (setRow_size w k _) rfl ⟨rfl,Nat.le_of_eq rfl⟩ rfl hrows (by
  grind)
 exact⟨by omega,s1,s2⟩
theorem HO{T:Nat}{args:Array Operand}{ats:Array TypeId}{x:Operand}{aT:cF}(hi:Inv g H w)(hρ:∀x,R g w (ai x) (a.eval x))
 (ho:o.op=.call {callee:=.builtin .clear,args:=args,argTypes:=ats}) (h0:ats[0]? =some T) (hx0:args[0]? =some x) (h:(xP P T (ai x)).run H=some aT):bD P a o g H w aT:=by
 have hexec:∀{v w'},(Builtin.clear_ ats o.type (args.map a.eval)).run P w=.ok v w'→(execOp a.eval o).run P w=.ok (.value v) w':=by
  intro v w' hr;simp[execOp,ho,resolve,invoke,builtin,hr]
 have hX:=hρ x;unfold xP at h;split at h
 ·rename_i e hu ex;simp[Rd.run]at h;subst h;rw[ex]at hX;have hX:=eC hX;exact bD.pure hi (hexec (v:=.tuple #[]) (by simp[Builtin.clear_,h0,hx0,run_underlying hu,hX])) (by simp[nothing,R])
 ·rename_i e hu ex;simp[Rd.run]at h;subst h;rw[ex]at hX;simp only[R]at hX;obtain⟨ad,cap,hX,_⟩:=hX;simp only[List.length_nil]at hX;refine bD.pure hi (hexec (v:=.tuple #[]) ?_) (by simp[nothing,R])
  cases ad<;>simp[Builtin.clear_,h0,hx0,run_underlying hu,hX]
 ·rename_i e b ak sz ob n hu ex;split at h
  ·rename_i z hz;obtain⟨⟨sz',rows⟩,h1,h⟩:=bind_some h;have hrow:=gb h1;simp only at hrow h;split at h<;>simp[Rd.run]at h
   rename_i hc;obtain⟨rfl,hle,hzl⟩:=hc;subst h;obtain⟨inf,zv,hinf,hzv,rfl,hz1⟩:=gC hz;have hzs:zv.cells.size=sz':=by simpa using hzl
   rw[ex]at hX;simp only[R]at hX;rcases hX with⟨rfl,evs⟩ |⟨k,cap,e',s,hk,evs,hsh,hcs,hm,hmax⟩
   ·have hrun:(Builtin.clear_ ats o.type (args.map a.eval)).run P w=.ok (.tuple #[]) w:=by
     simp[Builtin.clear_,h0,hx0,run_underlying hu,evs]
    have hH:H.set b (.row ak sz' (rows.take ob++List.replicate 0 (zv.cells.toList.map AVal.sc)++rows.drop (ob+0)))=H:=by
     have:rows.take ob++List.replicate 0 (zv.cells.toList.map AVal.sc)++rows.drop (ob+0)=rows:=by simp
     rw[this];apply List.ext_getElem?;intro i;rw[List.getElem?_set];split
     ·rename_i e;subst e;split<;>simp_all
     ·rfl
    refine⟨_,w,g,.inl (hexec hrun),?_,by simp[nothing,R],?_⟩
    ·grind [bk]
    grind [bk,aK.refl]
   obtain⟨k',cur,E,q1,q2,q3,q4,q5,q6⟩:=hi.row b ak _ _ hrow hk;rw[hk]at q1;simp at q1;subst q1;have hone:∀y∈(madeCells zv.cells (n*zv.cells.size)).toList,y.oneCell'=true:=fun y hy=>by
    obtain⟨p,hp⟩:=List.getElem?_of_mem hy;rw[Array.getElem?_toList]at hp;have hlt:p<n*zv.cells.size:=by have:=(Array.getElem?_eq_some_iff.1 hp).1;simpa[size_madeCells]using this
    have hpos:0<zv.cells.size:=by rw[hzs];exact q5
    have hmod:p % zv.cells.size<zv.cells.size:=Nat.mod_lt _ hpos;have:=Ef (z:=zv.cells) (n:=n*zv.cells.size) (j:=p / zv.cells.size) hmod (by rw[Nat.div_add_mod'];exact hlt)
    rw[Nat.div_add_mod',hp]at this;grind
   have hfl:RL g w (List.replicate n (zv.cells.toList.map .sc)).flatten (madeCells zv.cells (n*zv.cells.size)).toList:=by
    obtain⟨_,f2⟩:=dZ.1 (xY (g:=g) (w:=w) (l:=n) hzs (n:=n*zv.cells.size) (by rw[hzs];exact Nat.le_refl _) hz1)
    obtain⟨vs,v1,v2,v3,v4⟩:=dR f2;have hvl:vs.length=n*zv.cells.size:=by
     rw[v1,gz (sz:=sz') (fun r hr=>by grind)]
     simp[hzs]
    have:vs=(madeCells zv.cells (n*zv.cells.size)).toList:=by
     apply List.ext_getElem?;intro p;by_cases hp:p<vs.length
     ·grind
     ·rw[List.getElem?_eq_none (by omega),List.getElem?_eq_none (by simp[size_madeCells];omega)]
    rw[← this];exact v3
   obtain⟨f1,f2,f3⟩:=Gv (new:=List.replicate n (zv.cells.toList.map .sc)) (ob:=ob) hi hrow hk q2 (by simpa using hle) (fun r hr=>by grind) hfl hone
   have hst:=run_storeCells_at P k (ob*sz') E (madeCells zv.cells (n*zv.cells.size)).toList 0 cur w q2 (by simpa using f1) hone
   simp only[Nat.add_zero]at hst;simp only[List.length_replicate]at f2 f3;by_cases hn0:n=0
   ·subst hn0;have hrun:(Builtin.clear_ ats o.type (args.map a.eval)).run P w=.ok (.tuple #[]) w:=by
     simp[Builtin.clear_,h0,hx0,run_underlying hu,evs]
    have hH:H.set b (.row ak sz' (rows.take ob++List.replicate 0 (zv.cells.toList.map AVal.sc)++rows.drop (ob+0)))=H:=by
     have:rows.take ob++List.replicate 0 (zv.cells.toList.map AVal.sc)++rows.drop (ob+0)=rows:=by simp
     rw[this];apply List.ext_getElem?;intro i;rw[List.getElem?_set];split
     ·rename_i e;subst e;split<;>simp_all
     ·rfl
    refine⟨_,w,g,.inl (hexec hrun),?_,by simp[nothing,R],?_⟩
    ·grind [bk]
    grind [bk,aK.refl]
   ·have hrun:(Builtin.clear_ ats o.type (args.map a.eval)).run P w=.ok (.tuple #[]) (w.setRow k (cur.toList.take (ob*sz')++(madeCells zv.cells (n*zv.cells.size)).toList++cur.toList.drop (ob*sz'+(madeCells zv.cells (n*zv.cells.size)).toList.length)).toArray):=by
     have hzc:Builtin.zeroCells zv.cells n=madeCells zv.cells (n*zv.cells.size):=rfl;have hzr:(zeroValue e).run P w=.ok zv w:=by simp[zeroValue,typeInfo,hinf,hzv]
     obtain⟨n',rfl⟩:=Nat.exists_eq_succ_of_ne_zero hn0;simp[Builtin.clear_,h0,hx0,run_underlying hu,evs,hzr,hzc,hst]
    exact⟨_,_,g,.inl (hexec hrun),by grind [bk],by simp[nothing,R],by grind [bk]⟩
  ·simp[Rd.run]at h
 ·simp[Rd.run]at h
theorem IV{DT:Nat}{args:Array Operand}{ats:Array TypeId}{d x:Operand}{aT:cF}(hi:Inv g H w)(hρ:∀x,R g w (ai x) (a.eval x))
 (ho:o.op=.call {callee:=.builtin .copy,args:=args,argTypes:=ats}) (h0:ats[0]? =some DT) (hd0:args[0]? =some d) (hx0:args[1]? =some x)
 (h:(Gq P DT (ai d) (ai x)).run H=some aT):bD P a o g H w aT:=by
 have hexec:∀{v w'},(Builtin.copy_ ats o.type (args.map a.eval)).run P w=.ok v w'→(execOp a.eval o).run P w=.ok (.value v) w':=by
  intro v w' hr;simp[execOp,ho,resolve,invoke,builtin,hr]
 have hD:=hρ d;have hX:=hρ x;unfold Gq at h;split at h
 ·rename_i e hu;obtain⟨new,hnew,h⟩:=bind_some h;split at h
  ·rename_i b ak szs ob n es;obtain⟨⟨sz,rows⟩,hr1,h⟩:=bind_some h;have hrow:=gb hr1;simp only at hrow h;split at h<;>simp[Rd.run]at h
   rename_i hc;obtain⟨hle,hsz,hall⟩:=hc;subst h;have hall:=tN hall;obtain⟨ad,cap,news,ev,n1,n2,n3,n4⟩:=kC hi hX hnew hall;rw[es]at hD;simp only[R]at hD;rcases hD with⟨rfl,evs⟩ |⟨k,scap,E',s',hk,evs,hsh,hcs,hns,hmax⟩
   ·have hm0:min new.length 0=0:=Nat.min_eq_right (Nat.zero_le _);have hmin:Nat.min new.length 0=0:=hm0;have hH:H.set b (.row ak sz (rows.take ob++new.take (min new.length 0)++rows.drop (ob+min new.length 0)))=H:=by
     have:rows.take ob++new.take (min new.length 0)++rows.drop (ob+min new.length 0)=rows:=by simp
     rw[this];apply List.ext_getElem?;intro i;rw[List.getElem?_set];split
     ·rename_i e;subst e;split<;>simp_all
     ·rfl
    have hrun:(Builtin.copy_ ats o.type (args.map a.eval)).run P w=.ok (.int .i64 0) w:=by
     have hf:∀m,(Builtin.firstCells sz 0 (.slice ad m cap)).run P w=.ok #[] w:=fun m=>by cases ad<;>simp[Builtin.firstCells,loadCells,loadCellsFrom]
     simp[Builtin.copy_,h0,hd0,hx0,run_underlying hu,evs,ev,Builtin.lenOf,cD hsz,hf,goInt]
    refine⟨_,w,g,.inl (hexec hrun),?_,by simp[R],?_⟩
    ·grind [bk]
    grind [bk,aK.refl]
   obtain⟨k',cur,E,q1,q2,q3,q4,q5,q6⟩:=hi.row b ak _ _ hrow hk;rw[hk]at q1;simp at q1;obtain⟨rfl,rfl⟩:=q1;have hm:(min new.length n)≤new.length:=Nat.min_le_left _ _;have hm2:(min new.length n)≤n:=Nat.min_le_right _ _;obtain⟨fl1,fl2⟩:=dZ.1 q3;have hmsz:(min new.length n)*szs≤new.length*szs:=Nat.mul_le_mul_right _ hm;have hnewsT:(news.take ((min new.length n)*szs)).length=(min new.length n)*szs:=by simp;omega
   have hrlT:RL g w (new.take (min new.length n)).flatten (news.take ((min new.length n)*szs)):=by
    have e1:(new.take (min new.length n)).flatten=new.flatten.take ((min new.length n)*szs):=by
     have hsplit:new.flatten=(new.take (min new.length n)).flatten++(new.drop (min new.length n)).flatten:=by rw[← List.flatten_append,List.take_append_drop]
     have hl:(new.take (min new.length n)).flatten.length=(min new.length n)*szs:=by
      rw[gz (sz:=szs) (fun r hr=>hall r (List.mem_of_mem_take hr))];simp
     rw[hsplit,← hl,List.take_left]
    rw[e1];have:=o9 n2 0 ((min new.length n)*szs);simpa using this
   have hfirst:(Builtin.firstCells szs (min new.length n) (.slice ad new.length cap)).run P w=.ok (news.take ((min new.length n)*szs)).toArray w:=by
    rcases n4 with h0 |⟨A,hA,hA2⟩
    ·have hz:min new.length n=0:=by omega
     have hnn:news=[]:=List.eq_nil_of_length_eq_zero (by rw[n1,h0];simp)
     subst hnn;rw[hz];cases ad<;>simp[Builtin.firstCells,loadCells,loadCellsFrom]
    ·subst hA;have:=run_firstCells_some (P:=P) w szs (min new.length n) A new.length cap (news.take ((min new.length n)*szs)) hnewsT (fun j u hu=>by
      grind)
     exact this
   have hbound:(ob+n)*szs≤rows.length*szs:=Nat.mul_le_mul_right _ hle;rw[Nat.add_mul]at hbound;have hmn:(min new.length n)*szs≤n*szs:=Nat.mul_le_mul_right _ hm2;have hst:=run_storeCells_at P k (ob*szs) E (news.take ((min new.length n)*szs)) 0 cur w q2 (by rw[hnewsT];omega) (fun y hy=>n3 y (List.mem_of_mem_take hy))
   simp only[Nat.add_zero,hnewsT]at hst;have hsz':(cur.toList.take (ob*szs)++news.take ((min new.length n)*szs)++cur.toList.drop (ob*szs+(min new.length n)*szs)).toArray.size=cur.size:=by
    simp;omega
   have hrun:(Builtin.copy_ ats o.type (args.map a.eval)).run P w=.ok (.int .i64 (min new.length n:Nat)) (w.setRow k (cur.toList.take (ob*szs)++news.take ((min new.length n)*szs)++cur.toList.drop (ob*szs+(min new.length n)*szs)).toArray):=by
    have hmin:Nat.min new.length n=min new.length n:=rfl;simp[Builtin.copy_,h0,hd0,hx0,run_underlying hu,evs,ev,Builtin.lenOf,cD hsz,hmin,hfirst,hst,goInt]
   have hgetnew:∀p,(cur.toList.take (ob*szs)++news.take ((min new.length n)*szs)++cur.toList.drop (ob*szs+(min new.length n)*szs)).toArray[p]? =if ob*szs≤p∧p<ob*szs+(min new.length n)*szs then news[p - ob*szs]? else cur[p]? :=by
    intro p;simp only[List.getElem?_toArray];by_cases h1:p<ob*szs
    ·grind
    ·by_cases h2:p<ob*szs+(min new.length n)*szs
     ·grind
     ·rw[if_neg (by omega),List.getElem?_append_right (by simp;omega),List.getElem?_drop]
      have e1:ob*szs+(min new.length n)*szs+(p - (List.take (ob*szs) cur.toList++news.take ((min new.length n)*szs)).length)=p:=by simp;omega
      rw[e1];simp
   have hrows:ez g w (cur.toList.take (ob*szs)++news.take ((min new.length n)*szs)++cur.toList.drop (ob*szs+(min new.length n)*szs)).toArray szs (rows.take ob++new.take (min new.length n)++rows.drop (ob+min new.length n)) 0:=by
    refine gr _ _ fun j r hr=>?_
    have hor:ob≤rows.length:=by omega
    by_cases h1:j<ob
    ·rw[List.append_assoc,List.getElem?_append_left (by simp;omega),List.getElem?_take,if_pos h1]at hr
     obtain⟨r1,r2⟩:=bR _ _ _ _ q3 hr;refine⟨r1,iy _ _ _ (fun p hp=>?_) r2⟩
     rw[r1]at hp;have:(j+1)*szs≤ob*szs:=Nat.mul_le_mul_right _ h1;grind
    ·by_cases h2:j<ob+min new.length n
     ·rw[List.append_assoc,List.getElem?_append_right (by simp;omega),List.getElem?_append_left (by simp;omega),List.getElem?_take,if_pos (by simp;omega)]at hr
      have e0:(rows.take ob).length=ob:=by simp;omega
      rw[e0]at hr;have r1:=hall r (List.mem_of_getElem? hr);refine⟨r1,?_⟩;have hr':(new.take (min new.length n))[j - ob]? =some r:=by rw[List.getElem?_take,if_pos (by omega)];exact hr
      refine mZ _ _ fun p y hy=>?_
      have hp:p<szs:=by have:=(List.getElem?_eq_some_iff.1 hy).1;omega
      have hidx:new.flatten[(j - ob)*szs+p]? =some y:=by
       clear hr' hst hrun hgetnew hsz' hrlT hfirst;have:∀(l:List (List AVal)) (q:Nat),(∀r∈l,r.length=szs)→l[q]? =some r→l.flatten[q*szs+p]? =some y:=by
        intro l;induction l with
        |nil=>intro q _ h;simp at h
        |cons u us ih=>
         intro q hl h;have hu':=hl u (by simp)
         cases q with
         |zero=>
          grind
         |succ q=>
          simp only[List.flatten_cons,Nat.add_mul,Nat.one_mul];rw[List.getElem?_append_right (by omega),hu',show q*szs+szs+p - szs=q*szs+p by omega]
          grind
       exact this new _ hall hr
      obtain⟨z,hz1,hz2⟩:=(cK _ _ n2).2 _ _ hidx;have hjm:(j - ob+1)*szs≤(min new.length n)*szs:=Nat.mul_le_mul_right _ (by omega)
      rw[Nat.add_mul,Nat.one_mul]at hjm;have hjo:j*szs=ob*szs+(j - ob)*szs:=by rw[← Nat.add_mul];congr 1;omega
      refine⟨z,?_,n3 z (List.mem_of_getElem? hz1),hz2⟩;rw[Nat.zero_add,hgetnew,if_pos (by omega),← hz1]
      congr 1;omega
     ·rw[List.getElem?_append_right (by simp;omega),List.getElem?_drop]at hr
      have e0:ob+min new.length n+(j - (rows.take ob++new.take (min new.length n)).length)=j:=by simp;omega
      rw[e0]at hr;obtain⟨r1,r2⟩:=bR _ _ _ _ q3 hr;refine⟨r1,iy _ _ _ (fun p hp=>?_) r2⟩
      have:(ob+min new.length n)*szs≤j*szs:=Nat.mul_le_mul_right _ (by omega)
      grind
   obtain⟨s1,s2⟩:=hi.store (rows':=rows.take ob++new.take (min new.length n)++rows.drop (ob+min new.length n)) hrow hk q2 (setRow_heap w k cur _ E (0,0) q2) hsz' (fun j hj=>setRow_other w k j _ hj) (setRow_size w k _) rfl ⟨rfl,Nat.le_of_eq rfl⟩ rfl hrows (by
    rw[hsz'];have:(rows.take ob++new.take (min new.length n)++rows.drop (ob+min new.length n)).length=rows.length:=by simp;omega
    rw[this];exact q4)
   exact⟨_,_,g,.inl (hexec hrun),by grind [bk],by simp[R],by grind [bk]⟩
  ·rename_i b ak ir ob s n es;obtain⟨⟨sz,rows⟩,hr1,h⟩:=bind_some h;have hrow:=gb hr1;simp only at hrow h;split at h
   ·rename_i cs hcs;split at h<;>simp[Rd.run]at h
    rename_i hc;obtain⟨hle,hsz,hall⟩:=hc;subst h;have hall:=tN hall;obtain⟨ad,cap,news,ev,n1,n2,n3,n4⟩:=kC hi hX hnew hall;rw[es]at hD;simp only[R]at hD;obtain⟨k,szr,scap,hk,evs,hns⟩:=hD;obtain⟨k',cur,E,q1,q2,q3,q4,q5,q6⟩:=hi.row b ak _ _ hrow hk;rw[hk]at q1;simp at q1;obtain⟨rfl,rfl⟩:=q1;have hm:(min new.length n)≤new.length:=Nat.min_le_left _ _;have hm2:(min new.length n)≤n:=Nat.min_le_right _ _;have hmsz:(min new.length n)*s≤new.length*s:=Nat.mul_le_mul_right _ hm;have hmn:(min new.length n)*s≤n*s:=Nat.mul_le_mul_right _ hm2;have hnewsT:(news.take ((min new.length n)*s)).length=(min new.length n)*s:=by simp;omega
    have hflen:(new.take (min new.length n)).flatten.length=(min new.length n)*s:=by
     rw[gz (sz:=s) (fun r hr=>hall r (List.mem_of_mem_take hr))];simp
    have hrlT:RL g w (new.take (min new.length n)).flatten (news.take ((min new.length n)*s)):=by
     have e1:(new.take (min new.length n)).flatten=new.flatten.take ((min new.length n)*s):=by
      have hsplit:new.flatten=(new.take (min new.length n)).flatten++(new.drop (min new.length n)).flatten:=by rw[← List.flatten_append,List.take_append_drop]
      rw[hsplit,← hflen,List.take_left]
     rw[e1];have:=o9 n2 0 ((min new.length n)*s);simpa using this
    have hfirst:(Builtin.firstCells s (min new.length n) (.slice ad new.length cap)).run P w=.ok (news.take ((min new.length n)*s)).toArray w:=by
     rcases n4 with h0 |⟨A,hA,hA2⟩
     ·have hz:min new.length n=0:=by omega
      have hnn:news=[]:=List.eq_nil_of_length_eq_zero (by rw[n1,h0];simp)
      subst hnn;rw[hz];cases ad<;>simp[Builtin.firstCells,loadCells,loadCellsFrom]
     ·subst hA;exact run_firstCells_some (P:=P) w s (min new.length n) A new.length cap (news.take ((min new.length n)*s)) hnewsT (fun j u hu=>by
       grind)
    obtain⟨hfit,s1,s2⟩:=Fv (off:=ob) hi hrow hcs (by rw[hflen];omega) hk q2 (fun y hy=>n3 y (List.mem_of_mem_take hy)) hrlT
    have hst:=run_storeCells_at P k (ir*szr+ob) E (news.take ((min new.length n)*s)) 0 cur w q2 (by simpa using hfit) (fun y hy=>n3 y (List.mem_of_mem_take hy))
    simp only[Nat.add_zero]at hst;have hmin:Nat.min new.length n=min new.length n:=rfl;have hrun:(Builtin.copy_ ats o.type (args.map a.eval)).run P w=.ok (.int .i64 (min new.length n:Nat)) (w.setRow k (cur.toList.take (ir*szr+ob)++news.take ((min new.length n)*s)++cur.toList.drop (ir*szr+ob+(news.take ((min new.length n)*s)).length)).toArray):=by
     simp[Builtin.copy_,h0,hd0,hx0,run_underlying hu,evs,ev,Builtin.lenOf,cD hsz,hmin,hfirst,hst,goInt]
    exact⟨_,_,g,.inl (hexec hrun),by rw[bk];exact s1,by simp[R],by rw[bk];exact s2⟩
   ·simp[Rd.run]at h
  ·simp[Rd.run]at h
 ·simp[Rd.run]at h
end
end Go.AM
end
