/- Parts put together. No conditions. -/
import Derived.Test.YtiohninblcifpaaGreatDoorWm
import Derived.Test.YtiohninblcifpaaGreatDoorAd
import Derived.Test.YtiohninblcifpaaGreatDoorPa
set_option linter.unusedSimpArgs false
set_option linter.unusedVariables false
set_option maxRecDepth 100000
section
namespace Go.L
open Go.AM
theorem MQ(n:Nat)(a b:Int):nK.S n (a,b)=some (eC a b):=by
 have e:∀(x:Int) {β:Type} (k:dy.sh.El→Option β),(dy.S n x).bind k=k false:=fun x β k=>by
  have:dy.S n x=some (x != x):=rfl;rw[this];simp only[bne_self_eq_false];rfl
 show(nJ a b).run n=_;simp only[nJ,G.run,aK,if_true,e,eC,decide_eq_true_eq];simp only[Bool.false_eq_true,if_false];split
 ·rfl
 ·split<;>rfl
theorem MR(n:Nat)(a b:Int):pX.S n (a,b)=some (eC a b):=by
 have e:∀(x:Int) {β:Type} (k:l7.sh.El→Option β),(l7.S n x).bind k=k false:=fun x β k=>by
  have:l7.S n x=some (x != x):=rfl;rw[this];simp only[bne_self_eq_false];rfl
 show(pW a b).run n=_;simp only[pW,G.run,aK,if_true,e,eC,decide_eq_true_eq];simp only[Bool.false_eq_true,if_false];split
 ·rfl
 ·split<;>rfl
def gp(b:Bool):Int:=if b then 0 else 1
theorem Hg{a b:Bool}:gp a=gp b↔a=b:=by cases a<;>cases b<;>decide
theorem Hh(n:Nat)(a b:Bool):nT.S n (a,b)=some (eC (gp a) (gp b)):=by cases a<;>cases b<;>rfl
def DO(a b:ah):Int:=
 if eC (gp a.gO) (gp b.gO)≠0 then eC (gp a.gO) (gp b.gO)else
 if eC b.time a.time≠0 then eC b.time a.time else
 if eC b.seq a.seq≠0 then eC b.seq a.seq else
 if eC (gp a.kN) (gp b.kN)≠0 then eC (gp a.kN) (gp b.kN)else
 if eC a.next b.next≠0 then eC a.next b.next else
 if eC a.ov b.ov≠0 then eC a.ov b.ov else 0
theorem K9(n:Nat)(a b:ah):dH.S n (a,b)=some (DO a b):=by
 have e1:∀{β:Type} (k:jZ.sh.El→Option β),(jZ.S n (a,b)).bind k=k (eC (gp a.gO) (gp b.gO)):=fun k=>by
  have:jZ.S n (a,b)=some (eC (gp a.gO) (gp b.gO)):=by
   show(nT.S n (a.gO,b.gO)).bind _=_;rw[Hh];rfl
  rw[this];rfl
 have e2:∀{β:Type} (k:kf.sh.El→Option β),(kf.S n (a,b)).bind k=k (eC b.time a.time):=fun k=>by
  have:kf.S n (a,b)=some (eC b.time a.time):=by
   show(iS.S n (b.time,a.time)).bind _=_;rw[Fy];rfl
  rw[this];rfl
 have e3:∀{β:Type} (k:kg.sh.El→Option β),(kg.S n (a,b)).bind k=k (eC b.seq a.seq):=fun k=>by
  have:kg.S n (a,b)=some (eC b.seq a.seq):=by
   show(nK.S n (b.seq,a.seq)).bind _=_;rw[MQ];rfl
  rw[this];rfl
 have e4:∀{β:Type} (k:ki.sh.El→Option β),(ki.S n (a,b)).bind k=k (eC (gp a.kN) (gp b.kN)):=fun k=>by
  have:ki.S n (a,b)=some (eC (gp a.kN) (gp b.kN)):=by
   show(nT.S n (a.kN,b.kN)).bind _=_;rw[Hh];rfl
  rw[this];rfl
 have e5:∀{β:Type} (k:kj.sh.El→Option β),(kj.S n (a,b)).bind k=k (eC a.next b.next):=fun k=>by
  have:kj.S n (a,b)=some (eC a.next b.next):=by
   show(jo.S n (a.next,b.next)).bind _=_;rw[G7];rfl
  rw[this];rfl
 have e6:∀{β:Type} (k:kn.sh.El→Option β),(kn.S n (a,b)).bind k=k (eC a.ov b.ov):=fun k=>by
  have:kn.S n (a,b)=some (eC a.ov b.ov):=by
   show(pX.S n (a.ov,b.ov)).bind _=_;rw[MR];rfl
  rw[this];rfl
 show(jq a b).run n=_;simp only[jq,G.run,aK,if_true,e1,e2,e3,e4,e5,e6,bne_iff_ne,DO]
 repeat' split
 all_goals rfl
def vA(a b:ah):Prop:=
 gp a.gO<gp b.gO∨gp a.gO=gp b.gO∧(b.time<a.time∨b.time=a.time∧(b.seq<a.seq∨b.seq=a.seq∧(gp a.kN<gp b.kN∨gp a.kN=gp b.kN∧(a.next<b.next∨a.next=b.next∧a.ov<b.ov))))
theorem Mg(c r:Int):(if c≠0 then c else r)<0↔c<0∨(c=0∧r<0):=by split<;>omega
theorem Hi(a b:ah):DO a b<0↔vA a b:=by
 unfold DO vA;simp only[Mg,Bs,DN,Int.lt_irrefl,and_false,or_false]
theorem Is(a:ah):¬vA a a:=by unfold vA;omega
theorem JR{a b c:ah}(h1:vA a b)(h2:vA b c):vA a c:=by unfold vA at*;omega
theorem JS{a b:ah}(h1:¬vA a b)(h2:¬vA b a):a=b:=by
 have e:gp a.gO=gp b.gO∧a.time=b.time∧a.seq=b.seq∧gp a.kN=gp b.kN∧a.next=b.next∧a.ov=b.ov:=by unfold vA at*;omega
 obtain⟨q1,q2,q3,q4,q5,q6⟩:=e;have p1:=Hg.1 q1;have p4:=Hg.1 q4;cases a;cases b;simp only at p1 q2 q3 p4 q5 q6;subst p1;subst q2;subst q3;subst p4;subst q5;subst q6;rfl
end Go.L
end
section
namespace Go.L
open Go.AM
section
variable {K V:Type} {eq:K→K→Bool}
theorem tC(heq:∀a b,eq a b=true↔a=b){k:K}:∀(m:List (K×V)) (j:Nat),aV eq k m j=none→∀p∈m,p.1≠k
 | [],_,_,_,hp=>by cases hp
 |p::ps,j,h,q,hq=>by
  simp only[aV]at h;split at h
  ·cases h
  ·rename_i hne;rcases List.mem_cons.1 hq with rfl |hq
   ·intro e;exact hne ((heq _ _).2 e.symm)
   ·exact tC heq ps (j+1) h q hq
theorem ri(heq:∀a b,eq a b=true↔a=b){k:K}:∀(m:List (K×V)) (j i:Nat) (v:V),aV eq k m j=some (i,v)→j≤i∧m[i - j]? =some (k,v)
 | [],_,_,_,h=>by simp[aV]at h
 |p::ps,j,i,v,h=>by
  simp only[aV]at h;split at h
  ·rename_i he;simp only[Option.some.injEq,Prod.mk.injEq]at h;obtain⟨rfl,rfl⟩:=h;have:=(heq _ _).1 he;exact⟨Nat.le_refl _,by simp[this]⟩
  ·obtain⟨h1,h2⟩:=ri heq ps (j+1) i v h;refine⟨by omega,?_⟩
   rw[show i - j=(i - (j+1))+1 by omega]
   simpa using h2
theorem FC{m:List (K×V)}(hn:(m.map (·.1)).Nodup){i j:Nat}{k:K}{v w:V}(hi:m[i]? =some (k,v))(hj:m[j]? =some (k,w)):i=j:=by
 have e1:(m.map (·.1))[i]? =some k:=by rw[List.getElem?_map,hi];rfl
 have e2:(m.map (·.1))[j]? =some k:=by rw[List.getElem?_map,hj];rfl
 obtain⟨l1,q1⟩:=List.getElem?_eq_some_iff.1 e1;exact(List.getElem?_inj l1 hn).1 (e1.trans e2.symm)
theorem xG(heq:∀a b,eq a b=true↔a=b)(m:List (K×V))(k:K)(v:V)(hn:(m.map (·.1)).Nodup)(q:K)(w:V):(q,w)∈dQ eq k v m↔(q=k∧w=v)∨(q≠k∧(q,w)∈m):=by
 unfold dQ;split
 ·rename_i i u hf;obtain⟨_,h2⟩:=ri heq m 0 i u hf;simp only[Nat.sub_zero]at h2;have hil:=(List.getElem?_eq_some_iff.1 h2).1;constructor
  ·intro h;obtain⟨j,hj⟩:=List.mem_iff_getElem?.1 h;rw[List.getElem?_set]at hj;by_cases he:i=j
   ·rw[if_pos he,if_pos hil]at hj;cases hj;exact .inl ⟨rfl,rfl⟩
   ·have hne:=he;rw[if_neg he]at hj;refine .inr ⟨?_,List.mem_of_getElem? hj⟩;rintro rfl;exact hne (FC hn h2 hj)
  ·rintro(⟨rfl,rfl⟩ |⟨hne,h⟩)
   ·exact List.mem_iff_getElem?.2 ⟨i,by rw[List.getElem?_set];simp[hil]⟩
   ·obtain⟨j,hj⟩:=List.mem_iff_getElem?.1 h;refine List.mem_iff_getElem?.2 ⟨j,?_⟩;rw[List.getElem?_set,if_neg ?_]
    ·exact hj
    ·rintro rfl;rw[h2]at hj;simp only[Option.some.injEq,Prod.mk.injEq]at hj;exact hne hj.1.symm
 ·rename_i hf;have h2:=tC heq m 0 hf;rw[List.mem_append,List.mem_singleton,Prod.mk.injEq];constructor
  ·rintro(h |h)
   ·exact .inr ⟨h2 _ h,h⟩
   ·exact .inl h
  ·rintro(h |⟨_,h⟩)
   ·exact .inr h
   ·exact .inl h
theorem FD(heq:∀a b,eq a b=true↔a=b)(m:List (K×V))(k:K)(v:V)(hn:(m.map (·.1)).Nodup):((dQ eq k v m).map (·.1)).Nodup∧(dQ eq k v m).length≤m.length+1:=by
 unfold dQ;split
 ·rename_i i u hf;obtain⟨_,h2⟩:=ri heq m 0 i u hf;simp only[Nat.sub_zero]at h2;have he:(m.set i (k,v)).map (·.1)=m.map (·.1):=by
   rw[List.map_set];obtain⟨hl,hg⟩:=List.getElem?_eq_some_iff.1 (show(m.map (·.1))[i]? =some k by rw[List.getElem?_map,h2];rfl)
   have e2:(m.map (·.1)).set i k=m.map (·.1):=by
    rw[← hg];exact List.set_getElem_self hl
   exact e2
  rw[he];exact⟨hn,by simp⟩
 ·rename_i hf;have h2:=tC heq m 0 hf;rw[List.map_append];refine⟨List.nodup_append.2 ⟨hn,by simp,fun x hx y hy=>?_⟩,by simp⟩
  simp only[List.map_cons,List.map_nil,List.mem_singleton]at hy;subst hy;obtain⟨p,hp,rfl⟩:=List.mem_map.1 hx;exact h2 p hp
end
theorem zL(a b:aj):eD a b=true↔a=b:=by
 unfold eD;simp only[Bool.and_eq_true,beq_iff_eq,and_true];constructor
 ·rintro⟨h1,h2⟩;cases a;cases b;simp only at h1 h2;subst h1;subst h2;rfl
 ·rintro rfl;exact⟨rfl,rfl⟩
def yy(m:List (aj×ah))(p:aj)(b:ah):List (aj×ah):=
 match aV eD p m 0 with
 |none=>dQ eD p b m
 |some x=>if DO b x.2<0 then dQ eD p b m else m
theorem LS(n:Nat)(m:List (aj×ah))(bd ip:Int)(b:ah):pY.c.S n (m,bd,ip,b)=some (yy m ⟨bd,ip⟩ b):=by
 show(mK m bd ip b).run n=_;have e:∀(a:ah) {β:Type} (k:dH.sh.El→Option β),(dH.S n (b,a)).bind k=k (DO b a):=fun a β k=>by rw[K9];rfl
 cases hf:aV eD ⟨bd,ip⟩ m 0 with
 |none=>
  have:yy m ⟨bd,ip⟩ b=dQ eD ⟨bd,ip⟩ b m:=by unfold yy;rw[hf]
  rw[this];unfold mK;show(if(!(Option.isSome (aV eD ⟨bd,ip⟩ m 0)))=true then _ else _)=_
  rw[hf];rfl
 |some x=>
  have:yy m ⟨bd,ip⟩ b=if DO b x.2<0 then dQ eD ⟨bd,ip⟩ b m else m:=by unfold yy;rw[hf]
  rw[this];unfold mK;show(if(!(Option.isSome (aV eD ⟨bd,ip⟩ m 0)))=true then _ else(dH.S n (b,Option.getD (Option.map (fun x=>x.2) (aV eD ⟨bd,ip⟩ m 0)) _)).bind _)=_
  rw[hf];show(dH.S n (b,x.2)).bind _=_;rw[e];by_cases hc:DO b x.2<0
  ·rw[if_pos hc];refine(if_pos (by simpa using hc)).trans ?_
   rfl
  ·rw[if_neg hc];refine(if_neg (by simpa using hc)).trans ?_
   rfl
structure TM(cs m:List (aj×ah)):Prop where
 nd:(m.map (·.1)).Nodup
 len:m.length≤cs.length
 all:∀p b,(p,b)∈cs→∃b',(p,b')∈m
 best:∀p b,(p,b)∈m→(p,b)∈cs∧∀b',(p,b')∈cs→¬vA b' b
theorem TM.nil:TM [] []:=⟨List.nodup_nil,Nat.le_refl _,fun _ _ h=>(by cases h),fun _ _ h=>(by cases h)⟩
theorem TM.iff{cs m:List (aj×ah)}(h:TM cs m)(p:aj)(b:ah):(p,b)∈m↔(p,b)∈cs∧∀b',(p,b')∈cs→¬vA b' b:=by
 refine⟨h.best p b,fun⟨h1,h2⟩=>?_⟩
 obtain⟨b',hb'⟩:=h.all p b h1;obtain⟨h3,h4⟩:=h.best p b' hb';rw[JS (h4 b h1) (h2 b' h3)];exact hb'
theorem TM.add{cs m:List (aj×ah)}(h:TM cs m)(p:aj)(b:ah):TM (cs++[(p,b)]) (yy m p b):=by
 have put:(∀b',(p,b')∈cs→¬vA b' b)→TM (cs++[(p,b)]) (dQ eD p b m):=fun hb=>by
  obtain⟨n1,n2⟩:=FD zL m p b h.nd;refine⟨n1,by rw[List.length_append];simp only[List.length_singleton];have:=h.len;omega,fun q c hq=>?_,fun q c hq=>?_⟩
  ·by_cases he:q=p
   ·subst he;exact⟨b,(xG zL m q b h.nd q b).2 (.inl ⟨rfl,rfl⟩)⟩
   ·rcases List.mem_append.1 hq with hq |hq
    ·obtain⟨c',hc'⟩:=h.all q c hq;exact⟨c',(xG zL m p b h.nd q c').2 (.inr ⟨he,hc'⟩)⟩
    ·simp only[List.mem_singleton,Prod.mk.injEq]at hq;exact absurd hq.1 he
  ·rcases(xG zL m p b h.nd q c).1 hq with⟨rfl,rfl⟩ |⟨hne,hm⟩
   ·refine⟨List.mem_append_right _ (by simp),fun b' hb'=>?_⟩
    rcases List.mem_append.1 hb' with hb' |hb'
    ·exact hb b' hb'
    ·simp only[List.mem_singleton,Prod.mk.injEq]at hb';rw[hb'.2];exact Is _
   ·obtain⟨h1,h2⟩:=h.best q c hm;refine⟨List.mem_append_left _ h1,fun b' hb'=>?_⟩
    rcases List.mem_append.1 hb' with hb' |hb'
    ·exact h2 b' hb'
    ·simp only[List.mem_singleton,Prod.mk.injEq]at hb';exact absurd hb'.1 hne
 unfold yy;split
 ·rename_i hf;refine put fun b' hb'=>?_
  obtain⟨c,hc⟩:=h.all p b' hb';exact absurd rfl (tC zL m 0 hf _ hc)
 ·rename_i x hf;obtain⟨i,v⟩:=x;obtain⟨_,h2⟩:=ri zL m 0 i v hf;have hm:=List.mem_of_getElem? h2;obtain⟨h3,h4⟩:=h.best p v hm;split
  ·rename_i hc;rw[Hi]at hc;refine put fun b' hb' hlt=>h4 b' hb' (JR hlt hc)
  ·rename_i hc;rw[Hi]at hc;refine⟨h.nd,by rw[List.length_append];have:=h.len;omega,fun q c hq=>?_,fun q c hq=>?_⟩
   ·rcases List.mem_append.1 hq with hq |hq
    ·exact h.all q c hq
    ·simp only[List.mem_singleton,Prod.mk.injEq]at hq;obtain⟨rfl,rfl⟩:=hq;exact⟨v,hm⟩
   ·obtain⟨h5,h6⟩:=h.best q c hq;refine⟨List.mem_append_left _ h5,fun b' hb'=>?_⟩
    rcases List.mem_append.1 hb' with hb' |hb'
    ·exact h6 b' hb'
    ·simp only[List.mem_singleton,Prod.mk.injEq]at hb';obtain⟨rfl,rfl⟩:=hb';obtain⟨j,hj⟩:=List.mem_iff_getElem?.1 hq;have:i=j:=FC h.nd (by simpa using h2) hj
     subst this;simp only[Nat.sub_zero]at h2;rw[h2]at hj;simp only[Option.some.injEq,Prod.mk.injEq,true_and]at hj;rw[← hj];exact hc
end Go.L
end
section
namespace Go.L
open Go.AM
section
variable {α σ:Type}
def gB(l:List α)(P:List α→σ→Prop)(a:Int×σ):Prop:=∃i:Nat,a.1=(i:Int)∧i≤l.length∧P (l.take i) a.2
theorem gB.start{l:List α}{P:List α→σ→Prop}{s:σ}(h:P [] s):gB l P ((0:Int),s):=⟨0,rfl,Nat.zero_le _,by simpa using h⟩
theorem gB.get{l:List α}{P:List α→σ→Prop}{a:Int×σ}(h:gB l P a)(hlt:decide (a.1<((l.length:Nat):Int))=true):
 ∃x pre,fF l a.1=some x∧x∈l∧P pre a.2∧(l.length<100000→∀s',P (pre++[x]) s'→gB l P (IntKind.wrap .i64 (a.1+1),s')∧l.length - (IntKind.wrap .i64 (a.1+1)).toNat<l.length - a.1.toNat):=by
 obtain⟨i,hi,hil,hp⟩:=h;simp only[decide_eq_true_eq]at hlt;have hi':i<l.length:=by omega
 have hx:l[i]? =some (l[i]):=List.getElem?_eq_getElem hi';refine⟨l[i],l.take i,by rw[hi,bK,hx],List.getElem_mem hi',hp,fun hl s' hs=>?_⟩
 have ht:l.take (i+1)=l.take i++[l[i]]:=by rw[List.take_add_one,hx];rfl
 rw[hi,dR (by omega)]
 exact⟨⟨i+1,rfl,by omega,by rw[ht];exact hs⟩,by simp only[Int.toNat_natCast];omega⟩
theorem gB.fin{l:List α}{P:List α→σ→Prop}{a:Int×σ}(h:gB l P a)(hge:decide (a.1<((l.length:Nat):Int))=false):P l a.2:=by
 obtain⟨i,hi,hil,hp⟩:=h;simp only[decide_eq_false_iff_not]at hge;have:i=l.length:=by omega
 subst this;rwa[List.take_length]at hp
end
theorem La(n:Nat)(l:List Int)(v:Int)(hn:l.length<n)(hs:l.length<100000):At (gQ.S n (l,v)) (fun(r:Int)=>0≤r↔v∈l):=by
 refine(?_ :er n (gP l v) _);unfold gP;refine .skip (.op () rfl (.skip (.loop (fun a:Int=>gB l (fun pre (_:Unit)=>v∉pre) (a,())) (fun a=>l.length - a.toNat) (Sum.elim (fun(t:Int)=>0≤t∧v∈l) fun _=>v∉l) rfl (gB.start (by simp)) (by simpa using hn) (fun a ha=>?_) (fun t ht=>?_))))
 ·refine .skip (.br (fun h=>?_) fun h=>.skip (.done rfl (ha.fin h)))
  obtain⟨x,pre,h1,h2,h3,h4⟩:=ha.get h;refine .skip (.op x h1 (.skip (.br (fun he=>.skip (.done rfl ?_)) fun he=>.skip (.done rfl ?_))))
  ·obtain⟨i,hi,_⟩:=ha;refine⟨by show(0:Int)≤a;simp only at hi;omega,?_⟩
   rw[beq_iff_eq]at he;rw[he];exact h2
  ·refine h4 hs () ?_;rw[beq_eq_false_iff_ne]at he;simp only[List.mem_append,List.mem_singleton,not_or];exact⟨h3,he⟩
 ·cases t with
  |inl t=>exact .done rfl ⟨fun _=>ht.2,fun _=>ht.1⟩
  |inr t=>exact .skip (.done rfl ⟨fun h=>absurd h (by decide),fun h=>absurd h ht⟩)
theorem wK(n:Nat)(l:List Int)(v:Int)(hn:l.length<n)(hs:l.length<100000):At (cR.S n (l,v)) (fun(b:Bool)=>b=decide (v∈l)):=by
 refine(?_ :er n (fJ l v) _);unfold fJ;refine .skip (.call _ (La n l v hn hs) fun r hr=>.skip (.done rfl ?_))
 exact decide_eq_decide.2 hr
theorem Cr(a b:Int):fq a b=true↔a=b:=by unfold fq;simp
structure CM(tg:Int→Int)(pre:List Int)(m:List (Int×Int)):Prop where
 nd:(m.map (·.1)).Nodup
 sub:∀T b,(T,b)∈m→b∈pre∧tg b=T
 all:∀b,b∈pre→∃b',(tg b,b')∈m
theorem CM.nil{tg:Int→Int}:CM tg [] []:=⟨List.nodup_nil,fun _ _ h=>(by cases h),fun _ h=>(by cases h)⟩
theorem CM.add{tg:Int→Int}{pre:List Int}{m:List (Int×Int)}(h:CM tg pre m)(b:Int):CM tg (pre++[b]) (dQ fq (tg b) b m):=by
 refine⟨(FD Cr m (tg b) b h.nd).1,fun T c hc=>?_,fun c hc=>?_⟩
 ·rcases(xG Cr m (tg b) b h.nd T c).1 hc with⟨rfl,rfl⟩ |⟨hne,hm⟩
  ·exact⟨by simp,rfl⟩
  ·exact⟨List.mem_append_left _ (h.sub T c hm).1,(h.sub T c hm).2⟩
 ·by_cases he:tg c=tg b
  ·exact⟨b,(xG Cr m (tg b) b h.nd _ _).2 (.inl ⟨he,rfl⟩)⟩
  ·rcases List.mem_append.1 hc with hc |hc
   ·obtain⟨c',hc'⟩:=h.all c hc;exact⟨c',(xG Cr m (tg b) b h.nd _ _).2 (.inr ⟨he,hc'⟩)⟩
   ·simp only[List.mem_singleton]at hc;subst hc;exact absurd rfl he
theorem CM.find{tg:Int→Int}{pre:List Int}{m:List (Int×Int)}(h:CM tg pre m){b:Int}(hb:b∈pre)(hu:∀c∈pre,tg c=tg b→c=b):∃i,aV fq (tg b) m 0=some (i,b):=by
 obtain⟨b',hb'⟩:=h.all b hb;cases hf:aV fq (tg b) m 0 with
 |none=>exact absurd rfl (tC Cr m 0 hf _ hb')
 |some x=>
  obtain⟨i,v⟩:=x;obtain⟨_,h2⟩:=ri Cr m 0 i v hf;obtain⟨h3,h4⟩:=h.sub _ _ (List.mem_of_getElem? h2);have:=hu v h3 h4;subst this;exact⟨i,rfl⟩
theorem CM.none{tg:Int→Int}{pre:List Int}{m:List (Int×Int)}(h:CM tg pre m){T:Int}(hu:∀c∈pre,tg c≠T):aV fq T m 0=none:=by
 cases hf:aV fq T m 0 with
 |none=>rfl
 |some x=>
  obtain⟨i,v⟩:=x;obtain⟨_,h2⟩:=ri Cr m 0 i v hf;obtain⟨h3,h4⟩:=h.sub _ _ (List.mem_of_getElem? h2);exact absurd h4 (hu v h3)
def uq(f:aQ)(b:Int):Int:=((fF f.aW b).map (·.Target)).getD 0
def qR(leaf:Int)(s:aB):List Int:=if decide (leaf∈s.Leaves)then s.aW else[]
def Cs(r:bw)(sq:Int):ah:=
 Go.L.ah.mk r.N.MAC false (0:Int) sq (!((r.N.dY.a0==(0:Int))&&((r.N.dY.a1==(0:Int))&&((r.N.dY.a2==(0:Int))&&((r.N.dY.a3==(0:Int))&&((r.N.dY.a4==(0:Int))&&((r.N.dY.a5==(0:Int))&&((r.N.dY.a6==(0:Int))&&((r.N.dY.a7==(0:Int))&&((r.N.dY.a8==(0:Int))&&((r.N.dY.a9==(0:Int))&&true))))))))))) r.A.Next
def lD(mm:List (Int×Int))(r:bw)(sq T:Int):List (aj×ah):=
 match aV fq T mm 0 with
 |none=>[]
 |some x=>[(⟨x.2,r.N.IP⟩,Cs r sq)]
def iB(mm:List (Int×Int))(lo:Int)(sq:bw→Int)(tg:bw→List Int)(r:bw):List (aj×ah):=
 if r.N.Kind != (2:Int)then[]else if !r.N.iz then[]else if r.A.Next==lo then[]else(tg r).flatMap (lD mm r (sq r))
structure It(n:Nat)(f:aQ):Prop where
 l:f.ax.length<100000
 nn:f.ax.length<n
 s:∀s∈f.ax,s.Leaves.length<n∧s.Leaves.length<100000∧s.aW.length<n∧s.aW.length<100000∧∀b∈s.aW,0≤b∧b<f.aW.length
theorem JT(n:Nat)(m0 cs0:List (aj×ah))(h0:TM cs0 m0)(f:aQ)(leaf lo:Int)(rs:List bw)(sq:bw→Int)(tg:bw→List Int)
 (hlo:At (mL.S n (f,leaf)) (fun r=>r=lo)) (hf:It n f) (hrl:rs.length<100000) (hrn:rs.length<n)
 (hr:∀r∈rs,At (kI.S n r.A.jW) (fun q=>q.2.1=sq r)∧At (pE.S n r.A.jW) (fun q=>q=tg r)∧(tg r).length<n∧(tg r).length<100000):
 At (sA.c.S n (m0,f,leaf,rs)) (fun m=>∃mm,CM (uq f) (f.ax.flatMap (qR leaf)) mm∧TM (cs0++rs.flatMap (iB mm lo sq tg)) m):=by
 refine(?_ :er n (nL m0 f leaf rs) _);unfold nL;refine .skip (.call _ hlo fun r5 h5=>?_)
 subst h5;refine .skip (.op () rfl (.skip (.loop (gB f.ax fun pre m=>CM (uq f) (pre.flatMap (qR leaf)) m) (fun a=>f.ax.length - a.1.toNat) (CM (uq f) (f.ax.flatMap (qR leaf))) rfl (gB.start CM.nil) (by simpa using hf.nn) (fun a ha=>?_) (fun mm hmm=>?_))))
 ·refine .skip (.br (fun h=>?_) fun h=>.skip (.done rfl (ha.fin h)))
  obtain⟨s,pre,h1,h2,h3,h4⟩:=ha.get h;obtain⟨q1,q2,q3,q4,q5⟩:=hf.s s h2;refine .skip (.op s h1 (.skip (.call _ (wK n s.Leaves leaf q1 q2) fun b hb=>?_)))
  have e:∀X,(pre++[s]).flatMap (qR leaf)=pre.flatMap (qR leaf)++X↔qR leaf s=X:=fun X=>by simp
  refine .br (fun hb1=>.skip (.op () rfl (.skip (.loop (gB s.aW fun pre' m=>CM (uq f) (pre.flatMap (qR leaf)++pre') m) (fun a=>s.aW.length - a.1.toNat) (fun t=>CM (uq f) (pre.flatMap (qR leaf)++s.aW) t) rfl (gB.start (by rw[List.append_nil];exact h3)) (by simpa using q3) (fun c hc=>?_) (fun t ht=>.skip (.done rfl (h4 hf.l _ ?_))))))) fun hb1=>.skip (.done rfl (h4 hf.l _ ?_))
  ·refine .skip (.br (fun h'=>?_) fun h'=>.skip (.done rfl (hc.fin h')))
   obtain⟨x,pre',k1,k2,k3,k4⟩:=hc.get h';obtain⟨w1,w2⟩:=q5 x k2;have hat:fF f.aW x=some (f.aW[x.toNat]'(by omega)):=by
    have h':x.toNat<f.aW.length:=by omega
    have:=bK f.aW x.toNat;rw[show((x.toNat:Nat):Int)=x by omega]at this
    rw[this];exact List.getElem?_eq_getElem h'
   have ht:(f.aW[x.toNat]'(by omega)).Target=uq f x:=by unfold uq;rw[hat];rfl
   refine .skip (.op x k1 (.skip (.op _ hat (.skip (.op () rfl (.skip (.done rfl (k4 q4 _ ?_))))))));rw[ht,← List.append_assoc];exact k3.add x
  ·rw[(e s.aW).2 (by unfold qR;rw[if_pos (by rw[← hb];exact hb1)])];exact ht
  ·rw[(e []).2 (by unfold qR;rw[if_neg (by rw[← hb,hb1];decide)]),List.append_nil];exact h3
 ·refine .skip (.op () rfl (.skip (.loop (gB rs fun pre m=>TM (cs0++pre.flatMap (iB mm r5 sq tg)) m) (fun a=>rs.length - a.1.toNat) (TM (cs0++rs.flatMap (iB mm r5 sq tg))) rfl (gB.start (by simpa using h0)) (by simpa using hrn) (fun a ha=>?_) (fun m hm=>.tidy rfl (.inl (.done rfl ⟨mm,hmm,hm⟩))))))
  refine .skip (.br (fun h=>?_) fun h=>.skip (.done rfl (ha.fin h)))
  obtain⟨r,pre,h1,h2,h3,h4⟩:=ha.get h;have e:∀X,cs0++(pre++[r]).flatMap (iB mm r5 sq tg)=(cs0++pre.flatMap (iB mm r5 sq tg))++X↔iB mm r5 sq tg r=X:=fun X=>by simp
  have h4e:∀s',iB mm r5 sq tg r=[]→s'=a.2→_:=fun s' he hs=>h4 hrl s' (by rw[(e []).2 he,List.append_nil,hs];exact h3)
  refine .skip (.op r h1 (.skip (.br (fun hk=>.skip (.done rfl (h4e _ ?_ rfl))) fun hk=>.skip (.br (fun hi=>.skip (.done rfl (h4e _ ?_ rfl))) fun hi=>.skip (.br (fun hx=>.skip (.done rfl (h4e _ ?_ rfl))) fun hx=>?_)))))
  ·unfold iB;rw[if_pos hk]
  ·unfold iB;rw[if_neg (by rw[hk];decide),if_pos hi]
  ·unfold iB;rw[if_neg (by rw[hk];decide),if_neg (by rw[hi];decide),if_pos hx]
  ·have hc:iB mm r5 sq tg r=(tg r).flatMap (lD mm r (sq r)):=by unfold iB;rw[if_neg (by rw[hk];decide),if_neg (by rw[hi];decide),if_neg (by rw[hx];decide)]
   obtain⟨j1,j2,j3,j4⟩:=hr r h2;refine .skip (.call _ j1 fun r97 h97=>.skip (.call _ j2 fun r98 h98=>?_))
   subst h98;refine .op () rfl (.skip (.loop (gB (tg r) fun pre' m=>TM ((cs0++pre.flatMap (iB mm r5 sq tg))++pre'.flatMap (lD mm r (sq r))) m) (fun a=>(tg r).length - a.1.toNat) (TM ((cs0++pre.flatMap (iB mm r5 sq tg))++(tg r).flatMap (lD mm r (sq r)))) rfl (gB.start (by simpa using h3)) (by simpa using j3) (fun c hc=>?_) (fun t ht=>.skip (.done rfl (h4 hrl _ (by rw[(e _).2 hc];exact ht))))))
   refine .skip (.br (fun h'=>?_) fun h'=>.skip (.done rfl (hc.fin h')))
   obtain⟨x,pre',k1,k2,k3,k4⟩:=hc.get h';refine .skip (.op x k1 (.skip (.op () rfl (.skip (.br (fun hs=>.skip (.inl (.eU (fun t=>t=yy c.2 ⟨(Option.getD (Option.map (fun x=>x.2) (Go.AM.aV fq x mm (0:Nat))) (0:Int)),r.N.IP⟩ (Cs r (sq r))) ⟨_,?_,rfl⟩ fun t ht=>.skip (.done rfl (k4 j4 _ ?_))))) fun hs=>.skip (.done rfl (k4 j4 _ ?_)))))))
   ·rw[show Cs r (sq r)=Cs r r97.2.1 by rw[h97]]
    exact LS n c.2 _ _ _
   ·rw[ht];cases hfm:aV fq x mm 0 with
    |none=>rw[hfm]at hs;cases hs
    |some y=>
     have:(pre'++[x]).flatMap (lD mm r (sq r))=pre'.flatMap (lD mm r (sq r))++[(⟨y.2,r.N.IP⟩,Cs r (sq r))]:=by
      rw[List.flatMap_append];simp only[List.flatMap_cons,List.flatMap_nil,List.append_nil,lD,hfm]
     rw[this,← List.append_assoc];exact k3.add _ _
   ·cases hfm:aV fq x mm 0 with
    |some y=>rw[hfm]at hs;cases hs
    |none=>
     have:(pre'++[x]).flatMap (lD mm r (sq r))=pre'.flatMap (lD mm r (sq r)):=by
      rw[List.flatMap_append];simp only[List.flatMap_cons,List.flatMap_nil,List.append_nil,lD,hfm]
     rw[this];exact k3
end Go.L
end
section
namespace Go.L
open Go.AM
def pF(f:aQ)(leaf:Int)(x:hU):List (aj×ah):=
 if !x.iz then[]else match fF f.ax x.aB with
 |none=>[]
 |some s=>if decide (leaf∈s.Leaves)&&decide (x.BD∈s.aW)then[(⟨x.BD,x.IP⟩,Go.L.ah.mk x.MAC true x.Time (0:Int) false (0:Int))]else[]
def Iu(m:List (aj×ah))(p:aj):Int:=
 (Option.getD (Option.map (fun x=>x.2) (Go.AM.aV eD p m (0:Nat))) (Go.L.ah.mk (0:Int) false (0:Int) (0:Int) false (0:Int))).ov
def pG(m:List (aj×ah))(p:aj):Known:=Go.L.Known.mk p.bd p.ip (Iu m p)
def sB(f:aQ)(leaf lo:Int)(sq:bw→Int)(tg:bw→List Int)(ns:List hU)(rs:List bw)(mm:List (Int×Int)):List (aj×ah):=
 ns.flatMap (pF f leaf)++rs.flatMap (iB mm lo sq tg)
def tD(f:aQ)(leaf lo:Int)(sq:bw→Int)(tg:bw→List Int)(ns:List hU)(rs:List bw)(out:List Known):Prop:=
 ∃mm m,CM (uq f) (f.ax.flatMap (qR leaf)) mm∧TM (sB f leaf lo sq tg ns rs mm) m∧out=(eF (m.map (·.1))).map (pG m)
theorem Lb(n:Nat)(f:aQ)(leaf lo:Int)(ns:List hU)(rs:List bw)(sq:bw→Int)(tg:bw→List Int)
 (hck:At (jm.S n f) (fun(r:Int×ByteArray×Int)=>r.1=0)) (hl0:0≤leaf) (hl1:leaf<f.Leaves)
 (hlo:At (mL.S n (f,leaf)) (fun r=>r=lo)) (hf:It n f) (hnl:ns.length<100000) (hnn:ns.length<n) (hrl:rs.length<100000) (hrn:rs.length<n)
 (hr:∀r∈rs,At (kI.S n r.A.jW) (fun q=>q.2.1=sq r)∧At (pE.S n r.A.jW) (fun q=>q=tg r)∧(tg r).length<n∧(tg r).length<100000)
 (hc:∀mm,(sB f leaf lo sq tg ns rs mm).length<100000∧(sB f leaf lo sq tg ns rs mm).length<n):
 At (uo.S n (f,leaf,ns,rs)) (tD f leaf lo sq tg ns rs):=by
 refine(?_ :er n (um f leaf ns rs) _);unfold um;refine .skip (.call _ hck fun r5 h5=>.skip (.br (fun h=>?_) fun _=>.skip (.br (fun h=>?_) fun _=>.skip (.br (fun h=>?_) fun _=>.skip (.call (fun _=>True) ⟨(),rfl,trivial⟩ fun _ _=>.skip (.op () rfl (.skip ?_)))))))
 ·rw[h5]at h;cases h
 ·simp only[decide_eq_true_eq]at h;omega
 ·simp only[decide_eq_true_eq]at h;omega
 refine .loop (gB ns fun pre m=>TM (pre.flatMap (pF f leaf)) m) (fun a=>ns.length - a.1.toNat) (TM (ns.flatMap (pF f leaf))) rfl (gB.start TM.nil) (by simpa using hnn) (fun a ha=>?_) (fun m0 hm0=>?_)
 ·refine .skip (.br (fun h=>?_) fun h=>.skip (.done rfl (ha.fin h)))
  obtain⟨x,pre,h1,h2,h3,h4⟩:=ha.get h;have h4e:pF f leaf x=[]→_:=fun he=>h4 hnl a.2 (by rw[List.flatMap_append,List.flatMap_cons,he,List.flatMap_nil,List.append_nil,List.append_nil];exact h3)
  refine .skip (.op x h1 (.skip (.br (fun hi=>.skip (.br (fun hs0=>.skip (.op () rfl (.skip (.br (fun hs1=>?_) fun hs1=>.skip (.done rfl (h4e ?_)))))) fun hs0=>.skip (.done rfl (h4e ?_)))) fun hi=>.skip (.done rfl (h4e ?_)))))
  ·simp only[decide_eq_true_eq]at hs0 hs1;have hlt:x.aB.toNat<f.ax.length:=by omega
   have hat:fF f.ax x.aB=some (f.ax[x.aB.toNat]'hlt):=by
    have:=bK f.ax x.aB.toNat;rw[show((x.aB.toNat:Nat):Int)=x.aB by omega]at this
    rw[this];exact List.getElem?_eq_getElem hlt
   generalize hs:f.ax[x.aB.toNat]'hlt=s at hat;have hmem:s∈f.ax:=by rw[← hs];exact List.getElem_mem hlt
   obtain⟨q1,q2,q3,q4,q5⟩:=hf.s s hmem;have hcn:pF f leaf x=if decide (leaf∈s.Leaves)&&decide (x.BD∈s.aW)then[(⟨x.BD,x.IP⟩,Go.L.ah.mk x.MAC true x.Time (0:Int) false (0:Int))]else[]:=by
    unfold pF;rw[if_neg (by rw[hi];decide),hat]
   refine .skip (.op s hat (.skip (.call _ (wK n s.Leaves leaf q1 q2) fun b hb=>.skip (.br (fun hb1=>.skip (.call _ (wK n s.aW x.BD q3 q4) fun c hc'=>.skip (.br (fun hc1=>.skip (.inl (.eU (fun t=>t=yy a.2 ⟨x.BD,x.IP⟩ (Go.L.ah.mk x.MAC true x.Time (0:Int) false (0:Int))) ⟨_,LS n a.2 _ _ _,rfl⟩ fun t ht=>.skip (.done rfl (h4 hnl _ ?_))))) fun hc1=>.skip (.done rfl (h4e ?_))))) fun hb1=>.skip (.done rfl (h4e ?_))))))
   ·rw[List.flatMap_append,List.flatMap_cons,List.flatMap_nil,List.append_nil,hcn,← hb,← hc',hb1,hc1,ht];exact h3.add _ _
   ·rw[hcn,← hc',hc1,Bool.and_false];rfl
   ·rw[hcn,← hb,hb1];rfl
  ·simp only[decide_eq_false_iff_not]at hs1;have:fF f.ax x.aB=none:=by
    cases ho:fF f.ax x.aB with
    |none=>rfl
    |some s=>
     simp only[decide_eq_true_eq]at hs0;have:=bK f.ax x.aB.toNat;rw[show((x.aB.toNat:Nat):Int)=x.aB by omega,ho]at this
     have:=(List.getElem?_eq_some_iff.1 this.symm).1;omega
   unfold pF;rw[this];split<;>rfl
  ·simp only[decide_eq_false_iff_not]at hs0;have:fF f.ax x.aB=none:=by
    unfold fF;exact if_neg (by omega)
   unfold pF;rw[this];split<;>rfl
  ·unfold pF;rw[hi];rfl
 ·refine .skip (.inl (.eU _ (JT n m0 _ hm0 f leaf lo rs sq tg hlo hf hrl hrn hr) fun(m:List (aj×ah)) hm=>?_))
  obtain⟨mm,hmm,hm⟩:=hm;obtain⟨hc1,hc2⟩:=hc mm;have hlen:m.length≤(sB f leaf lo sq tg ns rs mm).length:=hm.len;refine .skip (.inl (.skip (.tidy rfl (.inl (.inl (.eU (fun(y:Nat×List aj)=>y=(m.length,eF (m.map (·.1)))) ⟨_,if_pos (by show m.length<1000000;omega),rfl⟩ fun(y:Nat×List aj) hy=>?_))))))
  subst hy;have hsl:(eF (m.map (·.1))).length=m.length:=by rw[(iH (m.map (·.1))).1.length_eq,List.length_map]
  refine .skip (.loop (gB (eF (m.map (·.1))) fun pre t=>t=pre.map (pG m)) (fun a=>(eF (m.map (·.1))).length - a.1.toNat) (fun t=>t=(eF (m.map (·.1))).map (pG m)) rfl (gB.start rfl) (by rw[hsl];show m.length - 0<n;omega) (fun a ha=>?_) (fun t ht=>.skip (.done ?_ ⟨mm,m,hmm,hm,ht⟩)))
  ·have ha2:=ha;refine .skip (.br (fun h=>?_) fun h=>.skip (.done rfl (ha.fin (by rw[hsl];exact h))))
   obtain⟨x,pre,h1,h2,h3,h4⟩:=ha.get (by rw[hsl];exact h)
   obtain⟨i,hi,hil,hp⟩:=ha2;simp only[decide_eq_true_eq]at h;have hal:a.2.length≤m.length:=by rw[hp,List.length_map,List.length_take];omega
   have hx:(eF (m.map (·.1)))[a.1.toNat]? =some x:=by
    rw[hi]at h1 ⊢;rw[bK]at h1;exact h1
   have hr2:roomy (a.2.length+1) 24=true:=by
    simp only[roomy,Bool.and_eq_true,decide_eq_true_eq];omega
   exact .skip (.op () (if_pos ⟨by omega,h⟩) (.op x hx (.skip (.op () rfl (.skip (.op () (if_pos ⟨rfl,hr2⟩) (.skip (.done rfl (h4 (by omega) (a.2++[pG m x]) (by rw[List.map_append,← h3];rfl))))))))))
  ·simp only[aK,ee,Bool.and_true];exact decide_eq_true (List.length_map ..).symm
end Go.L
end
