/- Parts put together. No conditions. -/
import Derived.Test.YtiohninblcifpaaGreatDoorWm
import Derived.Test.YtiohninblcifpaaGreatDoorAd
import Derived.Test.YtiohninblcifpaaGreatDoorPa
set_option linter.unusedSimpArgs false
set_option linter.unusedVariables false
set_option maxRecDepth 100000
section
namespace Go.L
open Go.AM
theorem Qo(n:Nat)(a b:Int):nT.S n (a,b)=some (eT a b):=by
 have e:∀(x:Int) {β:Type} (k:dK.sh.El→Option β),(dK.S n x).bind k=k false:=fun x β k=>by
  have:dK.S n x=some (x != x):=rfl;rw[this];simp only[bne_self_eq_false];rfl
 show(nS a b).run n=_;simp only[nS,G.run,aK,if_true,e,eT,decide_eq_true_eq];simp only[Bool.false_eq_true,if_false];split
 ·rfl
 ·split<;>rfl
theorem Qp(n:Nat)(a b:Int):qI.S n (a,b)=some (eT a b):=by
 have e:∀(x:Int) {β:Type} (k:l7.sh.El→Option β),(l7.S n x).bind k=k false:=fun x β k=>by
  have:l7.S n x=some (x != x):=rfl;rw[this];simp only[bne_self_eq_false];rfl
 show(qH a b).run n=_;simp only[qH,G.run,aK,if_true,e,eT,decide_eq_true_eq];simp only[Bool.false_eq_true,if_false];split
 ·rfl
 ·split<;>rfl
def er(b:Bool):Int:=if b then 0 else 1
theorem Kc{a b:Bool}:er a=er b↔a=b:=by cases a<;>cases b<;>decide
theorem Ke(n:Nat)(a b:Bool):om.S n (a,b)=some (eT (er a) (er b)):=by cases a<;>cases b<;>rfl
def Gn(a b:ak):Int:=
 if eT (er a.cG) (er b.cG)≠0 then eT (er a.cG) (er b.cG)else
 if eT b.time a.time≠0 then eT b.time a.time else
 if eT b.seq a.seq≠0 then eT b.seq a.seq else
 if eT (er a.eC) (er b.eC)≠0 then eT (er a.eC) (er b.eC)else
 if eT a.next b.next≠0 then eT a.next b.next else
 if eT a.qx b.qx≠0 then eT a.qx b.qx else 0
theorem Oc(n:Nat)(a b:ak):dS.S n (a,b)=some (Gn a b):=by
 have e1:∀{β:Type} (k:kn.sh.El→Option β),(kn.S n (a,b)).bind k=k (eT (er a.cG) (er b.cG)):=fun k=>by
  have:kn.S n (a,b)=some (eT (er a.cG) (er b.cG)):=by
   show(om.S n (a.cG,b.cG)).bind _=_;rw[Ke];rfl
  rw[this];rfl
 have e2:∀{β:Type} (k:ko.sh.El→Option β),(ko.S n (a,b)).bind k=k (eT b.time a.time):=fun k=>by
  have:ko.S n (a,b)=some (eT b.time a.time):=by
   show(jc.S n (b.time,a.time)).bind _=_;rw[It];rfl
  rw[this];rfl
 have e3:∀{β:Type} (k:kq.sh.El→Option β),(kq.S n (a,b)).bind k=k (eT b.seq a.seq):=fun k=>by
  have:kq.S n (a,b)=some (eT b.seq a.seq):=by
   show(nT.S n (b.seq,a.seq)).bind _=_;rw[Qo];rfl
  rw[this];rfl
 have e4:∀{β:Type} (k:kr.sh.El→Option β),(kr.S n (a,b)).bind k=k (eT (er a.eC) (er b.eC)):=fun k=>by
  have:kr.S n (a,b)=some (eT (er a.eC) (er b.eC)):=by
   show(om.S n (a.eC,b.eC)).bind _=_;rw[Ke];rfl
  rw[this];rfl
 have e5:∀{β:Type} (k:ku.sh.El→Option β),(ku.S n (a,b)).bind k=k (eT a.next b.next):=fun k=>by
  have:ku.S n (a,b)=some (eT a.next b.next):=by
   show(jH.S n (a.next,b.next)).bind _=_;rw[J7];rfl
  rw[this];rfl
 have e6:∀{β:Type} (k:kA.sh.El→Option β),(kA.S n (a,b)).bind k=k (eT a.qx b.qx):=fun k=>by
  have:kA.S n (a,b)=some (eT a.qx b.qx):=by
   show(qI.S n (a.qx,b.qx)).bind _=_;rw[Qp];rfl
  rw[this];rfl
 show(jI a b).run n=_;simp only[jI,G.run,aK,if_true,e1,e2,e3,e4,e5,e6,bne_iff_ne,Gn]
 repeat' split
 all_goals rfl
def tO(a b:ak):Prop:=
 er a.cG<er b.cG∨er a.cG=er b.cG∧(b.time<a.time∨b.time=a.time∧(b.seq<a.seq∨b.seq=a.seq∧(er a.eC<er b.eC∨er a.eC=er b.eC∧(a.next<b.next∨a.next=b.next∧a.qx<b.qx))))
theorem Pu(c r:Int):(if c≠0 then c else r)<0↔c<0∨(c=0∧r<0):=by split<;>omega
theorem Kf(a b:ak):Gn a b<0↔tO a b:=by
 unfold Gn tO;simp only[Pu,DD,Gm,Int.lt_irrefl,and_false,or_false]
theorem EF(a:ak):¬tO a a:=by unfold tO;omega
theorem Gp{a b c:ak}(h1:tO a b)(h2:tO b c):tO a c:=by unfold tO at*;omega
theorem MJ{a b:ak}(h1:¬tO a b)(h2:¬tO b a):a=b:=by
 have e:er a.cG=er b.cG∧a.time=b.time∧a.seq=b.seq∧er a.eC=er b.eC∧a.next=b.next∧a.qx=b.qx:=by unfold tO at*;omega
 obtain⟨q1,q2,q3,q4,q5,q6⟩:=e;have p1:=Kc.1 q1;have p4:=Kc.1 q4;cases a;cases b;simp only at p1 q2 q3 p4 q5 q6;subst p1;subst q2;subst q3;subst p4;subst q5;subst q6;rfl
end Go.L
end
section
namespace Go.L
open Go.AM
section
variable {K V:Type} {eq:K→K→Bool}
theorem wJ(heq:∀a b,eq a b=true↔a=b){k:K}:∀(m:List (K×V)) (j:Nat),cm eq k m j=none→∀p∈m,p.1≠k
 | [],_,_,_,hp=>by cases hp
 |p::ps,j,h,q,hq=>by
  simp only[cm]at h;split at h
  ·cases h
  ·rename_i hne;rcases List.mem_cons.1 hq with rfl |hq
   ·intro e;exact hne ((heq _ _).2 e.symm)
   ·exact wJ heq ps (j+1) h q hq
theorem sK(heq:∀a b,eq a b=true↔a=b){k:K}:∀(m:List (K×V)) (j i:Nat) (v:V),cm eq k m j=some (i,v)→j≤i∧m[i - j]? =some (k,v)
 | [],_,_,_,h=>by simp[cm]at h
 |p::ps,j,i,v,h=>by
  simp only[cm]at h;split at h
  ·rename_i he;simp only[Option.some.injEq,Prod.mk.injEq]at h;obtain⟨rfl,rfl⟩:=h;have:=(heq _ _).1 he;exact⟨Nat.le_refl _,by simp[this]⟩
  ·obtain⟨h1,h2⟩:=sK heq ps (j+1) i v h;refine⟨by omega,?_⟩
   rw[show i - j=(i - (j+1))+1 by omega]
   simpa using h2
theorem Iy{m:List (K×V)}(hn:(m.map (·.1)).Nodup){i j:Nat}{k:K}{v w:V}(hi:m[i]? =some (k,v))(hj:m[j]? =some (k,w)):i=j:=by
 have e1:(m.map (·.1))[i]? =some k:=by rw[List.getElem?_map,hi];rfl
 have e2:(m.map (·.1))[j]? =some k:=by rw[List.getElem?_map,hj];rfl
 obtain⟨l1,q1⟩:=List.getElem?_eq_some_iff.1 e1;exact(List.getElem?_inj l1 hn).1 (e1.trans e2.symm)
theorem zW(heq:∀a b,eq a b=true↔a=b)(m:List (K×V))(k:K)(v:V)(hn:(m.map (·.1)).Nodup)(q:K)(w:V):(q,w)∈gJ eq k v m↔(q=k∧w=v)∨(q≠k∧(q,w)∈m):=by
 unfold gJ;split
 ·rename_i i u hf;obtain⟨_,h2⟩:=sK heq m 0 i u hf;simp only[Nat.sub_zero]at h2;have hil:=(List.getElem?_eq_some_iff.1 h2).1;constructor
  ·intro h;obtain⟨j,hj⟩:=List.mem_iff_getElem?.1 h;rw[List.getElem?_set]at hj;by_cases he:i=j
   ·rw[if_pos he,if_pos hil]at hj;cases hj;exact .inl ⟨rfl,rfl⟩
   ·have hne:=he;rw[if_neg he]at hj;refine .inr ⟨?_,List.mem_of_getElem? hj⟩;rintro rfl;exact hne (Iy hn h2 hj)
  ·rintro(⟨rfl,rfl⟩ |⟨hne,h⟩)
   ·exact List.mem_iff_getElem?.2 ⟨i,by rw[List.getElem?_set];simp[hil]⟩
   ·obtain⟨j,hj⟩:=List.mem_iff_getElem?.1 h;refine List.mem_iff_getElem?.2 ⟨j,?_⟩;rw[List.getElem?_set,if_neg ?_]
    ·exact hj
    ·rintro rfl;rw[h2]at hj;simp only[Option.some.injEq,Prod.mk.injEq]at hj;exact hne hj.1.symm
 ·rename_i hf;have h2:=wJ heq m 0 hf;rw[List.mem_append,List.mem_singleton,Prod.mk.injEq];constructor
  ·rintro(h |h)
   ·exact .inr ⟨h2 _ h,h⟩
   ·exact .inl h
  ·rintro(h |⟨_,h⟩)
   ·exact .inr h
   ·exact .inl h
theorem Iz(heq:∀a b,eq a b=true↔a=b)(m:List (K×V))(k:K)(v:V)(hn:(m.map (·.1)).Nodup):((gJ eq k v m).map (·.1)).Nodup∧(gJ eq k v m).length≤m.length+1:=by
 unfold gJ;split
 ·rename_i i u hf;obtain⟨_,h2⟩:=sK heq m 0 i u hf;simp only[Nat.sub_zero]at h2;have he:(m.set i (k,v)).map (·.1)=m.map (·.1):=by
   rw[List.map_set];obtain⟨hl,hg⟩:=List.getElem?_eq_some_iff.1 (show(m.map (·.1))[i]? =some k by rw[List.getElem?_map,h2];rfl)
   have e2:(m.map (·.1)).set i k=m.map (·.1):=by
    rw[← hg];exact List.set_getElem_self hl
   exact e2
  rw[he];exact⟨hn,by simp⟩
 ·rename_i hf;have h2:=wJ heq m 0 hf;rw[List.map_append];refine⟨List.nodup_append.2 ⟨hn,by simp,fun x hx y hy=>?_⟩,by simp⟩
  simp only[List.map_cons,List.map_nil,List.mem_singleton]at hy;subst hy;obtain⟨p,hp,rfl⟩:=List.mem_map.1 hx;exact h2 p hp
end
theorem BS(a b:aq):eU a b=true↔a=b:=by
 unfold eU;simp only[Bool.and_eq_true,beq_iff_eq,and_true];constructor
 ·rintro⟨h1,h2⟩;cases a;cases b;simp only at h1 h2;subst h1;subst h2;rfl
 ·rintro rfl;exact⟨rfl,rfl⟩
def AH(m:List (aq×ak))(p:aq)(b:ak):List (aq×ak):=
 match cm eU p m 0 with
 |none=>gJ eU p b m
 |some x=>if Gn b x.2<0 then gJ eU p b m else m
theorem OY(n:Nat)(m:List (aq×ak))(bd ip:Int)(b:ak):qJ.c.S n (m,bd,ip,b)=some (AH m ⟨bd,ip⟩ b):=by
 show(mN m bd ip b).run n=_;have e:∀(a:ak) {β:Type} (k:dS.sh.El→Option β),(dS.S n (b,a)).bind k=k (Gn b a):=fun a β k=>by rw[Oc];rfl
 cases hf:cm eU ⟨bd,ip⟩ m 0 with
 |none=>
  have:AH m ⟨bd,ip⟩ b=gJ eU ⟨bd,ip⟩ b m:=by unfold AH;rw[hf]
  rw[this];unfold mN;show(if(!(Option.isSome (cm eU ⟨bd,ip⟩ m 0)))=true then _ else _)=_
  rw[hf];rfl
 |some x=>
  have:AH m ⟨bd,ip⟩ b=if Gn b x.2<0 then gJ eU ⟨bd,ip⟩ b m else m:=by unfold AH;rw[hf]
  rw[this];unfold mN;show(if(!(Option.isSome (cm eU ⟨bd,ip⟩ m 0)))=true then _ else(dS.S n (b,Option.getD (Option.map (fun x=>x.2) (cm eU ⟨bd,ip⟩ m 0)) _)).bind _)=_
  rw[hf];show(dS.S n (b,x.2)).bind _=_;rw[e];by_cases hc:Gn b x.2<0
  ·rw[if_pos hc];refine(if_pos (by simpa using hc)).trans ?_
   rfl
  ·rw[if_neg hc];refine(if_neg (by simpa using hc)).trans ?_
   rfl
structure TM(cs m:List (aq×ak)):Prop where
 nd:(m.map (·.1)).Nodup
 len:m.length≤cs.length
 all:∀p b,(p,b)∈cs→∃b',(p,b')∈m
 best:∀p b,(p,b)∈m→(p,b)∈cs∧∀b',(p,b')∈cs→¬tO b' b
theorem TM.nil:TM [] []:=⟨List.nodup_nil,Nat.le_refl _,fun _ _ h=>(by cases h),fun _ _ h=>(by cases h)⟩
theorem TM.iff{cs m:List (aq×ak)}(h:TM cs m)(p:aq)(b:ak):(p,b)∈m↔(p,b)∈cs∧∀b',(p,b')∈cs→¬tO b' b:=by
 refine⟨h.best p b,fun⟨h1,h2⟩=>?_⟩
 obtain⟨b',hb'⟩:=h.all p b h1;obtain⟨h3,h4⟩:=h.best p b' hb';rw[MJ (h4 b h1) (h2 b' h3)];exact hb'
theorem TM.add{cs m:List (aq×ak)}(h:TM cs m)(p:aq)(b:ak):TM (cs++[(p,b)]) (AH m p b):=by
 have put:(∀b',(p,b')∈cs→¬tO b' b)→TM (cs++[(p,b)]) (gJ eU p b m):=fun hb=>by
  obtain⟨n1,n2⟩:=Iz BS m p b h.nd;refine⟨n1,by rw[List.length_append];simp only[List.length_singleton];have:=h.len;omega,fun q c hq=>?_,fun q c hq=>?_⟩
  ·by_cases he:q=p
   ·subst he;exact⟨b,(zW BS m q b h.nd q b).2 (.inl ⟨rfl,rfl⟩)⟩
   ·rcases List.mem_append.1 hq with hq |hq
    ·obtain⟨c',hc'⟩:=h.all q c hq;exact⟨c',(zW BS m p b h.nd q c').2 (.inr ⟨he,hc'⟩)⟩
    ·simp only[List.mem_singleton,Prod.mk.injEq]at hq;exact absurd hq.1 he
  ·rcases(zW BS m p b h.nd q c).1 hq with⟨rfl,rfl⟩ |⟨hne,hm⟩
   ·refine⟨List.mem_append_right _ (by simp),fun b' hb'=>?_⟩
    rcases List.mem_append.1 hb' with hb' |hb'
    ·exact hb b' hb'
    ·simp only[List.mem_singleton,Prod.mk.injEq]at hb';rw[hb'.2];exact EF _
   ·obtain⟨h1,h2⟩:=h.best q c hm;refine⟨List.mem_append_left _ h1,fun b' hb'=>?_⟩
    rcases List.mem_append.1 hb' with hb' |hb'
    ·exact h2 b' hb'
    ·simp only[List.mem_singleton,Prod.mk.injEq]at hb';exact absurd hb'.1 hne
 unfold AH;split
 ·rename_i hf;refine put fun b' hb'=>?_
  obtain⟨c,hc⟩:=h.all p b' hb';exact absurd rfl (wJ BS m 0 hf _ hc)
 ·rename_i x hf;obtain⟨i,v⟩:=x;obtain⟨_,h2⟩:=sK BS m 0 i v hf;have hm:=List.mem_of_getElem? h2;obtain⟨h3,h4⟩:=h.best p v hm;split
  ·rename_i hc;rw[Kf]at hc;refine put fun b' hb' hlt=>h4 b' hb' (Gp hlt hc)
  ·rename_i hc;rw[Kf]at hc;refine⟨h.nd,by rw[List.length_append];have:=h.len;omega,fun q c hq=>?_,fun q c hq=>?_⟩
   ·rcases List.mem_append.1 hq with hq |hq
    ·exact h.all q c hq
    ·simp only[List.mem_singleton,Prod.mk.injEq]at hq;obtain⟨rfl,rfl⟩:=hq;exact⟨v,hm⟩
   ·obtain⟨h5,h6⟩:=h.best q c hq;refine⟨List.mem_append_left _ h5,fun b' hb'=>?_⟩
    rcases List.mem_append.1 hb' with hb' |hb'
    ·exact h6 b' hb'
    ·simp only[List.mem_singleton,Prod.mk.injEq]at hb';obtain⟨rfl,rfl⟩:=hb';obtain⟨j,hj⟩:=List.mem_iff_getElem?.1 hq;have:i=j:=Iy h.nd (by simpa using h2) hj
     subst this;simp only[Nat.sub_zero]at h2;rw[h2]at hj;simp only[Option.some.injEq,Prod.mk.injEq,true_and]at hj;rw[← hj];exact hc
end Go.L
end
section
namespace Go.L
open Go.AM
section
variable {α σ:Type}
def iO(l:List α)(P:List α→σ→Prop)(a:Int×σ):Prop:=∃i:Nat,a.1=(i:Int)∧i≤l.length∧P (l.take i) a.2
theorem iO.start{l:List α}{P:List α→σ→Prop}{s:σ}(h:P [] s):iO l P ((0:Int),s):=⟨0,rfl,Nat.zero_le _,by simpa using h⟩
theorem iO.get{l:List α}{P:List α→σ→Prop}{a:Int×σ}(h:iO l P a)(hlt:decide (a.1<((l.length:Nat):Int))=true):
 ∃x pre,ez l a.1=some x∧x∈l∧P pre a.2∧(l.length<100000→∀s',P (pre++[x]) s'→iO l P (IntKind.wrap .i64 (a.1+1),s')∧l.length - (IntKind.wrap .i64 (a.1+1)).toNat<l.length - a.1.toNat):=by
 obtain⟨i,hi,hil,hp⟩:=h;simp only[decide_eq_true_eq]at hlt;have hi':i<l.length:=by omega
 have hx:l[i]? =some (l[i]):=List.getElem?_eq_getElem hi';refine⟨l[i],l.take i,by rw[hi,bg,hx],List.getElem_mem hi',hp,fun hl s' hs=>?_⟩
 have ht:l.take (i+1)=l.take i++[l[i]]:=by rw[List.take_add_one,hx];rfl
 rw[hi,bR (by omega)]
 exact⟨⟨i+1,rfl,by omega,by rw[ht];exact hs⟩,by simp only[Int.toNat_natCast];omega⟩
theorem iO.fin{l:List α}{P:List α→σ→Prop}{a:Int×σ}(h:iO l P a)(hge:decide (a.1<((l.length:Nat):Int))=false):P l a.2:=by
 obtain⟨i,hi,hil,hp⟩:=h;simp only[decide_eq_false_iff_not]at hge;have:i=l.length:=by omega
 subst this;rwa[List.take_length]at hp
end
theorem Od(n:Nat)(l:List Int)(v:Int)(hn:l.length<n)(hs:l.length<100000):At (ij.S n (l,v)) (fun(r:Int)=>0≤r↔v∈l):=by
 refine(?_ :cO n (ig l v) _);unfold ig;refine .skip (.op () rfl (.skip (.loop (fun a:Int=>iO l (fun pre (_:Unit)=>v∉pre) (a,())) (fun a=>l.length - a.toNat) (Sum.elim (fun(t:Int)=>0≤t∧v∈l) fun _=>v∉l) rfl (iO.start (by simp)) (by simpa using hn) (fun a ha=>?_) (fun t ht=>?_))))
 ·refine .skip (.br (fun h=>?_) fun h=>.skip (.done rfl (ha.fin h)))
  obtain⟨x,pre,h1,h2,h3,h4⟩:=ha.get h;refine .skip (.op x h1 (.skip (.br (fun he=>.skip (.done rfl ?_)) fun he=>.skip (.done rfl ?_))))
  ·obtain⟨i,hi,_⟩:=ha;refine⟨by show(0:Int)≤a;simp only at hi;omega,?_⟩
   rw[beq_iff_eq]at he;rw[he];exact h2
  ·refine h4 hs () ?_;rw[beq_eq_false_iff_ne]at he;simp only[List.mem_append,List.mem_singleton,not_or];exact⟨h3,he⟩
 ·cases t with
  |inl t=>exact .done rfl ⟨fun _=>ht.2,fun _=>ht.1⟩
  |inr t=>exact .skip (.done rfl ⟨fun h=>absurd h (by decide),fun h=>absurd h ht⟩)
theorem zb(n:Nat)(l:List Int)(v:Int)(hn:l.length<n)(hs:l.length<100000):At (de.S n (l,v)) (fun(b:Bool)=>b=decide (v∈l)):=by
 refine(?_ :cO n (gj l v) _);unfold gj;refine .skip (.call _ (Od n l v hn hs) fun r hr=>.skip (.done rfl ?_))
 exact decide_eq_decide.2 hr
theorem Gq(a b:Int):kM a b=true↔a=b:=by unfold kM;simp
structure CM(tg:Int→Int)(pre:List Int)(m:List (Int×Int)):Prop where
 nd:(m.map (·.1)).Nodup
 sub:∀T b,(T,b)∈m→b∈pre∧tg b=T
 all:∀b,b∈pre→∃b',(tg b,b')∈m
theorem CM.nil{tg:Int→Int}:CM tg [] []:=⟨List.nodup_nil,fun _ _ h=>(by cases h),fun _ h=>(by cases h)⟩
theorem CM.add{tg:Int→Int}{pre:List Int}{m:List (Int×Int)}(h:CM tg pre m)(b:Int):CM tg (pre++[b]) (gJ kM (tg b) b m):=by
 refine⟨(Iz Gq m (tg b) b h.nd).1,fun T c hc=>?_,fun c hc=>?_⟩
 ·rcases(zW Gq m (tg b) b h.nd T c).1 hc with⟨rfl,rfl⟩ |⟨hne,hm⟩
  ·exact⟨by simp,rfl⟩
  ·exact⟨List.mem_append_left _ (h.sub T c hm).1,(h.sub T c hm).2⟩
 ·by_cases he:tg c=tg b
  ·exact⟨b,(zW Gq m (tg b) b h.nd _ _).2 (.inl ⟨he,rfl⟩)⟩
  ·rcases List.mem_append.1 hc with hc |hc
   ·obtain⟨c',hc'⟩:=h.all c hc;exact⟨c',(zW Gq m (tg b) b h.nd _ _).2 (.inr ⟨he,hc'⟩)⟩
   ·simp only[List.mem_singleton]at hc;subst hc;exact absurd rfl he
theorem CM.find{tg:Int→Int}{pre:List Int}{m:List (Int×Int)}(h:CM tg pre m){b:Int}(hb:b∈pre)(hu:∀c∈pre,tg c=tg b→c=b):∃i,cm kM (tg b) m 0=some (i,b):=by
 obtain⟨b',hb'⟩:=h.all b hb;cases hf:cm kM (tg b) m 0 with
 |none=>exact absurd rfl (wJ Gq m 0 hf _ hb')
 |some x=>
  obtain⟨i,v⟩:=x;obtain⟨_,h2⟩:=sK Gq m 0 i v hf;obtain⟨h3,h4⟩:=h.sub _ _ (List.mem_of_getElem? h2);have:=hu v h3 h4;subst this;exact⟨i,rfl⟩
theorem CM.none{tg:Int→Int}{pre:List Int}{m:List (Int×Int)}(h:CM tg pre m){T:Int}(hu:∀c∈pre,tg c≠T):cm kM T m 0=none:=by
 cases hf:cm kM T m 0 with
 |none=>rfl
 |some x=>
  obtain⟨i,v⟩:=x;obtain⟨_,h2⟩:=sK Gq m 0 i v hf;obtain⟨h3,h4⟩:=h.sub _ _ (List.mem_of_getElem? h2);exact absurd h4 (hu v h3)
def kT(f:aD)(b:Int):Int:=((ez f.aI b).map (·.Target)).getD 0
def jk(leaf:Int)(s:aH):List Int:=if decide (leaf∈s.Leaves)then s.aI else[]
def CH(r:bt)(sq:Int):ak:=
 Go.L.ak.mk r.N.bN false (0:Int) sq (!((r.N.cF.a0==(0:Int))&&((r.N.cF.a1==(0:Int))&&((r.N.cF.a2==(0:Int))&&((r.N.cF.a3==(0:Int))&&((r.N.cF.a4==(0:Int))&&((r.N.cF.a5==(0:Int))&&((r.N.cF.a6==(0:Int))&&((r.N.cF.a7==(0:Int))&&((r.N.cF.a8==(0:Int))&&((r.N.cF.a9==(0:Int))&&true))))))))))) r.A.Next
def gV(mm:List (Int×Int))(r:bt)(sq T:Int):List (aq×ak):=
 match cm kM T mm 0 with
 |none=>[]
 |some x=>[(⟨x.2,r.N.IP⟩,CH r sq)]
def fm(mm:List (Int×Int))(lo:Int)(sq:bt→Int)(tg:bt→List Int)(r:bt):List (aq×ak):=
 if r.N.Kind != (2:Int)then[]else if !r.N.qm then[]else if r.A.Next==lo then[]else(tg r).flatMap (gV mm r (sq r))
structure Lm(n:Nat)(f:aD):Prop where
 l:f.au.length<100000
 nn:f.au.length<n
 s:∀s∈f.au,s.Leaves.length<n∧s.Leaves.length<100000∧s.aI.length<n∧s.aI.length<100000∧∀b∈s.aI,0≤b∧b<f.aI.length
theorem MK(n:Nat)(m0 cs0:List (aq×ak))(h0:TM cs0 m0)(f:aD)(leaf lo:Int)(rs:List bt)(sq:bt→Int)(tg:bt→List Int)
 (hlo:At (mO.S n (f,leaf)) (fun r=>r=lo)) (hf:Lm n f) (hrl:rs.length<100000) (hrn:rs.length<n)
 (hr:∀r∈rs,At (jb.S n r.A.fh) (fun q=>q.2.1=sq r)∧At (qo.S n r.A.fh) (fun q=>q=tg r)∧(tg r).length<n∧(tg r).length<100000):
 At (tN.c.S n (m0,f,leaf,rs)) (fun m=>∃mm,CM (kT f) (f.au.flatMap (jk leaf)) mm∧TM (cs0++rs.flatMap (fm mm lo sq tg)) m):=by
 refine(?_ :cO n (nU m0 f leaf rs) _);unfold nU;refine .skip (.call _ hlo fun r5 h5=>?_)
 subst h5;refine .skip (.op () rfl (.skip (.loop (iO f.au fun pre m=>CM (kT f) (pre.flatMap (jk leaf)) m) (fun a=>f.au.length - a.1.toNat) (CM (kT f) (f.au.flatMap (jk leaf))) rfl (iO.start CM.nil) (by simpa using hf.nn) (fun a ha=>?_) (fun mm hmm=>?_))))
 ·refine .skip (.br (fun h=>?_) fun h=>.skip (.done rfl (ha.fin h)))
  obtain⟨s,pre,h1,h2,h3,h4⟩:=ha.get h;obtain⟨q1,q2,q3,q4,q5⟩:=hf.s s h2;refine .skip (.op s h1 (.skip (.call _ (zb n s.Leaves leaf q1 q2) fun b hb=>?_)))
  have e:∀X,(pre++[s]).flatMap (jk leaf)=pre.flatMap (jk leaf)++X↔jk leaf s=X:=fun X=>by simp
  refine .br (fun hb1=>.skip (.op () rfl (.skip (.loop (iO s.aI fun pre' m=>CM (kT f) (pre.flatMap (jk leaf)++pre') m) (fun a=>s.aI.length - a.1.toNat) (fun t=>CM (kT f) (pre.flatMap (jk leaf)++s.aI) t) rfl (iO.start (by rw[List.append_nil];exact h3)) (by simpa using q3) (fun c hc=>?_) (fun t ht=>.skip (.done rfl (h4 hf.l _ ?_))))))) fun hb1=>.skip (.done rfl (h4 hf.l _ ?_))
  ·refine .skip (.br (fun h'=>?_) fun h'=>.skip (.done rfl (hc.fin h')))
   obtain⟨x,pre',k1,k2,k3,k4⟩:=hc.get h';obtain⟨w1,w2⟩:=q5 x k2;have hat:ez f.aI x=some (f.aI[x.toNat]'(by omega)):=by
    have h':x.toNat<f.aI.length:=by omega
    have:=bg f.aI x.toNat;rw[show((x.toNat:Nat):Int)=x by omega]at this
    rw[this];exact List.getElem?_eq_getElem h'
   have ht:(f.aI[x.toNat]'(by omega)).Target=kT f x:=by unfold kT;rw[hat];rfl
   refine .skip (.op x k1 (.skip (.op _ hat (.skip (.op () rfl (.skip (.done rfl (k4 q4 _ ?_))))))));rw[ht,← List.append_assoc];exact k3.add x
  ·rw[(e s.aI).2 (by unfold jk;rw[if_pos (by rw[← hb];exact hb1)])];exact ht
  ·rw[(e []).2 (by unfold jk;rw[if_neg (by rw[← hb,hb1];decide)]),List.append_nil];exact h3
 ·refine .skip (.op () rfl (.skip (.loop (iO rs fun pre m=>TM (cs0++pre.flatMap (fm mm r5 sq tg)) m) (fun a=>rs.length - a.1.toNat) (TM (cs0++rs.flatMap (fm mm r5 sq tg))) rfl (iO.start (by simpa using h0)) (by simpa using hrn) (fun a ha=>?_) (fun m hm=>.tidy rfl (.inl (.done rfl ⟨mm,hmm,hm⟩))))))
  refine .skip (.br (fun h=>?_) fun h=>.skip (.done rfl (ha.fin h)))
  obtain⟨r,pre,h1,h2,h3,h4⟩:=ha.get h;have e:∀X,cs0++(pre++[r]).flatMap (fm mm r5 sq tg)=(cs0++pre.flatMap (fm mm r5 sq tg))++X↔fm mm r5 sq tg r=X:=fun X=>by simp
  have h4e:∀s',fm mm r5 sq tg r=[]→s'=a.2→_:=fun s' he hs=>h4 hrl s' (by rw[(e []).2 he,List.append_nil,hs];exact h3)
  refine .skip (.op r h1 (.skip (.br (fun hk=>.skip (.done rfl (h4e _ ?_ rfl))) fun hk=>.skip (.br (fun hi=>.skip (.done rfl (h4e _ ?_ rfl))) fun hi=>.skip (.br (fun hx=>.skip (.done rfl (h4e _ ?_ rfl))) fun hx=>?_)))))
  ·unfold fm;rw[if_pos hk]
  ·unfold fm;rw[if_neg (by rw[hk];decide),if_pos hi]
  ·unfold fm;rw[if_neg (by rw[hk];decide),if_neg (by rw[hi];decide),if_pos hx]
  ·have hc:fm mm r5 sq tg r=(tg r).flatMap (gV mm r (sq r)):=by unfold fm;rw[if_neg (by rw[hk];decide),if_neg (by rw[hi];decide),if_neg (by rw[hx];decide)]
   obtain⟨j1,j2,j3,j4⟩:=hr r h2;refine .skip (.call _ j1 fun r97 h97=>.skip (.call _ j2 fun r98 h98=>?_))
   subst h98;refine .op () rfl (.skip (.loop (iO (tg r) fun pre' m=>TM ((cs0++pre.flatMap (fm mm r5 sq tg))++pre'.flatMap (gV mm r (sq r))) m) (fun a=>(tg r).length - a.1.toNat) (TM ((cs0++pre.flatMap (fm mm r5 sq tg))++(tg r).flatMap (gV mm r (sq r)))) rfl (iO.start (by simpa using h3)) (by simpa using j3) (fun c hc=>?_) (fun t ht=>.skip (.done rfl (h4 hrl _ (by rw[(e _).2 hc];exact ht))))))
   refine .skip (.br (fun h'=>?_) fun h'=>.skip (.done rfl (hc.fin h')))
   obtain⟨x,pre',k1,k2,k3,k4⟩:=hc.get h';refine .skip (.op x k1 (.skip (.op () rfl (.skip (.br (fun hs=>.skip (.inl (.fM (fun t=>t=AH c.2 ⟨(Option.getD (Option.map (fun x=>x.2) (Go.AM.cm kM x mm (0:Nat))) (0:Int)),r.N.IP⟩ (CH r (sq r))) ⟨_,?_,rfl⟩ fun t ht=>.skip (.done rfl (k4 j4 _ ?_))))) fun hs=>.skip (.done rfl (k4 j4 _ ?_)))))))
   ·rw[show CH r (sq r)=CH r r97.2.1 by rw[h97]]
    exact OY n c.2 _ _ _
   ·rw[ht];cases hfm:cm kM x mm 0 with
    |none=>rw[hfm]at hs;cases hs
    |some y=>
     have:(pre'++[x]).flatMap (gV mm r (sq r))=pre'.flatMap (gV mm r (sq r))++[(⟨y.2,r.N.IP⟩,CH r (sq r))]:=by
      rw[List.flatMap_append];simp only[List.flatMap_cons,List.flatMap_nil,List.append_nil,gV,hfm]
     rw[this,← List.append_assoc];exact k3.add _ _
   ·cases hfm:cm kM x mm 0 with
    |some y=>rw[hfm]at hs;cases hs
    |none=>
     have:(pre'++[x]).flatMap (gV mm r (sq r))=pre'.flatMap (gV mm r (sq r)):=by
      rw[List.flatMap_append];simp only[List.flatMap_cons,List.flatMap_nil,List.append_nil,gV,hfm]
     rw[this];exact k3
end Go.L
end
section
namespace Go.L
open Go.AM
def fq(f:aD)(leaf:Int)(x:jh):List (aq×ak):=
 if !x.qm then[]else match ez f.au x.aH with
 |none=>[]
 |some s=>if decide (leaf∈s.Leaves)&&decide (x.BD∈s.aI)then[(⟨x.BD,x.IP⟩,Go.L.ak.mk x.bN true x.Time (0:Int) false (0:Int))]else[]
def Hj(m:List (aq×ak))(p:aq):Int:=
 (Option.getD (Option.map (fun x=>x.2) (Go.AM.cm eU p m (0:Nat))) (Go.L.ak.mk (0:Int) false (0:Int) (0:Int) false (0:Int))).qx
def oJ(m:List (aq×ak))(p:aq):Known:=Go.L.Known.mk p.bd p.ip (Hj m p)
def tP(f:aD)(leaf lo:Int)(sq:bt→Int)(tg:bt→List Int)(ns:List jh)(rs:List bt)(mm:List (Int×Int)):List (aq×ak):=
 ns.flatMap (fq f leaf)++rs.flatMap (fm mm lo sq tg)
def FF(f:aD)(leaf lo:Int)(sq:bt→Int)(tg:bt→List Int)(ns:List jh)(rs:List bt)(out:List Known):Prop:=
 ∃mm m,CM (kT f) (f.au.flatMap (jk leaf)) mm∧TM (tP f leaf lo sq tg ns rs mm) m∧out=(eG (m.map (·.1))).map (oJ m)
theorem Oe(n:Nat)(f:aD)(leaf lo:Int)(ns:List jh)(rs:List bt)(sq:bt→Int)(tg:bt→List Int)
 (hck:At (jG.S n f) (fun(r:Int×ByteArray×Int)=>r.1=0)) (hl0:0≤leaf) (hl1:leaf<f.Leaves)
 (hlo:At (mO.S n (f,leaf)) (fun r=>r=lo)) (hf:Lm n f) (hnl:ns.length<100000) (hnn:ns.length<n) (hrl:rs.length<100000) (hrn:rs.length<n)
 (hr:∀r∈rs,At (jb.S n r.A.fh) (fun q=>q.2.1=sq r)∧At (qo.S n r.A.fh) (fun q=>q=tg r)∧(tg r).length<n∧(tg r).length<100000)
 (hc:∀mm,(tP f leaf lo sq tg ns rs mm).length<100000∧(tP f leaf lo sq tg ns rs mm).length<n):
 At (rG.S n (f,leaf,ns,rs)) (FF f leaf lo sq tg ns rs):=by
 refine(?_ :cO n (oq f leaf ns rs) _);unfold oq;refine .skip (.call _ hck fun r5 h5=>.skip (.br (fun h=>?_) fun _=>.skip (.br (fun h=>?_) fun _=>.skip (.br (fun h=>?_) fun _=>.skip (.call (fun _=>True) ⟨(),rfl,trivial⟩ fun _ _=>.skip (.op () rfl (.skip ?_)))))))
 ·rw[h5]at h;cases h
 ·simp only[decide_eq_true_eq]at h;omega
 ·simp only[decide_eq_true_eq]at h;omega
 refine .loop (iO ns fun pre m=>TM (pre.flatMap (fq f leaf)) m) (fun a=>ns.length - a.1.toNat) (TM (ns.flatMap (fq f leaf))) rfl (iO.start TM.nil) (by simpa using hnn) (fun a ha=>?_) (fun m0 hm0=>?_)
 ·refine .skip (.br (fun h=>?_) fun h=>.skip (.done rfl (ha.fin h)))
  obtain⟨x,pre,h1,h2,h3,h4⟩:=ha.get h;have h4e:fq f leaf x=[]→_:=fun he=>h4 hnl a.2 (by rw[List.flatMap_append,List.flatMap_cons,he,List.flatMap_nil,List.append_nil,List.append_nil];exact h3)
  refine .skip (.op x h1 (.skip (.br (fun hi=>.skip (.br (fun hs0=>.skip (.op () rfl (.skip (.br (fun hs1=>?_) fun hs1=>.skip (.done rfl (h4e ?_)))))) fun hs0=>.skip (.done rfl (h4e ?_)))) fun hi=>.skip (.done rfl (h4e ?_)))))
  ·simp only[decide_eq_true_eq]at hs0 hs1;have hlt:x.aH.toNat<f.au.length:=by omega
   have hat:ez f.au x.aH=some (f.au[x.aH.toNat]'hlt):=by
    have:=bg f.au x.aH.toNat;rw[show((x.aH.toNat:Nat):Int)=x.aH by omega]at this
    rw[this];exact List.getElem?_eq_getElem hlt
   generalize hs:f.au[x.aH.toNat]'hlt=s at hat;have hmem:s∈f.au:=by rw[← hs];exact List.getElem_mem hlt
   obtain⟨q1,q2,q3,q4,q5⟩:=hf.s s hmem;have hcn:fq f leaf x=if decide (leaf∈s.Leaves)&&decide (x.BD∈s.aI)then[(⟨x.BD,x.IP⟩,Go.L.ak.mk x.bN true x.Time (0:Int) false (0:Int))]else[]:=by
    unfold fq;rw[if_neg (by rw[hi];decide),hat]
   refine .skip (.op s hat (.skip (.call _ (zb n s.Leaves leaf q1 q2) fun b hb=>.skip (.br (fun hb1=>.skip (.call _ (zb n s.aI x.BD q3 q4) fun c hc'=>.skip (.br (fun hc1=>.skip (.inl (.fM (fun t=>t=AH a.2 ⟨x.BD,x.IP⟩ (Go.L.ak.mk x.bN true x.Time (0:Int) false (0:Int))) ⟨_,OY n a.2 _ _ _,rfl⟩ fun t ht=>.skip (.done rfl (h4 hnl _ ?_))))) fun hc1=>.skip (.done rfl (h4e ?_))))) fun hb1=>.skip (.done rfl (h4e ?_))))))
   ·rw[List.flatMap_append,List.flatMap_cons,List.flatMap_nil,List.append_nil,hcn,← hb,← hc',hb1,hc1,ht];exact h3.add _ _
   ·rw[hcn,← hc',hc1,Bool.and_false];rfl
   ·rw[hcn,← hb,hb1];rfl
  ·simp only[decide_eq_false_iff_not]at hs1;have:ez f.au x.aH=none:=by
    cases ho:ez f.au x.aH with
    |none=>rfl
    |some s=>
     simp only[decide_eq_true_eq]at hs0;have:=bg f.au x.aH.toNat;rw[show((x.aH.toNat:Nat):Int)=x.aH by omega,ho]at this
     have:=(List.getElem?_eq_some_iff.1 this.symm).1;omega
   unfold fq;rw[this];split<;>rfl
  ·simp only[decide_eq_false_iff_not]at hs0;have:ez f.au x.aH=none:=by
    unfold ez;exact if_neg (by omega)
   unfold fq;rw[this];split<;>rfl
  ·unfold fq;rw[hi];rfl
 ·refine .skip (.inl (.fM _ (MK n m0 _ hm0 f leaf lo rs sq tg hlo hf hrl hrn hr) fun(m:List (aq×ak)) hm=>?_))
  obtain⟨mm,hmm,hm⟩:=hm;obtain⟨hc1,hc2⟩:=hc mm;have hlen:m.length≤(tP f leaf lo sq tg ns rs mm).length:=hm.len;refine .skip (.inl (.skip (.tidy rfl (.inl (.inl (.fM (fun(y:Nat×List aq)=>y=(m.length,eG (m.map (·.1)))) ⟨_,if_pos (by show m.length<1000000;omega),rfl⟩ fun(y:Nat×List aq) hy=>?_))))))
  subst hy;have hsl:(eG (m.map (·.1))).length=m.length:=by rw[(k6 (m.map (·.1))).1.length_eq,List.length_map]
  refine .skip (.loop (iO (eG (m.map (·.1))) fun pre t=>t=pre.map (oJ m)) (fun a=>(eG (m.map (·.1))).length - a.1.toNat) (fun t=>t=(eG (m.map (·.1))).map (oJ m)) rfl (iO.start rfl) (by rw[hsl];show m.length - 0<n;omega) (fun a ha=>?_) (fun t ht=>.skip (.done ?_ ⟨mm,m,hmm,hm,ht⟩)))
  ·have ha2:=ha;refine .skip (.br (fun h=>?_) fun h=>.skip (.done rfl (ha.fin (by rw[hsl];exact h))))
   obtain⟨x,pre,h1,h2,h3,h4⟩:=ha.get (by rw[hsl];exact h)
   obtain⟨i,hi,hil,hp⟩:=ha2;simp only[decide_eq_true_eq]at h;have hal:a.2.length≤m.length:=by rw[hp,List.length_map,List.length_take];omega
   have hx:(eG (m.map (·.1)))[a.1.toNat]? =some x:=by
    rw[hi]at h1 ⊢;rw[bg]at h1;exact h1
   have hr2:roomy (a.2.length+1) 24=true:=by
    simp only[roomy,Bool.and_eq_true,decide_eq_true_eq];omega
   exact .skip (.op () (if_pos ⟨by omega,h⟩) (.op x hx (.skip (.op () rfl (.skip (.op () (if_pos ⟨rfl,hr2⟩) (.skip (.done rfl (h4 (by omega) (a.2++[oJ m x]) (by rw[List.map_append,← h3];rfl))))))))))
  ·simp only[aK,ff,Bool.and_true];exact decide_eq_true (List.length_map ..).symm
end Go.L
end
