/- The table of the best bindings: what it holds after so many candidates. No conditions. -/
import Derived.Test.YtpgpmlaafigpaaaGreatDoorPKn1
namespace Go.L
open Go.AM
set_option maxRecDepth 100000
set_option linter.unusedVariables false
set_option linter.unusedSimpArgs false
section
variable {K V:Type} {eq:K→K→Bool}
theorem CP(heq:∀a b,eq a b=true↔a=b){k:K}:∀(m:List (K×V)) (j:Nat),bp eq k m j=none→∀p∈m,p.1≠k
 | [],_,_,_,hp=>by cases hp
 |p::ps,j,h,q,hq=>by
  simp only[bp]at h;split at h
  ·cases h
  ·rename_i hne;rcases List.mem_cons.1 hq with rfl |hq
   ·intro e;exact hne ((heq _ _).2 e.symm)
   ·exact CP heq ps (j+1) h q hq
theorem zN(heq:∀a b,eq a b=true↔a=b){k:K}:∀(m:List (K×V)) (j i:Nat) (v:V),bp eq k m j=some (i,v)→j≤i∧m[i - j]? =some (k,v)
 | [],_,_,_,h=>by simp[bp]at h
 |p::ps,j,i,v,h=>by
  simp only[bp]at h;split at h
  ·rename_i he;simp only[Option.some.injEq,Prod.mk.injEq]at h;obtain⟨rfl,rfl⟩:=h;have:=(heq _ _).1 he;exact⟨Nat.le_refl _,by simp[this]⟩
  ·obtain⟨h1,h2⟩:=zN heq ps (j+1) i v h;refine⟨by omega,?_⟩
   rw[show i - j=(i - (j+1))+1 by omega]
   simpa using h2
theorem R1{m:List (K×V)}(hn:(m.map (·.1)).Nodup){i j:Nat}{k:K}{v w:V}(hi:m[i]? =some (k,v))(hj:m[j]? =some (k,w)):i=j:=by
 have e1:(m.map (·.1))[i]? =some k:=by rw[List.getElem?_map,hi];rfl
 have e2:(m.map (·.1))[j]? =some k:=by rw[List.getElem?_map,hj];rfl
 obtain⟨l1,q1⟩:=List.getElem?_eq_some_iff.1 e1;exact(List.getElem?_inj l1 hn).1 (e1.trans e2.symm)
theorem CQ(heq:∀a b,eq a b=true↔a=b)(m:List (K×V))(k:K)(v:V)(hn:(m.map (·.1)).Nodup)(q:K)(w:V):(q,w)∈dx eq k v m↔(q=k∧w=v)∨(q≠k∧(q,w)∈m):=by
 unfold dx;split
 ·rename_i i u hf;obtain⟨_,h2⟩:=zN heq m 0 i u hf;simp only[Nat.sub_zero]at h2;have hil:=(List.getElem?_eq_some_iff.1 h2).1;constructor
  ·intro h;obtain⟨j,hj⟩:=List.mem_iff_getElem?.1 h;rw[List.getElem?_set]at hj;by_cases he:i=j
   ·rw[if_pos he,if_pos hil]at hj;cases hj;exact .inl ⟨rfl,rfl⟩
   ·have hne:=he;rw[if_neg he]at hj;refine .inr ⟨?_,List.mem_of_getElem? hj⟩;rintro rfl;exact hne (R1 hn h2 hj)
  ·rintro(⟨rfl,rfl⟩ |⟨hne,h⟩)
   ·exact List.mem_iff_getElem?.2 ⟨i,by rw[List.getElem?_set];simp[hil]⟩
   ·obtain⟨j,hj⟩:=List.mem_iff_getElem?.1 h;refine List.mem_iff_getElem?.2 ⟨j,?_⟩;rw[List.getElem?_set,if_neg ?_]
    ·exact hj
    ·rintro rfl;rw[h2]at hj;simp only[Option.some.injEq,Prod.mk.injEq]at hj;exact hne hj.1.symm
 ·rename_i hf;have h2:=CP heq m 0 hf;rw[List.mem_append,List.mem_singleton,Prod.mk.injEq];constructor
  ·rintro(h |h)
   ·exact .inr ⟨h2 _ h,h⟩
   ·exact .inl h
  ·rintro(h |⟨_,h⟩)
   ·exact .inr h
   ·exact .inl h
theorem Mg(heq:∀a b,eq a b=true↔a=b)(m:List (K×V))(k:K)(v:V)(hn:(m.map (·.1)).Nodup):((dx eq k v m).map (·.1)).Nodup∧(dx eq k v m).length≤m.length+1:=by
 unfold dx;split
 ·rename_i i u hf;obtain⟨_,h2⟩:=zN heq m 0 i u hf;simp only[Nat.sub_zero]at h2;have he:(m.set i (k,v)).map (·.1)=m.map (·.1):=by
   rw[List.map_set];obtain⟨hl,hg⟩:=List.getElem?_eq_some_iff.1 (show(m.map (·.1))[i]? =some k by rw[List.getElem?_map,h2];rfl)
   have e2:(m.map (·.1)).set i k=m.map (·.1):=by
    rw[← hg];exact List.set_getElem_self hl
   exact e2
  rw[he];exact⟨hn,by simp⟩
 ·rename_i hf;have h2:=CP heq m 0 hf;rw[List.map_append];refine⟨List.nodup_append.2 ⟨hn,by simp,fun x hx y hy=>?_⟩,by simp⟩
  simp only[List.map_cons,List.map_nil,List.mem_singleton]at hy;subst hy;obtain⟨p,hp,rfl⟩:=List.mem_map.1 hx;exact h2 p hp
end
theorem GK(a b:au):fS a b=true↔a=b:=by
 unfold fS;simp only[Bool.and_eq_true,beq_iff_eq,and_true];constructor
 ·rintro⟨h1,h2⟩;cases a;cases b;simp only at h1 h2;subst h1;subst h2;rfl
 ·rintro rfl;exact⟨rfl,rfl⟩
def Dw(m:List (au×ak))(p:au)(b:ak):List (au×ak):=
 match bp fS p m 0 with
 |none=>dx fS p b m
 |some x=>if J4 b x.2<0 then dx fS p b m else m
theorem Uh(n:Nat)(m:List (au×ak))(bd ip:Int)(b:ak):tW.c.S n (m,bd,ip,b)=some (Dw m ⟨bd,ip⟩ b):=by
 show(pK m bd ip b).run n=_;have e:∀(a:ak) {β:Type} (k:eT.sh.El→Option β),(eT.S n (b,a)).bind k=k (J4 b a):=fun a β k=>by rw[TB];rfl
 cases hf:bp fS ⟨bd,ip⟩ m 0 with
 |none=>
  have:Dw m ⟨bd,ip⟩ b=dx fS ⟨bd,ip⟩ b m:=by unfold Dw;rw[hf]
  rw[this];unfold pK;show(if(!(Option.isSome (bp fS ⟨bd,ip⟩ m 0)))=true then _ else _)=_
  rw[hf];rfl
 |some x=>
  have:Dw m ⟨bd,ip⟩ b=if J4 b x.2<0 then dx fS ⟨bd,ip⟩ b m else m:=by unfold Dw;rw[hf]
  rw[this];unfold pK;show(if(!(Option.isSome (bp fS ⟨bd,ip⟩ m 0)))=true then _ else(eT.S n (b,Option.getD (Option.map (fun x=>x.2) (bp fS ⟨bd,ip⟩ m 0)) _)).bind _)=_
  rw[hf];show(eT.S n (b,x.2)).bind _=_;rw[e];by_cases hc:J4 b x.2<0
  ·rw[if_pos hc];refine(if_pos (by simpa using hc)).trans ?_
   rfl
  ·rw[if_neg hc];refine(if_neg (by simpa using hc)).trans ?_
   rfl
structure TM(cs m:List (au×ak)):Prop where
 nd:(m.map (·.1)).Nodup
 len:m.length≤cs.length
 all:∀p b,(p,b)∈cs→∃b',(p,b')∈m
 best:∀p b,(p,b)∈m→(p,b)∈cs∧∀b',(p,b')∈cs→¬yt b' b
theorem TM.nil:TM [] []:=⟨List.nodup_nil,Nat.le_refl _,fun _ _ h=>(by cases h),fun _ _ h=>(by cases h)⟩
theorem TM.iff{cs m:List (au×ak)}(h:TM cs m)(p:au)(b:ak):(p,b)∈m↔(p,b)∈cs∧∀b',(p,b')∈cs→¬yt b' b:=by
 refine⟨h.best p b,fun⟨h1,h2⟩=>?_⟩
 obtain⟨b',hb'⟩:=h.all p b h1;obtain⟨h3,h4⟩:=h.best p b' hb';rw[RZ (h4 b h1) (h2 b' h3)];exact hb'
theorem TM.add{cs m:List (au×ak)}(h:TM cs m)(p:au)(b:ak):TM (cs++[(p,b)]) (Dw m p b):=by
 have put:(∀b',(p,b')∈cs→¬yt b' b)→TM (cs++[(p,b)]) (dx fS p b m):=fun hb=>by
  obtain⟨n1,n2⟩:=Mg GK m p b h.nd;refine⟨n1,by rw[List.length_append];simp only[List.length_singleton];have:=h.len;omega,fun q c hq=>?_,fun q c hq=>?_⟩
  ·by_cases he:q=p
   ·subst he;exact⟨b,(CQ GK m q b h.nd q b).2 (.inl ⟨rfl,rfl⟩)⟩
   ·rcases List.mem_append.1 hq with hq |hq
    ·obtain⟨c',hc'⟩:=h.all q c hq;exact⟨c',(CQ GK m p b h.nd q c').2 (.inr ⟨he,hc'⟩)⟩
    ·simp only[List.mem_singleton,Prod.mk.injEq]at hq;exact absurd hq.1 he
  ·rcases(CQ GK m p b h.nd q c).1 hq with⟨rfl,rfl⟩ |⟨hne,hm⟩
   ·refine⟨List.mem_append_right _ (by simp),fun b' hb'=>?_⟩
    rcases List.mem_append.1 hb' with hb' |hb'
    ·exact hb b' hb'
    ·simp only[List.mem_singleton,Prod.mk.injEq]at hb';rw[hb'.2];exact Dv _
   ·obtain⟨h1,h2⟩:=h.best q c hm;refine⟨List.mem_append_left _ h1,fun b' hb'=>?_⟩
    rcases List.mem_append.1 hb' with hb' |hb'
    ·exact h2 b' hb'
    ·simp only[List.mem_singleton,Prod.mk.injEq]at hb';exact absurd hb'.1 hne
 unfold Dw;split
 ·rename_i hf;refine put fun b' hb'=>?_
  obtain⟨c,hc⟩:=h.all p b' hb';exact absurd rfl (CP GK m 0 hf _ hc)
 ·rename_i x hf;obtain⟨i,v⟩:=x;obtain⟨_,h2⟩:=zN GK m 0 i v hf;have hm:=List.mem_of_getElem? h2;obtain⟨h3,h4⟩:=h.best p v hm;split
  ·rename_i hc;rw[Ov]at hc;refine put fun b' hb' hlt=>h4 b' hb' (J5 hlt hc)
  ·rename_i hc;rw[Ov]at hc;refine⟨h.nd,by rw[List.length_append];have:=h.len;omega,fun q c hq=>?_,fun q c hq=>?_⟩
   ·rcases List.mem_append.1 hq with hq |hq
    ·exact h.all q c hq
    ·simp only[List.mem_singleton,Prod.mk.injEq]at hq;obtain⟨rfl,rfl⟩:=hq;exact⟨v,hm⟩
   ·obtain⟨h5,h6⟩:=h.best q c hq;refine⟨List.mem_append_left _ h5,fun b' hb'=>?_⟩
    rcases List.mem_append.1 hb' with hb' |hb'
    ·exact h6 b' hb'
    ·simp only[List.mem_singleton,Prod.mk.injEq]at hb';obtain⟨rfl,rfl⟩:=hb';obtain⟨j,hj⟩:=List.mem_iff_getElem?.1 hq;have:i=j:=R1 h.nd (by simpa using h2) hj
     subst this;simp only[Nat.sub_zero]at h2;rw[h2]at hj;simp only[Option.some.injEq,Prod.mk.injEq,true_and]at hj;rw[← hj];exact hc
end Go.L
