/- Put together out of parts: TenantChecks: Check answers as the reference does, for any configuration. No conditions. -/
import Derived.Test.YtiohninblcifpaaGreatDoorWb
import Derived.Test.YtiohninblcifpaaGreatDoorAd
import Derived.Test.YtiohninblcifpaaGreatDoorWf
section
namespace Go.AM
theorem LB{α σ τ ST:Type}{f:ST→Option (ST⊕τ)}(mk:Nat→σ→ST)(l:List α)(S:Nat→σ)(fin:τ)
 (hs:∀i x,l[i]? =some x→f (mk i (S i))=some (.inl (mk (i+1) (S (i+1))))) (he:f (mk l.length (S l.length))=some (.inr fin)) (n:Nat) (hn:l.length<n):cE f n (mk 0 (S 0))=some fin:=by
 have key:∀(k i n:Nat),i+k=l.length→k<n→cE f n (mk i (S i))=some fin:=by
  intro k;induction k with
  |zero=>
   intro i n hi hn;obtain⟨n,rfl⟩:∃m,n=m+1:=⟨n - 1,by omega⟩
   have:i=l.length:=by omega
   subst this;simp only[cE,he]
  |succ k ih=>
   intro i n hi hn;obtain⟨n,rfl⟩:∃m,n=m+1:=⟨n - 1,by omega⟩
   simp only[cE,hs i _ (List.getElem?_eq_getElem (show i<l.length by omega))]
   exact ih (i+1) n (by omega) (by omega)
 exact key l.length 0 n (by omega) hn
def bM{α K:Type}[DecidableEq K](key:α→K):List K→List α→List Bool
 |_,[]=>[]
 |seen,x::xs=>decide (key x∈seen)::bM key (seen++[key x]) xs
section
variable {α K:Type} [DecidableEq K] (key:α→K)
theorem DC:∀(l:List α) (seen:List K) (x:α),bM key seen (l++[x])=bM key seen l++[decide (key x∈seen++l.map key)]
 | [],seen,x=>by simp[bM]
 |y::l,seen,x=>by
  simp only[List.cons_append,bM,DC l,List.map_cons,List.append_assoc,List.nil_append]
theorem fU:∀(l:List α) (seen:List K),(bM key seen l).length=l.length
 | [],_=>rfl
 |_::l,seen=>by simp[bM,fU l]
theorem E1:∀(l:List α) (seen:List K) (i:Nat),(bM key seen l)[i]? =(l[i]?).map fun x=>decide (key x∈seen++(l.take i).map key)
 | [],_,_=>by simp[bM]
 |y::l,seen,0=>by simp[bM]
 |y::l,seen,i+1=>by
  simp only[bM,List.getElem?_cons_succ,E1 l,List.take_succ_cons,List.map_cons,List.append_assoc,List.singleton_append]
variable {eq:K→K→Bool}
def zl(m:List (K×Bool))(ks:List K):Prop:=(∀p∈m,p.2=true)∧∀k,k∈m.map (·.1)↔k∈ks
theorem Bj(heq:∀a b,eq a b=decide (a=b)):∀(m:List (K×Bool)) (k:K) (j i:Nat) (v:Bool),bf eq k m j=some (i,v)→j≤i∧m[i - j]? =some (k,v)
 | [],_,_,_,_,h=>by simp[bf]at h
 |p::ps,k,j,i,v,h=>by
  simp only[bf,heq,decide_eq_true_eq]at h;split at h
  ·rename_i hk;simp only[Option.some.injEq,Prod.mk.injEq]at h;obtain⟨rfl,rfl⟩:=h;exact⟨Nat.le_refl _,by simp[hk]⟩
  ·obtain⟨h1,h2⟩:=Bj heq ps k (j+1) i v h;refine⟨by omega,?_⟩
   rw[show i - j=(i - (j+1))+1 by omega]
   simpa using h2
theorem E2(heq:∀a b,eq a b=decide (a=b)):∀(m:List (K×Bool)) (k:K) (j:Nat),bf eq k m j=none→k∉m.map (·.1)
 | [],_,_,_=>by simp
 |p::ps,k,j,h=>by
  simp only[bf,heq,decide_eq_true_eq]at h;split at h
  ·cases h
  ·rename_i hk;have:=E2 heq ps k (j+1) h;simp only[List.map_cons,List.mem_cons,not_or];exact⟨hk,this⟩
theorem zl.get(heq:∀a b,eq a b=decide (a=b)){m:List (K×Bool)}{ks:List K}(h:zl m ks)(k:K):((bf eq k m 0).map (·.2)).getD false=decide (k∈ks):=by
 cases hf:bf eq k m 0 with
 |none=>
  have:=E2 heq m k 0 hf;rw[h.2]at this;simp[this]
 |some q=>
  obtain⟨i,v⟩:=q;obtain⟨_,h2⟩:=Bj heq m k 0 i v hf;have hm:=List.mem_of_getElem? h2;have hv:=h.1 _ hm;have:k∈ks:=(h.2 k).1 (List.mem_map.2 ⟨_,hm,rfl⟩);simp only at hv;simp[this,hv]
theorem zl.put(heq:∀a b,eq a b=decide (a=b)){m:List (K×Bool)}{ks:List K}(h:zl m ks)(k:K):zl (bP eq k true m) (ks++[k]):=by
 unfold bP;split
 ·rename_i i v hf;obtain⟨_,h2⟩:=Bj heq m k 0 i v hf;rw[Nat.sub_zero]at h2;refine⟨fun p hp=>?_,fun q=>?_⟩
  ·rcases List.mem_or_eq_of_mem_set hp with hp |rfl
   ·exact h.1 p hp
   ·rfl
  ·have hs:(m.set i (k,true)).map (·.1)=m.map (·.1):=by
    rw[List.map_set];apply List.ext_getElem?;intro j;by_cases hj:i=j
    ·subst hj;have hlt:=(List.getElem?_eq_some_iff.1 h2).1;rw[List.getElem?_set_self (by simpa using hlt),List.getElem?_map,h2];rfl
    ·rw[List.getElem?_set_ne hj]
   rw[hs,h.2];have hk:k∈ks:=(h.2 k).1 (List.mem_map.2 ⟨_,List.mem_of_getElem? h2,rfl⟩);simp only[List.mem_append,List.mem_singleton];constructor
   ·exact .inl
   ·rintro(h |rfl)
    ·exact h
    ·exact hk
 ·refine⟨fun p hp=>?_,fun q=>?_⟩
  ·rcases List.mem_append.1 hp with hp |hp
   ·exact h.1 p hp
   ·simp at hp;subst hp;rfl
  ·simp only[List.map_append,List.map_cons,List.map_nil,List.mem_append,h.2 q]
theorem G6(heq:∀a b,eq a b=decide (a=b))(l:List α){f:(Int×List (K×Bool)×List Bool)→Option ((Int×List (K×Bool)×List Bool)⊕(List (K×Bool)×List Bool))}
 (hs:∀(i:Nat) x m t,l[i]? =some x→i<t.length→f ((i:Int),m,t)=some (.inl (((i+1:Nat):Int),bP eq (key x) true m,t.set i (((bf eq (key x) m 0).map (·.2)).getD false))))
 (he:∀m t,f ((l.length:Int),m,t)=some (.inr (m,t))) (n:Nat) (hn:l.length<n):∃m,cE f n (0,[],List.replicate l.length false)=some (m,bM key [] l):=by
 refine⟨l.foldl (fun m x=>bP eq (key x) true m) [],?_⟩
 have hM:∀i,zl ((l.take i).foldl (fun m x=>bP eq (key x) true m) []) ((l.take i).map key):=by
  have:∀(l:List α) (m:List (K×Bool)) (ks:List K),zl m ks→zl (l.foldl (fun m x=>bP eq (key x) true m) m) (ks++l.map key):=by
   intro l;induction l with
   |nil=>intro m ks h;simpa using h
   |cons x xs ih=>
    intro m ks h;have:=ih _ _ (h.put heq (key x));simpa using this
  intro i;simpa using this (l.take i) [] [] ⟨by simp,by simp⟩
 have:=LB (f:=f) (fun i (s:List (K×Bool)×List Bool)=>((i:Int),s.1,s.2)) l
  (fun i=>((l.take i).foldl (fun m x=>bP eq (key x) true m) [],bM key [] (l.take i)++List.replicate (l.length - i) false))
  (l.foldl (fun m x=>bP eq (key x) true m) [],bM key [] l) (fun i x hx=>?_) ?_ n hn
 ·simpa[bM]using this
 ·have hlt:=(List.getElem?_eq_some_iff.1 hx).1;have htake:l.take (i+1)=l.take i++[x]:=by
   rw[List.take_add_one,hx];rfl
  have hfl:(bM key [] (l.take i)).length=i:=by rw[fU];simp;omega
  simp only
  rw[hs i x _ _ hx (by simp[hfl];omega),(hM i).get heq]
  congr 2;refine Prod.ext rfl (Prod.ext ?_ ?_)
  ·simp only[htake,List.foldl_append,List.foldl_cons,List.foldl_nil]
  ·simp only[htake,DC,List.nil_append];rw[List.set_append_right _ _ (by omega),hfl,Nat.sub_self,show l.length - i=(l.length - (i+1))+1 by omega,List.replicate_succ,List.set_cons_zero]
   simp
 ·simp only[List.take_length,Nat.sub_self,List.replicate_zero,List.append_nil];exact he _ _
end
section
variable {α K:Type} [DecidableEq K]
theorem l9(key:α→K){eq:K→K→Bool}(heq:∀a b,eq a b=decide (a=b))(l:List α){f:(Int×List (K×Bool)×List Bool)→Option ((Int×List (K×Bool)×List Bool)⊕(List (K×Bool)×List Bool))}{γ:Type}{k:List (K×Bool)×List Bool→Option γ}{r:Option γ}{n:Nat}(hn:l.length<n)
 (hs:∀(i:Nat) x m t,l[i]? =some x→i<t.length→f ((i:Int),m,t)=some (.inl (((i+1:Nat):Int),bP eq (key x) true m,t.set i (((bf eq (key x) m 0).map (·.2)).getD false))))
 (he:∀m t,f ((l.length:Int),m,t)=some (.inr (m,t))) (hk:∀m,k (m,bM key [] l)=r):(cE f n (0,[],List.replicate l.length false)).bind k=r:=by
 obtain⟨m,hm⟩:=G6 key heq l hs he n hn;rw[hm];exact hk m
end
def cg{α:Type}(E:Nat→α→Int):Nat→List α→Option (Int×Nat)
 |_,[]=>none
 |i,x::xs=>if E i x≠0 then some (E i x,i)else cg E (i+1) xs
theorem JK{α τ:Type}{f:Int→Option (Int⊕τ)}(l:List α)(E:Nat→α→Int)(bad:Nat→Int→τ)(fin:τ)
 (hs:∀(i:Nat) x,l[i]? =some x→f (i:Int)=some (if E i x≠0 then .inr (bad i (E i x))else .inl ((i+1:Nat):Int))) (he:f (l.length:Int)=some (.inr fin)) (n:Nat) (hn:l.length<n):
 cE f n 0=some (match cg E 0 l with |none=>fin |some (e,i)=>bad i e):=by
 have:=Ld (f:=f) (fun i (_:Unit)=>(i:Int)) (fun i x (_:Unit)=>if E i x≠0 then Sum.inr (bad i (E i x))else Sum.inl ()) (fun _=>fin) l
  (fun i x s hx=>by rw[hs i x hx];split<;>rfl) (fun _=>he) n () hn
 have key:∀(l:List α) (i:Nat),(match scan (fun i x (_:Unit)=>if E i x≠0 then Sum.inr (bad i (E i x))else Sum.inl ()) i l ()with | .inl _=>fin | .inr t=>t)=(match cg E i l with |none=>fin |some (e,i)=>bad i e):=by
  intro l;induction l with
  |nil=>intro i;rfl
  |cons x xs ih=>
   intro i;simp only[scan,cg];by_cases h:E i x≠0
   ·simp only[if_pos h]
   ·simp only[if_neg h];exact ih (i+1)
 rw[← key l 0];simp only[Int.natCast_zero]at this;rw[this];cases scan (fun i x (_:Unit)=>if E i x≠0 then Sum.inr (bad i (E i x))else Sum.inl ()) 0 l ()<;>rfl
theorem sI{α τ γ:Type}{f:Int→Option (Int⊕τ)}(l:List α)(E:Nat→α→Int)(bad:Nat→Int→τ)(fin:τ){k:τ→Option γ}{r:Option γ}{n:Nat}(hn:l.length<n)
 (hs:∀(i:Nat) x,l[i]? =some x→f (i:Int)=some (if E i x≠0 then .inr (bad i (E i x))else .inl ((i+1:Nat):Int))) (he:f (l.length:Int)=some (.inr fin))
 (hk:(match cg E 0 l with |none=>k fin |some (e,i)=>k (bad i e))=r):(cE f n 0).bind k=r:=by
 rw[JK l E bad fin hs he n hn,← hk];cases cg E 0 l with
 |none=>rfl
 |some p=>rfl
theorem zP{α τ γ ST:Type}{f:ST→Option (ST⊕τ)}(mk:Nat→ST)(l:List α)(E:Nat→α→Int){k:τ→Option γ}(bad:Nat→Int→Option γ)(fin:Option γ){n:Nat}(hn:l.length<n)
 (hb:∀(i:Nat) x,l[i]? =some x→(∀(j:Nat) y,j<i→l[j]? =some y→E j y=0)→E i x≠0→∃t,f (mk i)=some (.inr t)∧k t=bad i (E i x))
 (hg:∀(i:Nat) x,l[i]? =some x→(∀(j:Nat) y,j<i→l[j]? =some y→E j y=0)→E i x=0→f (mk i)=some (.inl (mk (i+1))))
 (he:(∀(j:Nat) y,l[j]? =some y→E j y=0)→∃t,f (mk l.length)=some (.inr t)∧k t=fin):
 (cE f n (mk 0)).bind k=(match cg E 0 l with |none=>fin |some (e,i)=>bad i e):=by
 have key:∀(m i n:Nat),i+m=l.length→m<n→(∀(j:Nat) y,j<i→l[j]? =some y→E j y=0)→(cE f n (mk i)).bind k=(match cg E i (l.drop i)with |none=>fin |some (e,i)=>bad i e):=by
  intro m;induction m with
  |zero=>
   intro i n hi hn hp;obtain⟨n,rfl⟩:∃m,n=m+1:=⟨n - 1,by omega⟩
   have:i=l.length:=by omega
   subst this;obtain⟨t,h1,h2⟩:=he fun j y hj=>hp j y (List.getElem?_eq_some_iff.1 hj).1 hj
   simp only[cE,h1,Option.bind_some,h2,List.drop_length,cg]
  |succ m ih=>
   intro i n hi hn hp;obtain⟨n,rfl⟩:∃m,n=m+1:=⟨n - 1,by omega⟩
   have hlt:i<l.length:=by omega
   have hx:=List.getElem?_eq_getElem hlt;rw[List.drop_eq_getElem_cons hlt];simp only[cg];by_cases hE:E i l[i]=0
   ·rw[if_neg (by simpa using hE)]
    simp only[cE,hg i _ hx hp hE];refine ih (i+1) n (by omega) (by omega) fun j y hj hy=>?_
    by_cases hji:j=i
    ·subst hji;rw[hx]at hy;cases hy;exact hE
    ·exact hp j y (by omega) hy
   ·rw[if_pos hE];obtain⟨t,h1,h2⟩:=hb i _ hx hp hE;simp only[cE,h1,Option.bind_some,h2]
 have:=key l.length 0 n (by omega) hn fun j y hj=>absurd hj (by omega)
 simpa using this
theorem tQ{α:Type}{E:Nat→α→Int}:∀(l:List α) (i:Nat),cg E i l=none↔∀(j:Nat) x,l[j]? =some x→E (i+j) x=0
 | [],i=>by simp[cg]
 |x::xs,i=>by
  simp only[cg];constructor
  ·intro h;split at h
   ·cases h
   ·rename_i h0;have ih:=(tQ xs (i+1)).1 h;intro j y hj;cases j with
    |zero=>simp at hj;subst hj;simpa using h0
    |succ j=>have:=ih j y (by simpa using hj);rw[show i+(j+1)=i+1+j by omega];exact this
  ·intro h;have h0:=h 0 x rfl;simp only[Nat.add_zero]at h0;rw[if_neg (by simpa using h0)]
   exact(tQ xs (i+1)).2 fun j y hj=>by
    have:=h (j+1) y (by simpa using hj)
    rw[show i+1+j=i+(j+1)by omega];exact this
theorem Cn{α:Type}(p:α→Bool):∀(l:List α) (j:Nat),cg (fun _ x=>if p x=true then 1 else 0) j l=(l.findIdx? p).map fun i=>(1,i+j)
 | [],_=>rfl
 |x::xs,j=>by
  simp only[cg,List.findIdx?_cons];cases h:p x with
  |true=>simp
  |false=>
   simp only[Bool.false_eq_true,if_false,ne_eq,not_true_eq_false,Cn p xs (j+1),Option.map_map];congr 1;funext i;simp[Nat.add_assoc,Nat.add_comm 1]
theorem sJ{α γ:Type}(l:List α)(p:α→Bool){f:Int→Option (Int⊕(Int⊕Unit))}{k:Int⊕Unit→Option γ}{r:Option γ}{n:Nat}(hn:l.length<n)
 (hs:∀(i:Nat) x,l[i]? =some x→f (i:Int)=some (if p x=true then .inr (.inl (i:Int))else .inl ((i+1:Nat):Int))) (he:f (l.length:Int)=some (.inr (.inr ())))
 (hk:k (match l.findIdx? p with |some i=>.inl (i:Int) |none=>.inr ())=r):(cE f n 0).bind k=r:=by
 refine sI l (fun _ x=>if p x=true then 1 else 0) (fun i _=>.inl (i:Int)) (.inr ()) hn (fun i x hx=>?_) he ?_
 ·rw[hs i x hx];cases p x<;>simp
 ·rw[Cn,← hk];cases l.findIdx? p with
  |none=>rfl
  |some i=>rfl
def idxOf{α:Type}(p:α→Bool)(l:List α):Int:=match l.findIdx? p with
 |some i=>(i:Int)
 |none=> -1
theorem uu{α:Type}(p:α→Bool)(l:List α):decide (idxOf p l≥0)=l.any p:=by
 unfold idxOf;cases h:l.findIdx? p with
 |none=>
  rw[List.findIdx?_eq_none_iff]at h;have:l.any p=false:=by rw[List.any_eq_false];intro x hx;simp[h x hx]
  rw[this];rfl
 |some i=>
  have:l.any p=true:=by
   have h2:=List.findIdx?_eq_some_iff_getElem.1 h;obtain⟨hlt,hp,_⟩:=h2;exact List.any_eq_true.2 ⟨_,List.getElem_mem hlt,hp⟩
  rw[this];simp
theorem gd{X β:Type}(l:List X)(enc:X→List AVal)(n b ak i o:Nat)(y:X→X)(k:X→Option β):(iq l enc n b ak i o y).run.bind k=(l[i]?).bind k:=rfl
end Go.AM
namespace Go.L
open Go.AM
set_option maxRecDepth 100000
set_option linter.unusedSimpArgs false
set_option linter.unusedVariables false
section leaves
variable {β:Type} (n:Nat)
theorem iU(x lo hi:Int)(k:cH.sh.El→Option β):(cH.S n (x,lo,hi)).bind k=k (decide (x<lo)||decide (hi<x)):=by
 have:cH.S n (x,lo,hi)=some (decide (x<lo)||decide (hi<x)):=by
  show(tW x lo hi).run n=_;simp only[tW,G.run,aX];by_cases h:x<lo<;>simp[h]<;>rfl
 rw[this];rfl
theorem fE(b:Bool)(e:Int)(p:ByteArray)(i:Int)(k:aA.sh.El→Option β):(aA.S n (b,e,p,i)).bind k=if b=true then k (.inr (e,p,i))else k (.inl ()):=by
 have:aA.S n (b,e,p,i)=some (if b=true then Sum.inr (e,p,i)else Sum.inl ()):=by
  show(w9 b e p i).run n=_;simp only[w9,G.run,aX];cases b<;>simp<;>rfl
 rw[this];cases b<;>rfl
theorem kN(x m:Int)(k:eN.sh.El→Option β):(eN.S n (x,m)).bind k=k (decide (0≤x)&&decide (x<m)):=by
 have:eN.S n (x,m)=some (decide (0≤x)&&decide (x<m)):=by
  show(kA x m).run n=_;simp only[kA,G.run,aX];by_cases h:0≤x<;>simp[h]<;>rfl
 rw[this];rfl
end leaves
instance :DecidableEq (V2 Int):=fun a b=>decidable_of_iff (a.a0=b.a0∧a.a1=b.a1) ⟨fun h=>by cases a;cases b;simp_all,fun h=>by simp[h]⟩
instance :DecidableEq af:=fun a b=>decidable_of_iff (a.IP=b.IP∧a.Len=b.Len) ⟨fun h=>by cases a;cases b;simp_all,fun h=>by simp[h]⟩
instance :DecidableEq aM:=fun a b=>decidable_of_iff (a.bd=b.bd∧a.addr=b.addr) ⟨fun h=>by cases a;cases b;simp_all,fun h=>by simp[h]⟩
instance :DecidableEq bK:=fun a b=>decidable_of_iff (a.From=b.From∧a.To=b.To∧a.af=b.af) ⟨fun h=>by cases a;cases b;simp_all,fun h=>by simp[h]⟩
theorem JL{β:Type}(n:Nat)(x:av)(k:oh.sh.El→Option β):(oh.S n x).bind k=k (x.dz):=rfl
theorem Aq{β:Type}(n:Nat)(l:List av)(hn:l.length<n)(hs:l.length≤4000)(k:iu.sh.El→Option β):
 (iu.S n l).bind k=k (bM (fun x:av=>x.dz) [] l):=by
 have:iu.S n l=some (bM (fun x:av=>x.dz) [] l):=by
  show(kB l).run n=_;have hroom:roomy (Int.toNat (l.length:Int)) 1=true:=by simp[roomy];omega
  simp only[kB,G.run,aX,cm,pQ,dJ,oc,od,ew,gd,JL,if_true,Int.toNat_natCast];rw[if_pos ⟨by omega,by simpa using hroom⟩]
  refine l9 (fun x:av=>x.dz) (eq:=fun a b=>(a==b&&true)) (fun a b=>?_) l hn (fun i x m t hx ht=>?_) (fun m t=>?_) (fun m=>?_)
  ·rw[Bool.eq_iff_iff];simp
  ·have hi:=(List.getElem?_eq_some_iff.1 hx).1;have h1:(0:Int)≤i∧(i:Int)<((List.replicate l.length false).length:Nat):=by simp;omega
   obtain⟨y,hy⟩:∃y,t[i]? =some y:=⟨_,List.getElem?_eq_getElem ht⟩;simp only[cR,hx,Option.bind_some,Int.toNat_natCast,hy,h1,and_self,if_true,fS (show i<9223372036854775807 by omega)]
   simp[hi];rfl
  ·simp;rfl
  ·simp[gA,fU];rfl
 rw[this];rfl
theorem FL{β:Type}(n:Nat)(x:av)(k:mq.sh.El→Option β):(mq.S n x).bind k=k (x.Target):=rfl
theorem yX{β:Type}(n:Nat)(l:List av)(hn:l.length<n)(hs:l.length≤4000)(k:gO.sh.El→Option β):
 (gO.S n l).bind k=k (bM (fun x:av=>x.Target) [] l):=by
 have:gO.S n l=some (bM (fun x:av=>x.Target) [] l):=by
  show(jM l).run n=_;have hroom:roomy (Int.toNat (l.length:Int)) 1=true:=by simp[roomy];omega
  simp only[jM,G.run,aX,cm,pQ,dJ,oc,od,ew,gd,FL,if_true,Int.toNat_natCast];rw[if_pos ⟨by omega,by simpa using hroom⟩]
  refine l9 (fun x:av=>x.Target) (eq:=fun a b=>(a==b&&true)) (fun a b=>?_) l hn (fun i x m t hx ht=>?_) (fun m t=>?_) (fun m=>?_)
  ·rw[Bool.eq_iff_iff];simp
  ·have hi:=(List.getElem?_eq_some_iff.1 hx).1;have h1:(0:Int)≤i∧(i:Int)<((List.replicate l.length false).length:Nat):=by simp;omega
   obtain⟨y,hy⟩:∃y,t[i]? =some y:=⟨_,List.getElem?_eq_getElem ht⟩;simp only[cR,hx,Option.bind_some,Int.toNat_natCast,hy,h1,and_self,if_true,fS (show i<9223372036854775807 by omega)]
   simp[hi];rfl
  ·simp;rfl
  ·simp[gA,fU];rfl
 rw[this];rfl
theorem JM{β:Type}(n:Nat)(x:BD)(k:rG.sh.El→Option β):(rG.S n x).bind k=k (x.dz):=rfl
theorem C8{β:Type}(n:Nat)(l:List BD)(hn:l.length<n)(hs:l.length≤4000)(k:jB.sh.El→Option β):
 (jB.S n l).bind k=k (bM (fun x:BD=>x.dz) [] l):=by
 have:jB.S n l=some (bM (fun x:BD=>x.dz) [] l):=by
  show(mF l).run n=_;have hroom:roomy (Int.toNat (l.length:Int)) 1=true:=by simp[roomy];omega
  simp only[mF,G.run,aX,cm,pQ,dJ,oc,od,ew,gd,JM,if_true,Int.toNat_natCast];rw[if_pos ⟨by omega,by simpa using hroom⟩]
  refine l9 (fun x:BD=>x.dz) (eq:=fun a b=>(a==b&&true)) (fun a b=>?_) l hn (fun i x m t hx ht=>?_) (fun m t=>?_) (fun m=>?_)
  ·rw[Bool.eq_iff_iff];simp
  ·have hi:=(List.getElem?_eq_some_iff.1 hx).1;have h1:(0:Int)≤i∧(i:Int)<((List.replicate l.length false).length:Nat):=by simp;omega
   obtain⟨y,hy⟩:∃y,t[i]? =some y:=⟨_,List.getElem?_eq_getElem ht⟩;simp only[cR,hx,Option.bind_some,Int.toNat_natCast,hy,h1,and_self,if_true,fS (show i<9223372036854775807 by omega)]
   simp[hi];rfl
  ·simp;rfl
  ·simp[gA,fU];rfl
 rw[this];rfl
theorem FM{β:Type}(n:Nat)(x:BD)(k:pE.sh.El→Option β):(pE.S n x).bind k=k (x.Target):=rfl
theorem Bw{β:Type}(n:Nat)(l:List BD)(hn:l.length<n)(hs:l.length≤4000)(k:iO.sh.El→Option β):
 (iO.S n l).bind k=k (bM (fun x:BD=>x.Target) [] l):=by
 have:iO.S n l=some (bM (fun x:BD=>x.Target) [] l):=by
  show(lg l).run n=_;have hroom:roomy (Int.toNat (l.length:Int)) 1=true:=by simp[roomy];omega
  simp only[lg,G.run,aX,cm,pQ,dJ,oc,od,ew,gd,FM,if_true,Int.toNat_natCast];rw[if_pos ⟨by omega,by simpa using hroom⟩]
  refine l9 (fun x:BD=>x.Target) (eq:=fun a b=>(a==b&&true)) (fun a b=>?_) l hn (fun i x m t hx ht=>?_) (fun m t=>?_) (fun m=>?_)
  ·rw[Bool.eq_iff_iff];simp
  ·have hi:=(List.getElem?_eq_some_iff.1 hx).1;have h1:(0:Int)≤i∧(i:Int)<((List.replicate l.length false).length:Nat):=by simp;omega
   obtain⟨y,hy⟩:∃y,t[i]? =some y:=⟨_,List.getElem?_eq_getElem ht⟩;simp only[cR,hx,Option.bind_some,Int.toNat_natCast,hy,h1,and_self,if_true,fS (show i<9223372036854775807 by omega)]
   simp[hi];rfl
  ·simp;rfl
  ·simp[gA,fU];rfl
 rw[this];rfl
theorem Oi{β:Type}(n:Nat)(x:Host)(k:nG.sh.El→Option β):(nG.S n x).bind k=k ((⟨x.BD,x.bV⟩:aM)):=rfl
theorem xN{β:Type}(n:Nat)(l:List Host)(hn:l.length<n)(hs:l.length≤4000)(k:gC.sh.El→Option β):
 (gC.S n l).bind k=k (bM (fun x:Host=>(⟨x.BD,x.bV⟩:aM)) [] l):=by
 have:gC.S n l=some (bM (fun x:Host=>(⟨x.BD,x.bV⟩:aM)) [] l):=by
  show(iY l).run n=_;have hroom:roomy (Int.toNat (l.length:Int)) 1=true:=by simp[roomy];omega
  simp only[iY,G.run,aX,cm,pQ,dJ,oc,od,ew,gd,Oi,if_true,Int.toNat_natCast];rw[if_pos ⟨by omega,by simpa using hroom⟩]
  refine l9 (fun x:Host=>(⟨x.BD,x.bV⟩:aM)) (eq:=fun a b=>(a.bd==b.bd&&(a.addr==b.addr&&true))) (fun a b=>?_) l hn (fun i x m t hx ht=>?_) (fun m t=>?_) (fun m=>?_)
  ·rw[Bool.eq_iff_iff];cases a;cases b;simp
  ·have hi:=(List.getElem?_eq_some_iff.1 hx).1;have h1:(0:Int)≤i∧(i:Int)<((List.replicate l.length false).length:Nat):=by simp;omega
   obtain⟨y,hy⟩:∃y,t[i]? =some y:=⟨_,List.getElem?_eq_getElem ht⟩;simp only[cR,hx,Option.bind_some,Int.toNat_natCast,hy,h1,and_self,if_true,fS (show i<9223372036854775807 by omega)]
   simp[hi];rfl
  ·simp;rfl
  ·simp[gA,fU];rfl
 rw[this];rfl
theorem Oj{β:Type}(n:Nat)(x:Host)(k:nH.sh.El→Option β):(nH.S n x).bind k=k ((⟨x.BD,(Go.IntKind.wrap .u64 x.IP)⟩:aM)):=rfl
theorem wP{β:Type}(n:Nat)(l:List Host)(hn:l.length<n)(hs:l.length≤4000)(k:gp.sh.El→Option β):
 (gp.S n l).bind k=k (bM (fun x:Host=>(⟨x.BD,(Go.IntKind.wrap .u64 x.IP)⟩:aM)) [] l):=by
 have:gp.S n l=some (bM (fun x:Host=>(⟨x.BD,(Go.IntKind.wrap .u64 x.IP)⟩:aM)) [] l):=by
  show(iH l).run n=_;have hroom:roomy (Int.toNat (l.length:Int)) 1=true:=by simp[roomy];omega
  simp only[iH,G.run,aX,cm,pQ,dJ,oc,od,ew,gd,Oj,if_true,Int.toNat_natCast];rw[if_pos ⟨by omega,by simpa using hroom⟩]
  refine l9 (fun x:Host=>(⟨x.BD,(Go.IntKind.wrap .u64 x.IP)⟩:aM)) (eq:=fun a b=>(a.bd==b.bd&&(a.addr==b.addr&&true))) (fun a b=>?_) l hn (fun i x m t hx ht=>?_) (fun m t=>?_) (fun m=>?_)
  ·rw[Bool.eq_iff_iff];cases a;cases b;simp
  ·have hi:=(List.getElem?_eq_some_iff.1 hx).1;have h1:(0:Int)≤i∧(i:Int)<((List.replicate l.length false).length:Nat):=by simp;omega
   obtain⟨y,hy⟩:∃y,t[i]? =some y:=⟨_,List.getElem?_eq_getElem ht⟩;simp only[cR,hx,Option.bind_some,Int.toNat_natCast,hy,h1,and_self,if_true,fS (show i<9223372036854775807 by omega)]
   simp[hi];rfl
  ·simp;rfl
  ·simp[gA,fU];rfl
 rw[this];rfl
theorem Ol{β:Type}(n:Nat)(x:bK)(k:nI.sh.El→Option β):(nI.S n x).bind k=k (x):=rfl
theorem C9{β:Type}(n:Nat)(l:List bK)(hn:l.length<n)(hs:l.length≤4000)(k:jF.sh.El→Option β):
 (jF.S n l).bind k=k (bM (fun x:bK=>x) [] l):=by
 have:jF.S n l=some (bM (fun x:bK=>x) [] l):=by
  show(mJ l).run n=_;have hroom:roomy (Int.toNat (l.length:Int)) 1=true:=by simp[roomy];omega
  simp only[mJ,G.run,aX,cm,pQ,dJ,oc,od,ew,gd,Ol,if_true,Int.toNat_natCast];rw[if_pos ⟨by omega,by simpa using hroom⟩]
  refine l9 (fun x:bK=>x) (eq:=fun a b=>(a.From==b.From&&(a.To==b.To&&(a.af.IP==b.af.IP&&(a.af.Len==b.af.Len&&true))))) (fun a b=>?_) l hn (fun i x m t hx ht=>?_) (fun m t=>?_) (fun m=>?_)
  ·rw[Bool.eq_iff_iff];rcases a with⟨_,_,⟨_,_⟩⟩;rcases b with⟨_,_,⟨_,_⟩⟩;simp
  ·have hi:=(List.getElem?_eq_some_iff.1 hx).1;have h1:(0:Int)≤i∧(i:Int)<((List.replicate l.length false).length:Nat):=by simp;omega
   obtain⟨y,hy⟩:∃y,t[i]? =some y:=⟨_,List.getElem?_eq_getElem ht⟩;simp only[cR,hx,Option.bind_some,Int.toNat_natCast,hy,h1,and_self,if_true,fS (show i<9223372036854775807 by omega)]
   simp[hi];rfl
  ·simp;rfl
  ·simp[gA,fU];rfl
 rw[this];rfl
theorem Om{β:Type}(n:Nat)(x:cT)(k:nC.sh.El→Option β):(nC.S n x).bind k=k ((⟨x.A,x.B⟩:V2 Int)):=rfl
theorem Co{β:Type}(n:Nat)(l:List cT)(hn:l.length<n)(hs:l.length≤4000)(k:je.sh.El→Option β):
 (je.S n l).bind k=k (bM (fun x:cT=>(⟨x.A,x.B⟩:V2 Int)) [] l):=by
 have:je.S n l=some (bM (fun x:cT=>(⟨x.A,x.B⟩:V2 Int)) [] l):=by
  show(lV l).run n=_;have hroom:roomy (Int.toNat (l.length:Int)) 1=true:=by simp[roomy];omega
  simp only[lV,G.run,aX,cm,pQ,dJ,oc,od,ew,gd,Om,if_true,Int.toNat_natCast];rw[if_pos ⟨by omega,by simpa using hroom⟩]
  refine l9 (fun x:cT=>(⟨x.A,x.B⟩:V2 Int)) (eq:=fun a b=>(a.a0==b.a0&&(a.a1==b.a1&&true))) (fun a b=>?_) l hn (fun i x m t hx ht=>?_) (fun m t=>?_) (fun m=>?_)
  ·rw[Bool.eq_iff_iff];cases a;cases b;simp
  ·have hi:=(List.getElem?_eq_some_iff.1 hx).1;have h1:(0:Int)≤i∧(i:Int)<((List.replicate l.length false).length:Nat):=by simp;omega
   obtain⟨y,hy⟩:∃y,t[i]? =some y:=⟨_,List.getElem?_eq_getElem ht⟩;simp only[cR,hx,Option.bind_some,Int.toNat_natCast,hy,h1,and_self,if_true,fS (show i<9223372036854775807 by omega)]
   simp[hi];rfl
  ·simp;rfl
  ·simp[gA,fU];rfl
 rw[this];rfl
end Go.L
namespace Go.L
open Go.AM
set_option maxRecDepth 100000
set_option linter.unusedSimpArgs false
set_option linter.unusedVariables false
def outcome(part:ByteArray)(most:Int)(full:Bool)(r:Option (Int×Nat)):Unit⊕(Int×ByteArray×Int):=
 if full=true then .inr (7,part,most)else match r with
 |none=>.inl ()
 |some (e,i)=>.inr (e,part,(i:Int))
def IM:ByteArray:=⟨⟨[108,105,110,107,115]⟩⟩
def CZ(f:aG)(fl:List Bool)(i:Nat)(x:cT):Int:=
 if(decide (0≤x.A)&&decide (x.A<f.Leaves))=true then
  if decide (x.B≥f.Leaves)=true then
   if(!decide (x.B<Go.IntKind.wrap .i64 (f.Leaves+f.fD)))=true then 2
   else if(decide (x.B7<1)||decide (1000<x.B7))=true then 2
   else if fl.getD i false=true then 11 else 0
  else 2
 else 2
theorem On(n:Nat)(f:aG)(hn:f.Links.length<n)(hs:f.Links.length≤128∨128<f.Links.length):
 lM.S n ⟨f⟩=some (outcome IM 128 (decide (128<(f.Links.length:Int))) (cg (CZ f (bM (fun x:cT=>(⟨x.A,x.B⟩:V2 Int)) [] f.Links)) 0 f.Links)):=by
 show(oG ⟨f⟩).run n=_;simp only[oG,G.run,aX,cm,fE,Sum.elim,gt_iff_lt,decide_eq_true_eq];by_cases hfull:(128:Int)<f.Links.length
 ·simp[hfull,outcome];rfl
 ·simp only[hfull,if_false,decide_false];rw[Co n f.Links hn (by omega)]
  simp only[G.run,aX,cm,if_true,dJ,kN,iU,fE,Sum.elim];refine sI f.Links (CZ f (bM (fun x:cT=>(⟨x.A,x.B⟩:V2 Int)) [] f.Links)) (fun i e=>Sum.inl (e,IM,(i:Int))) (Sum.inr ()) hn (fun i x hx=>?_) ?_ ?_
  ·have hi:=(List.getElem?_eq_some_iff.1 hx).1;obtain⟨y,hy⟩:∃y,(bM (fun x:cT=>(⟨x.A,x.B⟩:V2 Int)) [] f.Links)[i]? =some y:=⟨_,List.getElem?_eq_getElem (by rw[fU];exact hi)⟩
   have hlt:(i:Int)<f.Links.length:=by omega
   simp only[cR,hx,Option.bind_some,hlt,decide_true,if_true,hy,CZ,List.getD_eq_getElem?_getD,Option.getD_some,fS (show i<9223372036854775807 by omega)]
   repeat' split
   all_goals first |rfl | (simp_all<;>omega)
  ·simp;rfl
  ·cases cg (CZ f (bM (fun x:cT=>(⟨x.A,x.B⟩:V2 Int)) [] f.Links)) 0 f.Links with
   |none=>rfl
   |some p=>rfl
end Go.L
namespace Go.L
open Go.AM
set_option maxRecDepth 100000
set_option linter.unusedSimpArgs false
set_option linter.unusedVariables false
theorem Oo{β:Type}(n:Nat)(x:av)(v:Int)(k:lq.sh.El→Option β):(lq.S n (x,v)).bind k=k (x.dz==v):=rfl
theorem JN{β:Type}(n:Nat)(x:av)(v:Int)(k:kD.sh.El→Option β):(kD.S n (x,v)).bind k=k (x.Target==v):=rfl
theorem IQ{β:Type}(n:Nat)(l:List av)(v:Int)(hn:l.length<n)(hs:l.length≤4000)(k:gP.sh.El→Option β):
 (gP.S n (l,v)).bind k=k (idxOf (fun x:av=>x.dz==v) l):=by
 have:gP.S n (l,v)=some (idxOf (fun x:av=>x.dz==v) l):=by
  show(jN l v).run n=_;simp only[jN,G.run,aX,cm,dJ,Oo,if_true];refine sJ l (fun x:av=>x.dz==v) hn (fun i x hx=>?_) ?_ ?_
  ·have hi:=(List.getElem?_eq_some_iff.1 hx).1;have hlt:(i:Int)<l.length:=by omega
   simp only[cR,hx,Option.bind_some,hlt,decide_true,if_true,fS (show i<9223372036854775807 by omega)]
   split<;>rfl
  ·simp;rfl
  ·unfold idxOf;cases l.findIdx? (fun x:av=>x.dz==v)<;>rfl
 rw[this];rfl
theorem E3{β:Type}(n:Nat)(l:List av)(v:Int)(hn:l.length<n)(hs:l.length≤4000)(k:gv.sh.El→Option β):
 (gv.S n (l,v)).bind k=k (l.any (fun x:av=>x.dz==v)):=by
 have:gv.S n (l,v)=some (l.any (fun x:av=>x.dz==v)):=by
  show(iP l v).run n=_;simp only[iP,G.run,aX,if_true];rw[IQ n l v hn hs];simp only[uu];rfl
 rw[this];rfl
theorem LC{β:Type}(n:Nat)(l:List av)(v:Int)(hn:l.length<n)(hs:l.length≤4000)(k:jC.sh.El→Option β):(jC.S n (l,v)).bind k=k (l.any (fun x:av=>x.dz==v)):=by
 have:jC.S n (l,v)=some (l.any (fun x:av=>x.dz==v)):=by
  show(mG l v).run n=_;simp only[mG,G.run,aX,if_true];rw[E3 n l v hn hs];rfl
 rw[this];rfl
theorem E4{β:Type}(n:Nat)(l:List av)(v:Int)(hn:l.length<n)(hs:l.length≤4000)(k:gB.sh.El→Option β):
 (gB.S n (l,v)).bind k=k (idxOf (fun x:av=>x.Target==v) l):=by
 have:gB.S n (l,v)=some (idxOf (fun x:av=>x.Target==v) l):=by
  show(iX l v).run n=_;simp only[iX,G.run,aX,cm,dJ,JN,if_true];refine sJ l (fun x:av=>x.Target==v) hn (fun i x hx=>?_) ?_ ?_
  ·have hi:=(List.getElem?_eq_some_iff.1 hx).1;have hlt:(i:Int)<l.length:=by omega
   simp only[cR,hx,Option.bind_some,hlt,decide_true,if_true,fS (show i<9223372036854775807 by omega)]
   split<;>rfl
  ·simp;rfl
  ·unfold idxOf;cases l.findIdx? (fun x:av=>x.Target==v)<;>rfl
 rw[this];rfl
theorem Cp{β:Type}(n:Nat)(l:List av)(v:Int)(hn:l.length<n)(hs:l.length≤4000)(k:gb.sh.El→Option β):
 (gb.S n (l,v)).bind k=k (l.any (fun x:av=>x.Target==v)):=by
 have:gb.S n (l,v)=some (l.any (fun x:av=>x.Target==v)):=by
  show(iB l v).run n=_;simp only[iB,G.run,aX,if_true];rw[E4 n l v hn hs];simp only[uu];rfl
 rw[this];rfl
theorem G7{β:Type}(n:Nat)(l:List av)(v:Int)(hn:l.length<n)(hs:l.length≤4000)(k:iQ.sh.El→Option β):(iQ.S n (l,v)).bind k=k (l.any (fun x:av=>x.Target==v)):=by
 have:iQ.S n (l,v)=some (l.any (fun x:av=>x.Target==v)):=by
  show(lu l v).run n=_;simp only[lu,G.run,aX,if_true];rw[Cp n l v hn hs];rfl
 rw[this];rfl
theorem Oq{β:Type}(n:Nat)(x:Int)(x2:Int)(x3:Int)(x4:List cT)(x5:List av)(x6:List BD)(x7:List bh)(x8:List Host)(x9:List bK)(x10:Int)(x11:Int)(x12:Int)(x13:Bool)(x14:Bool)(x15:Int)(x16:Int)(x17:Int)(x18:Int)(x19:Int)(x20:Int)(k:jg.sh.El→Option β):(jg.S n (x,x2,x3,x4,x5,x6,x7,x8,x9,x10,x11,x12,x13,x14,x15,x16,x17,x18,x19,x20)).bind k=k ((fun x:Int=> !(decide (0≤x)&&decide (x<x2))) x):=by
 have:jg.S n (x,x2,x3,x4,x5,x6,x7,x8,x9,x10,x11,x12,x13,x14,x15,x16,x17,x18,x19,x20)=some ((fun x:Int=> !(decide (0≤x)&&decide (x<x2))) x):=by
  show(lY x x2 x3 x4 x5 x6 x7 x8 x9 x10 x11 x12 x13 x14 x15 x16 x17 x18 x19 x20).run n=_;simp only[lY,G.run,aX,cm,kN,if_true];rfl
 rw[this];rfl
theorem IU{β:Type}(n:Nat)(l:List Int)(x2:Int)(x3:Int)(x4:List cT)(x5:List av)(x6:List BD)(x7:List bh)(x8:List Host)(x9:List bK)(x10:Int)(x11:Int)(x12:Int)(x13:Bool)(x14:Bool)(x15:Int)(x16:Int)(x17:Int)(x18:Int)(x19:Int)(x20:Int)(hn:l.length<n)(hs:l.length≤4000)(k:jE.sh.El→Option β):
 (jE.S n (l,x2,x3,x4,x5,x6,x7,x8,x9,x10,x11,x12,x13,x14,x15,x16,x17,x18,x19,x20)).bind k=k (idxOf (fun x:Int=> !(decide (0≤x)&&decide (x<x2))) l):=by
 have:jE.S n (l,x2,x3,x4,x5,x6,x7,x8,x9,x10,x11,x12,x13,x14,x15,x16,x17,x18,x19,x20)=some (idxOf (fun x:Int=> !(decide (0≤x)&&decide (x<x2))) l):=by
  show(mI l x2 x3 x4 x5 x6 x7 x8 x9 x10 x11 x12 x13 x14 x15 x16 x17 x18 x19 x20).run n=_;simp only[mI,G.run,aX,cm,dJ,Oq,if_true];refine sJ l (fun x:Int=> !(decide (0≤x)&&decide (x<x2))) hn (fun i x hx=>?_) ?_ ?_
  ·have hi:=(List.getElem?_eq_some_iff.1 hx).1;have hlt:(i:Int)<l.length:=by omega
   simp only[cR,hx,Option.bind_some,hlt,decide_true,if_true,fS (show i<9223372036854775807 by omega)]
   split<;>rfl
  ·simp;rfl
  ·unfold idxOf;cases l.findIdx? (fun x:Int=> !(decide (0≤x)&&decide (x<x2)))<;>rfl
 rw[this];rfl
theorem E5{β:Type}(n:Nat)(l:List Int)(x2:Int)(x3:Int)(x4:List cT)(x5:List av)(x6:List BD)(x7:List bh)(x8:List Host)(x9:List bK)(x10:Int)(x11:Int)(x12:Int)(x13:Bool)(x14:Bool)(x15:Int)(x16:Int)(x17:Int)(x18:Int)(x19:Int)(x20:Int)(hn:l.length<n)(hs:l.length≤4000)(k:iE.sh.El→Option β):
 (iE.S n (l,x2,x3,x4,x5,x6,x7,x8,x9,x10,x11,x12,x13,x14,x15,x16,x17,x18,x19,x20)).bind k=k (l.any (fun x:Int=> !(decide (0≤x)&&decide (x<x2)))):=by
 have:iE.S n (l,x2,x3,x4,x5,x6,x7,x8,x9,x10,x11,x12,x13,x14,x15,x16,x17,x18,x19,x20)=some (l.any (fun x:Int=> !(decide (0≤x)&&decide (x<x2)))):=by
  show(kO l x2 x3 x4 x5 x6 x7 x8 x9 x10 x11 x12 x13 x14 x15 x16 x17 x18 x19 x20).run n=_;simp only[kO,G.run,aX,if_true];rw[IU n l x2 x3 x4 x5 x6 x7 x8 x9 x10 x11 x12 x13 x14 x15 x16 x17 x18 x19 x20 hn hs];simp only[uu];rfl
 rw[this];rfl
theorem QB{β:Type}(n:Nat)(x:Int)(x2:Int)(x3:Int)(x4:List cT)(x5:List av)(x6:List BD)(x7:List bh)(x8:List Host)(x9:List bK)(x10:Int)(x11:Int)(x12:Int)(x13:Bool)(x14:Bool)(x15:Int)(x16:Int)(x17:Int)(x18:Int)(x19:Int)(x20:Int)(k:jh.sh.El→Option β):(jh.S n (x,x2,x3,x4,x5,x6,x7,x8,x9,x10,x11,x12,x13,x14,x15,x16,x17,x18,x19,x20)).bind k=k ((fun x:Int=> !(decide (0≤x)&&decide (x<(x6.length:Int)))) x):=by
 have:jh.S n (x,x2,x3,x4,x5,x6,x7,x8,x9,x10,x11,x12,x13,x14,x15,x16,x17,x18,x19,x20)=some ((fun x:Int=> !(decide (0≤x)&&decide (x<(x6.length:Int)))) x):=by
  show(lZ x x2 x3 x4 x5 x6 x7 x8 x9 x10 x11 x12 x13 x14 x15 x16 x17 x18 x19 x20).run n=_;simp only[lZ,G.run,aX,cm,kN,if_true];rfl
 rw[this];rfl
theorem LD{β:Type}(n:Nat)(l:List Int)(x2:Int)(x3:Int)(x4:List cT)(x5:List av)(x6:List BD)(x7:List bh)(x8:List Host)(x9:List bK)(x10:Int)(x11:Int)(x12:Int)(x13:Bool)(x14:Bool)(x15:Int)(x16:Int)(x17:Int)(x18:Int)(x19:Int)(x20:Int)(hn:l.length<n)(hs:l.length≤4000)(k:iR.sh.El→Option β):
 (iR.S n (l,x2,x3,x4,x5,x6,x7,x8,x9,x10,x11,x12,x13,x14,x15,x16,x17,x18,x19,x20)).bind k=k (idxOf (fun x:Int=> !(decide (0≤x)&&decide (x<(x6.length:Int)))) l):=by
 have:iR.S n (l,x2,x3,x4,x5,x6,x7,x8,x9,x10,x11,x12,x13,x14,x15,x16,x17,x18,x19,x20)=some (idxOf (fun x:Int=> !(decide (0≤x)&&decide (x<(x6.length:Int)))) l):=by
  show(lB l x2 x3 x4 x5 x6 x7 x8 x9 x10 x11 x12 x13 x14 x15 x16 x17 x18 x19 x20).run n=_;simp only[lB,G.run,aX,cm,dJ,QB,if_true];refine sJ l (fun x:Int=> !(decide (0≤x)&&decide (x<(x6.length:Int)))) hn (fun i x hx=>?_) ?_ ?_
  ·have hi:=(List.getElem?_eq_some_iff.1 hx).1;have hlt:(i:Int)<l.length:=by omega
   simp only[cR,hx,Option.bind_some,hlt,decide_true,if_true,fS (show i<9223372036854775807 by omega)]
   split<;>rfl
  ·simp;rfl
  ·unfold idxOf;cases l.findIdx? (fun x:Int=> !(decide (0≤x)&&decide (x<(x6.length:Int))))<;>rfl
 rw[this];rfl
theorem G8{β:Type}(n:Nat)(l:List Int)(x2:Int)(x3:Int)(x4:List cT)(x5:List av)(x6:List BD)(x7:List bh)(x8:List Host)(x9:List bK)(x10:Int)(x11:Int)(x12:Int)(x13:Bool)(x14:Bool)(x15:Int)(x16:Int)(x17:Int)(x18:Int)(x19:Int)(x20:Int)(hn:l.length<n)(hs:l.length≤4000)(k:gW.sh.El→Option β):
 (gW.S n (l,x2,x3,x4,x5,x6,x7,x8,x9,x10,x11,x12,x13,x14,x15,x16,x17,x18,x19,x20)).bind k=k (l.any (fun x:Int=> !(decide (0≤x)&&decide (x<(x6.length:Int))))):=by
 have:gW.S n (l,x2,x3,x4,x5,x6,x7,x8,x9,x10,x11,x12,x13,x14,x15,x16,x17,x18,x19,x20)=some (l.any (fun x:Int=> !(decide (0≤x)&&decide (x<(x6.length:Int))))):=by
  show(jX l x2 x3 x4 x5 x6 x7 x8 x9 x10 x11 x12 x13 x14 x15 x16 x17 x18 x19 x20).run n=_;simp only[jX,G.run,aX,if_true];rw[LD n l x2 x3 x4 x5 x6 x7 x8 x9 x10 x11 x12 x13 x14 x15 x16 x17 x18 x19 x20 hn hs];simp only[uu];rfl
 rw[this];rfl
theorem M4{β:Type}(n:Nat)(l:List Int)(v:Int)(hn:l.length<n)(hs:l.length≤4000)(k:jv.sh.El→Option β):
 (jv.S n (l,v)).bind k=k (idxOf (fun x:Int=>v==x) l):=by
 have:jv.S n (l,v)=some (idxOf (fun x:Int=>v==x) l):=by
  show(jt l v).run n=_;simp only[jt,G.run,aX,cm,dJ,if_true,if_true];refine sJ l (fun x:Int=>v==x) hn (fun i x hx=>?_) ?_ ?_
  ·have hi:=(List.getElem?_eq_some_iff.1 hx).1;have hlt:(i:Int)<l.length:=by omega
   simp only[cR,hx,Option.bind_some,hlt,decide_true,if_true,fS (show i<9223372036854775807 by omega)]
   split<;>rfl
  ·simp;rfl
  ·unfold idxOf;cases l.findIdx? (fun x:Int=>v==x)<;>rfl
 rw[this];rfl
theorem IV{β:Type}(n:Nat)(l:List Int)(v:Int)(hn:l.length<n)(hs:l.length≤4000)(k:ey.sh.El→Option β):
 (ey.S n (l,v)).bind k=k (l.any (fun x:Int=>v==x)):=by
 have:ey.S n (l,v)=some (l.any (fun x:Int=>v==x)):=by
  show(iw l v).run n=_;simp only[iw,G.run,aX,if_true];rw[M4 n l v hn hs];simp only[uu];rfl
 rw[this];rfl
end Go.L
namespace Go.L
open Go.AM
set_option maxRecDepth 100000
set_option linter.unusedSimpArgs false
set_option linter.unusedVariables false
theorem Cq{β:Type}(k1 k2:Go.IntKind)(a b:Int)(k:Unit→Option β):(DV k1 k2 a b).run.bind k=if decide (0≤b)=true then k ()else none:=by
 show(if decide (0≤b)=true then some ()else none).bind k=_
 split<;>rfl
def jH(p:af):Bool:=decide (0≤p.Len)&&decide (p.Len≤32)
def Cr(a b:Int):Int:=Go.IntKind.wrap .u32 (((BitVec.ofInt 32 a)&&& (BitVec.ofInt 32 b)).toNat:Int)
def RU(a b:Int):Int:=Go.IntKind.wrap .u32 (((BitVec.ofInt 32 a)||| (BitVec.ofInt 32 b)).toNat:Int)
def Ot(a b:Int):Int:=Go.IntKind.wrap .u32 (((BitVec.ofInt 32 a) ^^^ (BitVec.ofInt 32 b)).toNat:Int)
def wz(n:Int):Int:=Go.IntKind.wrap .u32 ((4294967295:Int)*((2:Int) ^ (min (Int.toNat (Go.IntKind.wrap .i64 ((32:Int) - n))) (Go.IntKind.bits .u32))))
def QC(n:Int):Int:=Go.IntKind.wrap .u32 ((Go.IntKind.wrap .u32 ((1:Int)*((2:Int) ^ (min (Int.toNat (Go.IntKind.wrap .i64 ((32:Int) - n))) (Go.IntKind.bits .u32))))) - (1:Int))
def LF(n:Int):Int:=Go.IntKind.wrap .u32 (((BitVec.ofInt 32 4294967295) ^^^ (BitVec.ofInt 32 (QC n))).toNat:Int)
theorem PI{n:Int}(h0:0≤n)(h1:n≤32):LF n=wz n:=by
 have key:((List.range 33).all fun k=>LF (k:Int)==wz (k:Int))=true:=by decide+kernel
 have:=List.all_eq_true.1 key n.toNat (List.mem_range.2 (by omega))
 rw[Int.toNat_of_nonneg h0]at this;simpa using this
def qD(p:af):Bool:=jH p&&(Cr p.IP (wz p.Len)==p.IP)
def iK(p:af)(ip:Int):Bool:=jH p&&(Cr (Ot p.IP ip) (wz p.Len)==0)
def yP(p:af)(ip:Int):Bool:=iK p ip&&(ip != p.IP&&ip != RU p.IP (QC p.Len))
section
variable {β:Type} (n:Nat)
theorem xO(p:af)(k:lW.sh.El→Option β):(lW.S n p).bind k=k (jH p):=by
 have:lW.S n p=some (jH p):=by
  show(rH p).run n=_;simp only[rH,G.run,aX,jH,ge_iff_le];by_cases h:0≤p.Len<;>simp[h]<;>rfl
 rw[this];rfl
theorem wrap32{x:Int}(h0:0≤x)(h1:x≤32):Go.IntKind.wrap .i64 (32 - x)=32 - x:=wrap_i64 (by omega) (by omega)
theorem GH(x:Int)(h0:0≤x)(h1:x≤32)(k:qM.sh.El→Option β):(qM.S n x).bind k=k (wz x):=by
 have:qM.S n x=some (wz x):=by
  show(tD x).run n=_;simp only[tD,G.run,aX,Cq,wz];rw[if_pos (by rw[wrap32 h0 h1];simp;omega)]
  rfl
 rw[this];rfl
theorem yQ(p:af)(k:pF.sh.El→Option β):(pF.S n p).bind k=k (qD p):=by
 have:pF.S n p=some (qD p):=by
  show(vJ p).run n=_;have hc:∀{γ:Type} (k:uW.sh.El→Option γ),(uW.S n p).bind k=if jH p=true then k (⟨Cr p.IP (wz p.Len),p.Len⟩,0)else k (⟨0,0⟩,2):=by
   intro γ k;have:uW.S n p=some (if jH p=true then(⟨Cr p.IP (wz p.Len),p.Len⟩,0)else(⟨0,0⟩,2)):=by
    show(yC p).run n=_;simp only[yC,G.run,aX,xO];by_cases h:jH p=true
    ·simp only[h,Bool.not_true,Bool.false_eq_true,if_false,if_true];simp only[jH,Bool.and_eq_true,decide_eq_true_eq]at h;rw[GH n p.Len h.1 h.2];rfl
    ·simp[h];rfl
   rw[this];split<;>rfl
  simp only[vJ,G.run,aX,hc,qD];by_cases h:jH p=true<;>simp[h]<;>rfl
 rw[this];rfl
theorem xe(p:af)(ip:Int)(k:dH.sh.El→Option β):(dH.S n (p,ip)).bind k=k (iK p ip):=by
 have:dH.S n (p,ip)=some (iK p ip):=by
  show(om p ip).run n=_;simp only[om,G.run,aX,xO,iK];by_cases h:jH p=true
  ·simp only[h,if_true,Bool.true_and];simp only[jH,Bool.and_eq_true,decide_eq_true_eq]at h;rw[GH n p.Len h.1 h.2];rfl
  ·simp[h];rfl
 rw[this];rfl
theorem Cs(p:af)(ip:Int)(hp:jH p=true)(k:pG.sh.El→Option β):(pG.S n (p,ip)).bind k=k (yP p ip):=by
 have:pG.S n (p,ip)=some (yP p ip):=by
  show(vK p ip).run n=_;have h:=hp;simp only[jH,Bool.and_eq_true,decide_eq_true_eq]at h;simp only[vK,G.run,aX,xe,Cq];rw[if_pos (by rw[wrap32 h.1 h.2];simp;omega)]
  simp only[yP,if_true];by_cases h1:iK p ip=true
  ·by_cases h2:(ip != p.IP)=true
   ·simp only[h1,h2,if_true,Bool.true_and];rfl
   ·simp only[h1,h2,if_true,Bool.true_and,Bool.false_eq_true,if_false];simp at h2;simp[h2];rfl
  ·simp[h1];rfl
 rw[this];rfl
end
end Go.L
namespace Go.L
open Go.AM
set_option maxRecDepth 100000
set_option linter.unusedSimpArgs false
set_option linter.unusedVariables false
def D3:ByteArray:=⟨⟨[116,101,110,97,110,116,115]⟩⟩
def IW:ByteArray:=⟨⟨[108,101,97,107,115]⟩⟩
def xX(f1 f2:List Bool)(i:Nat)(x:av):Int:=
 if decide (x.dz<1)=true then 2 else if decide (16777215<x.dz)=true then 2 else if(x.Target==0)=true then 2
 else if f1.getD i false=true then 11 else if f2.getD i false=true then 11 else 0
theorem LG(n:Nat)(f:aG)(hn:f.aT.length<n):
 kC.S n ⟨f⟩=some (outcome D3 16 (decide (16<(f.aT.length:Int))) (cg (xX (bM (fun x:av=>x.dz) [] f.aT) (bM (fun x:av=>x.Target) [] f.aT)) 0 f.aT)):=by
 show(nD ⟨f⟩).run n=_;simp only[nD,G.run,aX,cm,fE,Sum.elim,gt_iff_lt,decide_eq_true_eq];by_cases hfull:(16:Int)<f.aT.length
 ·simp[hfull,outcome];rfl
 ·simp only[hfull,if_false,decide_false];rw[Aq n f.aT hn (by omega)]
  rw[yX n f.aT hn (by omega)]
  simp only[G.run,aX,cm,if_true,dJ,kN,iU,fE,Sum.elim];generalize hf1:bM (fun x:av=>x.dz) [] f.aT=f1
  generalize hf2:bM (fun x:av=>x.Target) [] f.aT=f2
  refine sI f.aT (xX f1 f2) (fun i e=>Sum.inl (e,D3,(i:Int))) (Sum.inr ()) hn (fun i x hx=>?_) ?_ ?_
  ·have hi:=(List.getElem?_eq_some_iff.1 hx).1;obtain⟨y,hy⟩:∃y,f1[i]? =some y:=⟨_,List.getElem?_eq_getElem (by rw[← hf1,fU];exact hi)⟩
   obtain⟨z,hz⟩:∃y,f2[i]? =some y:=⟨_,List.getElem?_eq_getElem (by rw[← hf2,fU];exact hi)⟩
   have hlt:(i:Int)<f.aT.length:=by omega
   simp only[cR,hx,Option.bind_some,hlt,decide_true,if_true,hy,hz,xX,List.getD_eq_getElem?_getD,Option.getD_some,fS (show i<9223372036854775807 by omega)]
   clear hf1 hf2 hy hz hx
   repeat' split
   all_goals first |rfl | (simp_all<;>omega)
  ·simp;rfl
  ·cases cg (xX f1 f2) 0 f.aT with
   |none=>rfl
   |some p=>rfl
def C0(f:aG)(f1:List Bool)(i:Nat)(x:bK):Int:=
 if(!(decide (0≤x.From)&&decide (x.From<(f.aT.length:Int))))=true then 2 else if(!(decide (0≤x.To)&&decide (x.To<(f.aT.length:Int))))=true then 2
 else if(x.From==x.To)=true then 3 else if(!qD x.af)=true then 3 else if f1.getD i false=true then 11 else 0
theorem Ou(n:Nat)(f:aG)(hn:f.Leaks.length<n):
 lP.S n ⟨f⟩=some (outcome IW 256 (decide (256<(f.Leaks.length:Int))) (cg (C0 f (bM (fun x:bK=>x) [] f.Leaks)) 0 f.Leaks)):=by
 show(oI ⟨f⟩).run n=_;simp only[oI,G.run,aX,cm,fE,Sum.elim,gt_iff_lt,decide_eq_true_eq];by_cases hfull:(256:Int)<f.Leaks.length
 ·simp[hfull,outcome];rfl
 ·simp only[hfull,if_false,decide_false];rw[C9 n f.Leaks hn (by omega)]
  simp only[G.run,aX,cm,if_true,dJ,kN,iU,fE,Sum.elim,yQ];generalize hf1:bM (fun x:bK=>x) [] f.Leaks=f1
  refine sI f.Leaks (C0 f f1) (fun i e=>Sum.inl (e,IW,(i:Int))) (Sum.inr ()) hn (fun i x hx=>?_) ?_ ?_
  ·have hi:=(List.getElem?_eq_some_iff.1 hx).1;obtain⟨y,hy⟩:∃y,f1[i]? =some y:=⟨_,List.getElem?_eq_getElem (by rw[← hf1,fU];exact hi)⟩
   have hlt:(i:Int)<f.Leaks.length:=by omega
   simp only[cR,hx,Option.bind_some,hlt,decide_true,if_true,hy,C0,List.getD_eq_getElem?_getD,Option.getD_some,fS (show i<9223372036854775807 by omega)]
   clear hf1 hy hx
   repeat' split
   all_goals first |rfl | (simp_all<;>omega)
  ·simp;rfl
  ·cases cg (C0 f f1) 0 f.Leaks with
   |none=>rfl
   |some p=>rfl
end Go.L
namespace Go.L
open Go.AM
set_option maxRecDepth 100000
set_option linter.unusedSimpArgs false
set_option linter.unusedVariables false
def Ks:ByteArray:=⟨⟨[102,97,98,114,105,99]⟩⟩
def Kt:ByteArray:=⟨⟨[116,105,109,101,114,115]⟩⟩
def IX:ByteArray:=⟨⟨[104,111,115,116,115]⟩⟩
def out(x lo hi:Int):Bool:=decide (x<lo)||decide (hi<x)
def uv(f:aG):Bool:=out f.Leaves 1 32||out f.fD 0 32||decide (32<Go.IntKind.wrap .i64 (f.Leaves+f.fD))||out f.qW 0 2||out f.mj 0 1||out f.cF 0 1
def wQ(t:bw):Bool:=out t.pz 1 100||out t.wZ 3 1000||out t.Ak 1 10000||out t.nQ 0 1000||out t.tO 1 100||out t.Window 1 10000
theorem M5(n:Nat)(f:aG):kT.S n ⟨f⟩=some (if uv f=true then Sum.inr (2,Ks,0)else Sum.inl ()):=by
 show(nM ⟨f⟩).run n=_;simp only[nM,G.run,aX,iU,fE,Sum.elim,if_true];unfold uv;have e:∀x lo hi,(decide (x<lo)||decide (hi<x))=out x lo hi:=fun _ _ _=>rfl
 simp only[e,gt_iff_lt,Bool.or_eq_true];cases out f.Leaves 1 32<;>cases out f.fD 0 32<;>cases decide (32<Go.IntKind.wrap .i64 (f.Leaves+f.fD))<;>cases out f.qW 0 2<;>cases out f.mj 0 1<;>cases out f.cF 0 1<;>rfl
theorem M6(n:Nat)(f:aG):kU.S n ⟨f⟩=some (if wQ f.bw=true then Sum.inr (2,Kt,0)else Sum.inl ()):=by
 show(nN ⟨f⟩).run n=_;simp only[nN,G.run,aX,iU,fE,Sum.elim,if_true];unfold wQ;have e:∀x lo hi,(decide (x<lo)||decide (hi<x))=out x lo hi:=fun _ _ _=>rfl
 simp only[e,gt_iff_lt,Bool.or_eq_true];cases out f.bw.pz 1 100<;>cases out f.bw.wZ 3 1000<;>cases out f.bw.Ak 1 10000<;>cases out f.bw.nQ 0 1000<;>cases out f.bw.tO 1 100<;>cases out f.bw.Window 1 10000<;>rfl
def C1(m:Int):Bool:=decide (m≤281474976710655)&&(Go.IntKind.wrap .u64 (((BitVec.ofInt 64 (Int.fdiv m ((2:Int) ^ (min (Int.toNat (40:Int)) (Go.IntKind.bits .u64)))))&&& (BitVec.ofInt 64 1)).toNat:Int) != 0)
def uw(m:Int):Bool:= !decide (m<2199023255552)&& !decide (m≥2199023255584)
def mX(b:BD)(ip:Int):Bool:=ip==0||(b.bk != 0&&(ip != b.bk&&yP b.bq ip))
section
variable {β:Type} (n:Nat)
theorem FN(m:Int)(k:qj.sh.El→Option β):(qj.S n m).bind k=k (C1 m):=by
 have:qj.S n m=some (C1 m):=by
  show(tX m).run n=_;simp only[tX,G.run,aX,C1];by_cases h:m≤281474976710655
  ·simp only[h,decide_true,if_true,Bool.true_and];rfl
  ·simp only[h,decide_false,if_false,Bool.false_and,Bool.false_eq_true];rfl
 rw[this];rfl
theorem E6(m:Int)(k:mO.sh.El→Option β):(mO.S n m).bind k=if uw m=true then k (Go.IntKind.wrap .i64 (Go.IntKind.wrap .u64 (m - 2199023255552)),true)else k (0,false):=by
 have:mO.S n m=some (if uw m=true then(Go.IntKind.wrap .i64 (Go.IntKind.wrap .u64 (m - 2199023255552)),true)else(0,false)):=by
  show(sW m).run n=_;simp only[sW,G.run,aX,uw];by_cases h:m<2199023255552
  ·simp[h];rfl
  ·by_cases h2:m≥2199023255584
   ·simp[h,h2];rfl
   ·simp only[h,h2,decide_false,Bool.not_false,Bool.and_self,Bool.false_eq_true,if_false,if_true];rfl
 rw[this];split<;>rfl
theorem D4(b:BD)(ip:Int)(hb:b.bk≠0→jH b.bq=true)(k:l6.sh.El→Option β):(l6.S n (b,ip)).bind k=k (mX b ip):=by
 have:l6.S n (b,ip)=some (mX b ip):=by
  show(rJ b ip).run n=_;simp only[rJ,G.run,aX,mX];cases e1:(ip==0)with
  |true=>simp only[if_true,Bool.true_or];rfl
  |false=>
   cases e2:(b.bk != 0)with
   |false=>simp only[Bool.false_eq_true,if_false,Bool.false_or,Bool.false_and];rfl
   |true=>
    cases e3:(ip != b.bk)with
    |false=>simp only[Bool.false_eq_true,if_false,if_true,Bool.false_or,Bool.true_and,Bool.false_and];rfl
    |true=>
     simp only[Bool.false_eq_true,if_false,if_true,Bool.false_or,Bool.true_and];rw[Cs n b.bq ip (hb (by simpa using e2))];rfl
 rw[this];rfl
end
def Ct(f:aG)(b:Int):BD:=(ku f.aO b).getD ⟨0,0,0,⟨0,0⟩,0⟩
def Ar(f:aG)(s:Int):List Int:=((ku f.aH s).map (·.aO)).getD []
theorem Rg(n:Int)(h:0≤n)(h2:n≤4000):Go.IntKind.wrap .i64 (n - 1)=n - 1:=wrap_i64 (by omega) (by omega)
def C2(f:aG)(f1 f2:List Bool)(i:Nat)(h:Host):Int:=
 if(h.bV==0)=true then 2 else if decide (281474976710655<h.bV)=true then 2 else if C1 h.bV=true then 2
 else if(!(decide (0≤h.BD)&&decide (h.BD<(f.aO.length:Int))))=true then 2 else if out h.bh (-1) ((f.aH.length:Int) - 1)=true then 2
 else if(h.bh != -1&& !(Ar f h.bh).any fun x=>h.BD==x)=true then 8
 else if(h.bV==1577058561)=true then 3 else if uw h.bV=true then 3 else if(!mX (Ct f h.BD) h.IP)=true then 3
 else if f1.getD i false=true then 11 else if(h.IP != 0&&f2.getD i false)=true then 11 else 0
theorem Ov(n:Nat)(f:aG)(hn:f.Hosts.length<n)(hseg:f.aH.length≤64)(hsn:∀s∈f.aH,s.aO.length<n∧s.aO.length≤4000)(hsub:∀b∈f.aO,b.bk≠0→jH b.bq=true):
 lN.S n ⟨f⟩=some (outcome IX 128 (decide (128<(f.Hosts.length:Int))) (cg (C2 f (bM (fun x:Host=>(⟨x.BD,x.bV⟩:aM)) [] f.Hosts) (bM (fun x:Host=>(⟨x.BD,Go.IntKind.wrap .u64 x.IP⟩:aM)) [] f.Hosts)) 0 f.Hosts)):=by
 show(oH ⟨f⟩).run n=_;simp only[oH,G.run,aX,cm,fE,Sum.elim,gt_iff_lt,decide_eq_true_eq];by_cases hfull:(128:Int)<f.Hosts.length
 ·simp[hfull,outcome];rfl
 ·simp only[hfull,if_false,decide_false];rw[xN n f.Hosts hn (by omega)]
  rw[wP n f.Hosts hn (by omega)]
  simp only[G.run,aX,cm,if_true,dJ,kN,iU,fE,Sum.elim,FN,E6];generalize hf1:bM (fun x:Host=>(⟨x.BD,x.bV⟩:aM)) [] f.Hosts=f1
  generalize hf2:bM (fun x:Host=>(⟨x.BD,Go.IntKind.wrap .u64 x.IP⟩:aM)) [] f.Hosts=f2
  refine sI f.Hosts (C2 f f1 f2) (fun i e=>Sum.inl (e,IX,(i:Int))) (Sum.inr ()) hn (fun i x hx=>?_) ?_ ?_
  ·have hi:=(List.getElem?_eq_some_iff.1 hx).1;obtain⟨y,hy⟩:∃y,f1[i]? =some y:=⟨_,List.getElem?_eq_getElem (by rw[← hf1,fU];exact hi)⟩
   obtain⟨z,hz⟩:∃y,f2[i]? =some y:=⟨_,List.getElem?_eq_getElem (by rw[← hf2,fU];exact hi)⟩
   have hlt:(i:Int)<f.Hosts.length:=by omega
   have hw:=Rg (f.aH.length:Int) (by omega) (by omega)
   simp only[cR,hx,Option.bind_some,hlt,decide_true,if_true,hy,hz,C2,List.getD_eq_getElem?_getD,Option.getD_some,fS (show i<9223372036854775807 by omega),hw]
   clear hf1 hf2 hy hz hx;cases(x.bV==0)
   case true=>rfl
   by_cases hm:(281474976710655:Int)<x.bV
   ·simp only[hm,if_true,decide_true,Bool.false_eq_true,if_false];rfl
   simp only[hm,if_false,decide_false,Bool.false_eq_true];cases C1 x.bV
   case true=>rfl
   cases hbd:(decide (0≤x.BD)&&decide (x.BD<(f.aO.length:Int)))
   case false=>rfl
   have e:(decide (x.bh< -1)||decide ((f.aH.length:Int) - 1<x.bh))=out x.bh (-1) ((f.aH.length:Int) - 1):=rfl;simp only[e];cases hsg:out x.bh (-1) ((f.aH.length:Int) - 1)
   case true=>rfl
   obtain⟨b,hb⟩:∃b,ku f.aO x.BD=some b:=by
    simp only[Bool.and_eq_true,decide_eq_true_eq]at hbd;exact⟨_,by unfold ku;rw[if_pos hbd.1];exact List.getElem?_eq_getElem (by omega)⟩
   have hbm:b∈f.aO:=by
    unfold ku at hb;split at hb
    ·exact List.mem_of_getElem? hb
    ·cases hb
   have hbd2:Ct f x.BD=b:=by simp[Ct,hb]
   simp only[Bool.not_true,Bool.false_eq_true,if_false,hb,hbd2,Option.bind_some,D4 n b x.IP (hsub b hbm)];cases hs1:(x.bh != -1)
   ·simp only[Bool.false_and,Bool.false_eq_true,if_false];cases(x.bV==1577058561)<;>cases uw x.bV<;>cases mX b x.IP<;>cases y<;>cases(x.IP != 0)<;>cases z<;>rfl
   ·obtain⟨s,hs⟩:∃s,ku f.aH x.bh=some s:=by
     simp only[out,Bool.or_eq_false_iff,decide_eq_false_iff_not]at hsg;have:x.bh≠ -1:=by simpa using hs1
     exact⟨_,by unfold ku;rw[if_pos (by omega)];exact List.getElem?_eq_getElem (by omega)⟩
    have hsm:s∈f.aH:=by
     unfold ku at hs;split at hs
     ·exact List.mem_of_getElem? hs
     ·cases hs
    have hsb:Ar f x.bh=s.aO:=by simp[Ar,hs]
    simp only[if_true,hs,Option.bind_some,hsb,Bool.true_and,IV n s.aO x.BD (hsn s hsm).1 (hsn s hsm).2];cases(s.aO.any fun y=>x.BD==y)<;>cases(x.bV==1577058561)<;>cases uw x.bV<;>cases mX b x.IP<;>cases y<;>cases(x.IP != 0)<;>cases z<;>rfl
  ·simp;rfl
  ·cases cg (C2 f f1 f2) 0 f.Hosts with
   |none=>rfl
   |some p=>rfl
end Go.L
namespace Go.L
open Go.AM
set_option maxRecDepth 100000
set_option linter.unusedSimpArgs false
set_option linter.unusedVariables false
def sK(t ip len:Int)(x:BD):Bool:=x.av==t&&(x.bk != 0&&(iK x.bq ip||iK ⟨ip,len⟩ x.bq.IP))
theorem QD{β:Type}(n:Nat)(x:BD)(x2 x3 x4 x5 x6 x7:Int)(k:jD.sh.El→Option β):(jD.S n (x,x2,x3,x4,x5,x6,x7)).bind k=k (sK x2 x5 x6 x):=by
 have:jD.S n (x,x2,x3,x4,x5,x6,x7)=some (sK x2 x5 x6 x):=by
  show(mH x x2 x3 x4 x5 x6 x7).run n=_;simp only[mH,G.run,aX,xe,sK,if_true];cases(x.av==x2)<;>cases(x.bk != 0)<;>cases iK x.bq x5<;>cases iK ⟨x5,x6⟩ x.bq.IP<;>rfl
 rw[this];rfl
theorem LH{β:Type}(n:Nat)(l:List BD)(x2 x3 x4 x5 x6 x7:Int)(hn:l.length<n)(hs:l.length≤4000)(k:kE.sh.El→Option β):
 (kE.S n (l,x2,x3,x4,x5,x6,x7)).bind k=k (idxOf (sK x2 x5 x6) l):=by
 have:kE.S n (l,x2,x3,x4,x5,x6,x7)=some (idxOf (sK x2 x5 x6) l):=by
  show(nE l x2 x3 x4 x5 x6 x7).run n=_;simp only[nE,G.run,aX,cm,dJ,QD,if_true];refine sJ l (sK x2 x5 x6) hn (fun i x hx=>?_) ?_ ?_
  ·have hi:=(List.getElem?_eq_some_iff.1 hx).1;have hlt:(i:Int)<l.length:=by omega
   simp only[cR,hx,Option.bind_some,hlt,decide_true,if_true,fS (show i<9223372036854775807 by omega)]
   split<;>rfl
  ·simp;rfl
  ·unfold idxOf;cases l.findIdx? (sK x2 x5 x6)<;>rfl
 rw[this];rfl
theorem G9{β:Type}(n:Nat)(l:List BD)(x2 x3 x4 x5 x6 x7:Int)(hn:l.length<n)(hs:l.length≤4000)(k:jf.sh.El→Option β):
 (jf.S n (l,x2,x3,x4,x5,x6,x7)).bind k=k (l.any (sK x2 x5 x6)):=by
 have:jf.S n (l,x2,x3,x4,x5,x6,x7)=some (l.any (sK x2 x5 x6)):=by
  show(lX l x2 x3 x4 x5 x6 x7).run n=_;simp only[lX,G.run,aX,if_true];rw[LH n l x2 x3 x4 x5 x6 x7 hn hs];simp only[uu];rfl
 rw[this];rfl
theorem M7{X β:Type}(l:List X)(e:X→List AVal)(m:Nat)(i:Nat)(hi:i≤l.length)(k:Nat×Nat→Option β):(NX l e m none (some (i:Int))).run.bind k=k (0,i):=by
 have:(NX l e m none (some (i:Int))).run=some (0,i):=by
  show((yu l.length l.length (some (i:Int))).bind fun h=>(yu 0 h none).map fun k=>(k,h))=_
  simp only[yu];rw[if_pos (by omega)];simp
 rw[this];rfl
def D5:ByteArray:=⟨⟨[100,111,109,97,105,110,115]⟩⟩
def D6(f:aG)(f1 f2:List Bool)(i:Nat)(b:BD):Int:=
 if(!(decide (0≤b.av)&&decide (b.av<(f.aT.length:Int))))=true then 2 else if decide (b.dz<1)=true then 2 else if decide (16777215<b.dz)=true then 2 else if(b.Target==0)=true then 2
 else if f1.getD i false=true then 11 else if f2.getD i false=true then 11 else if(f.aT.any fun x=>x.dz==b.dz)=true then 11 else if(f.aT.any fun x=>x.Target==b.Target)=true then 11
 else if(b.bk==0)=true then(if(!(b.bq.IP==0&&(b.bq.Len==0&&true)))=true then 3 else 0)
 else if(!qD b.bq)=true then 3 else if out b.bq.Len 8 30=true then 3 else if(!yP b.bq b.bk)=true then 3
 else if((f.aO.take i).any (sK b.av b.bq.IP b.bq.Len))=true then 11 else 0
theorem LI(n:Nat)(f:aG)(hn:f.aO.length<n)(hnt:f.aT.length<n)(ht:f.aT.length≤4000):
 kF.S n ⟨f⟩=some (outcome D5 32 (decide (32<(f.aO.length:Int))) (cg (D6 f (bM (fun x:BD=>x.dz) [] f.aO) (bM (fun x:BD=>x.Target) [] f.aO)) 0 f.aO)):=by
 show(nF ⟨f⟩).run n=_;simp only[nF,G.run,aX,cm,fE,Sum.elim,gt_iff_lt,decide_eq_true_eq];by_cases hfull:(32:Int)<f.aO.length
 ·simp[hfull,outcome];rfl
 ·simp only[hfull,if_false,decide_false];rw[C8 n f.aO hn (by omega)]
  rw[Bw n f.aO hn (by omega)]
  simp only[G.run,aX,cm,if_true,dJ,kN,iU,fE,Sum.elim,yQ];generalize hf1:bM (fun x:BD=>x.dz) [] f.aO=f1
  generalize hf2:bM (fun x:BD=>x.Target) [] f.aO=f2
  refine sI f.aO (D6 f f1 f2) (fun i e=>Sum.inl (e,D5,(i:Int))) (Sum.inr ()) hn (fun i x hx=>?_) ?_ ?_
  ·have hi:=(List.getElem?_eq_some_iff.1 hx).1;obtain⟨y,hy⟩:∃y,f1[i]? =some y:=⟨_,List.getElem?_eq_getElem (by rw[← hf1,fU];exact hi)⟩
   obtain⟨z,hz⟩:∃y,f2[i]? =some y:=⟨_,List.getElem?_eq_getElem (by rw[← hf2,fU];exact hi)⟩
   have hlt:(i:Int)<f.aO.length:=by omega
   simp only[cR,hx,Option.bind_some,hlt,decide_true,if_true,hy,hz,D6,List.getD_eq_getElem?_getD,Option.getD_some,fS (show i<9223372036854775807 by omega)]
   clear hf1 hf2 hy hz hx;rw[LC n f.aT x.dz hnt ht];rw[G7 n f.aT x.Target hnt ht];simp only[G.run,aX,cm,if_true,fE,Sum.elim,yQ,iU,Bool.false_eq_true,if_false];cases(decide (0≤x.av)&&decide (x.av<(f.aT.length:Int)))
   case false=>rfl
   by_cases h1:x.dz<1
   ·simp only[h1,if_true,decide_true];rfl
   by_cases h2:(16777215:Int)<x.dz
   ·simp only[h1,h2,if_true,decide_true,if_false,decide_false,Bool.false_eq_true];rfl
   simp only[h1,h2,if_false,decide_false,Bool.false_eq_true];cases(x.Target==0)
   case true=>rfl
   cases y
   case true=>rfl
   cases z
   case true=>rfl
   cases(f.aT.any fun y=>y.dz==x.dz)
   case true=>rfl
   cases(f.aT.any fun y=>y.Target==x.Target)
   case true=>rfl
   cases(x.bk==0)
   case true=>cases(x.bq.IP==0&&(x.bq.Len==0&&true))<;>rfl
   cases hc:qD x.bq
   case false=>rfl
   have hok:jH x.bq=true:=by
    simp only[qD,Bool.and_eq_true]at hc;exact hc.1
   simp only[Cs n x.bq x.bk hok,M7 f.aO eH 6 i (by omega),List.drop_zero]
   rw[G9 n (f.aO.take i) x.av x.dz x.Target x.bq.IP x.bq.Len x.bk (by simp;omega) (by simp;omega)]
   have e:(decide (x.bq.Len<8)||decide (30<x.bq.Len))=out x.bq.Len 8 30:=rfl;simp only[e];cases out x.bq.Len 8 30<;>cases yP x.bq x.bk<;>cases(f.aO.take i).any (sK x.av x.bq.IP x.bq.Len)<;>rfl
  ·simp;rfl
  ·cases cg (D6 f f1 f2) 0 f.aO with
   |none=>rfl
   |some p=>rfl
end Go.L
namespace Go.L
open Go.AM
set_option maxRecDepth 100000
set_option linter.unusedSimpArgs false
set_option linter.unusedVariables false
def xg(l:List Int):Bool:=(l.zip l.tail).all fun p=>decide (p.1<p.2)
theorem RE(l:List (Int×Int))(j:Nat):(match cg (fun _ (p:Int×Int)=>if p.2≤p.1 then 1 else 0) j l with |none=>some true |some (_,_)=>some false)=some (l.all fun p=>decide (p.1<p.2)):=by
 induction l generalizing j with
 |nil=>rfl
 |cons p ps ih=>
  simp only[cg,List.all_cons];by_cases h:p.2≤p.1
  ·have:¬p.1<p.2:=by omega
   simp[h,this]
  ·have:p.1<p.2:=by omega
   simp only[h,if_false,ne_eq,not_true_eq_false,this,decide_true,Bool.true_and];exact ih (j+1)
theorem yR{β:Type}(n:Nat)(l:List Int)(hn:l.length<n)(hs:l.length≤4000)(k:l5.sh.El→Option β):(l5.S n l).bind k=k (xg l):=by
 have:l5.S n l=some (xg l):=by
  show(rI l).run n=_;simp only[rI,G.run,aX,cm,dJ,if_true];have hzl:(l.zip l.tail).length=l.length - 1:=by simp
  refine Eq.trans (zP (fun i=>((i:Int)+1)) (l.zip l.tail) (fun _ (p:Int×Int)=>if p.2≤p.1 then 1 else 0) (fun _ _=>some false) (some true) (by omega) (fun i x hx hp hE=>?_) (fun i x hx hp hE=>?_) (fun hp=>?_)) (RE (l.zip l.tail) 0)
  ·have hi:=(List.getElem?_eq_some_iff.1 hx).1;rw[hzl]at hi;have h1:l[i]? =some x.1:=by
    rw[List.getElem?_zip_eq_some]at hx;exact hx.1
   have h2:l[i+1]? =some x.2:=by
    rw[List.getElem?_zip_eq_some]at hx;simpa using hx.2
   have hle:x.2≤x.1:=by
    by_cases h:x.2≤x.1
    ·exact h
    ·simp[h]at hE
   have hlt:(i:Int)+1<l.length:=by omega
   have e1:ku l ((i:Int)+1)=some x.2:=by rw[show(i:Int)+1=((i+1:Nat):Int)by omega,cR,h2]
   have e2:ku l (Go.IntKind.wrap .i64 ((i:Int)+1 - 1))=some x.1:=by
    rw[wrap_i64 (by omega) (by omega),show(i:Int)+1 - 1=(i:Int)by omega,cR,h1]
   refine⟨.inl (),?_,rfl⟩;simp only[hlt,decide_true,if_true,e1,e2,Option.bind_some,hle]
  ·have hi:=(List.getElem?_eq_some_iff.1 hx).1;rw[hzl]at hi;have h1:l[i]? =some x.1:=by
    rw[List.getElem?_zip_eq_some]at hx;exact hx.1
   have h2:l[i+1]? =some x.2:=by
    rw[List.getElem?_zip_eq_some]at hx;simpa using hx.2
   have hle:¬x.2≤x.1:=by
    intro h;simp[h]at hE
   have hlt:(i:Int)+1<l.length:=by omega
   have e1:ku l ((i:Int)+1)=some x.2:=by rw[show(i:Int)+1=((i+1:Nat):Int)by omega,cR,h2]
   have e2:ku l (Go.IntKind.wrap .i64 ((i:Int)+1 - 1))=some x.1:=by
    rw[wrap_i64 (by omega) (by omega),show(i:Int)+1 - 1=(i:Int)by omega,cR,h1]
   have e3:Go.IntKind.wrap .i64 ((i:Int)+1+1)=((i+1:Nat):Int)+1:=by rw[wrap_i64 (by omega) (by omega)];omega
   simp only[hlt,decide_true,if_true,e1,e2,e3,Option.bind_some,hle,decide_false,Bool.false_eq_true,if_false]
  ·refine⟨.inr (),?_,rfl⟩;have hlt:¬((((l.zip l.tail).length:Nat):Int)+1<l.length):=by rw[hzl];omega
   simp only[hlt,decide_false,Bool.false_eq_true,if_false]
 rw[this];rfl
def jj(p:List Int):List Int→List Int
 | []=>p
 |x::xs=>jj (p.set x.toNat (p[x.toNat]?.getD 0+1)) xs
theorem GI:∀(l p:List Int),(jj p l).length=p.length
 | [],_=>rfl
 |x::xs,p=>by simp[jj,GI xs]
theorem E7:∀(l p:List Int) (x:Int),jj p (l++[x])=(jj p l).set x.toNat ((jj p l)[x.toNat]?.getD 0+1)
 | [],_,_=>rfl
 |y::l,p,x=>by simp only[List.cons_append,jj];exact E7 l _ x
theorem Cu:∀(l p:List Int) (m:Nat),(∀x∈l,0≤x)→l.Nodup→(jj p l)[m]? =(p[m]?).map fun v=>if(m:Int)∈l then v+1 else v
 | [],p,m,_,_=>by simp[jj]
 |x::xs,p,m,h0,hd=>by
  have hx:=h0 x (by simp)
  have hd':=List.nodup_cons.1 hd;simp only[jj];rw[Cu xs _ m (fun y hy=>h0 y (by simp[hy])) hd'.2]
  by_cases hm:m=x.toNat
  ·subst hm;have e:((x.toNat:Nat):Int)=x:=by omega
   rw[e];by_cases hp:x.toNat<p.length
   ·rw[List.getElem?_set_self hp,List.getElem?_eq_getElem hp];simp[hd'.1]
   ·rw[List.getElem?_eq_none (by simp;omega),List.getElem?_eq_none (by omega)];rfl
  ·rw[List.getElem?_set_ne (Ne.symm hm)];have:¬(m:Int)=x:=by omega
   simp[this]
def kK(l:List bh):List Int:=(List.range 32).map fun m=>((l.countP fun s=>s.Leaves.contains (m:Int):Nat):Int)
theorem JO:kK []=List.replicate 32 0:=by decide
theorem wA(l:List bh){m:Nat}(h:m<32):(kK l)[m]? =some ((l.countP fun s=>s.Leaves.contains (m:Int):Nat):Int):=by
 simp[kK,h]
theorem zQ(l:List bh):(kK l).length=32:=by simp[kK]
theorem IY(l:List bh)(s:bh)(h0:∀x∈s.Leaves,0≤x)(hd:s.Leaves.Nodup):jj (kK l) s.Leaves=kK (l++[s]):=by
 apply List.ext_getElem?;intro m;rw[Cu _ _ m h0 hd];by_cases h:m<32
 ·rw[wA _ h,wA _ h];simp only[Option.map_some,List.countP_append,List.countP_cons,List.countP_nil,Nat.zero_add,List.contains_iff_mem];split<;>simp_all
 ·rw[List.getElem?_eq_none (by rw[zQ];omega),List.getElem?_eq_none (by rw[zQ];omega)];rfl
theorem LJ:∀(l:List Int),xg l=true→l.Nodup∧∀(i j:Nat) x y,i<j→l[i]? =some x→l[j]? =some y→x<y:=by
 intro l h;have hadj:∀(i:Nat) x y,l[i]? =some x→l[i+1]? =some y→x<y:=by
  intro i x y hx hy;simp only[xg,List.all_eq_true,decide_eq_true_eq]at h;exact h (x,y) (List.mem_of_getElem? (i:=i) (by rw[List.getElem?_zip_eq_some];exact⟨hx,by simpa using hy⟩))
 have hlt:∀(d i:Nat) x y,l[i]? =some x→l[i+d+1]? =some y→x<y:=by
  intro d;induction d with
  |zero=>intro i x y hx hy;exact hadj i x y hx (by simpa using hy)
  |succ d ih=>
   intro i x y hx hy;have hlt:=(List.getElem?_eq_some_iff.1 hy).1;have h1:=hadj i x l[i+1] hx (List.getElem?_eq_getElem (by omega))
   have h2:=ih (i+1) l[i+1] y (List.getElem?_eq_getElem (by omega)) (by rw[← hy];congr 1;omega)
   omega
 have hall:∀(i j:Nat) x y,i<j→l[i]? =some x→l[j]? =some y→x<y:=by
  intro i j x y hij hx hy;exact hlt (j - i - 1) i x y hx (by rw[← hy];congr 1;omega)
 refine⟨?_,hall⟩;rw[List.nodup_iff_pairwise_ne,List.pairwise_iff_getElem];intro i j hi hj hij he;have:=hall i j l[i] l[j] hij (List.getElem?_eq_getElem hi) (List.getElem?_eq_getElem hj);omega
end Go.L
namespace Go.L
open Go.AM
set_option maxRecDepth 100000
set_option linter.unusedSimpArgs false
set_option linter.unusedVariables false
theorem GJ{β:Type}(b ak j o n s:Nat)(i:Int)(k:Unit→Option β):(Lb b ak j o n s i).run.bind k=if 0≤i∧i<n then k ()else none:=by
 show(if 0≤i∧i<n then some ()else none).bind k=_
 split<;>rfl
theorem IZ{X β:Type}(l:List X)(c:X→AVal)(b ak sz o:Nat)(k:X→Option β):(Qg l c b ak sz o).run.bind k=(l[o]?).bind k:=rfl
theorem I1{X β:Type}(l:List X)(c:X→AVal)(b ak sz o:Nat)(y:X)(k:Unit→Option β):(Ro l c b ak sz o y).run.bind k=if o<l.length then k ()else none:=by
 show(if o<l.length then some ()else none).bind k=_
 split<;>rfl
def mc:ByteArray:=⟨⟨[115,101,103,109,101,110,116,115]⟩⟩
def FO(f:aG)(i:Nat)(x:bh):Int:=
 if((x.Leaves.length:Int)==0)=true then 3 else if((x.aO.length:Int)==0)=true then 3
 else if(x.Leaves.any fun n=> !(decide (0≤n)&&decide (n<f.Leaves)))=true then 2 else if(x.aO.any fun n=> !(decide (0≤n)&&decide (n<(f.aO.length:Int))))=true then 2
 else if(!xg x.Leaves)=true then 10 else if(!xg x.aO)=true then 10
 else if(x.Leaves.any fun n=>decide (32<(((f.aH.take i).countP fun s=>s.Leaves.contains n:Nat):Int)+1))=true then 7 else 0
theorem I2{α τ γ ST:Type}{f:ST→Option (ST⊕τ)}{s0:ST}(mk:Nat→ST)(l:List α)(E:Nat→α→Int){k:τ→Option γ}(bad:Nat→Int→Option γ)(fin:Option γ){n:Nat}(h0:s0=mk 0)(hn:l.length<n)
 (hb:∀(i:Nat) x,l[i]? =some x→(∀(j:Nat) y,j<i→l[j]? =some y→E j y=0)→E i x≠0→∃t,f (mk i)=some (.inr t)∧k t=bad i (E i x))
 (hg:∀(i:Nat) x,l[i]? =some x→(∀(j:Nat) y,j<i→l[j]? =some y→E j y=0)→E i x=0→f (mk i)=some (.inl (mk (i+1))))
 (he:(∀(j:Nat) y,l[j]? =some y→E j y=0)→∃t,f (mk l.length)=some (.inr t)∧k t=fin):
 (cE f n s0).bind k=(match cg E 0 l with |none=>fin |some (e,i)=>bad i e):=by
 subst h0;exact zP mk l E bad fin hn hb hg he
theorem M8{γ:Type}{n:Nat}(L ports:List Int)(i:Int)(hn:L.length<n)(hp:ports.length=32)(h0:∀x∈L,0≤x∧x<32)(hd:L.Nodup)(hs:L.length≤4000)(hv:∀v∈ports,0≤v∧v≤1000)
 {k:(List Int×Int×ByteArray×Int)⊕List Int→Option γ} {bad fin:Option γ} (hbad:∀p,k (.inl (p,7,mc,i))=bad) (hfin:k (.inr (jj ports L))=fin)
 {f:Int×List Int→Option ((Int×List Int)⊕((List Int×Int×ByteArray×Int)⊕List Int))}
 (hf:∀a,f a=if decide (a.1<(L.length:Int))=true then(ku L a.1).bind fun x=>if 0≤x∧x<(32:Nat)then(a.2[0+x.toNat*1]?).bind fun v=>if 0≤x∧x<(32:Nat)then if 0+x.toNat*1<a.2.length then if 0≤x∧x<(32:Nat)then((a.2.set (0+x.toNat*1) (Go.IntKind.wrap .i64 (v+1)))[0+x.toNat*1]?).bind fun w=>
  if decide (32<w)=true then some (.inr (.inl (a.2.set (0+x.toNat*1) (Go.IntKind.wrap .i64 (v+1)),7,mc,i)))else some (.inl (Go.IntKind.wrap .i64 (a.1+1),a.2.set (0+x.toNat*1) (Go.IntKind.wrap .i64 (v+1))))else none else none else none else none
  else some (.inr (.inr a.2))):
 (cE f n (0,ports)).bind k=if(L.any fun x=>decide (32<ports[x.toNat]?.getD 0+1))=true then bad else fin:=by
 have step:∀(j:Nat) x,L[j]? =some x→∃v,ports[x.toNat]? =some v∧f ((j:Int),jj ports (L.take j))=if decide (32<v+1)=true then some (.inr (.inl (jj ports (L.take (j+1)),7,mc,i)))else some (.inl (((j+1:Nat):Int),jj ports (L.take (j+1)))):=by
  intro j x hx;have hj:=(List.getElem?_eq_some_iff.1 hx).1;have hx0:=h0 x (List.mem_of_getElem? hx);have hlt:x.toNat<ports.length:=by omega
  refine⟨ports[x.toNat],List.getElem?_eq_getElem hlt,?_⟩;have hvv:=hv ports[x.toNat] (List.getElem_mem hlt);have htake:L.take (j+1)=L.take j++[x]:=by rw[List.take_add_one,hx];rfl
  have hnot:¬((x.toNat:Nat):Int)∈L.take j:=by
   intro hm;rw[show((x.toNat:Nat):Int)=x by omega]at hm
   obtain⟨q,hq⟩:=List.getElem?_of_mem hm;have hq2:=(List.getElem?_eq_some_iff.1 hq).1;simp only[List.length_take]at hq2;rw[List.getElem?_take,if_pos (by omega)]at hq
   have:=List.nodup_iff_pairwise_ne.1 hd;rw[List.pairwise_iff_getElem]at this;have hne:=this q j (by omega) hj (by omega)
   rw[List.getElem?_eq_getElem (by omega)]at hq hx
   simp only[Option.some.injEq]at hq hx;exact hne (hq.trans hx.symm)
  have hB:(jj ports (L.take j))[x.toNat]? =some ports[x.toNat]:=by
   rw[Cu _ _ _ (fun y hy=>(h0 y (List.mem_of_mem_take hy)).1) (hd.sublist (List.take_sublist _ _)),List.getElem?_eq_getElem hlt]
   simp only[Option.map_some,if_neg hnot]
  have hBl:(jj ports (L.take j)).length=32:=by rw[GI,hp]
  have hset:(jj ports (L.take j)).set x.toNat (ports[x.toNat]+1)=jj ports (L.take (j+1)):=by
   rw[htake,E7,hB];rfl
  have hw:Go.IntKind.wrap .i64 (ports[x.toNat]+1)=ports[x.toNat]+1:=wrap_i64 (by omega) (by omega)
  rw[hf];have hlt2:(j:Int)<(L.length:Int):=by omega
  have hx1:(0:Int)≤x∧x<((32:Nat):Int):=by omega
  simp only[hlt2,decide_true,if_true,cR,hx,Option.bind_some,hx1,and_self,Nat.zero_add,Nat.mul_one,hB,hw,hset];rw[if_pos (by rw[hBl];omega)]
  have hget:(jj ports (L.take (j+1)))[x.toNat]? =some (ports[x.toNat]+1):=by
   rw[← hset,List.getElem?_set_self (by rw[hBl];omega)]
  simp only[hget,Option.bind_some,fS (show j<9223372036854775807 by omega)]
 have main:=zP (f:=f) (fun j=>((j:Int),jj ports (L.take j))) L (fun _ x=>if 32<ports[x.toNat]?.getD 0+1 then 7 else 0) (k:=k) (fun _ _=>bad) fin hn ?_ ?_ ?_
 ·have e:(match cg (fun _ x=>if 32<ports[x.toNat]?.getD 0+1 then(7:Int)else 0) 0 L with |none=>fin |some (_,_)=>bad)=if(L.any fun x=>decide (32<ports[x.toNat]?.getD 0+1))=true then bad else fin:=by
   have key:∀(L:List Int) (j:Nat),(match cg (fun _ x=>if 32<ports[x.toNat]?.getD 0+1 then(7:Int)else 0) j L with |none=>fin |some (_,_)=>bad)=if(L.any fun x=>decide (32<ports[x.toNat]?.getD 0+1))=true then bad else fin:=by
    intro L;induction L with
    |nil=>intro j;rfl
    |cons x xs ih=>
     intro j;simp only[cg,List.any_cons];by_cases h:32<ports[x.toNat]?.getD 0+1
     ·simp[h]
     ·simp only[h,if_false,ne_eq,not_true_eq_false,decide_false,Bool.false_or];exact ih (j+1)
   exact key L 0
  rw[← e];exact main
 ·intro j x hx _ hE;obtain⟨v,h1,h2⟩:=step j x hx;have:32<v+1:=by
   rw[h1]at hE;simp only[Option.getD_some]at hE;by_cases h:32<v+1
   ·exact h
   ·simp[h]at hE
  refine⟨_,by rw[h2];simp only[this,decide_true,if_true];rfl,hbad _⟩
 ·intro j x hx _ hE;obtain⟨v,h1,h2⟩:=step j x hx;have:¬32<v+1:=by
   rw[h1]at hE;simp only[Option.getD_some]at hE;intro h;simp[h]at hE
  rw[h2];simp only[this,decide_false,Bool.false_eq_true,if_false]
 ·intro _;refine⟨.inr (jj ports L),?_,hfin⟩;rw[hf];simp
theorem I3{n:Nat}(L ports:List Int)(i:Int)(hn:L.length<n)(hp:ports.length=32)(h0:∀x∈L,0≤x∧x<32)(hd:L.Nodup)(hs:L.length≤4000)(hv:∀v∈ports,0≤v∧v≤1000)
 {f:Int×List Int→Option ((Int×List Int)⊕((List Int×Int×ByteArray×Int)⊕List Int))}
 (hf:∀a,f a=if decide (a.1<(L.length:Int))=true then(ku L a.1).bind fun x=>if 0≤x∧x<(32:Nat)then(a.2[0+x.toNat*1]?).bind fun v=>if 0≤x∧x<(32:Nat)then if 0+x.toNat*1<a.2.length then if 0≤x∧x<(32:Nat)then((a.2.set (0+x.toNat*1) (Go.IntKind.wrap .i64 (v+1)))[0+x.toNat*1]?).bind fun w=>
  if decide (32<w)=true then some (.inr (.inl (a.2.set (0+x.toNat*1) (Go.IntKind.wrap .i64 (v+1)),7,mc,i)))else some (.inl (Go.IntKind.wrap .i64 (a.1+1),a.2.set (0+x.toNat*1) (Go.IntKind.wrap .i64 (v+1))))else none else none else none else none
  else some (.inr (.inr a.2))):
 ∃p,cE f n (0,ports)=some (if(L.any fun x=>decide (32<ports[x.toNat]?.getD 0+1))=true then .inl (p,7,mc,i)else .inr (jj ports L)):=by
 have main:=M8 L ports i hn hp h0 hd hs hv (k:=fun t=>some (match t with | .inl q=>(Sum.inl q.2:(Int×ByteArray×Int)⊕List Int) | .inr q=>.inr q)) (bad:=some (.inl (7,mc,i))) (fin:=some (.inr (jj ports L))) (fun p=>rfl) rfl hf
 cases hany:(L.any fun x=>decide (32<ports[x.toNat]?.getD 0+1))with
 |true=>
  rw[hany]at main;cases hit:cE f n (0,ports)with
  |none=>rw[hit]at main;simp at main
  |some t=>
   rw[hit]at main;cases t with
   |inl q=>
    obtain⟨p,q⟩:=q;refine⟨p,?_⟩;simp at main;rw[main];rfl
   |inr q=>simp at main
 |false=>
  rw[hany]at main;cases hit:cE f n (0,ports)with
  |none=>rw[hit]at main;simp at main
  |some t=>
   rw[hit]at main;cases t with
   |inl q=>simp at main
   |inr q=>
    refine⟨[],?_⟩;simp at main;rw[main];rfl
theorem I4{n:Nat}{γ ST τ:Type}(L ports:List Int)(i:Int)(hn:L.length<n)(hp:ports.length=32)(h0:∀x∈L,0≤x∧x<32)(hd:L.Nodup)(hs:L.length≤4000)(hv:∀v∈ports,0≤v∧v≤1000)
 {f:Int×List Int→Option ((Int×List Int)⊕((List Int×Int×ByteArray×Int)⊕List Int))}
 (hf:∀a,f a=if decide (a.1<(L.length:Int))=true then(ku L a.1).bind fun x=>if 0≤x∧x<(32:Nat)then(a.2[0+x.toNat*1]?).bind fun v=>if 0≤x∧x<(32:Nat)then if 0+x.toNat*1<a.2.length then if 0≤x∧x<(32:Nat)then((a.2.set (0+x.toNat*1) (Go.IntKind.wrap .i64 (v+1)))[0+x.toNat*1]?).bind fun w=>
  if decide (32<w)=true then some (.inr (.inl (a.2.set (0+x.toNat*1) (Go.IntKind.wrap .i64 (v+1)),7,mc,i)))else some (.inl (Go.IntKind.wrap .i64 (a.1+1),a.2.set (0+x.toNat*1) (Go.IntKind.wrap .i64 (v+1))))else none else none else none else none
  else some (.inr (.inr a.2))) {k:(List Int×Int×ByteArray×Int)⊕List Int→Option (ST⊕τ)} {A:ST} {kk:τ→Option γ} {B:Option γ} {Ev:Int}
 (hEv:Ev=if(L.any fun x=>decide (32<ports[x.toNat]?.getD 0+1))=true then 7 else 0) (hk1:Ev=7→∀p,∃t,k (.inl (p,7,mc,i))=some (.inr t)∧kk t=B) (hk2:k (.inr (jj ports L))=some (.inl A)):
 (Ev=0∧(cE f n (0,ports)).bind k=some (.inl A))∨(Ev≠0∧∃t,(cE f n (0,ports)).bind k=some (.inr t)∧kk t=B):=by
 obtain⟨p,hit⟩:=I3 L ports i hn hp h0 hd hs hv hf;rw[hit];cases hany:(L.any fun x=>decide (32<ports[x.toNat]?.getD 0+1))with
 |true=>
  rw[hany]at hEv;right;refine⟨by rw[hEv];decide,?_⟩
  simp only[if_true,Option.bind_some];exact hk1 (by rw[hEv];rfl) p
 |false=>
  rw[hany]at hEv;left;refine⟨by rw[hEv];rfl,?_⟩
  simp only[Bool.false_eq_true,if_false,Option.bind_some];exact hk2
theorem JP{α τ γ ST:Type}{f:ST→Option (ST⊕τ)}{s0:ST}(mk:Nat→ST)(l:List α)(E:Nat→α→Int){k:τ→Option γ}(bad:Nat→Int→Option γ)(fin:Option γ){n:Nat}(h0:s0=mk 0)(hn:l.length<n)
 (hr:∀(i:Nat) x,l[i]? =some x→(∀(j:Nat) y,j<i→l[j]? =some y→E j y=0)→(E i x=0∧f (mk i)=some (.inl (mk (i+1))))∨(E i x≠0∧∃t,f (mk i)=some (.inr t)∧k t=bad i (E i x)))
 (he:(∀(j:Nat) y,l[j]? =some y→E j y=0)→∃t,f (mk l.length)=some (.inr t)∧k t=fin):
 (cE f n s0).bind k=(match cg E 0 l with |none=>fin |some (e,i)=>bad i e):=by
 refine I2 mk l E bad fin h0 hn (fun i x hx hp hE=>?_) (fun i x hx hp hE=>?_) he
 ·rcases hr i x hx hp with⟨h,_⟩ |⟨_,h⟩
  ·exact absurd h hE
  ·exact h
 ·rcases hr i x hx hp with⟨_,h⟩ |⟨h,_⟩
  ·exact h
  ·exact absurd hE h
theorem JQ(n:Nat)(f:aG)(hn:f.aH.length<n)(hL:f.Leaves≤32)(hB:f.aO.length≤4000)(hsn:∀s∈f.aH,(s.aO.length<n∧s.aO.length≤4000)∧s.Leaves.length<n∧s.Leaves.length≤4000):
 jV.S n ⟨f⟩=some (outcome mc 64 (decide (64<(f.aH.length:Int))) (cg (FO f) 0 f.aH)):=by
 show(mV ⟨f⟩).run n=_;simp only[mV,G.run,aX,cm,fE,Sum.elim,gt_iff_lt,decide_eq_true_eq];by_cases hfull:(64:Int)<f.aH.length
 ·simp[hfull,outcome];rfl
 ·simp only[hfull,if_false,decide_false];simp only[G.run,aX,cm,if_true,dJ,kN,iU,fE,Sum.elim,GJ,IZ,I1];refine Eq.trans (JP (fun i=>((i:Int),kK (f.aH.take i))) f.aH (FO f) (fun i e=>some (.inr (e,mc,(i:Int)))) (some (.inl ())) (by simp[JO]) hn (fun i x hx hp=>?_) (fun hp=>?_)) ?_
  ·have hi:=(List.getElem?_eq_some_iff.1 hx).1;have hxm:=List.mem_of_getElem? hx;have hlt:(i:Int)<f.aH.length:=by omega
   simp only[hlt,if_true,cR,hx,Option.bind_some];rw[E5 n x.Leaves _ _ _ _ _ _ _ _ _ _ _ _ _ _ _ _ _ _ _ (hsn x hxm).2.1 (hsn x hxm).2.2];rw[G8 n x.aO _ _ _ _ _ _ _ _ _ _ _ _ _ _ _ _ _ _ _ (hsn x hxm).1.1 (hsn x hxm).1.2];simp only[G.run,aX,cm,if_true,fE,Sum.elim];rw[yR n x.Leaves (hsn x hxm).2.1 (hsn x hxm).2.2,yR n x.aO (hsn x hxm).1.1 (hsn x hxm).1.2];simp only[G.run,aX,cm,if_true,fE,Sum.elim,dJ,GJ,IZ,I1,gt_iff_lt];unfold FO;cases hc1:((x.Leaves.length:Int)==0)
   case true=>exact .inr ⟨by simp,_,rfl,rfl⟩
   cases hc2:((x.aO.length:Int)==0)
   case true=>exact .inr ⟨by simp,_,rfl,rfl⟩
   cases hc3:(x.Leaves.any fun n=> !(decide (0≤n)&&decide (n<f.Leaves)))
   case true=>exact .inr ⟨by simp,_,rfl,rfl⟩
   cases hc4:(x.aO.any fun n=> !(decide (0≤n)&&decide (n<(f.aO.length:Int))))
   case true=>exact .inr ⟨by simp,_,rfl,rfl⟩
   cases hc5:xg x.Leaves
   case false=>exact .inr ⟨by simp,_,rfl,rfl⟩
   cases hc6:xg x.aO
   case false=>exact .inr ⟨by simp,_,rfl,rfl⟩
   simp only[Bool.not_true,Bool.false_eq_true,if_false];have hrange:∀y∈x.Leaves,0≤y∧y<32:=by
    intro y hy;rw[List.any_eq_false]at hc3;have:=hc3 y hy;simp at this;omega
   obtain⟨hnd,_⟩:=LJ x.Leaves hc5;have hcnt:∀v∈kK (f.aH.take i),0≤v∧v≤1000:=by
    intro v hv;simp only[kK,List.mem_map,List.mem_range]at hv;obtain⟨m,_,rfl⟩:=hv;have:=List.countP_le_length (p:=fun s:bh=>s.Leaves.contains (m:Int)) (l:=f.aH.take i)
    simp only[List.length_take]at this;omega
   refine I4 x.Leaves (kK (f.aH.take i)) (i:Int) (hsn x hxm).2.1 (zQ _) hrange hnd (hsn x hxm).2.2 hcnt (fun a=>rfl) ?_ (fun h7 p=>⟨_,rfl,by rw[h7];rfl⟩) ?_
   ·have:(x.Leaves.any fun n=>decide (32<(((f.aH.take i).countP fun s=>s.Leaves.contains n:Nat):Int)+1))=x.Leaves.any fun y=>decide (32<(kK (f.aH.take i))[y.toNat]?.getD 0+1):=by
     apply Bool.eq_iff_iff.2;simp only[List.any_eq_true];constructor
     ·rintro⟨y,hy,h⟩;have hr:=hrange y hy;refine⟨y,hy,?_⟩;rw[wA _ (by omega),show((y.toNat:Nat):Int)=y by omega]
      exact h
     ·rintro⟨y,hy,h⟩;have hr:=hrange y hy;refine⟨y,hy,?_⟩;rw[wA _ (by omega),show((y.toNat:Nat):Int)=y by omega]at h
      exact h
    rw[this]
   ·have htake:f.aH.take (i+1)=f.aH.take i++[x]:=by rw[List.take_add_one,hx];rfl
    have e:jj (kK (f.aH.take i)) x.Leaves=kK (f.aH.take (i+1)):=by rw[htake];exact IY _ _ (fun y hy=>(hrange y hy).1) hnd
    rw[e];have hw:=fS (show i<9223372036854775807 by omega)
    show some (Sum.inl (Go.IntKind.wrap .i64 ((i:Int)+1),kK (f.aH.take (i+1))))=_;rw[hw]
  ·refine⟨.inr (kK f.aH),?_,rfl⟩;simp
  ·cases cg (FO f) 0 f.aH<;>rfl
end Go.L
namespace Go.L
open Go.AM
set_option maxRecDepth 100000
set_option linter.unusedSimpArgs false
set_option linter.unusedVariables false
structure Small(f:aG):Prop where
 links:f.Links.length≤4000
 qN:f.aT.length≤4000
 ri:f.aO.length≤4000
 segments:f.aH.length≤4000
 C3:f.Hosts.length≤4000
 leaks:f.Leaks.length≤4000
 seg:∀s∈f.aH,s.Leaves.length≤4000∧s.aO.length≤4000
abbrev E8:=Unit⊕(Int×ByteArray×Int)
def vS(f:aG):E8:=if uv f=true then .inr (2,Ks,0)else .inl ()
def As(f:aG):E8:=if wQ f.bw=true then .inr (2,Kt,0)else .inl ()
def E9(f:aG):E8:=outcome IM 128 (decide (128<(f.Links.length:Int))) (cg (CZ f (bM (fun x:cT=>(⟨x.A,x.B⟩:V2 Int)) [] f.Links)) 0 f.Links)
def Bk(f:aG):E8:=outcome D3 16 (decide (16<(f.aT.length:Int))) (cg (xX (bM (fun x:av=>x.dz) [] f.aT) (bM (fun x:av=>x.Target) [] f.aT)) 0 f.aT)
def yS(f:aG):E8:=outcome D5 32 (decide (32<(f.aO.length:Int))) (cg (D6 f (bM (fun x:BD=>x.dz) [] f.aO) (bM (fun x:BD=>x.Target) [] f.aO)) 0 f.aO)
def zm(f:aG):E8:=outcome mc 64 (decide (64<(f.aH.length:Int))) (cg (FO f) 0 f.aH)
def Fa(f:aG):E8:=outcome IX 128 (decide (128<(f.Hosts.length:Int))) (cg (C2 f (bM (fun x:Host=>(⟨x.BD,x.bV⟩:aM)) [] f.Hosts) (bM (fun x:Host=>(⟨x.BD,Go.IntKind.wrap .u64 x.IP⟩:aM)) [] f.Hosts)) 0 f.Hosts)
def Fb(f:aG):E8:=outcome IW 256 (decide (256<(f.Leaks.length:Int))) (cg (C0 f (bM (fun x:bK=>x) [] f.Leaks)) 0 f.Leaks)
def xP(a:E8)(b:Int×ByteArray×Int):Int×ByteArray×Int:=match a with
 | .inl _=>b
 | .inr t=>t
def Au(f:aG):Int×ByteArray×Int:=
 xP (vS f)<|xP (As f)<|xP (E9 f)<|xP (Bk f)<|xP (yS f)<|xP (zm f)<|xP (Fa f)<|xP (Fb f) (0,⟨⟨[]⟩⟩,0)
theorem Fc{p:ByteArray}{m:Int}{b:Bool}{r:Option (Int×Nat)}{u:Unit}(h:outcome p m b r=.inl u):b=false∧r=none:=by
 unfold outcome at h;split at h
 ·cases h
 ·rename_i hb;split at h
  ·exact⟨by simpa using hb,rfl⟩
  ·cases h
theorem QE{f:aG}{u:Unit}(h:yS f=.inl u):∀b∈f.aO,b.bk≠0→jH b.bq=true:=by
 intro b hb hg;have:=(Fc h).2;rw[tQ]at this;obtain⟨i,hi⟩:=List.getElem?_of_mem hb;have:=this i b hi;have hg':(b.bk==0)=false:=by simpa using hg
 have hcl:qD b.bq=true:=by
  cases hc:qD b.bq with
  |true=>rfl
  |false=>
   unfold D6 at this;simp only[hg',hc,Bool.not_false,if_true,Bool.false_eq_true,if_false]at this
   repeat' split at this
   all_goals cases this
 simp only[qD,Bool.and_eq_true]at hcl;exact hcl.1
theorem M9{f:aG}{u:Unit}(h:vS f=.inl u):1≤f.Leaves∧f.Leaves≤32∧0≤f.fD∧f.fD≤32:=by
 unfold vS at h;split at h
 ·cases h
 ·rename_i hb;simp only[uv,out,Bool.not_eq_true,Bool.or_eq_false_iff,decide_eq_false_iff_not]at hb;omega
theorem I5{β:Type}(n:Nat)(hn:5000≤n)(f:aG)(hs:Small f)(k:fI.sh.El→Option β):(fI.S n f).bind k=k (Au f):=by
 have b1:∀{γ:Type} (k:kT.sh.El→Option γ),(kT.S n ⟨f⟩).bind k=k (vS f):=fun k=>by rw[M5];rfl
 have b2:∀{γ:Type} (k:kU.sh.El→Option γ),(kU.S n ⟨f⟩).bind k=k (As f):=fun k=>by rw[M6];rfl
 have b3:∀{γ:Type} (k:lM.sh.El→Option γ),(lM.S n ⟨f⟩).bind k=k (E9 f):=fun k=>by rw[On n f (by have:=hs.links;omega) (by omega)];rfl
 have b4:∀{γ:Type} (k:kC.sh.El→Option γ),(kC.S n ⟨f⟩).bind k=k (Bk f):=fun k=>by rw[LG n f (by have:=hs.qN;omega)];rfl
 have b5:∀{γ:Type} (k:kF.sh.El→Option γ),(kF.S n ⟨f⟩).bind k=k (yS f):=fun k=>by rw[LI n f (by have:=hs.ri;omega) (by have:=hs.qN;omega) hs.qN];rfl
 have b8:∀{γ:Type} (k:lP.sh.El→Option γ),(lP.S n ⟨f⟩).bind k=k (Fb f):=fun k=>by rw[Ou n f (by have:=hs.leaks;omega)];rfl
 have hseg:∀s∈f.aH,(s.aO.length<n∧s.aO.length≤4000)∧s.Leaves.length<n∧s.Leaves.length≤4000:=fun s h=>by
  have:=hs.seg s h;omega
 have:fI.S n f=some (Au f):=by
  show(vL f).run n=_;have b0:∀{γ:Type} (k:uU.sh.El→Option γ),(uU.S n ()).bind k=k ():=fun k=>rfl
  simp only[vL,G.run,aX,b0,b1];unfold Au;cases h1:vS f with
  |inr t=>rfl
  |inl u=>
   simp only[Sum.elim,G.run,b2];cases h2:As f with
   |inr t=>rfl
   |inl u=>
    simp only[Sum.elim,G.run,b3];cases h3:E9 f with
    |inr t=>rfl
    |inl u=>
     simp only[Sum.elim,G.run,b4];cases h4:Bk f with
     |inr t=>rfl
     |inl u=>
      simp only[Sum.elim,G.run,b5];cases h5:yS f with
      |inr t=>rfl
      |inl u=>
       have b6:∀{γ:Type} (k:jV.sh.El→Option γ),(jV.S n ⟨f⟩).bind k=k (zm f):=fun k=>by rw[JQ n f (by have:=hs.segments;omega) (M9 h1).2.1 hs.ri hseg];rfl
       simp only[Sum.elim,G.run,b6];cases h6:zm f with
       |inr t=>rfl
       |inl u=>
        have hle:f.aH.length≤64:=by
         have:=(Fc h6).1;simp only[decide_eq_false_iff_not]at this;omega
        have b7:∀{γ:Type} (k:lN.sh.El→Option γ),(lN.S n ⟨f⟩).bind k=k (Fa f):=fun k=>by rw[Ov n f (by have:=hs.C3;omega) hle (fun s h=>(hseg s h).1) (QE h5)];rfl
        simp only[Sum.elim,G.run,b7];cases h7:Fa f with
        |inr t=>rfl
        |inl u=>
         simp only[Sum.elim,G.run,b8];cases h8:Fb f with
         |inr t=>rfl
         |inl u=>rfl
 rw[this];rfl
end Go.L
end
section
namespace Go.L
open Go.AM
set_option maxRecDepth 100000
set_option linter.unusedSimpArgs false
set_option linter.unusedVariables false
set_option linter.unusedSectionVars false
def Good{γ:Type}(o:Option γ)(Q:γ→Prop):Prop:=∃v,o=some v∧Q v
theorem Good.bind{γ δ:Type}{o:Option γ}{Q:γ→Prop}{k:γ→Option δ}{R:δ→Prop}(h:Good o Q)(hk:∀v,Q v→Good (k v) R):Good (o.bind k) R:=by
 obtain⟨v,rfl,hv⟩:=h;exact hk v hv
theorem Good.mono{γ:Type}{o:Option γ}{Q R:γ→Prop}(h:Good o Q)(hk:∀v,Q v→R v):Good o R:=by
 obtain⟨v,e,hv⟩:=h;exact⟨v,e,hk v hv⟩
theorem Good.some{γ:Type}{v:γ}{Q:γ→Prop}(h:Q v):Good (some v) Q:=⟨v,rfl,h⟩
theorem ov{ST τ:Type}{f:ST→Option (ST⊕τ)}{Q:τ→Prop}(I:Nat→ST→Prop)(N:Nat)
 (hf:∀j s,j<N→I j s→Good (f s) fun r=>match r with | .inl s'=>I (j+1) s' | .inr t=>Q t)
 (he:∀s,I N s→Good (f s) fun r=>match r with | .inl _=>False | .inr t=>Q t) {n:Nat} (hn:N<n) {s0:ST} (h0:I 0 s0):Good (cE f n s0) Q:=by
 have key:∀(k j n:Nat) (s:ST),j+k=N→k<n→I j s→Good (cE f n s) Q:=by
  intro k;induction k with
  |zero=>
   intro j n s hj hn hs;obtain⟨n,rfl⟩:∃m,n=m+1:=⟨n - 1,by omega⟩
   have:j=N:=by omega
   subst this;obtain⟨r,hr,h⟩:=he s hs;cases r with
   |inl s'=>exact h.elim
   |inr t=>exact⟨t,by simp only[cE,hr],h⟩
  |succ k ih=>
   intro j n s hj hn hs;obtain⟨n,rfl⟩:∃m,n=m+1:=⟨n - 1,by omega⟩
   obtain⟨r,hr,h⟩:=hf j s (by omega) hs
   cases r with
   |inl s'=>
    obtain⟨t,ht,hq⟩:=ih (j+1) n s' (by omega) (by omega) h
    exact⟨t,by simp only[cE,hr];exact ht,hq⟩
   |inr t=>exact⟨t,by simp only[cE,hr],h⟩
 exact key N 0 n s0 (by omega) hn h0
def vh(c:Int)(x:az):Prop:=0≤x.at_∧x.at_≤c
end Go.L
namespace Go.L
open Go.AM
set_option maxRecDepth 100000
set_option linter.unusedSimpArgs false
set_option linter.unusedVariables false
set_option linter.unusedSectionVars false
theorem PJ(n:Nat)(x k:Int)(hk:0<k)(hk2:k≤4000000000000000000):zk.S n (x,k)=some (x % k):=by
 show(Cj x k).run n=_;have h1:¬k≤0:=by omega
 have h2:k≠0:=by omega
 simp only[Cj,G.run,aX,Fw,Ic,decide_eq_true_eq,h1,if_false,h2,ne_eq,not_false_eq_true,decide_true,if_true,Option.bind_some,MG hk hk2,MF hk]<;>rfl
section
variable {n:Nat}
theorem cK(x:az)(m c:Int)(hx:vh c x)(hc:c≤1000000)(h1:1≤m)(h2:m≤1000000):
 Good (γ:=Int×az) (bg.S n (x,m)) fun r=>0≤r.1∧r.1<m∧vh (c+1) r.2:=by
 obtain⟨ha,hb⟩:=hx;show Good (γ:=Int×az) ((ue x m).run n) _;have w1:Go.IntKind.wrap .i64 (x.at_+1)=x.at_+1:=wrap_i64 (by omega) (by omega)
 have w2:Go.IntKind.wrap .i64 (x.at_+1 - 1)=x.at_:=by rw[wrap_i64 (by omega) (by omega)];omega
 have eM:∀{γ:Type} (a:Int) (k:zk.sh.El→Option γ),(zk.S n (a,m)).bind k=k (a % m):=fun a k=>by rw[PJ n a m (by omega) (by omega)];rfl
 simp only[ue,G.run,aX,cm,dJ,w1,w2,eM,if_true,decide_eq_true_eq];by_cases h:x.at_≥(x.l.length:Int)
 ·rw[if_pos h];exact .some ⟨by show(0:Int)≤0;omega,by show(0:Int)<m;omega,ha,by show x.at_≤c+1;omega⟩
 ·rw[if_neg h];obtain⟨i,hi⟩:∃i:Nat,x.at_=(i:Int):=⟨x.at_.toNat,by omega⟩
  have hlt:i<x.l.length:=by omega
  rw[hi,cR,List.getElem?_eq_getElem hlt,Option.bind_some];exact .some ⟨Int.emod_nonneg _ (by omega),Int.emod_lt_of_pos _ (by omega),by show(0:Int)≤(i:Int)+1;omega,by show(i:Int)+1≤c+1;omega⟩
end
end Go.L
namespace Go.L
open Go.AM
set_option maxRecDepth 100000
set_option linter.unusedSimpArgs false
set_option linter.unusedVariables false
set_option linter.unusedSectionVars false
def LK(L S:Int)(x:cT):Prop:=0≤x.A∧x.A<L∧L≤x.B∧x.B<L+S∧1≤x.B7∧x.B7≤2
def Bl(x:cT):V2 Int:=⟨x.A,x.B⟩
def I6(L S:Int)(l:List cT):Prop:=l.length≤32∧(∀x∈l,LK L S x)∧(l.map Bl).Nodup
def qE(L S j i:Int)(l:List cT):Prop:=(∀x∈l,LK L S x∧(x.A<j∨x.A=j∧x.B<L+i))∧(l.map Bl).Nodup
theorem JR{L S j i c:Int}{l:List cT}(h:qE L S j i l)(hj:0≤j∧j<L)(hi:0≤i∧i<S)(hc:1≤c∧c≤2):qE L S j (i+1) (l++[⟨j,L+i,c⟩]):=by
 refine⟨fun x hx=>?_,?_⟩
 ·rcases List.mem_append.1 hx with hx |hx
  ·obtain⟨h1,h2⟩:=h.1 x hx;exact⟨h1,by omega⟩
  ·simp only[List.mem_singleton]at hx;subst hx;refine⟨⟨?_,?_,?_,?_,?_,?_⟩,.inr ⟨rfl,?_⟩⟩<;>simp only<;>omega
 ·rw[List.map_append,List.nodup_append];refine⟨h.2,by simp,?_⟩
  intro a ha b hb;simp only[List.map_cons,List.map_nil,List.mem_singleton]at hb;subst hb;obtain⟨x,hx,rfl⟩:=List.mem_map.1 ha;obtain⟨h1,h2⟩:=h.1 x hx;intro e;simp only[Bl,V2.mk.injEq]at e;omega
theorem JS{L S j i:Int}{l:List cT}(h:qE L S j i l):qE L S j (i+1) l:=
 ⟨fun x hx=>⟨(h.1 x hx).1,by have:=(h.1 x hx).2;omega⟩,h.2⟩
theorem LL{L S j:Int}{i:Int}{l:List cT}(h:qE L S j i l)(hi:S≤i):qE L S (j+1) 0 l:=
 ⟨fun x hx=>⟨(h.1 x hx).1,by have:=(h.1 x hx).2;have:=(h.1 x hx).1;unfold LK at this;omega⟩,h.2⟩
section
variable {n:Nat}
theorem JT(x:az)(L S c:Int)(hx:vh c x)(hc:c≤100000)(hL:0≤L∧L≤8)(hS:0≤S∧S≤4)(hn:5000≤n):
 Good (γ:=List cT×az) (DB.S n (x,L,S)) fun r=>I6 L S r.1∧vh (c+64) r.2:=by
 show Good (γ:=List cT×az) ((zO x L S).run n) _;simp only[zO,G.run,aX,wI,if_true,decide_eq_true_eq];refine Good.bind (γ:=List Int×Int×List cT) (Q:=fun t=>I6 L S t.2.2∧0≤t.2.1∧t.2.1≤c+64) ?_ (fun t ht=>?_)
 ·refine ov (fun j (s:Int×List Int×Int×List cT)=>s.1=(j:Int)∧0≤s.2.2.1∧s.2.2.1≤c+8*(j:Int)∧(s.2.2.2.length:Int)≤4*(j:Int)∧qE L S (j:Int) 0 s.2.2.2) L.toNat (fun j s hj hs=>?_) (fun s hs=>?_) (by omega) ⟨rfl,hx.1,by have:=hx.2;simp;omega,by simp,by simp[qE]⟩
  ·obtain⟨h1,h2,h3,h4,h5⟩:=hs;have hlt:s.1<L:=by omega
   simp only[hlt,if_true];refine Good.bind (γ:=List Int×Int×List cT) (Q:=fun t=>0≤t.2.1∧t.2.1≤c+8*((j:Int)+1)∧(t.2.2.length:Int)≤4*((j:Int)+1)∧qE L S ((j:Int)+1) 0 t.2.2) ?_ (fun t ht=>?_)
   ·refine ov (fun i (q:Int×List Int×Int×List cT)=>q.1=(i:Int)∧0≤q.2.2.1∧q.2.2.1≤c+8*(j:Int)+2*(i:Int)∧(q.2.2.2.length:Int)≤4*(j:Int)+(i:Int)∧qE L S (j:Int) (i:Int) q.2.2.2) S.toNat (fun i q hi hq=>?_) (fun q hq=>?_) (by omega) ⟨rfl,h2,by simp;omega,by simp;omega,h5⟩
    ·obtain⟨g1,g2,g3,g4,g5⟩:=hq;have hlt:q.1<S:=by omega
     simp only[hlt,if_true];refine Good.bind (cK _ 8 (c+8*(j:Int)+2*(i:Int)) ⟨g2,g3⟩ (by omega) (by decide) (by decide)) (fun r hr=>?_)
     obtain⟨r1,r2,r3⟩:=hr;by_cases h7:(r.1 != 7)=true
     ·simp only[h7,if_true];refine Good.bind (cK r.2 2 (c+8*(j:Int)+2*(i:Int)+1) r3 (by omega) (by decide) (by decide)) (fun r' hr'=>?_)
      obtain⟨s1,s2,s3⟩:=hr';obtain⟨s3,s4⟩:=s3;have w:Go.IntKind.wrap .i64 (q.1+1)=q.1+1:=wrap_i64 (by omega) (by omega)
      have w2:Go.IntKind.wrap .i64 (L+q.1)=L+q.1:=wrap_i64 (by omega) (by omega)
      have w3:Go.IntKind.wrap .i64 (1+r'.1)=1+r'.1:=wrap_i64 (by omega) (by omega)
      have hroom:roomy (q.2.2.2.length+1) 24=true:=by simp[roomy];omega
      rw[if_pos ⟨trivial,hroom⟩,w,w2,w3];have hsn:qE L S (j:Int) ((i:Int)+1) (q.2.2.2++[⟨(j:Int),L+(i:Int),1+r'.1⟩]):=JR g5 ⟨by omega,by omega⟩ ⟨by omega,by omega⟩ ⟨by omega,by omega⟩
      refine .some ⟨?_,?_,?_,?_,?_⟩
      ·show q.1+1=((i+1:Nat):Int);omega
      ·omega
      ·show r'.2.at_≤c+8*(j:Int)+2*((i+1:Nat):Int);omega
      ·simp only[List.length_append,List.length_cons,List.length_nil];omega
      ·show qE L S (j:Int) ((i+1:Nat):Int) (q.2.2.2++[⟨s.1,L+q.1,1+r'.1⟩]);rw[h1,g1];exact hsn
     ·simp only[h7,Bool.false_eq_true,if_false];obtain⟨s3,s4⟩:=r3;have w:Go.IntKind.wrap .i64 (q.1+1)=q.1+1:=wrap_i64 (by omega) (by omega)
      rw[w];exact .some ⟨by show q.1+1=((i+1:Nat):Int);omega,s3,by show r.2.at_≤c+8*(j:Int)+2*((i+1:Nat):Int);omega,by show(q.2.2.2.length:Int)≤4*(j:Int)+((i+1:Nat):Int);omega,JS g5⟩
    ·obtain⟨g1,g2,g3,g4,g5⟩:=hq;have hlt:¬q.1<S:=by omega
     simp only[hlt,if_false];exact .some ⟨g2,by show q.2.2.1≤c+8*((j:Int)+1);omega,by show(q.2.2.2.length:Int)≤4*((j:Int)+1);omega,LL g5 (by omega)⟩
   ·obtain⟨t1,t2,t3,t4⟩:=ht;have w:Go.IntKind.wrap .i64 (s.1+1)=s.1+1:=wrap_i64 (by omega) (by omega)
    rw[w];exact .some ⟨by show s.1+1=((j+1:Nat):Int);omega,t1,by show t.2.1≤c+8*((j+1:Nat):Int);omega,by show(t.2.2.length:Int)≤4*((j+1:Nat):Int);omega,t4⟩
  ·obtain⟨h1,h2,h3,h4,h5⟩:=hs;have hlt:¬s.1<L:=by omega
   simp only[hlt,if_false];exact .some ⟨⟨by show s.2.2.2.length≤32;omega,fun x hx=>(h5.1 x hx).1,h5.2⟩,h2,by show s.2.2.1≤c+64;omega⟩
 ·obtain⟨h1,h2,h3⟩:=ht;simp[gA];refine .some ⟨h1,h2,h3⟩
def Cv(l:List Int):Prop:=l.Pairwise (· < ·)
theorem Ow{l:List Int}{y:Int}(h:Cv l)(hy:∀x∈l,x<y):Cv (l++[y]):=by
 unfold Cv at*;rw[List.pairwise_append];exact⟨h,by simp,fun a ha b hb=>by simp only[List.mem_singleton]at hb;subst hb;exact hy a ha⟩
def LM(m q:Int)(l:List Int):Prop:=1≤l.length∧(l.length:Int)≤q∧(∀y∈l,0≤y∧y<m)∧Cv l
theorem Fe(x:az)(m q c:Int)(hx:vh c x)(hc:c≤100000)(hm:1≤m∧m≤8)(hq:1≤q)(hn:5000≤n):
 Good (γ:=List Int×az) (Bh.S n (x,m,q)) fun r=>LM m q r.1∧vh (c+9) r.2:=by
 show Good (γ:=List Int×az) ((Bg x m q).run n) _;simp only[Bg,G.run,aX,wI,if_true,decide_eq_true_eq];refine Good.bind (cK x m c hx (by omega) (by omega) (by omega)) (fun r hr=>?_)
 obtain⟨r1,r2,r3,r4⟩:=hr;refine Good.bind (γ:=List Int×Int×List Int) (Q:=fun t=>(t.2.2.length:Int)≤q∧(∀y∈t.2.2,0≤y∧y<m)∧Cv t.2.2∧0≤t.2.1∧t.2.1≤c+9) ?_ (fun t ht=>?_)
 ·refine ov (fun j (s:Int×List Int×Int×List Int)=>s.1=(j:Int)∧0≤s.2.2.1∧s.2.2.1≤c+1+(j:Int)∧(s.2.2.2.length:Int)≤(j:Int)∧(s.2.2.2.length:Int)≤q∧(∀y∈s.2.2.2,0≤y∧y<(j:Int))∧Cv s.2.2.2) m.toNat (fun j s hj hs=>?_) (fun s hs=>?_) (by omega) ⟨rfl,r3,by simp;omega,by simp,by simp;omega,by simp,by simp[Cv]⟩
  ·obtain⟨h1,h2,h3,h4,h4',h5,h5'⟩:=hs;have hlt:s.1<m:=by omega
   have w:Go.IntKind.wrap .i64 (s.1+1)=s.1+1:=wrap_i64 (by omega) (by omega)
   have hroom:roomy (s.2.2.2.length+1) 8=true:=by simp[roomy];omega
   have h6:∀y∈s.2.2.2++[s.1],0≤y∧y<((j+1:Nat):Int):=by
    intro y hy;rcases List.mem_append.1 hy with hy |hy
    ·have:=h5 y hy;omega
    ·simp only[List.mem_singleton]at hy;subst hy;omega
   have h7:∀y∈s.2.2.2,0≤y∧y<((j+1:Nat):Int):=fun y hy=>by have:=h5 y hy;omega
   have h8:Cv (s.2.2.2++[s.1]):=Ow h5' fun y hy=>by have:=h5 y hy;omega
   simp only[hlt,if_true,w];by_cases hq:(s.2.2.2.length:Int)<q
   ·simp only[hq,if_true];by_cases he:(s.1==r.1)=true
    ·simp only[he,if_true];rw[if_pos ⟨trivial,hroom⟩];refine .some ⟨?_,?_,?_,?_,?_,h6,h8⟩<;>(try simp only[List.length_append,List.length_cons,List.length_nil])<;>omega
    ·simp only[he,Bool.false_eq_true,if_false];refine Good.bind (cK _ 3 (c+1+(j:Int)) ⟨h2,h3⟩ (by omega) (by decide) (by decide)) (fun r' hr'=>?_)
     obtain⟨s1,s2,s3,s4⟩:=hr';by_cases hz:(r'.1==1)=true
     ·simp only[hz,if_true];rw[if_pos ⟨trivial,hroom⟩];refine .some ⟨?_,?_,?_,?_,?_,h6,h8⟩<;>(try simp only[List.length_append,List.length_cons,List.length_nil])<;>omega
     ·simp only[hz,Bool.false_eq_true,if_false];refine .some ⟨?_,?_,?_,?_,?_,h7,h5'⟩<;>(try simp only[List.length_append,List.length_cons,List.length_nil])<;>omega
   ·simp only[hq,if_false];refine .some ⟨?_,fun y hy=>?_,h5',?_,?_⟩
    ·exact h4'
    ·have:=h5 y hy;omega
    ·exact h2
    ·show s.2.2.1≤c+9;omega
  ·obtain⟨h1,h2,h3,h4,h4',h5,h5'⟩:=hs;have hlt:¬s.1<m:=by omega
   simp only[hlt,if_false];refine .some ⟨?_,fun y hy=>?_,h5',?_,?_⟩
   ·exact h4'
   ·have:=h5 y hy;omega
   ·exact h2
   ·show s.2.2.1≤c+9;omega
 ·obtain⟨t1,t2,t2',t3,t4⟩:=ht;by_cases hz:((t.2.2.length:Int)==0)=true
  ·simp only[hz,if_true];simp[gA];refine .some ⟨⟨?_,?_,?_,?_⟩,t3,t4⟩
   ·simp
   ·simp;omega
   ·simp;omega
   ·simp[Cv]
  ·simp only[hz,Bool.false_eq_true,if_false];simp[gA];refine .some ⟨⟨?_,t1,t2,t2'⟩,t3,t4⟩;simp only[beq_iff_eq]at hz;show 1≤t.2.2.length;omega
end
end Go.L
namespace Go.L
open Go.AM
set_option maxRecDepth 100000
set_option linter.unusedSimpArgs false
set_option linter.unusedVariables false
set_option linter.unusedSectionVars false
theorem Na{β:Type}(a b:Int)(hb:b≠0)(k:Unit→Option β):(Fw .i64 a b).run.bind k=k ():=by
 simp only[Fw,Ic,ne_eq,hb,not_false_eq_true,decide_true,if_true,Option.bind_some]
theorem QF:((2:Int) ^ (@Min.min Nat instMinNat (Int.toNat (16:Int)) (Go.IntKind.bits .i64)))=65536:=by decide
theorem wrap_u32'{a:Int}(h0:0≤a)(h1:a<4294967296):Go.IntKind.wrap .u32 a=a:=by
 simp only[Go.IntKind.wrap,Go.IntKind.bits,Go.IntKind.signed];simp
 omega
def Nb(nt:Int)(i:Int)(b:BD):Prop:=0≤b.av∧b.av<nt∧b.dz=10+i∧b.Target=500+i∧(b.bq=⟨0,0⟩∧b.bk=0∨b.bq=⟨167772160+i*65536,24⟩∧b.bk=167772161+i*65536)
def Ff(nt:Int)(x:bK):Prop:=0≤x.From∧x.From<nt∧0≤x.To∧x.To<nt∧x.From≠x.To∧(x.af=⟨0,0⟩∨∃t,0≤t∧t<4∧x.af=⟨167772160+t*65536,16⟩)
def LN(L nb:Int)(s:bh):Prop:=LM L 3 s.Leaves∧LM nb 4 s.aO
def LO(ri:List BD)(segs:List bh)(i:Int)(h:Host):Prop:=
 h.bV=2199023951872+i∧0≤h.BD∧h.BD<(ri.length:Int)∧(h.bh= -1∨∃s,ku segs h.bh=some s∧h.BD∈s.aO)∧
 (h.IP=0∨∃b,ku ri h.BD=some b∧b.bk≠0∧h.IP=b.bq.IP+(10+i))
section
variable {n:Nat}
theorem I7(x:az)(i m c:Int)(hx:vh c x)(hc:c≤100000)(hm:1≤m∧m≤8)(hi:0≤i∧i≤8):
 Good (γ:=BD×az) (Ck.S n (x,i,m)) fun r=>Nb m i r.1∧vh (c+2) r.2:=by
 show Good (γ:=BD×az) ((yM x i m).run n) _;have w1:Go.IntKind.wrap .i64 (10+i)=10+i:=wrap_i64 (by omega) (by omega)
 have w2:Go.IntKind.wrap .u32 (10+i)=10+i:=wrap_u32' (by omega) (by omega)
 have w3:Go.IntKind.wrap .i64 (500+i)=500+i:=wrap_i64 (by omega) (by omega)
 have w4:Go.IntKind.wrap .u32 (500+i)=500+i:=wrap_u32' (by omega) (by omega)
 have w5:Go.IntKind.wrap .i64 (i*65536)=i*65536:=wrap_i64 (by omega) (by omega)
 have w6:Go.IntKind.wrap .i64 (167772160+i*65536)=167772160+i*65536:=wrap_i64 (by omega) (by omega)
 have w7:Go.IntKind.wrap .u32 (167772160+i*65536)=167772160+i*65536:=wrap_u32' (by omega) (by omega)
 have w8:Go.IntKind.wrap .u32 (167772160+i*65536+1)=167772161+i*65536:=by rw[wrap_u32' (by omega) (by omega)];omega
 simp only[yM,G.run,aX,if_true,decide_eq_true_eq,QF,w1,w2,w3,w4,w5,w6,w7,w8];refine Good.bind (cK x m c hx (by omega) (by omega) (by omega)) (fun r hr=>?_)
 refine Good.bind (cK r.2 4 (c+1) hr.2.2 (by omega) (by decide) (by decide)) (fun r' hr'=>?_)
 have h:vh (c+2) r'.2:=by have:=hr'.2.2;unfold vh at*;omega
 split
 ·exact .some ⟨⟨hr.1,hr.2.1,rfl,rfl,.inr ⟨rfl,rfl⟩⟩,h⟩
 ·exact .some ⟨⟨hr.1,hr.2.1,rfl,rfl,.inl ⟨rfl,rfl⟩⟩,h⟩
theorem LP(x:az)(m c:Int)(hx:vh c x)(hc:c≤100000)(hm:2≤m∧m≤8):
 Good (γ:=bK×az) (E0.S n (x,m)) fun r=>Ff m r.1∧vh (c+4) r.2:=by
 show Good (γ:=bK×az) ((Bi x m).run n) _;have w:Go.IntKind.wrap .i64 (m - 1)=m - 1:=wrap_i64 (by omega) (by omega)
 have e:=fun {γ:Type} (a:Int) (k:Unit→Option γ)=>Na a m (by omega) k
 simp only[Bi,G.run,aX,if_true,decide_eq_true_eq,w,e,QF];refine Good.bind (cK x m c hx (by omega) (by omega) (by omega)) (fun r hr=>?_)
 refine Good.bind (cK r.2 (m - 1) (c+1) hr.2.2 (by omega) (by omega) (by omega)) (fun r' hr'=>?_)
 refine Good.bind (cK r'.2 2 (c+1+1) hr'.2.2 (by omega) (by decide) (by decide)) (fun q hq=>?_)
 obtain⟨a1,a2,a3⟩:=hr;obtain⟨b1,b2,b3⟩:=hr';have v1:Go.IntKind.wrap .i64 (r.1+1)=r.1+1:=wrap_i64 (by omega) (by omega)
 have v2:Go.IntKind.wrap .i64 (r.1+1+r'.1)=r.1+1+r'.1:=wrap_i64 (by omega) (by omega)
 have v3:Int.tmod (r.1+1+r'.1) m=(r.1+1+r'.1) % m:=Int.tmod_eq_emod_of_nonneg (by omega)
 have v4:0≤(r.1+1+r'.1) % m:=Int.emod_nonneg _ (by omega)
 have v5:(r.1+1+r'.1) % m<m:=Int.emod_lt_of_pos _ (by omega)
 have v6:r.1≠(r.1+1+r'.1) % m:=by
  by_cases hlt:r.1+1+r'.1<m
  ·rw[Int.emod_eq_of_lt (by omega) hlt];omega
  ·have e1:(r.1+1+r'.1) % m=(r.1+1+r'.1 - m) % m:=by rw[Int.sub_emod_right]
   rw[e1,Int.emod_eq_of_lt (by omega) (by omega)];omega
 rw[v1,v2,v3];split
 ·refine Good.bind (cK q.2 4 (c+1+1+1) hq.2.2 (by omega) (by decide) (by decide)) (fun p hp=>?_)
  have w5:Go.IntKind.wrap .i64 (p.1*65536)=p.1*65536:=wrap_i64 (by omega) (by omega)
  have w6:Go.IntKind.wrap .i64 (167772160+p.1*65536)=167772160+p.1*65536:=wrap_i64 (by omega) (by omega)
  have w7:Go.IntKind.wrap .u32 (167772160+p.1*65536)=167772160+p.1*65536:=wrap_u32' (by omega) (by omega)
  rw[w5,w6,w7];exact .some ⟨⟨a1,a2,v4,v5,v6,.inr ⟨p.1,hp.1,hp.2.1,rfl⟩⟩,by have:=hp.2.2;unfold vh at*;show 0≤p.2.at_∧p.2.at_≤c+4;omega⟩
 ·exact .some ⟨⟨a1,a2,v4,v5,v6,.inl rfl⟩,by have:=hq.2.2;unfold vh at*;show 0≤q.2.at_∧q.2.at_≤c+4;omega⟩
theorem LQ{α:Type}(l:List α)(i:Int)(h0:0≤i)(h1:i<(l.length:Int)):∃x,ku l i=some x∧x∈l:=by
 obtain⟨j,rfl⟩:∃j:Nat,i=(j:Int):=⟨i.toNat,by omega⟩
 have hj:j<l.length:=by omega
 exact⟨l[j],by rw[cR];exact List.getElem?_eq_getElem hj,List.getElem_mem hj⟩
theorem ew{β:Type}(len m b ak:Nat)(i:Int)(k:Unit→Option β)(h0:0≤i)(h1:i<(len:Int)):(aL len m b ak i).run.bind k=k ():=by
 simp[aL,h0,h1]
theorem C4{c d:Int}{x:az}(h:vh c x)(hd:c≤d):vh d x:=⟨h.1,Int.le_trans h.2 hd⟩
def I8(nt:Int)(l:List BD):Prop:=∀(i:Nat) b,l[i]? =some b→Nb nt (i:Int) b
theorem QG{nt i:Int}{b:BD}(h:Nb nt i b)(hi:0≤i∧i≤8)(hg:b.bk≠0):b.bq.IP=167772160+i*65536:=by
 obtain⟨-,-,-,-,h |h⟩:=h
 ·exact absurd h.2 hg
 ·rw[h.1]
theorem LR(x:az)(L S:Int)(links:List cT)(GL:List av)(ri:List BD)(segs:List bh)(a8 a9 a10:Int)(b11 b12:Bool)(a13 a14 a15 a16 a17 a18 i c nt:Int)(hx:vh c x)(hc:c≤100000)
 (h1:1≤segs.length∧segs.length≤8) (h2:∀s∈segs,LN L (ri.length:Int) s) (h3:I8 nt ri) (h4:ri.length≤8) (hi:0≤i∧i≤8):
 Good (γ:=Host×az) (Cl.S n (x,L,S,links,GL,ri,segs,a8,a9,a10,b11,b12,a13,a14,a15,a16,a17,a18,i)) fun r=>LO ri segs i r.1∧vh (c+4) r.2:=by
 show Good (γ:=Host×az) ((yN x L S links GL ri segs a8 a9 a10 b11 b12 a13 a14 a15 a16 a17 a18 i).run n) _;have w1:Go.IntKind.wrap .i64 (2199023951872+i)=2199023951872+i:=wrap_i64 (by omega) (by omega)
 have w2:Go.IntKind.wrap .u64 (2199023951872+i)=2199023951872+i:=by
  simp only[Go.IntKind.wrap,Go.IntKind.bits,Go.IntKind.signed];simp
  omega
 have w3:Go.IntKind.wrap .i64 (10+i)=10+i:=wrap_i64 (by omega) (by omega)
 have w4:Go.IntKind.wrap .u32 (10+i)=10+i:=wrap_u32' (by omega) (by omega)
 simp only[yN,G.run,aX,cm,dJ,if_true,decide_eq_true_eq,w1,w2,w3,w4];refine Good.bind (cK x (segs.length:Int) c hx (by omega) (by omega) (by omega)) (fun r hr=>?_)
 obtain⟨s,hs,hm⟩:=LQ segs r.1 hr.1 hr.2.1;have hso:=(h2 s hm).2;obtain⟨so1,so2,so3,-⟩:=hso;rw[hs,Option.bind_some];refine Good.bind (cK r.2 (s.aO.length:Int) (c+1) hr.2.2 (by omega) (by omega) (by omega)) (fun r' hr'=>?_)
 obtain⟨d,hd,hdm⟩:=LQ s.aO r'.1 hr'.1 hr'.2.1;rw[hd,Option.bind_some];obtain⟨b,hb,_⟩:=LQ ri d (so3 d hdm).1 (so3 d hdm).2;rw[hb,Option.bind_some];have h3':vh (c+1+1) r'.2:=hr'.2.2;have hbd:=so3 d hdm;have hbv:Nb nt d b:=by
  obtain⟨j,rfl⟩:∃j:Nat,d=(j:Int):=⟨d.toNat,by omega⟩
  rw[cR]at hb;exact h3 j b hb
 have hseg:∀{v:Int},(v= -1∨v=r.1)→(v= -1∨∃s,ku segs v=some s∧d∈s.aO):=by
  rintro v (rfl |rfl)
  ·exact .inl rfl
  ·exact .inr ⟨s,hs,hdm⟩
 by_cases hg:(b.bk != 0)=true
 ·have hg':b.bk≠0:=by simpa using hg
  have hip:=QG hbv ⟨hbd.1,by omega⟩ hg'
  have w5:Go.IntKind.wrap .u32 (b.bq.IP+(10+i))=b.bq.IP+(10+i):=wrap_u32' (by omega) (by omega)
  rw[if_pos hg];refine Good.bind (cK r'.2 6 (c+1+1) h3' (by omega) (by decide) (by decide)) (fun q hq=>?_)
  split
  ·rw[Option.bind_some,w5];refine Good.bind (cK q.2 10 (c+1+1+1) hq.2.2 (by omega) (by decide) (by decide)) (fun p hp=>?_)
   split
   ·exact .some ⟨⟨rfl,hbd.1,hbd.2,hseg (.inl rfl),.inr ⟨b,hb,hg',rfl⟩⟩,C4 hp.2.2 (by omega)⟩
   ·exact .some ⟨⟨rfl,hbd.1,hbd.2,hseg (.inr rfl),.inr ⟨b,hb,hg',rfl⟩⟩,C4 hp.2.2 (by omega)⟩
  ·refine Good.bind (cK q.2 10 (c+1+1+1) hq.2.2 (by omega) (by decide) (by decide)) (fun p hp=>?_)
   split
   ·exact .some ⟨⟨rfl,hbd.1,hbd.2,hseg (.inl rfl),.inl rfl⟩,C4 hp.2.2 (by omega)⟩
   ·exact .some ⟨⟨rfl,hbd.1,hbd.2,hseg (.inr rfl),.inl rfl⟩,C4 hp.2.2 (by omega)⟩
 ·rw[if_neg hg];refine Good.bind (cK r'.2 10 (c+1+1) h3' (by omega) (by decide) (by decide)) (fun p hp=>?_)
  split
  ·exact .some ⟨⟨rfl,hbd.1,hbd.2,hseg (.inl rfl),.inl rfl⟩,C4 hp.2.2 (by omega)⟩
  ·exact .some ⟨⟨rfl,hbd.1,hbd.2,hseg (.inr rfl),.inl rfl⟩,C4 hp.2.2 (by omega)⟩
def Hu(l:List av):Prop:=∀(i:Nat) t,l[i]? =some t→t=⟨100+(i:Int),900+(i:Int)⟩
def Fg(ri:List BD)(segs:List bh)(l:List Host):Prop:=∀(i:Nat) h,l[i]? =some h→LO ri segs (i:Int) h
structure Vf(f:aG):Prop where
 leaves:2≤f.Leaves∧f.Leaves≤4
 Av:1≤f.fD∧f.fD≤3
 links:I6 f.Leaves f.fD f.Links
 qN:1≤f.aT.length∧f.aT.length≤3
 GL:Hu f.aT
 ri:1≤f.aO.length∧f.aO.length≤4
 bd:I8 (f.aT.length:Int) f.aO
 segments:2≤f.aH.length∧f.aH.length≤6
 seg:∀s∈f.aH,LN f.Leaves (f.aO.length:Int) s
 C3:f.Hosts.length≤8
 host:Fg f.aO f.aH f.Hosts
 leaks:f.Leaks.length≤2
 QH:∀x∈f.Leaks,Ff (f.aT.length:Int) x
 O9:f.Leaks.Nodup
 LS:0≤f.qW∧f.qW≤2
 FP:0≤f.mj∧f.mj≤1
 I9:0≤f.cF∧f.cF≤1
 timers:1≤f.bw.pz∧f.bw.pz≤3∧f.bw.wZ=9∧40≤f.bw.Ak∧f.bw.Ak≤69∧f.bw.nQ=20∧f.bw.tO=5∧f.bw.Window=30
theorem D7{α:Type}{P:Nat→α→Prop}{l:List α}{y:α}(h:∀(i:Nat) x,l[i]? =some x→P i x)(hy:P l.length y):∀(i:Nat) x,(l++[y])[i]? =some x→P i x:=by
 intro i x hx;rw[List.getElem?_append]at hx;split at hx
 ·exact h i x hx
 ·rename_i hge;have:i - l.length=0:=by
   rcases Nat.eq_zero_or_pos (i - l.length)with h0 |h0
   ·exact h0
   ·rw[List.getElem?_eq_none (by simp;omega)]at hx;cases hx
  have:i=l.length:=by omega
  subst this;simp at hx;subst hx;exact hy
theorem Ja(l:List Int)(hn:5000≤n):Good (γ:=aG) (Cm.S n l) Vf:=by
 show Good (γ:=aG) ((yO l).run n) _;simp only[yO,G.run,aX,cm,dJ,wI,if_true,decide_eq_true_eq];refine Good.bind (cK (n:=n) (Go.L.az.mk l 0) 3 0 ⟨Int.le_refl _,Int.le_refl _⟩ (by decide) (by decide) (by decide)) (fun r2 h2=>?_)
 refine Good.bind (cK r2.2 3 1 h2.2.2 (by decide) (by decide) (by decide)) (fun r3 h3=>?_)
 refine Good.bind (cK r3.2 3 2 h3.2.2 (by decide) (by decide) (by decide)) (fun r4 h4=>?_)
 refine Good.bind (cK r4.2 2 3 h4.2.2 (by decide) (by decide) (by decide)) (fun r5 h5=>?_)
 refine Good.bind (cK r5.2 2 4 h5.2.2 (by decide) (by decide) (by decide)) (fun r6 h6=>?_)
 refine Good.bind (cK r6.2 2 5 h6.2.2 (by decide) (by decide) (by decide)) (fun r7 h7=>?_)
 refine Good.bind (cK r7.2 3 6 h7.2.2 (by decide) (by decide) (by decide)) (fun r8 h8=>?_)
 refine Good.bind (cK r8.2 3 7 h8.2.2 (by decide) (by decide) (by decide)) (fun r9 h9=>?_)
 refine Good.bind (cK r9.2 30 8 h9.2.2 (by decide) (by decide) (by decide)) (fun r10 h10=>?_)
 obtain⟨l1,l2,-⟩:=h2;obtain⟨p1,p2,-⟩:=h3;obtain⟨e1,e2,-⟩:=h4;obtain⟨e3,e4,-⟩:=h5;obtain⟨e5,e6,-⟩:=h6;obtain⟨e7,e8,-⟩:=h9;obtain⟨e9,e10,h10'⟩:=h10;have wl:Go.IntKind.wrap .i64 (2+r2.1)=2+r2.1:=wrap_i64 (by omega) (by omega)
 have wp:Go.IntKind.wrap .i64 (1+r3.1)=1+r3.1:=wrap_i64 (by omega) (by omega)
 have wd:Go.IntKind.wrap .i64 (1+r9.1)=1+r9.1:=wrap_i64 (by omega) (by omega)
 have wa:Go.IntKind.wrap .i64 (40+r10.1)=40+r10.1:=wrap_i64 (by omega) (by omega)
 rw[wl,wp,wd,wa];refine Good.bind (JT r10.2 (2+r2.1) (1+r3.1) 9 h10' (by decide) (by omega) (by omega) hn) (fun r11 h11=>?_)
 refine Good.bind (γ:=List Int×Int×List av) (Q:=fun t=>1≤t.2.2.length∧t.2.2.length≤3∧0≤t.2.1∧t.2.1≤77∧Hu t.2.2) ?_ (fun t1 ht1=>?_)
 ·obtain⟨k1,k2⟩:=h11.2;refine ov (fun j (s:Int×List Int×Int×List av)=>s.1=(j:Int)∧0≤s.2.2.1∧s.2.2.1≤73+(j:Int)∧(s.2.2.2.length:Int)=(j:Int)∧Hu s.2.2.2) 3 (fun j s hj hs=>?_) (fun s hs=>?_) (by omega) ⟨rfl,k1,by simp;omega,by simp,by simp[Hu]⟩
  ·obtain⟨g1,g2,g3,g4,g5⟩:=hs;refine Good.bind (cK (n:=n) (Go.L.az.mk s.2.1 s.2.2.1) 3 (73+(j:Int)) ⟨g2,g3⟩ (by omega) (by decide) (by decide)) (fun r hr=>?_)
   obtain⟨s1,s2,s3,s4⟩:=hr;have w:Go.IntKind.wrap .i64 (s.1+1)=s.1+1:=wrap_i64 (by omega) (by omega)
   have w1:Go.IntKind.wrap .i64 (100+s.1)=100+s.1:=wrap_i64 (by omega) (by omega)
   have w2:Go.IntKind.wrap .u32 (100+s.1)=100+s.1:=wrap_u32' (by omega) (by omega)
   have w3:Go.IntKind.wrap .i64 (900+s.1)=900+s.1:=wrap_i64 (by omega) (by omega)
   have w4:Go.IntKind.wrap .u32 (900+s.1)=900+s.1:=wrap_u32' (by omega) (by omega)
   have hroom:roomy (s.2.2.2.length+1) 8=true:=by simp[roomy];omega
   by_cases hle:s.1≤r.1
   ·rw[if_pos hle,if_pos ⟨trivial,hroom⟩,w,w1,w2,w3,w4];refine .some ⟨?_,?_,?_,?_,?_⟩
    ·show s.1+1=((j+1:Nat):Int);omega
    ·exact s3
    ·show r.2.at_≤73+((j+1:Nat):Int);omega
    ·simp only[List.length_append,List.length_cons,List.length_nil];omega
    ·refine D7 (P:=fun i t=>t=(⟨100+(i:Int),900+(i:Int)⟩:av)) g5 ?_
     rw[g4,g1]
   ·rw[if_neg hle];refine .some ⟨?_,?_,?_,?_,g5⟩
    ·show 1≤s.2.2.2.length;omega
    ·show s.2.2.2.length≤3;omega
    ·exact s3
    ·show r.2.at_≤77;omega
  ·obtain⟨g1,g2,g3,g4,g5⟩:=hs;refine Good.bind (cK (n:=n) (Go.L.az.mk s.2.1 s.2.2.1) 3 76 ⟨g2,by simpa using g3⟩ (by omega) (by decide) (by decide)) (fun r hr=>?_)
   obtain⟨s1,s2,s3,s4⟩:=hr;have hle:¬s.1≤r.1:=by omega
   rw[if_neg hle];refine .some ⟨?_,?_,?_,?_,g5⟩
   ·show 1≤s.2.2.2.length;omega
   ·show s.2.2.2.length≤3;omega
   ·exact s3
   ·show r.2.at_≤77;omega
 obtain⟨u1,u2,u3,u4,u5⟩:=ht1;refine Good.bind (cK (n:=n) (Go.L.az.mk t1.1 t1.2.1) 4 77 ⟨u3,u4⟩ (by decide) (by decide) (by decide)) (fun r25 h25=>?_)
 obtain⟨q1,q2,q3⟩:=h25;have w25:Go.IntKind.wrap .i64 (1+r25.1)=1+r25.1:=wrap_i64 (by omega) (by omega)
 rw[w25];simp[gA];refine Good.bind (γ:=List Int×Int×List BD) (Q:=fun t=>1≤t.2.2.length∧t.2.2.length≤4∧0≤t.2.1∧t.2.1≤86∧I8 (t1.2.2.length:Int) t.2.2) ?_ (fun t2 ht2=>?_)
 ·refine ov (fun j (s:Int×List Int×Int×List BD)=>s.1=(j:Int)∧0≤s.2.2.1∧s.2.2.1≤78+2*(j:Int)∧(s.2.2.2.length:Int)=(j:Int)∧I8 (t1.2.2.length:Int) s.2.2.2) (1+r25.1).toNat (fun j s hj hs=>?_) (fun s hs=>?_) (by omega) ⟨rfl,q3.1,by have:=q3.2;simp;omega,by simp,by simp[I8]⟩
  ·obtain⟨g1,g2,g3,g4,g5⟩:=hs;have hlt:s.1<1+r25.1:=by omega
   rw[if_pos hlt];refine Good.bind (I7 (n:=n) (Go.L.az.mk s.2.1 s.2.2.1) s.1 (t1.2.2.length:Int) (78+2*(j:Int)) ⟨g2,g3⟩ (by omega) (by omega) (by omega)) (fun r hr=>?_)
   obtain⟨hb,s3,s4⟩:=hr;have w:Go.IntKind.wrap .i64 (s.1+1)=s.1+1:=wrap_i64 (by omega) (by omega)
   have hroom:roomy (s.2.2.2.length+1) 40=true:=by simp[roomy];omega
   rw[if_pos hroom,w];refine .some ⟨?_,?_,?_,?_,?_⟩
   ·show s.1+1=((j+1:Nat):Int);omega
   ·exact s3
   ·show r.2.at_≤78+2*((j+1:Nat):Int);omega
   ·simp only[List.length_append,List.length_cons,List.length_nil];omega
   ·refine D7 (P:=fun i b=>Nb (t1.2.2.length:Int) (i:Int) b) g5 ?_
    rw[g4,← g1];exact hb
  ·obtain⟨g1,g2,g3,g4,g5⟩:=hs;have hlt:¬s.1<1+r25.1:=by omega
   rw[if_neg hlt];refine .some ⟨?_,?_,?_,?_,g5⟩
   ·show 1≤s.2.2.2.length;omega
   ·show s.2.2.2.length≤4;omega
   ·exact g2
   ·show s.2.2.1≤86;omega
 obtain⟨b1,b2,b3,b4,b5⟩:=ht2;refine Good.bind (cK (n:=n) (Go.L.az.mk t2.1 t2.2.1) 5 86 ⟨b3,b4⟩ (by decide) (by decide) (by decide)) (fun r39 h39=>?_)
 obtain⟨q1',q2',q3'⟩:=h39;have w39:Go.IntKind.wrap .i64 (2+r39.1)=2+r39.1:=wrap_i64 (by omega) (by omega)
 rw[w39];refine Good.bind (γ:=List Int×Int×List bh) (Q:=fun t=>2≤t.2.2.length∧t.2.2.length≤6∧(∀y∈t.2.2,LN (2+r2.1) (t2.2.2.length:Int) y)∧0≤t.2.1∧t.2.1≤195) ?_ (fun t3 ht3=>?_)
 ·refine ov (fun j (s:Int×List Int×Int×List bh)=>s.1=(j:Int)∧0≤s.2.2.1∧s.2.2.1≤87+18*(j:Int)∧(s.2.2.2.length:Int)=(j:Int)∧∀y∈s.2.2.2,LN (2+r2.1) (t2.2.2.length:Int) y) (2+r39.1).toNat (fun j s hj hs=>?_) (fun s hs=>?_) (by omega) ⟨rfl,q3'.1,by have:=q3'.2;simp;omega,by simp,by simp⟩
  ·obtain⟨g1,g2,g3,g4,g5⟩:=hs;have hlt:s.1<2+r39.1:=by omega
   rw[if_pos hlt];refine Good.bind (Fe (n:=n) (Go.L.az.mk s.2.1 s.2.2.1) (2+r2.1) 3 (87+18*(j:Int)) ⟨g2,g3⟩ (by omega) (by omega) (by omega) hn) (fun r hr=>?_)
   obtain⟨m1,m4⟩:=hr;refine Good.bind (Fe (n:=n) r.2 (t2.2.2.length:Int) 4 (87+18*(j:Int)+9) m4 (by omega) (by omega) (by omega) hn) (fun r' hr'=>?_)
   obtain⟨m5,m8,m9⟩:=hr';have w:Go.IntKind.wrap .i64 (s.1+1)=s.1+1:=wrap_i64 (by omega) (by omega)
   have hroom:roomy (s.2.2.2.length+1) 48=true:=by simp[roomy];omega
   rw[if_pos hroom,w];refine .some ⟨?_,?_,?_,?_,fun y hy=>?_⟩
   ·show s.1+1=((j+1:Nat):Int);omega
   ·exact m8
   ·show r'.2.at_≤87+18*((j+1:Nat):Int);omega
   ·simp only[List.length_append,List.length_cons,List.length_nil];omega
   ·rcases List.mem_append.1 hy with hy |hy
    ·exact g5 y hy
    ·simp only[List.mem_singleton]at hy;subst hy;exact⟨m1,m5⟩
  ·obtain⟨g1,g2,g3,g4,g5⟩:=hs;have hlt:¬s.1<2+r39.1:=by omega
   rw[if_neg hlt];refine .some ⟨?_,?_,g5,g2,?_⟩
   ·show 2≤s.2.2.2.length;omega
   ·show s.2.2.2.length≤6;omega
   ·show s.2.2.1≤195;omega
 obtain⟨c1,c2,c3,c4,c5⟩:=ht3;refine Good.bind (cK (n:=n) (Go.L.az.mk t3.1 t3.2.1) 9 195 ⟨c4,c5⟩ (by decide) (by decide) (by decide)) (fun r56 h56=>?_)
 obtain⟨v1,v2,v3⟩:=h56;refine Good.bind (γ:=List Int×Int×List Host) (Q:=fun t=>t.2.2.length≤8∧0≤t.2.1∧t.2.1≤228∧Fg t2.2.2 t3.2.2 t.2.2) ?_ (fun t4 ht4=>?_)
 ·refine ov (fun j (s:Int×List Int×Int×List Host)=>s.1=(j:Int)∧0≤s.2.2.1∧s.2.2.1≤196+4*(j:Int)∧(s.2.2.2.length:Int)=(j:Int)∧Fg t2.2.2 t3.2.2 s.2.2.2) r56.1.toNat (fun j s hj hs=>?_) (fun s hs=>?_) (by omega) ⟨rfl,v3.1,by have:=v3.2;simp;omega,by simp,by simp[Fg]⟩
  ·obtain⟨g1,g2,g3,g4,g5⟩:=hs;have hlt:s.1<r56.1:=by omega
   rw[if_pos hlt];refine Good.bind (LR (n:=n) (Go.L.az.mk s.2.1 s.2.2.1) _ _ _ _ t2.2.2 t3.2.2 _ _ _ _ _ _ _ _ _ _ _ s.1 (196+4*(j:Int)) (t1.2.2.length:Int) ⟨g2,g3⟩ (by omega) (by omega) c3 b5 (by omega) (by omega)) (fun r hr=>?_)
   obtain⟨hh,s3,s4⟩:=hr;have w:Go.IntKind.wrap .i64 (s.1+1)=s.1+1:=wrap_i64 (by omega) (by omega)
   have hroom:roomy (s.2.2.2.length+1) 32=true:=by simp[roomy];omega
   rw[if_pos hroom,w];refine .some ⟨?_,?_,?_,?_,?_⟩
   ·show s.1+1=((j+1:Nat):Int);omega
   ·exact s3
   ·show r.2.at_≤196+4*((j+1:Nat):Int);omega
   ·simp only[List.length_append,List.length_cons,List.length_nil];omega
   ·refine D7 (P:=fun i b=>LO t2.2.2 t3.2.2 (i:Int) b) g5 ?_
    rw[g4,← g1];exact hh
  ·obtain⟨g1,g2,g3,g4,g5⟩:=hs;have hlt:¬s.1<r56.1:=by omega
   rw[if_neg hlt];refine .some ⟨?_,?_,?_,g5⟩
   ·show s.2.2.2.length≤8;omega
   ·exact g2
   ·show s.2.2.1≤228;omega
 obtain⟨d1,d2,d3,d4⟩:=ht4;have hsz:∀lk:List bK,lk.length≤2→(∀x∈lk,Ff (t1.2.2.length:Int) x)→lk.Nodup→Vf {Leaves:=2+r2.1,fD:=1+r3.1,Links:=r11.1,aT:=t1.2.2,aO:=t2.2.2,aH:=t3.2.2,Hosts:=t4.2.2,Leaks:=lk,qW:=r4.1,mj:=r5.1,cF:=r6.1,qi:=r7.1==0,xJ:=r8.1==1,bw:={pz:=1+r9.1,wZ:=9,Ak:=40+r10.1,nQ:=20,tO:=5,Window:=30}}:=fun lk hlk hlv hld=>
  ⟨⟨by show 2≤2+r2.1;omega,by show 2+r2.1≤4;omega⟩,⟨by show 1≤1+r3.1;omega,by show 1+r3.1≤3;omega⟩,h11.1,⟨u1,u2⟩,u5,⟨b1,b2⟩,b5,⟨c1,c2⟩,c3,d1,d4,hlk,hlv,hld,
   ⟨e1,by show r4.1≤2;omega⟩,⟨e3,by show r5.1≤1;omega⟩,⟨e5,by show r6.1≤1;omega⟩,by show 1≤1+r9.1;omega,by show 1+r9.1≤3;omega,rfl,by show 40≤40+r10.1;omega,by show 40+r10.1≤69;omega,rfl,rfl,rfl⟩
 by_cases hm:(1:Int)<(t1.2.2.length:Int)
 ·rw[if_pos (by simpa using hm)]
  refine Good.bind (cK (n:=n) (Go.L.az.mk t4.1 t4.2.1) 3 228 ⟨d2,d3⟩ (by decide) (by decide) (by decide)) (fun r70 h70=>?_)
  obtain⟨v1',v2',v3'⟩:=h70;refine Good.bind (γ:=List Int×Int×List bK) (Q:=fun t=>t.2.2.length≤2∧(∀x∈t.2.2,Ff (t1.2.2.length:Int) x)∧t.2.2.Nodup) ?_ (fun t5 ht5=>?_)
  ·refine ov (fun j (s:Int×List Int×Int×List bK)=>s.1=(j:Int)∧0≤s.2.2.1∧s.2.2.1≤229+4*(j:Int)∧(s.2.2.2.length:Int)≤(j:Int)∧(∀x∈s.2.2.2,Ff (t1.2.2.length:Int) x)∧s.2.2.2.Nodup) r70.1.toNat (fun j s hj hs=>?_) (fun s hs=>?_) (by omega) ⟨rfl,v3'.1,by have:=v3'.2;simp;omega,by simp,by simp,by simp⟩
   ·obtain⟨g1,g2,g3,g4,g5,g6⟩:=hs;have hlt:s.1<r70.1:=by omega
    rw[if_pos hlt];refine Good.bind (LP (n:=n) (Go.L.az.mk s.2.1 s.2.2.1) (t1.2.2.length:Int) (229+4*(j:Int)) ⟨g2,g3⟩ (by omega) (by omega)) (fun r hr=>?_)
    obtain⟨hk,s3,s4⟩:=hr;have w:Go.IntKind.wrap .i64 (s.1+1)=s.1+1:=wrap_i64 (by omega) (by omega)
    have hroom:roomy (s.2.2.2.length+1) 32=true:=by simp[roomy];omega
    refine Good.bind (γ:=Unit⊕Unit) (Q:=fun t=>match t with | .inl _=>True | .inr _=>r.1∉s.2.2.2) ?_ (fun t ht=>?_)
    ·refine ov (fun i (q:Int)=>q=(i:Int)∧∀j<i,∀y,s.2.2.2[j]? =some y→y≠r.1) s.2.2.2.length (fun i q hi hq=>?_) (fun q hq=>?_) (by omega) ⟨rfl,by simp⟩
     ·obtain⟨rfl,hq⟩:=hq;have hlt:(i:Int)<(s.2.2.2.length:Int):=by omega
      rw[if_pos hlt,ew _ _ _ _ _ _ (by omega) hlt]
      simp only[jL,Int.toNat_natCast,List.getElem?_eq_getElem hi,Option.bind_some];split
      ·exact .some trivial
      ·rename_i hne;refine .some ⟨fS (by omega),fun k hk y hy=>?_⟩
       rcases Nat.lt_or_ge k i with hki |hki
       ·exact hq k hki y hy
       ·have:k=i:=by omega
        subst this;rw[List.getElem?_eq_getElem hi]at hy;simp only[Option.some.injEq]at hy;subst hy;intro e;apply hne;simp[e]
     ·obtain⟨rfl,hq⟩:=hq;simp only[Int.lt_irrefl,if_false];refine .some fun hmem=>?_
      obtain⟨k,hk⟩:=List.getElem?_of_mem hmem;exact hq k (List.getElem?_eq_some_iff.1 hk).1 _ hk rfl
    ·cases t with
     |inl _=>
      simp only[Sum.elim,G.run,aX,if_true];rw[w];refine .some ⟨?_,s3,?_,?_,g5,g6⟩
      ·show s.1+1=((j+1:Nat):Int);omega
      ·show r.2.at_≤229+4*((j+1:Nat):Int);omega
      ·show(s.2.2.2.length:Int)≤((j+1:Nat):Int);omega
     |inr _=>
      simp only[Sum.elim,G.run,aX,wI,if_true];rw[if_pos ⟨trivial,hroom⟩,w];refine .some ⟨?_,s3,?_,?_,fun x hx=>?_,?_⟩
      ·show s.1+1=((j+1:Nat):Int);omega
      ·show r.2.at_≤229+4*((j+1:Nat):Int);omega
      ·simp only[List.length_append,List.length_cons,List.length_nil];omega
      ·rcases List.mem_append.1 hx with hx |hx
       ·exact g5 x hx
       ·simp only[List.mem_singleton]at hx;subst hx;exact hk
      ·rw[List.nodup_append];refine⟨g6,by simp,fun a ha b hb=>?_⟩
       simp only[List.mem_singleton]at hb;subst hb;rintro rfl;exact ht ha
   ·obtain⟨g1,g2,g3,g4,g5,g6⟩:=hs;have hlt:¬s.1<r70.1:=by omega
    rw[if_neg hlt];exact .some ⟨by show s.2.2.2.length≤2;omega,g5,g6⟩
  ·exact .some (hsz _ ht5.1 ht5.2.1 ht5.2.2)
 ·rw[if_neg (by simpa using hm)]
  exact .some (hsz [] (by simp) (by simp) (by simp))
end
end Go.L
namespace Go.L
open Go.AM
set_option maxRecDepth 100000
set_option linter.unusedSimpArgs false
set_option linter.unusedVariables false
set_option linter.unusedSectionVars false
theorem ow{α K:Type}[DecidableEq K](key:α→K)(l:List α)(i:Nat)(x:α)(hx:l[i]? =some x)(h:∀(j:Nat) y,j<i→l[j]? =some y→key y≠key x):(bM key [] l).getD i false=false:=by
 rw[List.getD_eq_getElem?_getD,E1,hx];simp only[Option.map_some,Option.getD_some,List.nil_append,decide_eq_false_iff_not,List.mem_map,not_exists,not_and];intro y hy e;obtain⟨j,hj⟩:=List.getElem?_of_mem hy;rw[List.getElem?_take]at hj;split at hj
 ·rename_i hlt;exact h j y hlt hj e
 ·cases hj
theorem qO{p:ByteArray}{m:Int}{b:Bool}{r:Option (Int×Nat)}(hb:b=false)(hr:r=none):outcome p m b r=.inl ():=by
 subst hb;subst hr;rfl
theorem pP{α:Type}{E:Nat→α→Int}{l:List α}(h:∀(j:Nat) x,l[j]? =some x→E j x=0):cg E 0 l=none:=
 (tQ l 0).2 fun j x hx=>by rw[Nat.zero_add];exact h j x hx
theorem LU:∀{l:List Int},Cv l→xg l=true
 | [],_=>rfl
 | [_],_=>rfl
 |x::y::l,h=>by
  have h':Cv (y::l):=(List.pairwise_cons.1 h).2;have hxy:x<y:=(List.pairwise_cons.1 h).1 y (by simp)
  have ih:=LU h';simp only[xg,List.tail_cons,List.zip_cons_cons,List.all_cons,Bool.and_eq_true,decide_eq_true_eq]at ih ⊢;exact⟨hxy,ih⟩
theorem Nc{α:Type}{l:List α}(h:l.Nodup){i j:Nat}{x y:α}(hx:l[i]? =some x)(hy:l[j]? =some y)(hij:j<i):y≠x:=by
 obtain⟨h1,rfl⟩:=List.getElem?_eq_some_iff.1 hx;obtain⟨h2,rfl⟩:=List.getElem?_eq_some_iff.1 hy;exact(List.pairwise_iff_getElem.1 h) j i h2 h1 hij
section
variable {f:aG} (hv:Vf f)
include hv
theorem Ox:E9 f=.inl ():=by
 obtain⟨h1,h2,h3⟩:=hv.links;refine qO (by simp;omega) (pP fun i x hx=>?_)
 obtain⟨a1,a2,a3,a4,a5,a6⟩:=h2 x (List.mem_of_getElem? hx);have hf:=ow (fun x:cT=>(⟨x.A,x.B⟩:V2 Int)) f.Links i x hx fun j y hj hy e=>by
  have e1:(f.Links.map Bl)[i]? =some (Bl x):=by rw[List.getElem?_map,hx];rfl
  have e2:(f.Links.map Bl)[j]? =some (Bl y):=by rw[List.getElem?_map,hy];rfl
  exact Nc h3 e1 e2 hj e
 have hw:Go.IntKind.wrap .i64 (f.Leaves+f.fD)=f.Leaves+f.fD:=wrap_i64 (by have:=hv.leaves;have:=hv.Av;omega) (by have:=hv.leaves;have:=hv.Av;omega)
 have c1:(decide (0≤x.A)&&decide (x.A<f.Leaves))=true:=by simp[a1,a2]
 have c2:decide (x.B≥f.Leaves)=true:=by simp;omega
 have c3:¬(!decide (x.B<Go.IntKind.wrap .i64 (f.Leaves+f.fD)))=true:=by rw[hw];simp;omega
 have c4:¬(decide (x.B7<1)||decide (1000<x.B7))=true:=by simp;omega
 rw[CZ,if_pos c1,if_pos c2,if_neg c3,if_neg c4,hf,if_neg (by decide)]
theorem LV:Bk f=.inl ():=by
 obtain⟨h1,h2⟩:=hv.qN;have ht:=hv.GL;refine qO (by simp;omega) (pP fun i x hx=>?_)
 have hi:=(List.getElem?_eq_some_iff.1 hx).1;have e:=ht i x hx;have hf1:=ow (fun x:av=>x.dz) f.aT i x hx fun j y hj hy e'=>by
  have e2:=ht j y hy;subst e2;subst e;simp at e';omega
 have hf2:=ow (fun x:av=>x.Target) f.aT i x hx fun j y hj hy e'=>by
  have e2:=ht j y hy;subst e2;subst e;simp at e';omega
 subst e;have c1:¬decide ((100+(i:Int))<1)=true:=by simp;omega
 have c2:¬decide (16777215<(100+(i:Int)))=true:=by simp;omega
 have c3:¬(((900+(i:Int))==0)=true):=by simp;omega
 rw[xX,if_neg c1,if_neg c2,if_neg c3,hf1,if_neg (by decide),hf2,if_neg (by decide)]
theorem Oy:Fb f=.inl ():=by
 refine qO (by have:=hv.leaks;simp;omega) (pP fun i x hx=>?_)
 obtain⟨a1,a2,a3,a4,a5,a6⟩:=hv.QH x (List.mem_of_getElem? hx);have hf:=ow (fun x:bK=>x) f.Leaks i x hx fun j y hj hy e=>Nc hv.O9 hx hy hj e
 have c1:¬(!(decide (0≤x.From)&&decide (x.From<(f.aT.length:Int))))=true:=by simp[a1,a2]
 have c2:¬(!(decide (0≤x.To)&&decide (x.To<(f.aT.length:Int))))=true:=by simp[a3,a4]
 have c3:¬(x.From==x.To)=true:=by simp[a5]
 have c4:¬(!qD x.af)=true:=by
  rcases a6 with e |⟨t,t0,t4,e⟩
  ·rw[e];decide
  ·rw[e];rcases(by omega:t=0∨t=1∨t=2∨t=3)with rfl |rfl |rfl |rfl<;>decide
 rw[C0,if_neg c1,if_neg c2,if_neg c3,if_neg c4,hf,if_neg (by decide)]
theorem LW:yS f=.inl ():=by
 obtain⟨h1,h2⟩:=hv.ri;obtain⟨h3,h4⟩:=hv.qN;have hb:=hv.bd;refine qO (by simp;omega) (pP fun i b hx=>?_)
 have hi:=(List.getElem?_eq_some_iff.1 hx).1;obtain⟨a1,a2,a3,a4,a5⟩:=hb i b hx;have hf1:=ow (fun x:BD=>x.dz) f.aO i b hx fun j y hj hy e=>by
  have:=(hb j y hy).2.2.1;have e':y.dz=b.dz:=e;omega
 have hf2:=ow (fun x:BD=>x.Target) f.aO i b hx fun j y hj hy e=>by
  have:=(hb j y hy).2.2.2.1;have e':y.Target=b.Target:=e;omega
 have c1:¬(!(decide (0≤b.av)&&decide (b.av<(f.aT.length:Int))))=true:=by simp[a1,a2]
 have c2:¬decide (b.dz<1)=true:=by simp;omega
 have c3:¬decide (16777215<b.dz)=true:=by simp;omega
 have c4:¬(b.Target==0)=true:=by simp;omega
 have c5:¬(f.aT.any fun x=>x.dz==b.dz)=true:=by
  simp only[List.any_eq_true,beq_iff_eq,not_exists,not_and];intro t ht e;obtain⟨j,hj⟩:=List.getElem?_of_mem ht;have:=hv.GL j t hj;have hjl:=(List.getElem?_eq_some_iff.1 hj).1;rw[this]at e;simp only at e;omega
 have c6:¬(f.aT.any fun x=>x.Target==b.Target)=true:=by
  simp only[List.any_eq_true,beq_iff_eq,not_exists,not_and];intro t ht e;obtain⟨j,hj⟩:=List.getElem?_of_mem ht;have:=hv.GL j t hj;have hjl:=(List.getElem?_eq_some_iff.1 hj).1;rw[this]at e;simp only at e;omega
 rw[D6,if_neg c1,if_neg c2,if_neg c3,if_neg c4,hf1,if_neg (by decide),hf2,if_neg (by decide),if_neg c5,if_neg c6]
 rcases a5 with⟨e1,e2⟩ |⟨e1,e2⟩
 ·rw[e1,e2,if_pos (by decide),if_neg (by decide)]
 ·have c7:¬(b.bk==0)=true:=by simp;omega
  have c11:¬((f.aO.take i).any (sK b.av b.bq.IP b.bq.Len))=true:=by
   simp only[List.any_eq_true,not_exists,not_and];intro y hy ho;obtain⟨j,hj⟩:=List.getElem?_of_mem hy;rw[List.getElem?_take]at hj;split at hj
   ·rename_i hlt;obtain⟨-,-,-,-,a6⟩:=hb j y hj;simp only[sK,Bool.and_eq_true,bne_iff_ne]at ho;obtain⟨-,hg,hc⟩:=ho;rcases a6 with⟨e3,e4⟩ |⟨e3,e4⟩
    ·exact hg e4
    ·rw[e1,e3]at hc;simp only at hc;rcases(by omega:(j=0∧i=1)∨(j=0∧i=2)∨(j=0∧i=3)∨(j=1∧i=2)∨(j=1∧i=3)∨(j=2∧i=3))with⟨rfl,rfl⟩ |⟨rfl,rfl⟩ |⟨rfl,rfl⟩ |⟨rfl,rfl⟩ |⟨rfl,rfl⟩ |⟨rfl,rfl⟩<;>revert hc<;>decide
   ·cases hj
  have c8:¬(!qD b.bq)=true:=by
   rw[e1];rcases(by omega:i=0∨i=1∨i=2∨i=3)with rfl |rfl |rfl |rfl<;>decide
  have c9:¬out b.bq.Len 8 30=true:=by rw[e1];show ¬out 24 8 30=true;decide
  have c10:¬(!yP b.bq b.bk)=true:=by
   rw[e1,e2];rcases(by omega:i=0∨i=1∨i=2∨i=3)with rfl |rfl |rfl |rfl<;>decide
  rw[if_neg c7,if_neg c8,if_neg c9,if_neg c10,if_neg c11]
theorem JU:zm f=.inl ():=by
 obtain⟨h1,h2⟩:=hv.segments;refine qO (by simp;omega) (pP fun i x hx=>?_)
 have hi:=(List.getElem?_eq_some_iff.1 hx).1;obtain⟨⟨a1,a2,a3,a4⟩,⟨b1,b2,b3,b4⟩⟩:=hv.seg x (List.mem_of_getElem? hx);have c1:¬((x.Leaves.length:Int)==0)=true:=by simp only[beq_iff_eq];omega
 have c2:¬((x.aO.length:Int)==0)=true:=by simp only[beq_iff_eq];omega
 have c3:¬(x.Leaves.any fun n=> !(decide (0≤n)&&decide (n<f.Leaves)))=true:=by
  simp only[List.any_eq_true,not_exists,not_and];intro y hy;have:=a3 y hy;simp[this.1,this.2]
 have c4:¬(x.aO.any fun n=> !(decide (0≤n)&&decide (n<(f.aO.length:Int))))=true:=by
  simp only[List.any_eq_true,not_exists,not_and];intro y hy;have:=b3 y hy;simp[this.1,this.2]
 have c5:¬(!xg x.Leaves)=true:=by rw[LU a4];decide
 have c6:¬(!xg x.aO)=true:=by rw[LU b4];decide
 have c7:¬(x.Leaves.any fun n=>decide (32<(((f.aH.take i).countP fun s=>s.Leaves.contains n:Nat):Int)+1))=true:=by
  simp only[List.any_eq_true,not_exists,not_and,decide_eq_true_eq];intro y hy;have h3:((f.aH.take i).countP fun s=>s.Leaves.contains y)≤(f.aH.take i).length:=List.countP_le_length
  have h4:(f.aH.take i).length≤f.aH.length:=by simp;omega
  omega
 rw[FO,if_neg c1,if_neg c2,if_neg c3,if_neg c4,if_neg c5,if_neg c6,if_neg c7]
theorem Oz:Fa f=.inl ():=by
 have h1:=hv.C3;have hh:=hv.host;refine qO (by simp;omega) (pP fun i h hx=>?_)
 have hi:=(List.getElem?_eq_some_iff.1 hx).1;obtain⟨a1,a2,a3,a4,a5⟩:=hh i h hx;have hf1:=ow (fun x:Host=>(⟨x.BD,x.bV⟩:aM)) f.Hosts i h hx fun j y hj hy e=>by
  have:=(hh j y hy).1;simp only[aM.mk.injEq]at e;omega
 have c1:¬(h.bV==0)=true:=by simp;omega
 have c2:¬decide (281474976710655<h.bV)=true:=by simp;omega
 have c3:¬C1 h.bV=true:=by
  rw[a1];rcases(by omega:i=0∨i=1∨i=2∨i=3∨i=4∨i=5∨i=6∨i=7)with rfl |rfl |rfl |rfl |rfl |rfl |rfl |rfl<;>decide
 have c4:¬(!(decide (0≤h.BD)&&decide (h.BD<(f.aO.length:Int))))=true:=by simp[a2,a3]
 have hsr:h.bh= -1∨0≤h.bh∧h.bh<(f.aH.length:Int):=by
  rcases a4 with e |⟨s,hs,-⟩
  ·exact .inl e
  ·right;unfold ku at hs;split at hs
   ·have:=(List.getElem?_eq_some_iff.1 hs).1;omega
   ·cases hs
 have c5:¬out h.bh (-1) ((f.aH.length:Int) - 1)=true:=by
  simp only[out,Bool.or_eq_true,decide_eq_true_eq,not_or];have:=hv.segments;omega
 have c6:¬(h.bh != -1&& !(Ar f h.bh).any fun x=>h.BD==x)=true:=by
  rcases a4 with e |⟨s,hs,hm⟩
  ·rw[e];simp
  ·have:((Ar f h.bh).any fun x=>h.BD==x)=true:=by
    unfold Ar;rw[hs];simp only[Option.map_some,Option.getD_some,List.any_eq_true];exact⟨h.BD,hm,by simp⟩
   rw[this];simp
 have c7:¬(h.bV==1577058561)=true:=by simp;omega
 have c8:¬uw h.bV=true:=by
  simp only[uw,Bool.and_eq_true,Bool.not_eq_true',decide_eq_false_iff_not,not_and];omega
 have hbd:=hv.ri;have key:h.IP≠0→∃d:Nat,d<4∧h.BD=(d:Int)∧h.IP=167772160+(d:Int)*65536+(10+(i:Int))∧(Ct f h.BD).bk=167772161+(d:Int)*65536∧(Ct f h.BD).bq=⟨167772160+(d:Int)*65536,24⟩:=by
  intro h0;rcases a5 with e |⟨b,hb,hg,e⟩
  ·exact absurd e h0
  ·obtain⟨d,hd⟩:∃d:Nat,h.BD=(d:Int):=⟨h.BD.toNat,by omega⟩
   have hbv:=hv.bd d b (by rw[hd,cR]at hb;exact hb)
   obtain⟨-,-,-,-,e3 |e3⟩:=hbv
   ·exact absurd e3.2 hg
   ·refine⟨d,by omega,hd,?_,?_,?_⟩
    ·rw[e,e3.1]
    ·unfold Ct;rw[hb];exact e3.2
    ·unfold Ct;rw[hb];exact e3.1
 have c9:¬(!mX (Ct f h.BD) h.IP)=true:=by
  by_cases h0:h.IP=0
  ·rw[h0];simp[mX]
  ·obtain⟨d,hd,-,e1,e2,e3⟩:=key h0;rw[mX,e1,e2,e3];have hi8:i<8:=by omega
   clear key a5 a4 c6 c5 hsr c8 c7 c4 c3 c2 c1 hf1 a1 a2 a3 hx hh hbd h1 hv e1 e2 e3 h0;rcases(by omega:d=0∨d=1∨d=2∨d=3)with rfl |rfl |rfl |rfl<;>
    rcases(by omega:i=0∨i=1∨i=2∨i=3∨i=4∨i=5∨i=6∨i=7)with rfl |rfl |rfl |rfl |rfl |rfl |rfl |rfl<;>decide
 have c10:¬(h.IP != 0&&(bM (fun x:Host=>(⟨x.BD,Go.IntKind.wrap .u64 x.IP⟩:aM)) [] f.Hosts).getD i false)=true:=by
  by_cases h0:h.IP=0
  ·rw[h0];simp
  ·obtain⟨d,hd,ed,e1,-,-⟩:=key h0;rw[ow (fun x:Host=>(⟨x.BD,Go.IntKind.wrap .u64 x.IP⟩:aM)) f.Hosts i h hx fun j y hj hy e=>by
    simp only[aM.mk.injEq]at e;obtain⟨eb,ei⟩:=e;obtain⟨-,-,-,-,y5⟩:=hh j y hy;rcases y5 with y5 |⟨b,hb,hg,y5⟩
    ·rw[y5,e1]at ei;rcases(by omega:d=0∨d=1∨d=2∨d=3)with rfl |rfl |rfl |rfl<;>(simp only[Go.IntKind.wrap,Go.IntKind.bits,Go.IntKind.signed]at ei;simp at ei;omega)
    ·have hbv:=hv.bd d b (by rw[eb,ed,cR]at hb;exact hb)
     obtain⟨-,-,-,-,e3 |e3⟩:=hbv
     ·exact absurd e3.2 hg
     ·rw[y5,e3.1,e1]at ei;simp only[Go.IntKind.wrap,Go.IntKind.bits,Go.IntKind.signed]at ei;simp at ei;omega]
   simp
 rw[C2,if_neg c1,if_neg c2,if_neg c3,if_neg c4,if_neg c5,if_neg c6,if_neg c7,if_neg c8,if_neg c9,hf1,if_neg (by decide),if_neg c10]
theorem Nd:vS f=.inl ():=by
 have hL:=hv.leaves;have hS:=hv.Av;have hw:Go.IntKind.wrap .i64 (f.Leaves+f.fD)=f.Leaves+f.fD:=wrap_i64 (by omega) (by omega)
 have e1:=hv.LS;have e2:=hv.FP;have e3:=hv.I9;have:uv f=false:=by
  simp only[uv,out,hw,Bool.or_eq_false_iff,decide_eq_false_iff_not];omega
 rw[vS,this];rfl
theorem Nf:As f=.inl ():=by
 obtain⟨t1,t2,t3,t4,t5,t6,t7,t8⟩:=hv.timers;have:wQ f.bw=false:=by
  simp only[wQ,out,Bool.or_eq_false_iff,decide_eq_false_iff_not];omega
 rw[As,this];rfl
theorem OA:Au f=(0,⟨⟨[]⟩⟩,0):=by
 simp only[Au,Nd hv,Nf hv,Ox hv,LV hv,LW hv,JU hv,Oz hv,Oy hv,xP]
theorem OB:Small f:=by
 refine⟨?_,?_,?_,?_,?_,?_,fun s hs=>?_⟩
 ·have:=hv.links.1;omega
 ·have:=hv.qN;omega
 ·have:=hv.ri;omega
 ·have:=hv.segments;omega
 ·have:=hv.C3;omega
 ·have:=hv.leaks;omega
 ·obtain⟨⟨a1,a2,-⟩,⟨b1,b2,-⟩⟩:=hv.seg s hs;omega
end
end Go.L
end
