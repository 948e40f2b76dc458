/- Parts put together. No conditions. -/
import Derived.Test.YtiohninblcifpaaGreatDoorWb
import Derived.Test.YtiohninblcifpaaGreatDoorAd
import Derived.Test.YtiohninblcifpaaGreatDoorWf
set_option linter.unusedSectionVars false
set_option linter.unusedSimpArgs false
set_option linter.unusedVariables false
set_option maxRecDepth 100000
section
namespace Go.AM
theorem FP{α σ τ ST:Type}{f:ST→Option (ST⊕τ)}(mk:Nat→σ→ST)(l:List α)(S:Nat→σ)(fin:τ)
 (hs:∀i x,l[i]? =some x→f (mk i (S i))=some (.inl (mk (i+1) (S (i+1))))) (he:f (mk l.length (S l.length))=some (.inr fin)) (n:Nat) (hn:l.length<n):dx f n (mk 0 (S 0))=some fin:=by
 have key:∀(k i n:Nat),i+k=l.length→k<n→dx f n (mk i (S i))=some fin:=by
  intro k;induction k with
  |zero=>
   intro i n hi hn;obtain⟨n,rfl⟩:∃m,n=m+1:=⟨n - 1,by omega⟩
   have:i=l.length:=by omega
   subst this;simp only[dx,he]
  |succ k ih=>
   intro i n hi hn;obtain⟨n,rfl⟩:∃m,n=m+1:=⟨n - 1,by omega⟩
   simp only[dx,hs i _ (List.getElem?_eq_getElem (show i<l.length by omega))]
   exact ih (i+1) n (by omega) (by omega)
 exact key l.length 0 n (by omega) hn
def aT{α K:Type}[DecidableEq K](key:α→K):List K→List α→List Bool
 |_,[]=>[]
 |seen,x::xs=>decide (key x∈seen)::aT key (seen++[key x]) xs
section
variable {α K:Type} [DecidableEq K] (key:α→K)
theorem Er:∀(l:List α) (seen:List K) (x:α),aT key seen (l++[x])=aT key seen l++[decide (key x∈seen++l.map key)]
 | [],seen,x=>by simp[aT]
 |y::l,seen,x=>by
  simp only[List.cons_append,aT,Er l,List.map_cons,List.append_assoc,List.nil_append]
theorem fE:∀(l:List α) (seen:List K),(aT key seen l).length=l.length
 | [],_=>rfl
 |_::l,seen=>by simp[aT,fE l]
theorem B3:∀(l:List α) (seen:List K) (i:Nat),(aT key seen l)[i]? =(l[i]?).map fun x=>decide (key x∈seen++(l.take i).map key)
 | [],_,_=>by simp[aT]
 |y::l,seen,0=>by simp[aT]
 |y::l,seen,i+1=>by
  simp only[aT,List.getElem?_cons_succ,B3 l,List.take_succ_cons,List.map_cons,List.append_assoc,List.singleton_append]
variable {eq:K→K→Bool}
def Ac(m:List (K×Bool))(ks:List K):Prop:=(∀p∈m,p.2=true)∧∀k,k∈m.map (·.1)↔k∈ks
theorem B4(heq:∀a b,eq a b=decide (a=b)):∀(m:List (K×Bool)) (k:K) (j i:Nat) (v:Bool),aY eq k m j=some (i,v)→j≤i∧m[i - j]? =some (k,v)
 | [],_,_,_,_,h=>by simp[aY]at h
 |p::ps,k,j,i,v,h=>by
  simp only[aY,heq,decide_eq_true_eq]at h;split at h
  ·rename_i hk;simp only[Option.some.injEq,Prod.mk.injEq]at h;obtain⟨rfl,rfl⟩:=h;exact⟨Nat.le_refl _,by simp[hk]⟩
  ·obtain⟨h1,h2⟩:=B4 heq ps k (j+1) i v h;refine⟨by omega,?_⟩
   rw[show i - j=(i - (j+1))+1 by omega]
   simpa using h2
theorem FQ(heq:∀a b,eq a b=decide (a=b)):∀(m:List (K×Bool)) (k:K) (j:Nat),aY eq k m j=none→k∉m.map (·.1)
 | [],_,_,_=>by simp
 |p::ps,k,j,h=>by
  simp only[aY,heq,decide_eq_true_eq]at h;split at h
  ·cases h
  ·rename_i hk;have:=FQ heq ps k (j+1) h;simp only[List.map_cons,List.mem_cons,not_or];exact⟨hk,this⟩
theorem Ac.get(heq:∀a b,eq a b=decide (a=b)){m:List (K×Bool)}{ks:List K}(h:Ac m ks)(k:K):((aY eq k m 0).map (·.2)).getD false=decide (k∈ks):=by
 cases hf:aY eq k m 0 with
 |none=>
  have:=FQ heq m k 0 hf;rw[h.2]at this;simp[this]
 |some q=>
  obtain⟨i,v⟩:=q;obtain⟨_,h2⟩:=B4 heq m k 0 i v hf;have hm:=List.mem_of_getElem? h2;have hv:=h.1 _ hm;have:k∈ks:=(h.2 k).1 (List.mem_map.2 ⟨_,hm,rfl⟩);simp only at hv;simp[this,hv]
theorem Ac.put(heq:∀a b,eq a b=decide (a=b)){m:List (K×Bool)}{ks:List K}(h:Ac m ks)(k:K):Ac (bN eq k true m) (ks++[k]):=by
 unfold bN;split
 ·rename_i i v hf;obtain⟨_,h2⟩:=B4 heq m k 0 i v hf;rw[Nat.sub_zero]at h2;refine⟨fun p hp=>?_,fun q=>?_⟩
  ·rcases List.mem_or_eq_of_mem_set hp with hp |rfl
   ·exact h.1 p hp
   ·rfl
  ·have hs:(m.set i (k,true)).map (·.1)=m.map (·.1):=by
    rw[List.map_set];apply List.ext_getElem?;intro j;by_cases hj:i=j
    ·subst hj;have hlt:=(List.getElem?_eq_some_iff.1 h2).1;rw[List.getElem?_set_self (by simpa using hlt),List.getElem?_map,h2];rfl
    ·rw[List.getElem?_set_ne hj]
   rw[hs,h.2];have hk:k∈ks:=(h.2 k).1 (List.mem_map.2 ⟨_,List.mem_of_getElem? h2,rfl⟩);simp only[List.mem_append,List.mem_singleton];constructor
   ·exact .inl
   ·rintro(h |rfl)
    ·exact h
    ·exact hk
 ·refine⟨fun p hp=>?_,fun q=>?_⟩
  ·rcases List.mem_append.1 hp with hp |hp
   ·exact h.1 p hp
   ·simp at hp;subst hp;rfl
  ·simp only[List.map_append,List.map_cons,List.map_nil,List.mem_append,h.2 q]
theorem HU(heq:∀a b,eq a b=decide (a=b))(l:List α){f:(Int×List (K×Bool)×List Bool)→Option ((Int×List (K×Bool)×List Bool)⊕(List (K×Bool)×List Bool))}
 (hs:∀(i:Nat) x m t,l[i]? =some x→i<t.length→f ((i:Int),m,t)=some (.inl (((i+1:Nat):Int),bN eq (key x) true m,t.set i (((aY eq (key x) m 0).map (·.2)).getD false))))
 (he:∀m t,f ((l.length:Int),m,t)=some (.inr (m,t))) (n:Nat) (hn:l.length<n):∃m,dx f n (0,[],List.replicate l.length false)=some (m,aT key [] l):=by
 refine⟨l.foldl (fun m x=>bN eq (key x) true m) [],?_⟩
 have hM:∀i,Ac ((l.take i).foldl (fun m x=>bN eq (key x) true m) []) ((l.take i).map key):=by
  have:∀(l:List α) (m:List (K×Bool)) (ks:List K),Ac m ks→Ac (l.foldl (fun m x=>bN eq (key x) true m) m) (ks++l.map key):=by
   intro l;induction l with
   |nil=>intro m ks h;simpa using h
   |cons x xs ih=>
    intro m ks h;have:=ih _ _ (h.put heq (key x));simpa using this
  intro i;simpa using this (l.take i) [] [] ⟨by simp,by simp⟩
 have:=FP (f:=f) (fun i (s:List (K×Bool)×List Bool)=>((i:Int),s.1,s.2)) l
  (fun i=>((l.take i).foldl (fun m x=>bN eq (key x) true m) [],aT key [] (l.take i)++List.replicate (l.length - i) false))
  (l.foldl (fun m x=>bN eq (key x) true m) [],aT key [] l) (fun i x hx=>?_) ?_ n hn
 ·simpa[aT]using this
 ·have hlt:=(List.getElem?_eq_some_iff.1 hx).1;have htake:l.take (i+1)=l.take i++[x]:=by
   rw[List.take_add_one,hx];rfl
  have hfl:(aT key [] (l.take i)).length=i:=by rw[fE];simp;omega
  simp only
  rw[hs i x _ _ hx (by simp[hfl];omega),(hM i).get heq]
  congr 2;refine Prod.ext rfl (Prod.ext ?_ ?_)
  ·simp only[htake,List.foldl_append,List.foldl_cons,List.foldl_nil]
  ·simp only[htake,Er,List.nil_append];rw[List.set_append_right _ _ (by omega),hfl,Nat.sub_self,show l.length - i=(l.length - (i+1))+1 by omega,List.replicate_succ,List.set_cons_zero]
   simp
 ·simp only[List.take_length,Nat.sub_self,List.replicate_zero,List.append_nil];exact he _ _
end
section
variable {α K:Type} [DecidableEq K]
theorem k8(key:α→K){eq:K→K→Bool}(heq:∀a b,eq a b=decide (a=b))(l:List α){f:(Int×List (K×Bool)×List Bool)→Option ((Int×List (K×Bool)×List Bool)⊕(List (K×Bool)×List Bool))}{γ:Type}{k:List (K×Bool)×List Bool→Option γ}{r:Option γ}{n:Nat}(hn:l.length<n)
 (hs:∀(i:Nat) x m t,l[i]? =some x→i<t.length→f ((i:Int),m,t)=some (.inl (((i+1:Nat):Int),bN eq (key x) true m,t.set i (((aY eq (key x) m 0).map (·.2)).getD false))))
 (he:∀m t,f ((l.length:Int),m,t)=some (.inr (m,t))) (hk:∀m,k (m,aT key [] l)=r):(dx f n (0,[],List.replicate l.length false)).bind k=r:=by
 obtain⟨m,hm⟩:=HU key heq l hs he n hn;rw[hm];exact hk m
end
def bE{α:Type}(E:Nat→α→Int):Nat→List α→Option (Int×Nat)
 |_,[]=>none
 |i,x::xs=>if E i x≠0 then some (E i x,i)else bE E (i+1) xs
theorem Kq{α τ:Type}{f:Int→Option (Int⊕τ)}(l:List α)(E:Nat→α→Int)(bad:Nat→Int→τ)(fin:τ)
 (hs:∀(i:Nat) x,l[i]? =some x→f (i:Int)=some (if E i x≠0 then .inr (bad i (E i x))else .inl ((i+1:Nat):Int))) (he:f (l.length:Int)=some (.inr fin)) (n:Nat) (hn:l.length<n):
 dx f n 0=some (match bE E 0 l with |none=>fin |some (e,i)=>bad i e):=by
 have:=LZ (f:=f) (fun i (_:Unit)=>(i:Int)) (fun i x (_:Unit)=>if E i x≠0 then Sum.inr (bad i (E i x))else Sum.inl ()) (fun _=>fin) l
  (fun i x s hx=>by rw[hs i x hx];split<;>rfl) (fun _=>he) n () hn
 have key:∀(l:List α) (i:Nat),(match scan (fun i x (_:Unit)=>if E i x≠0 then Sum.inr (bad i (E i x))else Sum.inl ()) i l ()with | .inl _=>fin | .inr t=>t)=(match bE E i l with |none=>fin |some (e,i)=>bad i e):=by
  intro l;induction l with
  |nil=>intro i;rfl
  |cons x xs ih=>
   intro i;simp only[scan,bE];by_cases h:E i x≠0
   ·simp only[if_pos h]
   ·simp only[if_neg h];exact ih (i+1)
 rw[← key l 0];simp only[Int.natCast_zero]at this;rw[this];cases scan (fun i x (_:Unit)=>if E i x≠0 then Sum.inr (bad i (E i x))else Sum.inl ()) 0 l ()<;>rfl
theorem sU{α τ γ:Type}{f:Int→Option (Int⊕τ)}(l:List α)(E:Nat→α→Int)(bad:Nat→Int→τ)(fin:τ){k:τ→Option γ}{r:Option γ}{n:Nat}(hn:l.length<n)
 (hs:∀(i:Nat) x,l[i]? =some x→f (i:Int)=some (if E i x≠0 then .inr (bad i (E i x))else .inl ((i+1:Nat):Int))) (he:f (l.length:Int)=some (.inr fin))
 (hk:(match bE E 0 l with |none=>k fin |some (e,i)=>k (bad i e))=r):(dx f n 0).bind k=r:=by
 rw[Kq l E bad fin hs he n hn,← hk];cases bE E 0 l with
 |none=>rfl
 |some p=>rfl
theorem AE{α τ γ ST:Type}{f:ST→Option (ST⊕τ)}(mk:Nat→ST)(l:List α)(E:Nat→α→Int){k:τ→Option γ}(bad:Nat→Int→Option γ)(fin:Option γ){n:Nat}(hn:l.length<n)
 (hb:∀(i:Nat) x,l[i]? =some x→(∀(j:Nat) y,j<i→l[j]? =some y→E j y=0)→E i x≠0→∃t,f (mk i)=some (.inr t)∧k t=bad i (E i x))
 (hg:∀(i:Nat) x,l[i]? =some x→(∀(j:Nat) y,j<i→l[j]? =some y→E j y=0)→E i x=0→f (mk i)=some (.inl (mk (i+1))))
 (he:(∀(j:Nat) y,l[j]? =some y→E j y=0)→∃t,f (mk l.length)=some (.inr t)∧k t=fin):
 (dx f n (mk 0)).bind k=(match bE E 0 l with |none=>fin |some (e,i)=>bad i e):=by
 have key:∀(m i n:Nat),i+m=l.length→m<n→(∀(j:Nat) y,j<i→l[j]? =some y→E j y=0)→(dx f n (mk i)).bind k=(match bE E i (l.drop i)with |none=>fin |some (e,i)=>bad i e):=by
  intro m;induction m with
  |zero=>
   intro i n hi hn hp;obtain⟨n,rfl⟩:∃m,n=m+1:=⟨n - 1,by omega⟩
   have:i=l.length:=by omega
   subst this;obtain⟨t,h1,h2⟩:=he fun j y hj=>hp j y (List.getElem?_eq_some_iff.1 hj).1 hj
   simp only[dx,h1,Option.bind_some,h2,List.drop_length,bE]
  |succ m ih=>
   intro i n hi hn hp;obtain⟨n,rfl⟩:∃m,n=m+1:=⟨n - 1,by omega⟩
   have hlt:i<l.length:=by omega
   have hx:=List.getElem?_eq_getElem hlt;rw[List.drop_eq_getElem_cons hlt];simp only[bE];by_cases hE:E i l[i]=0
   ·rw[if_neg (by simpa using hE)]
    simp only[dx,hg i _ hx hp hE];refine ih (i+1) n (by omega) (by omega) fun j y hj hy=>?_
    by_cases hji:j=i
    ·subst hji;rw[hx]at hy;cases hy;exact hE
    ·exact hp j y (by omega) hy
   ·rw[if_pos hE];obtain⟨t,h1,h2⟩:=hb i _ hx hp hE;simp only[dx,h1,Option.bind_some,h2]
 have:=key l.length 0 n (by omega) hn fun j y hj=>absurd hj (by omega)
 simpa using this
theorem qC{α:Type}{E:Nat→α→Int}:∀(l:List α) (i:Nat),bE E i l=none↔∀(j:Nat) x,l[j]? =some x→E (i+j) x=0
 | [],i=>by simp[bE]
 |x::xs,i=>by
  simp only[bE];constructor
  ·intro h;split at h
   ·cases h
   ·rename_i h0;have ih:=(qC xs (i+1)).1 h;intro j y hj;cases j with
    |zero=>simp at hj;subst hj;simpa using h0
    |succ j=>have:=ih j y (by simpa using hj);rw[show i+(j+1)=i+1+j by omega];exact this
  ·intro h;have h0:=h 0 x rfl;simp only[Nat.add_zero]at h0;rw[if_neg (by simpa using h0)]
   exact(qC xs (i+1)).2 fun j y hj=>by
    have:=h (j+1) y (by simpa using hj)
    rw[show i+1+j=i+(j+1)by omega];exact this
theorem C6{α:Type}(p:α→Bool):∀(l:List α) (j:Nat),bE (fun _ x=>if p x=true then 1 else 0) j l=(l.findIdx? p).map fun i=>(1,i+j)
 | [],_=>rfl
 |x::xs,j=>by
  simp only[bE,List.findIdx?_cons];cases h:p x with
  |true=>simp
  |false=>
   simp only[Bool.false_eq_true,if_false,ne_eq,not_true_eq_false,C6 p xs (j+1),Option.map_map];congr 1;funext i;simp[Nat.add_assoc,Nat.add_comm 1]
theorem sV{α γ:Type}(l:List α)(p:α→Bool){f:Int→Option (Int⊕(Int⊕Unit))}{k:Int⊕Unit→Option γ}{r:Option γ}{n:Nat}(hn:l.length<n)
 (hs:∀(i:Nat) x,l[i]? =some x→f (i:Int)=some (if p x=true then .inr (.inl (i:Int))else .inl ((i+1:Nat):Int))) (he:f (l.length:Int)=some (.inr (.inr ())))
 (hk:k (match l.findIdx? p with |some i=>.inl (i:Int) |none=>.inr ())=r):(dx f n 0).bind k=r:=by
 refine sU l (fun _ x=>if p x=true then 1 else 0) (fun i _=>.inl (i:Int)) (.inr ()) hn (fun i x hx=>?_) he ?_
 ·rw[hs i x hx];cases p x<;>simp
 ·rw[C6,← hk];cases l.findIdx? p with
  |none=>rfl
  |some i=>rfl
def idxOf{α:Type}(p:α→Bool)(l:List α):Int:=match l.findIdx? p with
 |some i=>(i:Int)
 |none=> -1
theorem uJ{α:Type}(p:α→Bool)(l:List α):decide (idxOf p l≥0)=l.any p:=by
 unfold idxOf;cases h:l.findIdx? p with
 |none=>
  rw[List.findIdx?_eq_none_iff]at h;have:l.any p=false:=by rw[List.any_eq_false];intro x hx;simp[h x hx]
  rw[this];rfl
 |some i=>
  have:l.any p=true:=by
   have h2:=List.findIdx?_eq_some_iff_getElem.1 h;obtain⟨hlt,hp,_⟩:=h2;exact List.any_eq_true.2 ⟨_,List.getElem_mem hlt,hp⟩
  rw[this];simp
theorem sk{X β:Type}(l:List X)(enc:X→List AVal)(n b aq i o:Nat)(y:X→X)(k:X→Option β):(zW l enc n b aq i o y).run.bind k=(l[i]?).bind k:=rfl
end Go.AM
namespace Go.L
open Go.AM
section leaves
variable {β:Type} (n:Nat)
theorem iz(x lo hi:Int)(k:cH.sh.El→Option β):(cH.S n (x,lo,hi)).bind k=k (decide (x<lo)||decide (hi<x)):=by
 have:cH.S n (x,lo,hi)=some (decide (x<lo)||decide (hi<x)):=by
  show(um x lo hi).run n=_;simp only[um,G.run,aN];by_cases h:x<lo<;>simp[h]<;>rfl
 rw[this];rfl
theorem eZ(b:Bool)(e:Int)(p:ByteArray)(i:Int)(k:aD.sh.El→Option β):(aD.S n (b,e,p,i)).bind k=if b=true then k (.inr (e,p,i))else k (.inl ()):=by
 have:aD.S n (b,e,p,i)=some (if b=true then Sum.inr (e,p,i)else Sum.inl ()):=by
  show(xP b e p i).run n=_;simp only[xP,G.run,aN];cases b<;>simp<;>rfl
 rw[this];cases b<;>rfl
theorem jV(x m:Int)(k:ez.sh.El→Option β):(ez.S n (x,m)).bind k=k (decide (0≤x)&&decide (x<m)):=by
 have:ez.S n (x,m)=some (decide (0≤x)&&decide (x<m)):=by
  show(jJ x m).run n=_;simp only[jJ,G.run,aN];by_cases h:0≤x<;>simp[h]<;>rfl
 rw[this];rfl
end leaves
instance :DecidableEq (V2 Int):=fun a b=>decidable_of_iff (a.a0=b.a0∧a.a1=b.a1) ⟨fun h=>by cases a;cases b;simp_all,fun h=>by simp[h]⟩
instance :DecidableEq af:=fun a b=>decidable_of_iff (a.IP=b.IP∧a.Len=b.Len) ⟨fun h=>by cases a;cases b;simp_all,fun h=>by simp[h]⟩
instance :DecidableEq aL:=fun a b=>decidable_of_iff (a.bd=b.bd∧a.addr=b.addr) ⟨fun h=>by cases a;cases b;simp_all,fun h=>by simp[h]⟩
instance :DecidableEq bS:=fun a b=>decidable_of_iff (a.From=b.From∧a.To=b.To∧a.af=b.af) ⟨fun h=>by cases a;cases b;simp_all,fun h=>by simp[h]⟩
theorem Kr{β:Type}(n:Nat)(x:au)(k:nS.sh.El→Option β):(nS.S n x).bind k=k (x.aZ):=rfl
theorem Bf{β:Type}(n:Nat)(l:List au)(hn:l.length<n)(hs:l.length≤4000)(k:gJ.sh.El→Option β):
 (gJ.S n l).bind k=k (aT (fun x:au=>x.aZ) [] l):=by
 have:gJ.S n l=some (aT (fun x:au=>x.aZ) [] l):=by
  show(jK l).run n=_;have hroom:roomy (Int.toNat (l.length:Int)) 1=true:=by simp[roomy];omega
  simp only[jK,G.run,aN,bu,pK,bF,nN,nO,mG,sk,Kr,if_true,Int.toNat_natCast];rw[if_pos ⟨by omega,by simpa using hroom⟩]
  refine k8 (fun x:au=>x.aZ) (eq:=fun a b=>(a==b&&true)) (fun a b=>?_) l hn (fun i x m t hx ht=>?_) (fun m t=>?_) (fun m=>?_)
  ·rw[Bool.eq_iff_iff];simp
  ·have hi:=(List.getElem?_eq_some_iff.1 hx).1;have h1:(0:Int)≤i∧(i:Int)<((List.replicate l.length false).length:Nat):=by simp;omega
   obtain⟨y,hy⟩:∃y,t[i]? =some y:=⟨_,List.getElem?_eq_getElem ht⟩;simp only[bq,hx,Option.bind_some,Int.toNat_natCast,hy,h1,and_self,if_true,bL (show i<9223372036854775807 by omega)]
   simp[hi];rfl
  ·simp;rfl
  ·simp[fC,fE];rfl
 rw[this];rfl
theorem GC{β:Type}(n:Nat)(x:au)(k:lq.sh.El→Option β):(lq.S n x).bind k=k (x.Target):=rfl
theorem zL{β:Type}(n:Nat)(l:List au)(hn:l.length<n)(hs:l.length≤4000)(k:gz.sh.El→Option β):
 (gz.S n l).bind k=k (aT (fun x:au=>x.Target) [] l):=by
 have:gz.S n l=some (aT (fun x:au=>x.Target) [] l):=by
  show(jh l).run n=_;have hroom:roomy (Int.toNat (l.length:Int)) 1=true:=by simp[roomy];omega
  simp only[jh,G.run,aN,bu,pK,bF,nN,nO,mG,sk,GC,if_true,Int.toNat_natCast];rw[if_pos ⟨by omega,by simpa using hroom⟩]
  refine k8 (fun x:au=>x.Target) (eq:=fun a b=>(a==b&&true)) (fun a b=>?_) l hn (fun i x m t hx ht=>?_) (fun m t=>?_) (fun m=>?_)
  ·rw[Bool.eq_iff_iff];simp
  ·have hi:=(List.getElem?_eq_some_iff.1 hx).1;have h1:(0:Int)≤i∧(i:Int)<((List.replicate l.length false).length:Nat):=by simp;omega
   obtain⟨y,hy⟩:∃y,t[i]? =some y:=⟨_,List.getElem?_eq_getElem ht⟩;simp only[bq,hx,Option.bind_some,Int.toNat_natCast,hy,h1,and_self,if_true,bL (show i<9223372036854775807 by omega)]
   simp[hi];rfl
  ·simp;rfl
  ·simp[fC,fE];rfl
 rw[this];rfl
theorem Ks{β:Type}(n:Nat)(x:BD)(k:rI.sh.El→Option β):(rI.S n x).bind k=k (x.aZ):=rfl
theorem DX{β:Type}(n:Nat)(l:List BD)(hn:l.length<n)(hs:l.length≤4000)(k:ja.sh.El→Option β):
 (ja.S n l).bind k=k (aT (fun x:BD=>x.aZ) [] l):=by
 have:ja.S n l=some (aT (fun x:BD=>x.aZ) [] l):=by
  show(lH l).run n=_;have hroom:roomy (Int.toNat (l.length:Int)) 1=true:=by simp[roomy];omega
  simp only[lH,G.run,aN,bu,pK,bF,nN,nO,mG,sk,Ks,if_true,Int.toNat_natCast];rw[if_pos ⟨by omega,by simpa using hroom⟩]
  refine k8 (fun x:BD=>x.aZ) (eq:=fun a b=>(a==b&&true)) (fun a b=>?_) l hn (fun i x m t hx ht=>?_) (fun m t=>?_) (fun m=>?_)
  ·rw[Bool.eq_iff_iff];simp
  ·have hi:=(List.getElem?_eq_some_iff.1 hx).1;have h1:(0:Int)≤i∧(i:Int)<((List.replicate l.length false).length:Nat):=by simp;omega
   obtain⟨y,hy⟩:∃y,t[i]? =some y:=⟨_,List.getElem?_eq_getElem ht⟩;simp only[bq,hx,Option.bind_some,Int.toNat_natCast,hy,h1,and_self,if_true,bL (show i<9223372036854775807 by omega)]
   simp[hi];rfl
  ·simp;rfl
  ·simp[fC,fE];rfl
 rw[this];rfl
theorem GD{β:Type}(n:Nat)(x:BD)(k:o7.sh.El→Option β):(o7.S n x).bind k=k (x.Target):=rfl
theorem Cl{β:Type}(n:Nat)(l:List BD)(hn:l.length<n)(hs:l.length≤4000)(k:ic.sh.El→Option β):
 (ic.S n l).bind k=k (aT (fun x:BD=>x.Target) [] l):=by
 have:ic.S n l=some (aT (fun x:BD=>x.Target) [] l):=by
  show(kr l).run n=_;have hroom:roomy (Int.toNat (l.length:Int)) 1=true:=by simp[roomy];omega
  simp only[kr,G.run,aN,bu,pK,bF,nN,nO,mG,sk,GD,if_true,Int.toNat_natCast];rw[if_pos ⟨by omega,by simpa using hroom⟩]
  refine k8 (fun x:BD=>x.Target) (eq:=fun a b=>(a==b&&true)) (fun a b=>?_) l hn (fun i x m t hx ht=>?_) (fun m t=>?_) (fun m=>?_)
  ·rw[Bool.eq_iff_iff];simp
  ·have hi:=(List.getElem?_eq_some_iff.1 hx).1;have h1:(0:Int)≤i∧(i:Int)<((List.replicate l.length false).length:Nat):=by simp;omega
   obtain⟨y,hy⟩:∃y,t[i]? =some y:=⟨_,List.getElem?_eq_getElem ht⟩;simp only[bq,hx,Option.bind_some,Int.toNat_natCast,hy,h1,and_self,if_true,bL (show i<9223372036854775807 by omega)]
   simp[hi];rfl
  ·simp;rfl
  ·simp[fC,fE];rfl
 rw[this];rfl
theorem Ph{β:Type}(n:Nat)(x:Host)(k:mX.sh.El→Option β):(mX.S n x).bind k=k ((⟨x.BD,x.aS⟩:aL)):=rfl
theorem yB{β:Type}(n:Nat)(l:List Host)(hn:l.length<n)(hs:l.length≤4000)(k:gd.sh.El→Option β):
 (gd.S n l).bind k=k (aT (fun x:Host=>(⟨x.BD,x.aS⟩:aL)) [] l):=by
 have:gd.S n l=some (aT (fun x:Host=>(⟨x.BD,x.aS⟩:aL)) [] l):=by
  show(iD l).run n=_;have hroom:roomy (Int.toNat (l.length:Int)) 1=true:=by simp[roomy];omega
  simp only[iD,G.run,aN,bu,pK,bF,nN,nO,mG,sk,Ph,if_true,Int.toNat_natCast];rw[if_pos ⟨by omega,by simpa using hroom⟩]
  refine k8 (fun x:Host=>(⟨x.BD,x.aS⟩:aL)) (eq:=fun a b=>(a.bd==b.bd&&(a.addr==b.addr&&true))) (fun a b=>?_) l hn (fun i x m t hx ht=>?_) (fun m t=>?_) (fun m=>?_)
  ·rw[Bool.eq_iff_iff];cases a;cases b;simp
  ·have hi:=(List.getElem?_eq_some_iff.1 hx).1;have h1:(0:Int)≤i∧(i:Int)<((List.replicate l.length false).length:Nat):=by simp;omega
   obtain⟨y,hy⟩:∃y,t[i]? =some y:=⟨_,List.getElem?_eq_getElem ht⟩;simp only[bq,hx,Option.bind_some,Int.toNat_natCast,hy,h1,and_self,if_true,bL (show i<9223372036854775807 by omega)]
   simp[hi];rfl
  ·simp;rfl
  ·simp[fC,fE];rfl
 rw[this];rfl
theorem Pj{β:Type}(n:Nat)(x:Host)(k:mY.sh.El→Option β):(mY.S n x).bind k=k ((⟨x.BD,(IntKind.wrap .u64 x.IP)⟩:aL)):=rfl
theorem xI{β:Type}(n:Nat)(l:List Host)(hn:l.length<n)(hs:l.length≤4000)(k:fO.sh.El→Option β):
 (fO.S n l).bind k=k (aT (fun x:Host=>(⟨x.BD,(IntKind.wrap .u64 x.IP)⟩:aL)) [] l):=by
 have:fO.S n l=some (aT (fun x:Host=>(⟨x.BD,(IntKind.wrap .u64 x.IP)⟩:aL)) [] l):=by
  show(gV l).run n=_;have hroom:roomy (Int.toNat (l.length:Int)) 1=true:=by simp[roomy];omega
  simp only[gV,G.run,aN,bu,pK,bF,nN,nO,mG,sk,Pj,if_true,Int.toNat_natCast];rw[if_pos ⟨by omega,by simpa using hroom⟩]
  refine k8 (fun x:Host=>(⟨x.BD,(IntKind.wrap .u64 x.IP)⟩:aL)) (eq:=fun a b=>(a.bd==b.bd&&(a.addr==b.addr&&true))) (fun a b=>?_) l hn (fun i x m t hx ht=>?_) (fun m t=>?_) (fun m=>?_)
  ·rw[Bool.eq_iff_iff];cases a;cases b;simp
  ·have hi:=(List.getElem?_eq_some_iff.1 hx).1;have h1:(0:Int)≤i∧(i:Int)<((List.replicate l.length false).length:Nat):=by simp;omega
   obtain⟨y,hy⟩:∃y,t[i]? =some y:=⟨_,List.getElem?_eq_getElem ht⟩;simp only[bq,hx,Option.bind_some,Int.toNat_natCast,hy,h1,and_self,if_true,bL (show i<9223372036854775807 by omega)]
   simp[hi];rfl
  ·simp;rfl
  ·simp[fC,fE];rfl
 rw[this];rfl
theorem Pk{β:Type}(n:Nat)(x:bS)(k:mZ.sh.El→Option β):(mZ.S n x).bind k=k (x):=rfl
theorem DY{β:Type}(n:Nat)(l:List bS)(hn:l.length<n)(hs:l.length≤4000)(k:je.sh.El→Option β):
 (je.S n l).bind k=k (aT (fun x:bS=>x) [] l):=by
 have:je.S n l=some (aT (fun x:bS=>x) [] l):=by
  show(lM l).run n=_;have hroom:roomy (Int.toNat (l.length:Int)) 1=true:=by simp[roomy];omega
  simp only[lM,G.run,aN,bu,pK,bF,nN,nO,mG,sk,Pk,if_true,Int.toNat_natCast];rw[if_pos ⟨by omega,by simpa using hroom⟩]
  refine k8 (fun x:bS=>x) (eq:=fun a b=>(a.From==b.From&&(a.To==b.To&&(a.af.IP==b.af.IP&&(a.af.Len==b.af.Len&&true))))) (fun a b=>?_) l hn (fun i x m t hx ht=>?_) (fun m t=>?_) (fun m=>?_)
  ·rw[Bool.eq_iff_iff];rcases a with⟨_,_,⟨_,_⟩⟩;rcases b with⟨_,_,⟨_,_⟩⟩;simp
  ·have hi:=(List.getElem?_eq_some_iff.1 hx).1;have h1:(0:Int)≤i∧(i:Int)<((List.replicate l.length false).length:Nat):=by simp;omega
   obtain⟨y,hy⟩:∃y,t[i]? =some y:=⟨_,List.getElem?_eq_getElem ht⟩;simp only[bq,hx,Option.bind_some,Int.toNat_natCast,hy,h1,and_self,if_true,bL (show i<9223372036854775807 by omega)]
   simp[hi];rfl
  ·simp;rfl
  ·simp[fC,fE];rfl
 rw[this];rfl
theorem Pm{β:Type}(n:Nat)(x:cE)(k:mT.sh.El→Option β):(mT.S n x).bind k=k ((⟨x.A,x.B⟩:V2 Int)):=rfl
theorem C7{β:Type}(n:Nat)(l:List cE)(hn:l.length<n)(hs:l.length≤4000)(k:iH.sh.El→Option β):
 (iH.S n l).bind k=k (aT (fun x:cE=>(⟨x.A,x.B⟩:V2 Int)) [] l):=by
 have:iH.S n l=some (aT (fun x:cE=>(⟨x.A,x.B⟩:V2 Int)) [] l):=by
  show(kT l).run n=_;have hroom:roomy (Int.toNat (l.length:Int)) 1=true:=by simp[roomy];omega
  simp only[kT,G.run,aN,bu,pK,bF,nN,nO,mG,sk,Pm,if_true,Int.toNat_natCast];rw[if_pos ⟨by omega,by simpa using hroom⟩]
  refine k8 (fun x:cE=>(⟨x.A,x.B⟩:V2 Int)) (eq:=fun a b=>(a.a0==b.a0&&(a.a1==b.a1&&true))) (fun a b=>?_) l hn (fun i x m t hx ht=>?_) (fun m t=>?_) (fun m=>?_)
  ·rw[Bool.eq_iff_iff];cases a;cases b;simp
  ·have hi:=(List.getElem?_eq_some_iff.1 hx).1;have h1:(0:Int)≤i∧(i:Int)<((List.replicate l.length false).length:Nat):=by simp;omega
   obtain⟨y,hy⟩:∃y,t[i]? =some y:=⟨_,List.getElem?_eq_getElem ht⟩;simp only[bq,hx,Option.bind_some,Int.toNat_natCast,hy,h1,and_self,if_true,bL (show i<9223372036854775807 by omega)]
   simp[hi];rfl
  ·simp;rfl
  ·simp[fC,fE];rfl
 rw[this];rfl
end Go.L
namespace Go.L
open Go.AM
def outcome(part:ByteArray)(most:Int)(full:Bool)(r:Option (Int×Nat)):Unit⊕(Int×ByteArray×Int):=
 if full=true then .inr (7,part,most)else match r with
 |none=>.inl ()
 |some (e,i)=>.inr (e,part,(i:Int))
def C8:ByteArray:=⟨⟨[108,105,110,107,115]⟩⟩
def vF(f:av)(fl:List Bool)(i:Nat)(x:cE):Int:=
 if(decide (0≤x.A)&&decide (x.A<f.Leaves))=true then
  if decide (x.B≥f.Leaves)=true then
   if(!decide (x.B<IntKind.wrap .i64 (f.Leaves+f.cO)))=true then 2
   else if(decide (x.wm<1)||decide (1000<x.wm))=true then 2
   else if fl.getD i false=true then 11 else 0
  else 2
 else 2
theorem Pn(n:Nat)(f:av)(hn:f.Links.length<n)(hs:f.Links.length≤128∨128<f.Links.length):
 kM.S n ⟨f⟩=some (outcome C8 128 (decide (128<(f.Links.length:Int))) (bE (vF f (aT (fun x:cE=>(⟨x.A,x.B⟩:V2 Int)) [] f.Links)) 0 f.Links)):=by
 show(ov ⟨f⟩).run n=_;simp only[ov,G.run,aN,bu,eZ,Sum.elim,gt_iff_lt,decide_eq_true_eq];by_cases hfull:(128:Int)<f.Links.length
 ·simp[hfull,outcome];rfl
 ·simp only[hfull,if_false,decide_false];rw[C7 n f.Links hn (by omega)]
  simp only[G.run,aN,bu,if_true,bF,jV,iz,eZ,Sum.elim];refine sU f.Links (vF f (aT (fun x:cE=>(⟨x.A,x.B⟩:V2 Int)) [] f.Links)) (fun i e=>Sum.inl (e,C8,(i:Int))) (Sum.inr ()) hn (fun i x hx=>?_) ?_ ?_
  ·have hi:=(List.getElem?_eq_some_iff.1 hx).1;obtain⟨y,hy⟩:∃y,(aT (fun x:cE=>(⟨x.A,x.B⟩:V2 Int)) [] f.Links)[i]? =some y:=⟨_,List.getElem?_eq_getElem (by rw[fE];exact hi)⟩
   have hlt:(i:Int)<f.Links.length:=by omega
   simp only[bq,hx,Option.bind_some,hlt,decide_true,if_true,hy,vF,List.getD_eq_getElem?_getD,Option.getD_some,bL (show i<9223372036854775807 by omega)]
   repeat' split
   all_goals first |rfl | (simp_all<;>omega)
  ·simp;rfl
  ·cases bE (vF f (aT (fun x:cE=>(⟨x.A,x.B⟩:V2 Int)) [] f.Links)) 0 f.Links with
   |none=>rfl
   |some p=>rfl
end Go.L
namespace Go.L
open Go.AM
theorem Po{β:Type}(n:Nat)(x:au)(v:Int)(k:ku.sh.El→Option β):(ku.S n (x,v)).bind k=k (x.aZ==v):=rfl
theorem Kt{β:Type}(n:Nat)(x:au)(v:Int)(k:jM.sh.El→Option β):(jM.S n (x,v)).bind k=k (x.Target==v):=rfl
theorem JC{β:Type}(n:Nat)(l:List au)(v:Int)(hn:l.length<n)(hs:l.length≤4000)(k:gA.sh.El→Option β):
 (gA.S n (l,v)).bind k=k (idxOf (fun x:au=>x.aZ==v) l):=by
 have:gA.S n (l,v)=some (idxOf (fun x:au=>x.aZ==v) l):=by
  show(ji l v).run n=_;simp only[ji,G.run,aN,bu,bF,Po,if_true];refine sV l (fun x:au=>x.aZ==v) hn (fun i x hx=>?_) ?_ ?_
  ·have hi:=(List.getElem?_eq_some_iff.1 hx).1;have hlt:(i:Int)<l.length:=by omega
   simp only[bq,hx,Option.bind_some,hlt,decide_true,if_true,bL (show i<9223372036854775807 by omega)]
   split<;>rfl
  ·simp;rfl
  ·unfold idxOf;cases l.findIdx? (fun x:au=>x.aZ==v)<;>rfl
 rw[this];rfl
theorem FR{β:Type}(n:Nat)(l:List au)(v:Int)(hn:l.length<n)(hs:l.length≤4000)(k:fT.sh.El→Option β):
 (fT.S n (l,v)).bind k=k (l.any (fun x:au=>x.aZ==v)):=by
 have:fT.S n (l,v)=some (l.any (fun x:au=>x.aZ==v)):=by
  show(ig l v).run n=_;simp only[ig,G.run,aN,if_true];rw[JC n l v hn hs];simp only[uJ];rfl
 rw[this];rfl
theorem Mn{β:Type}(n:Nat)(l:List au)(v:Int)(hn:l.length<n)(hs:l.length≤4000)(k:jb.sh.El→Option β):(jb.S n (l,v)).bind k=k (l.any (fun x:au=>x.aZ==v)):=by
 have:jb.S n (l,v)=some (l.any (fun x:au=>x.aZ==v)):=by
  show(lI l v).run n=_;simp only[lI,G.run,aN,if_true];rw[FR n l v hn hs];rfl
 rw[this];rfl
theorem FT{β:Type}(n:Nat)(l:List au)(v:Int)(hn:l.length<n)(hs:l.length≤4000)(k:gb.sh.El→Option β):
 (gb.S n (l,v)).bind k=k (idxOf (fun x:au=>x.Target==v) l):=by
 have:gb.S n (l,v)=some (idxOf (fun x:au=>x.Target==v) l):=by
  show(iC l v).run n=_;simp only[iC,G.run,aN,bu,bF,Kt,if_true];refine sV l (fun x:au=>x.Target==v) hn (fun i x hx=>?_) ?_ ?_
  ·have hi:=(List.getElem?_eq_some_iff.1 hx).1;have hlt:(i:Int)<l.length:=by omega
   simp only[bq,hx,Option.bind_some,hlt,decide_true,if_true,bL (show i<9223372036854775807 by omega)]
   split<;>rfl
  ·simp;rfl
  ·unfold idxOf;cases l.findIdx? (fun x:au=>x.Target==v)<;>rfl
 rw[this];rfl
theorem C9{β:Type}(n:Nat)(l:List au)(v:Int)(hn:l.length<n)(hs:l.length≤4000)(k:fH.sh.El→Option β):
 (fH.S n (l,v)).bind k=k (l.any (fun x:au=>x.Target==v)):=by
 have:fH.S n (l,v)=some (l.any (fun x:au=>x.Target==v)):=by
  show(gN l v).run n=_;simp only[gN,G.run,aN,if_true];rw[FT n l v hn hs];simp only[uJ];rfl
 rw[this];rfl
theorem HV{β:Type}(n:Nat)(l:List au)(v:Int)(hn:l.length<n)(hs:l.length≤4000)(k:ij.sh.El→Option β):(ij.S n (l,v)).bind k=k (l.any (fun x:au=>x.Target==v)):=by
 have:ij.S n (l,v)=some (l.any (fun x:au=>x.Target==v)):=by
  show(kA l v).run n=_;simp only[kA,G.run,aN,if_true];rw[C9 n l v hn hs];rfl
 rw[this];rfl
theorem Pp{β:Type}(n:Nat)(x:Int)(x2:Int)(x3:Int)(x4:List cE)(x5:List au)(x6:List BD)(x7:List aU)(x8:List Host)(x9:List bS)(x10:Int)(x11:Int)(x12:Int)(x13:Bool)(x14:Bool)(x15:Int)(x16:Int)(x17:Int)(x18:Int)(x19:Int)(x20:Int)(k:iJ.sh.El→Option β):(iJ.S n (x,x2,x3,x4,x5,x6,x7,x8,x9,x10,x11,x12,x13,x14,x15,x16,x17,x18,x19,x20)).bind k=k ((fun x:Int=> !(decide (0≤x)&&decide (x<x2))) x):=by
 have:iJ.S n (x,x2,x3,x4,x5,x6,x7,x8,x9,x10,x11,x12,x13,x14,x15,x16,x17,x18,x19,x20)=some ((fun x:Int=> !(decide (0≤x)&&decide (x<x2))) x):=by
  show(kW x x2 x3 x4 x5 x6 x7 x8 x9 x10 x11 x12 x13 x14 x15 x16 x17 x18 x19 x20).run n=_;simp only[kW,G.run,aN,bu,jV,if_true];rfl
 rw[this];rfl
theorem JD{β:Type}(n:Nat)(l:List Int)(x2:Int)(x3:Int)(x4:List cE)(x5:List au)(x6:List BD)(x7:List aU)(x8:List Host)(x9:List bS)(x10:Int)(x11:Int)(x12:Int)(x13:Bool)(x14:Bool)(x15:Int)(x16:Int)(x17:Int)(x18:Int)(x19:Int)(x20:Int)(hn:l.length<n)(hs:l.length≤4000)(k:jd.sh.El→Option β):
 (jd.S n (l,x2,x3,x4,x5,x6,x7,x8,x9,x10,x11,x12,x13,x14,x15,x16,x17,x18,x19,x20)).bind k=k (idxOf (fun x:Int=> !(decide (0≤x)&&decide (x<x2))) l):=by
 have:jd.S n (l,x2,x3,x4,x5,x6,x7,x8,x9,x10,x11,x12,x13,x14,x15,x16,x17,x18,x19,x20)=some (idxOf (fun x:Int=> !(decide (0≤x)&&decide (x<x2))) l):=by
  show(lK l x2 x3 x4 x5 x6 x7 x8 x9 x10 x11 x12 x13 x14 x15 x16 x17 x18 x19 x20).run n=_;simp only[lK,G.run,aN,bu,bF,Pp,if_true];refine sV l (fun x:Int=> !(decide (0≤x)&&decide (x<x2))) hn (fun i x hx=>?_) ?_ ?_
  ·have hi:=(List.getElem?_eq_some_iff.1 hx).1;have hlt:(i:Int)<l.length:=by omega
   simp only[bq,hx,Option.bind_some,hlt,decide_true,if_true,bL (show i<9223372036854775807 by omega)]
   split<;>rfl
  ·simp;rfl
  ·unfold idxOf;cases l.findIdx? (fun x:Int=> !(decide (0≤x)&&decide (x<x2)))<;>rfl
 rw[this];rfl
theorem FU{β:Type}(n:Nat)(l:List Int)(x2:Int)(x3:Int)(x4:List cE)(x5:List au)(x6:List BD)(x7:List aU)(x8:List Host)(x9:List bS)(x10:Int)(x11:Int)(x12:Int)(x13:Bool)(x14:Bool)(x15:Int)(x16:Int)(x17:Int)(x18:Int)(x19:Int)(x20:Int)(hn:l.length<n)(hs:l.length≤4000)(k:gQ.sh.El→Option β):
 (gQ.S n (l,x2,x3,x4,x5,x6,x7,x8,x9,x10,x11,x12,x13,x14,x15,x16,x17,x18,x19,x20)).bind k=k (l.any (fun x:Int=> !(decide (0≤x)&&decide (x<x2)))):=by
 have:gQ.S n (l,x2,x3,x4,x5,x6,x7,x8,x9,x10,x11,x12,x13,x14,x15,x16,x17,x18,x19,x20)=some (l.any (fun x:Int=> !(decide (0≤x)&&decide (x<x2)))):=by
  show(jW l x2 x3 x4 x5 x6 x7 x8 x9 x10 x11 x12 x13 x14 x15 x16 x17 x18 x19 x20).run n=_;simp only[jW,G.run,aN,if_true];rw[JD n l x2 x3 x4 x5 x6 x7 x8 x9 x10 x11 x12 x13 x14 x15 x16 x17 x18 x19 x20 hn hs];simp only[uJ];rfl
 rw[this];rfl
theorem Rq{β:Type}(n:Nat)(x:Int)(x2:Int)(x3:Int)(x4:List cE)(x5:List au)(x6:List BD)(x7:List aU)(x8:List Host)(x9:List bS)(x10:Int)(x11:Int)(x12:Int)(x13:Bool)(x14:Bool)(x15:Int)(x16:Int)(x17:Int)(x18:Int)(x19:Int)(x20:Int)(k:iK.sh.El→Option β):(iK.S n (x,x2,x3,x4,x5,x6,x7,x8,x9,x10,x11,x12,x13,x14,x15,x16,x17,x18,x19,x20)).bind k=k ((fun x:Int=> !(decide (0≤x)&&decide (x<(x6.length:Int)))) x):=by
 have:iK.S n (x,x2,x3,x4,x5,x6,x7,x8,x9,x10,x11,x12,x13,x14,x15,x16,x17,x18,x19,x20)=some ((fun x:Int=> !(decide (0≤x)&&decide (x<(x6.length:Int)))) x):=by
  show(kX x x2 x3 x4 x5 x6 x7 x8 x9 x10 x11 x12 x13 x14 x15 x16 x17 x18 x19 x20).run n=_;simp only[kX,G.run,aN,bu,jV,if_true];rfl
 rw[this];rfl
theorem Mo{β:Type}(n:Nat)(l:List Int)(x2:Int)(x3:Int)(x4:List cE)(x5:List au)(x6:List BD)(x7:List aU)(x8:List Host)(x9:List bS)(x10:Int)(x11:Int)(x12:Int)(x13:Bool)(x14:Bool)(x15:Int)(x16:Int)(x17:Int)(x18:Int)(x19:Int)(x20:Int)(hn:l.length<n)(hs:l.length≤4000)(k:iq.sh.El→Option β):
 (iq.S n (l,x2,x3,x4,x5,x6,x7,x8,x9,x10,x11,x12,x13,x14,x15,x16,x17,x18,x19,x20)).bind k=k (idxOf (fun x:Int=> !(decide (0≤x)&&decide (x<(x6.length:Int)))) l):=by
 have:iq.S n (l,x2,x3,x4,x5,x6,x7,x8,x9,x10,x11,x12,x13,x14,x15,x16,x17,x18,x19,x20)=some (idxOf (fun x:Int=> !(decide (0≤x)&&decide (x<(x6.length:Int)))) l):=by
  show(kB l x2 x3 x4 x5 x6 x7 x8 x9 x10 x11 x12 x13 x14 x15 x16 x17 x18 x19 x20).run n=_;simp only[kB,G.run,aN,bu,bF,Rq,if_true];refine sV l (fun x:Int=> !(decide (0≤x)&&decide (x<(x6.length:Int)))) hn (fun i x hx=>?_) ?_ ?_
  ·have hi:=(List.getElem?_eq_some_iff.1 hx).1;have hlt:(i:Int)<l.length:=by omega
   simp only[bq,hx,Option.bind_some,hlt,decide_true,if_true,bL (show i<9223372036854775807 by omega)]
   split<;>rfl
  ·simp;rfl
  ·unfold idxOf;cases l.findIdx? (fun x:Int=> !(decide (0≤x)&&decide (x<(x6.length:Int))))<;>rfl
 rw[this];rfl
theorem HW{β:Type}(n:Nat)(l:List Int)(x2:Int)(x3:Int)(x4:List cE)(x5:List au)(x6:List BD)(x7:List aU)(x8:List Host)(x9:List bS)(x10:Int)(x11:Int)(x12:Int)(x13:Bool)(x14:Bool)(x15:Int)(x16:Int)(x17:Int)(x18:Int)(x19:Int)(x20:Int)(hn:l.length<n)(hs:l.length≤4000)(k:gC.sh.El→Option β):
 (gC.S n (l,x2,x3,x4,x5,x6,x7,x8,x9,x10,x11,x12,x13,x14,x15,x16,x17,x18,x19,x20)).bind k=k (l.any (fun x:Int=> !(decide (0≤x)&&decide (x<(x6.length:Int))))):=by
 have:gC.S n (l,x2,x3,x4,x5,x6,x7,x8,x9,x10,x11,x12,x13,x14,x15,x16,x17,x18,x19,x20)=some (l.any (fun x:Int=> !(decide (0≤x)&&decide (x<(x6.length:Int))))):=by
  show(jA l x2 x3 x4 x5 x6 x7 x8 x9 x10 x11 x12 x13 x14 x15 x16 x17 x18 x19 x20).run n=_;simp only[jA,G.run,aN,if_true];rw[Mo n l x2 x3 x4 x5 x6 x7 x8 x9 x10 x11 x12 x13 x14 x15 x16 x17 x18 x19 x20 hn hs];simp only[uJ];rfl
 rw[this];rfl
theorem NV{β:Type}(n:Nat)(l:List Int)(v:Int)(hn:l.length<n)(hs:l.length≤4000)(k:iT.sh.El→Option β):
 (iT.S n (l,v)).bind k=k (idxOf (fun x:Int=>v==x) l):=by
 have:iT.S n (l,v)=some (idxOf (fun x:Int=>v==x) l):=by
  show(iS l v).run n=_;simp only[iS,G.run,aN,bu,bF,if_true,if_true];refine sV l (fun x:Int=>v==x) hn (fun i x hx=>?_) ?_ ?_
  ·have hi:=(List.getElem?_eq_some_iff.1 hx).1;have hlt:(i:Int)<l.length:=by omega
   simp only[bq,hx,Option.bind_some,hlt,decide_true,if_true,bL (show i<9223372036854775807 by omega)]
   split<;>rfl
  ·simp;rfl
  ·unfold idxOf;cases l.findIdx? (fun x:Int=>v==x)<;>rfl
 rw[this];rfl
theorem JE{β:Type}(n:Nat)(l:List Int)(v:Int)(hn:l.length<n)(hs:l.length≤4000)(k:dX.sh.El→Option β):
 (dX.S n (l,v)).bind k=k (l.any (fun x:Int=>v==x)):=by
 have:dX.S n (l,v)=some (l.any (fun x:Int=>v==x)):=by
  show(gK l v).run n=_;simp only[gK,G.run,aN,if_true];rw[NV n l v hn hs];simp only[uJ];rfl
 rw[this];rfl
end Go.L
namespace Go.L
open Go.AM
theorem Ad{β:Type}(k1 k2:Go.IntKind)(a b:Int)(k:Unit→Option β):(Gp k1 k2 a b).run.bind k=if decide (0≤b)=true then k ()else none:=by
 show(if decide (0≤b)=true then some ()else none).bind k=_
 split<;>rfl
def fR(p:af):Bool:=decide (0≤p.Len)&&decide (p.Len≤32)
def xZ(a b:Int):Int:=IntKind.wrap .u32 (((BitVec.ofInt 32 a)&&& (BitVec.ofInt 32 b)).toNat:Int)
def Rr(a b:Int):Int:=IntKind.wrap .u32 (((BitVec.ofInt 32 a)||| (BitVec.ofInt 32 b)).toNat:Int)
def Mp(a b:Int):Int:=IntKind.wrap .u32 (((BitVec.ofInt 32 a) ^^^ (BitVec.ofInt 32 b)).toNat:Int)
def ue(n:Int):Int:=IntKind.wrap .u32 ((4294967295:Int)*((2:Int) ^ (min (Int.toNat (IntKind.wrap .i64 ((32:Int) - n))) (IntKind.bits .u32))))
def ya(n:Int):Int:=IntKind.wrap .u32 ((IntKind.wrap .u32 ((1:Int)*((2:Int) ^ (min (Int.toNat (IntKind.wrap .i64 ((32:Int) - n))) (IntKind.bits .u32))))) - (1:Int))
def FV(n:Int):Int:=IntKind.wrap .u32 (((BitVec.ofInt 32 4294967295) ^^^ (BitVec.ofInt 32 (ya n))).toNat:Int)
theorem K9{n:Int}(h0:0≤n)(h1:n≤32):FV n=ue n:=by
 have key:((List.range 33).all fun k=>FV (k:Int)==ue (k:Int))=true:=by decide+kernel
 have:=List.all_eq_true.1 key n.toNat (List.mem_range.2 (by omega))
 rw[Int.toNat_of_nonneg h0]at this;simpa using this
def gv(p:af):Bool:=fR p&&(xZ p.IP (ue p.Len)==p.IP)
def cq(p:af)(ip:Int):Bool:=fR p&&(xZ (Mp p.IP ip) (ue p.Len)==0)
def xJ(p:af)(ip:Int):Bool:=cq p ip&&(ip != p.IP&&ip != Rr p.IP (ya p.Len))
section
variable {β:Type} (n:Nat)
theorem FW(p:af)(k:kU.sh.El→Option β):(kU.S n p).bind k=k (fR p):=by
 have:kU.S n p=some (fR p):=by
  show(rJ p).run n=_;simp only[rJ,G.run,aN,fR,ge_iff_le];by_cases h:0≤p.Len<;>simp[h]<;>rfl
 rw[this];rfl
theorem wrap32{x:Int}(h0:0≤x)(h1:x≤32):IntKind.wrap .i64 (32 - x)=32 - x:=wrap_i64 (by omega) (by omega)
theorem Hw(x:Int)(h0:0≤x)(h1:x≤32)(k:qK.sh.El→Option β):(qK.S n x).bind k=k (ue x):=by
 have:qK.S n x=some (ue x):=by
  show(tL x).run n=_;simp only[tL,G.run,aN,Ad,ue];rw[if_pos (by rw[wrap32 h0 h1];simp;omega)]
  rfl
 rw[this];rfl
theorem zA(p:af)(k:o8.sh.El→Option β):(o8.S n p).bind k=k (gv p):=by
 have:o8.S n p=some (gv p):=by
  show(wu p).run n=_;have hc:∀{γ:Type} (k:vk.sh.El→Option γ),(vk.S n p).bind k=if fR p=true then k (⟨xZ p.IP (ue p.Len),p.Len⟩,0)else k (⟨0,0⟩,2):=by
   intro γ k;have:vk.S n p=some (if fR p=true then(⟨xZ p.IP (ue p.Len),p.Len⟩,0)else(⟨0,0⟩,2)):=by
    show(za p).run n=_;simp only[za,G.run,aN,FW];by_cases h:fR p=true
    ·simp only[h,Bool.not_true,Bool.false_eq_true,if_false,if_true];simp only[fR,Bool.and_eq_true,decide_eq_true_eq]at h;rw[Hw n p.Len h.1 h.2];rfl
    ·simp[h];rfl
   rw[this];split<;>rfl
  simp only[wu,G.run,aN,hc,gv];by_cases h:fR p=true<;>simp[h]<;>rfl
 rw[this];rfl
theorem yb(p:af)(ip:Int)(k:cM.sh.El→Option β):(cM.S n (p,ip)).bind k=k (cq p ip):=by
 have:cM.S n (p,ip)=some (cq p ip):=by
  show(nT p ip).run n=_;simp only[nT,G.run,aN,FW,cq];by_cases h:fR p=true
  ·simp only[h,if_true,Bool.true_and];simp only[fR,Bool.and_eq_true,decide_eq_true_eq]at h;rw[Hw n p.Len h.1 h.2];rfl
  ·simp[h];rfl
 rw[this];rfl
theorem Da(p:af)(ip:Int)(hp:fR p=true)(k:o9.sh.El→Option β):(o9.S n (p,ip)).bind k=k (xJ p ip):=by
 have:o9.S n (p,ip)=some (xJ p ip):=by
  show(wv p ip).run n=_;have h:=hp;simp only[fR,Bool.and_eq_true,decide_eq_true_eq]at h;simp only[wv,G.run,aN,yb,Ad];rw[if_pos (by rw[wrap32 h.1 h.2];simp;omega)]
  simp only[xJ,if_true];by_cases h1:cq p ip=true
  ·by_cases h2:(ip != p.IP)=true
   ·simp only[h1,h2,if_true,Bool.true_and];rfl
   ·simp only[h1,h2,if_true,Bool.true_and,Bool.false_eq_true,if_false];simp at h2;simp[h2];rfl
  ·simp[h1];rfl
 rw[this];rfl
end
end Go.L
namespace Go.L
open Go.AM
def zB:ByteArray:=⟨⟨[116,101,110,97,110,116,115]⟩⟩
def Db:ByteArray:=⟨⟨[108,101,97,107,115]⟩⟩
def pH(f1 f2:List Bool)(i:Nat)(x:au):Int:=
 if decide (x.aZ<1)=true then 2 else if decide (16777215<x.aZ)=true then 2 else if(x.Target==0)=true then 2
 else if f1.getD i false=true then 11 else if f2.getD i false=true then 11 else 0
theorem Mq(n:Nat)(f:av)(hn:f.aA.length<n):
 jL.S n ⟨f⟩=some (outcome zB 16 (decide (16<(f.aA.length:Int))) (bE (pH (aT (fun x:au=>x.aZ) [] f.aA) (aT (fun x:au=>x.Target) [] f.aA)) 0 f.aA)):=by
 show(mU ⟨f⟩).run n=_;simp only[mU,G.run,aN,bu,eZ,Sum.elim,gt_iff_lt,decide_eq_true_eq];by_cases hfull:(16:Int)<f.aA.length
 ·simp[hfull,outcome];rfl
 ·simp only[hfull,if_false,decide_false];rw[Bf n f.aA hn (by omega)]
  rw[zL n f.aA hn (by omega)]
  simp only[G.run,aN,bu,if_true,bF,jV,iz,eZ,Sum.elim];generalize hf1:aT (fun x:au=>x.aZ) [] f.aA=f1
  generalize hf2:aT (fun x:au=>x.Target) [] f.aA=f2
  refine sU f.aA (pH f1 f2) (fun i e=>Sum.inl (e,zB,(i:Int))) (Sum.inr ()) hn (fun i x hx=>?_) ?_ ?_
  ·have hi:=(List.getElem?_eq_some_iff.1 hx).1;obtain⟨y,hy⟩:∃y,f1[i]? =some y:=⟨_,List.getElem?_eq_getElem (by rw[← hf1,fE];exact hi)⟩
   obtain⟨z,hz⟩:∃y,f2[i]? =some y:=⟨_,List.getElem?_eq_getElem (by rw[← hf2,fE];exact hi)⟩
   have hlt:(i:Int)<f.aA.length:=by omega
   simp only[bq,hx,Option.bind_some,hlt,decide_true,if_true,hy,hz,pH,List.getD_eq_getElem?_getD,Option.getD_some,bL (show i<9223372036854775807 by omega)]
   clear hf1 hf2 hy hz hx
   repeat' split
   all_goals first |rfl | (simp_all<;>omega)
  ·simp;rfl
  ·cases bE (pH f1 f2) 0 f.aA with
   |none=>rfl
   |some p=>rfl
def vG(f:av)(f1:List Bool)(i:Nat)(x:bS):Int:=
 if(!(decide (0≤x.From)&&decide (x.From<(f.aA.length:Int))))=true then 2 else if(!(decide (0≤x.To)&&decide (x.To<(f.aA.length:Int))))=true then 2
 else if(x.From==x.To)=true then 3 else if(!gv x.af)=true then 3 else if f1.getD i false=true then 11 else 0
theorem Pq(n:Nat)(f:av)(hn:f.Leaks.length<n):
 kO.S n ⟨f⟩=some (outcome Db 256 (decide (256<(f.Leaks.length:Int))) (bE (vG f (aT (fun x:bS=>x) [] f.Leaks)) 0 f.Leaks)):=by
 show(ox ⟨f⟩).run n=_;simp only[ox,G.run,aN,bu,eZ,Sum.elim,gt_iff_lt,decide_eq_true_eq];by_cases hfull:(256:Int)<f.Leaks.length
 ·simp[hfull,outcome];rfl
 ·simp only[hfull,if_false,decide_false];rw[DY n f.Leaks hn (by omega)]
  simp only[G.run,aN,bu,if_true,bF,jV,iz,eZ,Sum.elim,zA];generalize hf1:aT (fun x:bS=>x) [] f.Leaks=f1
  refine sU f.Leaks (vG f f1) (fun i e=>Sum.inl (e,Db,(i:Int))) (Sum.inr ()) hn (fun i x hx=>?_) ?_ ?_
  ·have hi:=(List.getElem?_eq_some_iff.1 hx).1;obtain⟨y,hy⟩:∃y,f1[i]? =some y:=⟨_,List.getElem?_eq_getElem (by rw[← hf1,fE];exact hi)⟩
   have hlt:(i:Int)<f.Leaks.length:=by omega
   simp only[bq,hx,Option.bind_some,hlt,decide_true,if_true,hy,vG,List.getD_eq_getElem?_getD,Option.getD_some,bL (show i<9223372036854775807 by omega)]
   clear hf1 hy hx
   repeat' split
   all_goals first |rfl | (simp_all<;>omega)
  ·simp;rfl
  ·cases bE (vG f f1) 0 f.Leaks with
   |none=>rfl
   |some p=>rfl
end Go.L
namespace Go.L
open Go.AM
def GF:ByteArray:=⟨⟨[102,97,98,114,105,99]⟩⟩
def GG:ByteArray:=⟨⟨[116,105,109,101,114,115]⟩⟩
def Dc:ByteArray:=⟨⟨[104,111,115,116,115]⟩⟩
def out(x lo hi:Int):Bool:=decide (x<lo)||decide (hi<x)
def ew(f:av):Bool:=out f.Leaves 1 32||out f.cO 0 32||decide (32<IntKind.wrap .i64 (f.Leaves+f.cO))||out f.nR 0 2||out f.jq 0 1||out f.bD 0 1
def eE(t:bC):Bool:=out t.nQ 1 100||out t.wo 3 1000||out t.z6 1 10000||out t.mK 0 1000||out t.sM 1 100||out t.Window 1 10000
theorem NW(n:Nat)(f:av):jZ.S n ⟨f⟩=some (if ew f=true then Sum.inr (2,GF,0)else Sum.inl ()):=by
 show(nA ⟨f⟩).run n=_;simp only[nA,G.run,aN,iz,eZ,Sum.elim,if_true];unfold ew;have e:∀x lo hi,(decide (x<lo)||decide (hi<x))=out x lo hi:=fun _ _ _=>rfl
 simp only[e,gt_iff_lt,Bool.or_eq_true];cases out f.Leaves 1 32<;>cases out f.cO 0 32<;>cases decide (32<IntKind.wrap .i64 (f.Leaves+f.cO))<;>cases out f.nR 0 2<;>cases out f.jq 0 1<;>cases out f.bD 0 1<;>rfl
theorem NX(n:Nat)(f:av):kf.S n ⟨f⟩=some (if eE f.bC=true then Sum.inr (2,GG,0)else Sum.inl ()):=by
 show(nB ⟨f⟩).run n=_;simp only[nB,G.run,aN,iz,eZ,Sum.elim,if_true];unfold eE;have e:∀x lo hi,(decide (x<lo)||decide (hi<x))=out x lo hi:=fun _ _ _=>rfl
 simp only[e,gt_iff_lt,Bool.or_eq_true];cases out f.bC.nQ 1 100<;>cases out f.bC.wo 3 1000<;>cases out f.bC.z6 1 10000<;>cases out f.bC.mK 0 1000<;>cases out f.bC.sM 1 100<;>cases out f.bC.Window 1 10000<;>rfl
def xk(m:Int):Bool:=decide (m≤281474976710655)&&(IntKind.wrap .u64 (((BitVec.ofInt 64 (Int.fdiv m ((2:Int) ^ (min (Int.toNat (40:Int)) (IntKind.bits .u64)))))&&& (BitVec.ofInt 64 1)).toNat:Int) != 0)
def mM(m:Int):Bool:= !decide (m<2199023255552)&& !decide (m≥2199023255584)
def fS(b:BD)(ip:Int):Bool:=ip==0||(b.aM != 0&&(ip != b.aM&&xJ b.ay ip))
section
variable {β:Type} (n:Nat)
theorem GH(m:Int)(k:pY.sh.El→Option β):(pY.S n m).bind k=k (xk m):=by
 have:pY.S n m=some (xk m):=by
  show(uo m).run n=_;simp only[uo,G.run,aN,xk];by_cases h:m≤281474976710655
  ·simp only[h,decide_true,if_true,Bool.true_and];rfl
  ·simp only[h,decide_false,if_false,Bool.false_and,Bool.false_eq_true];rfl
 rw[this];rfl
theorem FX(m:Int)(k:lV.sh.El→Option β):(lV.S n m).bind k=if mM m=true then k (IntKind.wrap .i64 (IntKind.wrap .u64 (m - 2199023255552)),true)else k (0,false):=by
 have:lV.S n m=some (if mM m=true then(IntKind.wrap .i64 (IntKind.wrap .u64 (m - 2199023255552)),true)else(0,false)):=by
  show(tf m).run n=_;simp only[tf,G.run,aN,mM];by_cases h:m<2199023255552
  ·simp[h];rfl
  ·by_cases h2:m≥2199023255584
   ·simp[h,h2];rfl
   ·simp only[h,h2,decide_false,Bool.not_false,Bool.and_self,Bool.false_eq_true,if_false,if_true];rfl
 rw[this];split<;>rfl
theorem ES(b:BD)(ip:Int)(hb:b.aM≠0→fR b.ay=true)(k:kY.sh.El→Option β):(kY.S n (b,ip)).bind k=k (fS b ip):=by
 have:kY.S n (b,ip)=some (fS b ip):=by
  show(rL b ip).run n=_;simp only[rL,G.run,aN,fS];cases e1:(ip==0)with
  |true=>simp only[if_true,Bool.true_or];rfl
  |false=>
   cases e2:(b.aM != 0)with
   |false=>simp only[Bool.false_eq_true,if_false,Bool.false_or,Bool.false_and];rfl
   |true=>
    cases e3:(ip != b.aM)with
    |false=>simp only[Bool.false_eq_true,if_false,if_true,Bool.false_or,Bool.true_and,Bool.false_and];rfl
    |true=>
     simp only[Bool.false_eq_true,if_false,if_true,Bool.false_or,Bool.true_and];rw[Da n b.ay ip (hb (by simpa using e2))];rfl
 rw[this];rfl
end
def AF(f:av)(b:Int):BD:=(fN f.aG b).getD ⟨0,0,0,⟨0,0⟩,0⟩
def xK(f:av)(s:Int):List Int:=((fN f.ax s).map (·.aG)).getD []
theorem Mr(n:Int)(h:0≤n)(h2:n≤4000):IntKind.wrap .i64 (n - 1)=n - 1:=wrap_i64 (by omega) (by omega)
def vH(f:av)(f1 f2:List Bool)(i:Nat)(h:Host):Int:=
 if(h.aS==0)=true then 2 else if decide (281474976710655<h.aS)=true then 2 else if xk h.aS=true then 2
 else if(!(decide (0≤h.BD)&&decide (h.BD<(f.aG.length:Int))))=true then 2 else if out h.aU (-1) ((f.ax.length:Int) - 1)=true then 2
 else if(h.aU != -1&& !(xK f h.aU).any fun x=>h.BD==x)=true then 8
 else if(h.aS==1577058561)=true then 3 else if mM h.aS=true then 3 else if(!fS (AF f h.BD) h.IP)=true then 3
 else if f1.getD i false=true then 11 else if(h.IP != 0&&f2.getD i false)=true then 11 else 0
theorem Pr(n:Nat)(f:av)(hn:f.Hosts.length<n)(hseg:f.ax.length≤64)(hsn:∀s∈f.ax,s.aG.length<n∧s.aG.length≤4000)(hsub:∀b∈f.aG,b.aM≠0→fR b.ay=true):
 kN.S n ⟨f⟩=some (outcome Dc 128 (decide (128<(f.Hosts.length:Int))) (bE (vH f (aT (fun x:Host=>(⟨x.BD,x.aS⟩:aL)) [] f.Hosts) (aT (fun x:Host=>(⟨x.BD,IntKind.wrap .u64 x.IP⟩:aL)) [] f.Hosts)) 0 f.Hosts)):=by
 show(ow ⟨f⟩).run n=_;simp only[ow,G.run,aN,bu,eZ,Sum.elim,gt_iff_lt,decide_eq_true_eq];by_cases hfull:(128:Int)<f.Hosts.length
 ·simp[hfull,outcome];rfl
 ·simp only[hfull,if_false,decide_false];rw[yB n f.Hosts hn (by omega)]
  rw[xI n f.Hosts hn (by omega)]
  simp only[G.run,aN,bu,if_true,bF,jV,iz,eZ,Sum.elim,GH,FX];generalize hf1:aT (fun x:Host=>(⟨x.BD,x.aS⟩:aL)) [] f.Hosts=f1
  generalize hf2:aT (fun x:Host=>(⟨x.BD,IntKind.wrap .u64 x.IP⟩:aL)) [] f.Hosts=f2
  refine sU f.Hosts (vH f f1 f2) (fun i e=>Sum.inl (e,Dc,(i:Int))) (Sum.inr ()) hn (fun i x hx=>?_) ?_ ?_
  ·have hi:=(List.getElem?_eq_some_iff.1 hx).1;obtain⟨y,hy⟩:∃y,f1[i]? =some y:=⟨_,List.getElem?_eq_getElem (by rw[← hf1,fE];exact hi)⟩
   obtain⟨z,hz⟩:∃y,f2[i]? =some y:=⟨_,List.getElem?_eq_getElem (by rw[← hf2,fE];exact hi)⟩
   have hlt:(i:Int)<f.Hosts.length:=by omega
   have hw:=Mr (f.ax.length:Int) (by omega) (by omega)
   simp only[bq,hx,Option.bind_some,hlt,decide_true,if_true,hy,hz,vH,List.getD_eq_getElem?_getD,Option.getD_some,bL (show i<9223372036854775807 by omega),hw]
   clear hf1 hf2 hy hz hx;cases(x.aS==0)
   case true=>rfl
   by_cases hm:(281474976710655:Int)<x.aS
   ·simp only[hm,if_true,decide_true,Bool.false_eq_true,if_false];rfl
   simp only[hm,if_false,decide_false,Bool.false_eq_true];cases xk x.aS
   case true=>rfl
   cases hbd:(decide (0≤x.BD)&&decide (x.BD<(f.aG.length:Int)))
   case false=>rfl
   have e:(decide (x.aU< -1)||decide ((f.ax.length:Int) - 1<x.aU))=out x.aU (-1) ((f.ax.length:Int) - 1):=rfl;simp only[e];cases hsg:out x.aU (-1) ((f.ax.length:Int) - 1)
   case true=>rfl
   obtain⟨b,hb⟩:∃b,fN f.aG x.BD=some b:=by
    simp only[Bool.and_eq_true,decide_eq_true_eq]at hbd;exact⟨_,by unfold fN;rw[if_pos hbd.1];exact List.getElem?_eq_getElem (by omega)⟩
   have hbm:b∈f.aG:=by
    unfold fN at hb;split at hb
    ·exact List.mem_of_getElem? hb
    ·cases hb
   have hbd2:AF f x.BD=b:=by simp[AF,hb]
   simp only[Bool.not_true,Bool.false_eq_true,if_false,hb,hbd2,Option.bind_some,ES n b x.IP (hsub b hbm)];cases hs1:(x.aU != -1)
   ·simp only[Bool.false_and,Bool.false_eq_true,if_false];cases(x.aS==1577058561)<;>cases mM x.aS<;>cases fS b x.IP<;>cases y<;>cases(x.IP != 0)<;>cases z<;>rfl
   ·obtain⟨s,hs⟩:∃s,fN f.ax x.aU=some s:=by
     simp only[out,Bool.or_eq_false_iff,decide_eq_false_iff_not]at hsg;have:x.aU≠ -1:=by simpa using hs1
     exact⟨_,by unfold fN;rw[if_pos (by omega)];exact List.getElem?_eq_getElem (by omega)⟩
    have hsm:s∈f.ax:=by
     unfold fN at hs;split at hs
     ·exact List.mem_of_getElem? hs
     ·cases hs
    have hsb:xK f x.aU=s.aG:=by simp[xK,hs]
    simp only[if_true,hs,Option.bind_some,hsb,Bool.true_and,JE n s.aG x.BD (hsn s hsm).1 (hsn s hsm).2];cases(s.aG.any fun y=>x.BD==y)<;>cases(x.aS==1577058561)<;>cases mM x.aS<;>cases fS b x.IP<;>cases y<;>cases(x.IP != 0)<;>cases z<;>rfl
  ·simp;rfl
  ·cases bE (vH f f1 f2) 0 f.Hosts with
   |none=>rfl
   |some p=>rfl
end Go.L
namespace Go.L
open Go.AM
def oK(t ip len:Int)(x:BD):Bool:=x.au==t&&(x.aM != 0&&(cq x.ay ip||cq ⟨ip,len⟩ x.ay.IP))
theorem Rs{β:Type}(n:Nat)(x:BD)(x2 x3 x4 x5 x6 x7:Int)(k:jc.sh.El→Option β):(jc.S n (x,x2,x3,x4,x5,x6,x7)).bind k=k (oK x2 x5 x6 x):=by
 have:jc.S n (x,x2,x3,x4,x5,x6,x7)=some (oK x2 x5 x6 x):=by
  show(lJ x x2 x3 x4 x5 x6 x7).run n=_;simp only[lJ,G.run,aN,yb,oK,if_true];cases(x.au==x2)<;>cases(x.aM != 0)<;>cases cq x.ay x5<;>cases cq ⟨x5,x6⟩ x.ay.IP<;>rfl
 rw[this];rfl
theorem Ms{β:Type}(n:Nat)(l:List BD)(x2 x3 x4 x5 x6 x7:Int)(hn:l.length<n)(hs:l.length≤4000)(k:jN.sh.El→Option β):
 (jN.S n (l,x2,x3,x4,x5,x6,x7)).bind k=k (idxOf (oK x2 x5 x6) l):=by
 have:jN.S n (l,x2,x3,x4,x5,x6,x7)=some (idxOf (oK x2 x5 x6) l):=by
  show(mV l x2 x3 x4 x5 x6 x7).run n=_;simp only[mV,G.run,aN,bu,bF,Rs,if_true];refine sV l (oK x2 x5 x6) hn (fun i x hx=>?_) ?_ ?_
  ·have hi:=(List.getElem?_eq_some_iff.1 hx).1;have hlt:(i:Int)<l.length:=by omega
   simp only[bq,hx,Option.bind_some,hlt,decide_true,if_true,bL (show i<9223372036854775807 by omega)]
   split<;>rfl
  ·simp;rfl
  ·unfold idxOf;cases l.findIdx? (oK x2 x5 x6)<;>rfl
 rw[this];rfl
theorem HX{β:Type}(n:Nat)(l:List BD)(x2 x3 x4 x5 x6 x7:Int)(hn:l.length<n)(hs:l.length≤4000)(k:iI.sh.El→Option β):
 (iI.S n (l,x2,x3,x4,x5,x6,x7)).bind k=k (l.any (oK x2 x5 x6)):=by
 have:iI.S n (l,x2,x3,x4,x5,x6,x7)=some (l.any (oK x2 x5 x6)):=by
  show(kV l x2 x3 x4 x5 x6 x7).run n=_;simp only[kV,G.run,aN,if_true];rw[Ms n l x2 x3 x4 x5 x6 x7 hn hs];simp only[uJ];rfl
 rw[this];rfl
theorem NY{X β:Type}(l:List X)(e:X→List AVal)(m:Nat)(i:Nat)(hi:i≤l.length)(k:Nat×Nat→Option β):(OV l e m none (some (i:Int))).run.bind k=k (0,i):=by
 have:(OV l e m none (some (i:Int))).run=some (0,i):=by
  show((yZ l.length l.length (some (i:Int))).bind fun h=>(yZ 0 h none).map fun k=>(k,h))=_
  simp only[yZ];rw[if_pos (by omega)];simp
 rw[this];rfl
def zC:ByteArray:=⟨⟨[100,111,109,97,105,110,115]⟩⟩
def wL(f:av)(f1 f2:List Bool)(i:Nat)(b:BD):Int:=
 if(!(decide (0≤b.au)&&decide (b.au<(f.aA.length:Int))))=true then 2 else if decide (b.aZ<1)=true then 2 else if decide (16777215<b.aZ)=true then 2 else if(b.Target==0)=true then 2
 else if f1.getD i false=true then 11 else if f2.getD i false=true then 11 else if(f.aA.any fun x=>x.aZ==b.aZ)=true then 11 else if(f.aA.any fun x=>x.Target==b.Target)=true then 11
 else if(b.aM==0)=true then(if(!(b.ay.IP==0&&(b.ay.Len==0&&true)))=true then 3 else 0)
 else if(!gv b.ay)=true then 3 else if out b.ay.Len 8 30=true then 3 else if(!xJ b.ay b.aM)=true then 3
 else if((f.aG.take i).any (oK b.au b.ay.IP b.ay.Len))=true then 11 else 0
theorem Mt(n:Nat)(f:av)(hn:f.aG.length<n)(hnt:f.aA.length<n)(ht:f.aA.length≤4000):
 jO.S n ⟨f⟩=some (outcome zC 32 (decide (32<(f.aG.length:Int))) (bE (wL f (aT (fun x:BD=>x.aZ) [] f.aG) (aT (fun x:BD=>x.Target) [] f.aG)) 0 f.aG)):=by
 show(mW ⟨f⟩).run n=_;simp only[mW,G.run,aN,bu,eZ,Sum.elim,gt_iff_lt,decide_eq_true_eq];by_cases hfull:(32:Int)<f.aG.length
 ·simp[hfull,outcome];rfl
 ·simp only[hfull,if_false,decide_false];rw[DX n f.aG hn (by omega)]
  rw[Cl n f.aG hn (by omega)]
  simp only[G.run,aN,bu,if_true,bF,jV,iz,eZ,Sum.elim,zA];generalize hf1:aT (fun x:BD=>x.aZ) [] f.aG=f1
  generalize hf2:aT (fun x:BD=>x.Target) [] f.aG=f2
  refine sU f.aG (wL f f1 f2) (fun i e=>Sum.inl (e,zC,(i:Int))) (Sum.inr ()) hn (fun i x hx=>?_) ?_ ?_
  ·have hi:=(List.getElem?_eq_some_iff.1 hx).1;obtain⟨y,hy⟩:∃y,f1[i]? =some y:=⟨_,List.getElem?_eq_getElem (by rw[← hf1,fE];exact hi)⟩
   obtain⟨z,hz⟩:∃y,f2[i]? =some y:=⟨_,List.getElem?_eq_getElem (by rw[← hf2,fE];exact hi)⟩
   have hlt:(i:Int)<f.aG.length:=by omega
   simp only[bq,hx,Option.bind_some,hlt,decide_true,if_true,hy,hz,wL,List.getD_eq_getElem?_getD,Option.getD_some,bL (show i<9223372036854775807 by omega)]
   clear hf1 hf2 hy hz hx;rw[Mn n f.aA x.aZ hnt ht];rw[HV n f.aA x.Target hnt ht];simp only[G.run,aN,bu,if_true,eZ,Sum.elim,zA,iz,Bool.false_eq_true,if_false];cases(decide (0≤x.au)&&decide (x.au<(f.aA.length:Int)))
   case false=>rfl
   by_cases h1:x.aZ<1
   ·simp only[h1,if_true,decide_true];rfl
   by_cases h2:(16777215:Int)<x.aZ
   ·simp only[h1,h2,if_true,decide_true,if_false,decide_false,Bool.false_eq_true];rfl
   simp only[h1,h2,if_false,decide_false,Bool.false_eq_true];cases(x.Target==0)
   case true=>rfl
   cases y
   case true=>rfl
   cases z
   case true=>rfl
   cases(f.aA.any fun y=>y.aZ==x.aZ)
   case true=>rfl
   cases(f.aA.any fun y=>y.Target==x.Target)
   case true=>rfl
   cases(x.aM==0)
   case true=>cases(x.ay.IP==0&&(x.ay.Len==0&&true))<;>rfl
   cases hc:gv x.ay
   case false=>rfl
   have hok:fR x.ay=true:=by
    simp only[gv,Bool.and_eq_true]at hc;exact hc.1
   simp only[Da n x.ay x.aM hok,NY f.aG cU 6 i (by omega),List.drop_zero]
   rw[HX n (f.aG.take i) x.au x.aZ x.Target x.ay.IP x.ay.Len x.aM (by simp;omega) (by simp;omega)]
   have e:(decide (x.ay.Len<8)||decide (30<x.ay.Len))=out x.ay.Len 8 30:=rfl;simp only[e];cases out x.ay.Len 8 30<;>cases xJ x.ay x.aM<;>cases(f.aG.take i).any (oK x.au x.ay.IP x.ay.Len)<;>rfl
  ·simp;rfl
  ·cases bE (wL f f1 f2) 0 f.aG with
   |none=>rfl
   |some p=>rfl
end Go.L
namespace Go.L
open Go.AM
def uA(l:List Int):Bool:=(l.zip l.tail).all fun p=>decide (p.1<p.2)
theorem Sq(l:List (Int×Int))(j:Nat):(match bE (fun _ (p:Int×Int)=>if p.2≤p.1 then 1 else 0) j l with |none=>some true |some (_,_)=>some false)=some (l.all fun p=>decide (p.1<p.2)):=by
 induction l generalizing j with
 |nil=>rfl
 |cons p ps ih=>
  simp only[bE,List.all_cons];by_cases h:p.2≤p.1
  ·have:¬p.1<p.2:=by omega
   simp[h,this]
  ·have:p.1<p.2:=by omega
   simp only[h,if_false,ne_eq,not_true_eq_false,this,decide_true,Bool.true_and];exact ih (j+1)
theorem uB{β:Type}(n:Nat)(l:List Int)(hn:l.length<n)(hs:l.length≤4000)(k:jt.sh.El→Option β):(jt.S n l).bind k=k (uA l):=by
 have:jt.S n l=some (uA l):=by
  show(rK l).run n=_;simp only[rK,G.run,aN,bu,bF,if_true];have hzl:(l.zip l.tail).length=l.length - 1:=by simp
  refine Eq.trans (AE (fun i=>((i:Int)+1)) (l.zip l.tail) (fun _ (p:Int×Int)=>if p.2≤p.1 then 1 else 0) (fun _ _=>some false) (some true) (by omega) (fun i x hx hp hE=>?_) (fun i x hx hp hE=>?_) (fun hp=>?_)) (Sq (l.zip l.tail) 0)
  ·have hi:=(List.getElem?_eq_some_iff.1 hx).1;rw[hzl]at hi;have h1:l[i]? =some x.1:=by
    rw[List.getElem?_zip_eq_some]at hx;exact hx.1
   have h2:l[i+1]? =some x.2:=by
    rw[List.getElem?_zip_eq_some]at hx;simpa using hx.2
   have hle:x.2≤x.1:=by
    by_cases h:x.2≤x.1
    ·exact h
    ·simp[h]at hE
   have hlt:(i:Int)+1<l.length:=by omega
   have e1:fN l ((i:Int)+1)=some x.2:=by rw[show(i:Int)+1=((i+1:Nat):Int)by omega,bq,h2]
   have e2:fN l (IntKind.wrap .i64 ((i:Int)+1 - 1))=some x.1:=by
    rw[wrap_i64 (by omega) (by omega),show(i:Int)+1 - 1=(i:Int)by omega,bq,h1]
   refine⟨.inl (),?_,rfl⟩;simp only[hlt,decide_true,if_true,e1,e2,Option.bind_some,hle]
  ·have hi:=(List.getElem?_eq_some_iff.1 hx).1;rw[hzl]at hi;have h1:l[i]? =some x.1:=by
    rw[List.getElem?_zip_eq_some]at hx;exact hx.1
   have h2:l[i+1]? =some x.2:=by
    rw[List.getElem?_zip_eq_some]at hx;simpa using hx.2
   have hle:¬x.2≤x.1:=by
    intro h;simp[h]at hE
   have hlt:(i:Int)+1<l.length:=by omega
   have e1:fN l ((i:Int)+1)=some x.2:=by rw[show(i:Int)+1=((i+1:Nat):Int)by omega,bq,h2]
   have e2:fN l (IntKind.wrap .i64 ((i:Int)+1 - 1))=some x.1:=by
    rw[wrap_i64 (by omega) (by omega),show(i:Int)+1 - 1=(i:Int)by omega,bq,h1]
   have e3:IntKind.wrap .i64 ((i:Int)+1+1)=((i+1:Nat):Int)+1:=by rw[wrap_i64 (by omega) (by omega)];omega
   simp only[hlt,decide_true,if_true,e1,e2,e3,Option.bind_some,hle,decide_false,Bool.false_eq_true,if_false]
  ·refine⟨.inr (),?_,rfl⟩;have hlt:¬((((l.zip l.tail).length:Nat):Int)+1<l.length):=by rw[hzl];omega
   simp only[hlt,decide_false,Bool.false_eq_true,if_false]
 rw[this];rfl
def iM(p:List Int):List Int→List Int
 | []=>p
 |x::xs=>iM (p.set x.toNat (p[x.toNat]?.getD 0+1)) xs
theorem Hx:∀(l p:List Int),(iM p l).length=p.length
 | [],_=>rfl
 |x::xs,p=>by simp[iM,Hx xs]
theorem FY:∀(l p:List Int) (x:Int),iM p (l++[x])=(iM p l).set x.toNat ((iM p l)[x.toNat]?.getD 0+1)
 | [],_,_=>rfl
 |y::l,p,x=>by simp only[List.cons_append,iM];exact FY l _ x
theorem Dd:∀(l p:List Int) (m:Nat),(∀x∈l,0≤x)→l.Nodup→(iM p l)[m]? =(p[m]?).map fun v=>if(m:Int)∈l then v+1 else v
 | [],p,m,_,_=>by simp[iM]
 |x::xs,p,m,h0,hd=>by
  have hx:=h0 x (by simp)
  have hd':=List.nodup_cons.1 hd;simp only[iM];rw[Dd xs _ m (fun y hy=>h0 y (by simp[hy])) hd'.2]
  by_cases hm:m=x.toNat
  ·subst hm;have e:((x.toNat:Nat):Int)=x:=by omega
   rw[e];by_cases hp:x.toNat<p.length
   ·rw[List.getElem?_set_self hp,List.getElem?_eq_getElem hp];simp[hd'.1]
   ·rw[List.getElem?_eq_none (by simp;omega),List.getElem?_eq_none (by omega)];rfl
  ·rw[List.getElem?_set_ne (Ne.symm hm)];have:¬(m:Int)=x:=by omega
   simp[this]
def jS(l:List aU):List Int:=(List.range 32).map fun m=>((l.countP fun s=>s.Leaves.contains (m:Int):Nat):Int)
theorem Ku:jS []=List.replicate 32 0:=by decide
theorem xl(l:List aU){m:Nat}(h:m<32):(jS l)[m]? =some ((l.countP fun s=>s.Leaves.contains (m:Int):Nat):Int):=by
 simp[jS,h]
theorem AG(l:List aU):(jS l).length=32:=by simp[jS]
theorem JF(l:List aU)(s:aU)(h0:∀x∈s.Leaves,0≤x)(hd:s.Leaves.Nodup):iM (jS l) s.Leaves=jS (l++[s]):=by
 apply List.ext_getElem?;intro m;rw[Dd _ _ m h0 hd];by_cases h:m<32
 ·rw[xl _ h,xl _ h];simp only[Option.map_some,List.countP_append,List.countP_cons,List.countP_nil,Nat.zero_add,List.contains_iff_mem];split<;>simp_all
 ·rw[List.getElem?_eq_none (by rw[AG];omega),List.getElem?_eq_none (by rw[AG];omega)];rfl
theorem Mu:∀(l:List Int),uA l=true→l.Nodup∧∀(i j:Nat) x y,i<j→l[i]? =some x→l[j]? =some y→x<y:=by
 intro l h;have hadj:∀(i:Nat) x y,l[i]? =some x→l[i+1]? =some y→x<y:=by
  intro i x y hx hy;simp only[uA,List.all_eq_true,decide_eq_true_eq]at h;exact h (x,y) (List.mem_of_getElem? (i:=i) (by rw[List.getElem?_zip_eq_some];exact⟨hx,by simpa using hy⟩))
 have hlt:∀(d i:Nat) x y,l[i]? =some x→l[i+d+1]? =some y→x<y:=by
  intro d;induction d with
  |zero=>intro i x y hx hy;exact hadj i x y hx (by simpa using hy)
  |succ d ih=>
   intro i x y hx hy;have hlt:=(List.getElem?_eq_some_iff.1 hy).1;have h1:=hadj i x l[i+1] hx (List.getElem?_eq_getElem (by omega))
   have h2:=ih (i+1) l[i+1] y (List.getElem?_eq_getElem (by omega)) (by rw[← hy];congr 1;omega)
   omega
 have hall:∀(i j:Nat) x y,i<j→l[i]? =some x→l[j]? =some y→x<y:=by
  intro i j x y hij hx hy;exact hlt (j - i - 1) i x y hx (by rw[← hy];congr 1;omega)
 refine⟨?_,hall⟩;rw[List.nodup_iff_pairwise_ne,List.pairwise_iff_getElem];intro i j hi hj hij he;have:=hall i j l[i] l[j] hij (List.getElem?_eq_getElem hi) (List.getElem?_eq_getElem hj);omega
end Go.L
namespace Go.L
open Go.AM
theorem Hy{β:Type}(b aq j o n s:Nat)(i:Int)(k:Unit→Option β):(LX b aq j o n s i).run.bind k=if 0≤i∧i<n then k ()else none:=by
 show(if 0≤i∧i<n then some ()else none).bind k=_
 split<;>rfl
theorem JG{X β:Type}(l:List X)(c:X→AVal)(b aq sz o:Nat)(k:X→Option β):(Q8 l c b aq sz o).run.bind k=(l[o]?).bind k:=rfl
theorem JH{X β:Type}(l:List X)(c:X→AVal)(b aq sz o:Nat)(y:X)(k:Unit→Option β):(R5 l c b aq sz o y).run.bind k=if o<l.length then k ()else none:=by
 show(if o<l.length then some ()else none).bind k=_
 split<;>rfl
def jv:ByteArray:=⟨⟨[115,101,103,109,101,110,116,115]⟩⟩
def zD(f:av)(i:Nat)(x:aU):Int:=
 if((x.Leaves.length:Int)==0)=true then 3 else if((x.aG.length:Int)==0)=true then 3
 else if(x.Leaves.any fun n=> !(decide (0≤n)&&decide (n<f.Leaves)))=true then 2 else if(x.aG.any fun n=> !(decide (0≤n)&&decide (n<(f.aG.length:Int))))=true then 2
 else if(!uA x.Leaves)=true then 10 else if(!uA x.aG)=true then 10
 else if(x.Leaves.any fun n=>decide (32<(((f.ax.take i).countP fun s=>s.Leaves.contains n:Nat):Int)+1))=true then 7 else 0
theorem zF{α τ γ ST:Type}{f:ST→Option (ST⊕τ)}{s0:ST}(mk:Nat→ST)(l:List α)(E:Nat→α→Int){k:τ→Option γ}(bad:Nat→Int→Option γ)(fin:Option γ){n:Nat}(h0:s0=mk 0)(hn:l.length<n)
 (hb:∀(i:Nat) x,l[i]? =some x→(∀(j:Nat) y,j<i→l[j]? =some y→E j y=0)→E i x≠0→∃t,f (mk i)=some (.inr t)∧k t=bad i (E i x))
 (hg:∀(i:Nat) x,l[i]? =some x→(∀(j:Nat) y,j<i→l[j]? =some y→E j y=0)→E i x=0→f (mk i)=some (.inl (mk (i+1))))
 (he:(∀(j:Nat) y,l[j]? =some y→E j y=0)→∃t,f (mk l.length)=some (.inr t)∧k t=fin):
 (dx f n s0).bind k=(match bE E 0 l with |none=>fin |some (e,i)=>bad i e):=by
 subst h0;exact AE mk l E bad fin hn hb hg he
theorem NZ{γ:Type}{n:Nat}(L ports:List Int)(i:Int)(hn:L.length<n)(hp:ports.length=32)(h0:∀x∈L,0≤x∧x<32)(hd:L.Nodup)(hs:L.length≤4000)(hv:∀v∈ports,0≤v∧v≤1000)
 {k:(List Int×Int×ByteArray×Int)⊕List Int→Option γ} {bad fin:Option γ} (hbad:∀p,k (.inl (p,7,jv,i))=bad) (hfin:k (.inr (iM ports L))=fin)
 {f:Int×List Int→Option ((Int×List Int)⊕((List Int×Int×ByteArray×Int)⊕List Int))}
 (hf:∀a,f a=if decide (a.1<(L.length:Int))=true then(fN L a.1).bind fun x=>if 0≤x∧x<(32:Nat)then(a.2[0+x.toNat*1]?).bind fun v=>if 0≤x∧x<(32:Nat)then if 0+x.toNat*1<a.2.length then if 0≤x∧x<(32:Nat)then((a.2.set (0+x.toNat*1) (IntKind.wrap .i64 (v+1)))[0+x.toNat*1]?).bind fun w=>
  if decide (32<w)=true then some (.inr (.inl (a.2.set (0+x.toNat*1) (IntKind.wrap .i64 (v+1)),7,jv,i)))else some (.inl (IntKind.wrap .i64 (a.1+1),a.2.set (0+x.toNat*1) (IntKind.wrap .i64 (v+1))))else none else none else none else none
  else some (.inr (.inr a.2))):
 (dx f n (0,ports)).bind k=if(L.any fun x=>decide (32<ports[x.toNat]?.getD 0+1))=true then bad else fin:=by
 have step:∀(j:Nat) x,L[j]? =some x→∃v,ports[x.toNat]? =some v∧f ((j:Int),iM ports (L.take j))=if decide (32<v+1)=true then some (.inr (.inl (iM ports (L.take (j+1)),7,jv,i)))else some (.inl (((j+1:Nat):Int),iM ports (L.take (j+1)))):=by
  intro j x hx;have hj:=(List.getElem?_eq_some_iff.1 hx).1;have hx0:=h0 x (List.mem_of_getElem? hx);have hlt:x.toNat<ports.length:=by omega
  refine⟨ports[x.toNat],List.getElem?_eq_getElem hlt,?_⟩;have hvv:=hv ports[x.toNat] (List.getElem_mem hlt);have htake:L.take (j+1)=L.take j++[x]:=by rw[List.take_add_one,hx];rfl
  have hnot:¬((x.toNat:Nat):Int)∈L.take j:=by
   intro hm;rw[show((x.toNat:Nat):Int)=x by omega]at hm
   obtain⟨q,hq⟩:=List.getElem?_of_mem hm;have hq2:=(List.getElem?_eq_some_iff.1 hq).1;simp only[List.length_take]at hq2;rw[List.getElem?_take,if_pos (by omega)]at hq
   have:=List.nodup_iff_pairwise_ne.1 hd;rw[List.pairwise_iff_getElem]at this;have hne:=this q j (by omega) hj (by omega)
   rw[List.getElem?_eq_getElem (by omega)]at hq hx
   simp only[Option.some.injEq]at hq hx;exact hne (hq.trans hx.symm)
  have hB:(iM ports (L.take j))[x.toNat]? =some ports[x.toNat]:=by
   rw[Dd _ _ _ (fun y hy=>(h0 y (List.mem_of_mem_take hy)).1) (hd.sublist (List.take_sublist _ _)),List.getElem?_eq_getElem hlt]
   simp only[Option.map_some,if_neg hnot]
  have hBl:(iM ports (L.take j)).length=32:=by rw[Hx,hp]
  have hset:(iM ports (L.take j)).set x.toNat (ports[x.toNat]+1)=iM ports (L.take (j+1)):=by
   rw[htake,FY,hB];rfl
  have hw:IntKind.wrap .i64 (ports[x.toNat]+1)=ports[x.toNat]+1:=wrap_i64 (by omega) (by omega)
  rw[hf];have hlt2:(j:Int)<(L.length:Int):=by omega
  have hx1:(0:Int)≤x∧x<((32:Nat):Int):=by omega
  simp only[hlt2,decide_true,if_true,bq,hx,Option.bind_some,hx1,and_self,Nat.zero_add,Nat.mul_one,hB,hw,hset];rw[if_pos (by rw[hBl];omega)]
  have hget:(iM ports (L.take (j+1)))[x.toNat]? =some (ports[x.toNat]+1):=by
   rw[← hset,List.getElem?_set_self (by rw[hBl];omega)]
  simp only[hget,Option.bind_some,bL (show j<9223372036854775807 by omega)]
 have main:=AE (f:=f) (fun j=>((j:Int),iM ports (L.take j))) L (fun _ x=>if 32<ports[x.toNat]?.getD 0+1 then 7 else 0) (k:=k) (fun _ _=>bad) fin hn ?_ ?_ ?_
 ·have e:(match bE (fun _ x=>if 32<ports[x.toNat]?.getD 0+1 then(7:Int)else 0) 0 L with |none=>fin |some (_,_)=>bad)=if(L.any fun x=>decide (32<ports[x.toNat]?.getD 0+1))=true then bad else fin:=by
   have key:∀(L:List Int) (j:Nat),(match bE (fun _ x=>if 32<ports[x.toNat]?.getD 0+1 then(7:Int)else 0) j L with |none=>fin |some (_,_)=>bad)=if(L.any fun x=>decide (32<ports[x.toNat]?.getD 0+1))=true then bad else fin:=by
    intro L;induction L with
    |nil=>intro j;rfl
    |cons x xs ih=>
     intro j;simp only[bE,List.any_cons];by_cases h:32<ports[x.toNat]?.getD 0+1
     ·simp[h]
     ·simp only[h,if_false,ne_eq,not_true_eq_false,decide_false,Bool.false_or];exact ih (j+1)
   exact key L 0
  rw[← e];exact main
 ·intro j x hx _ hE;obtain⟨v,h1,h2⟩:=step j x hx;have:32<v+1:=by
   rw[h1]at hE;simp only[Option.getD_some]at hE;by_cases h:32<v+1
   ·exact h
   ·simp[h]at hE
  refine⟨_,by rw[h2];simp only[this,decide_true,if_true];rfl,hbad _⟩
 ·intro j x hx _ hE;obtain⟨v,h1,h2⟩:=step j x hx;have:¬32<v+1:=by
   rw[h1]at hE;simp only[Option.getD_some]at hE;intro h;simp[h]at hE
  rw[h2];simp only[this,decide_false,Bool.false_eq_true,if_false]
 ·intro _;refine⟨.inr (iM ports L),?_,hfin⟩;rw[hf];simp
theorem JI{n:Nat}(L ports:List Int)(i:Int)(hn:L.length<n)(hp:ports.length=32)(h0:∀x∈L,0≤x∧x<32)(hd:L.Nodup)(hs:L.length≤4000)(hv:∀v∈ports,0≤v∧v≤1000)
 {f:Int×List Int→Option ((Int×List Int)⊕((List Int×Int×ByteArray×Int)⊕List Int))}
 (hf:∀a,f a=if decide (a.1<(L.length:Int))=true then(fN L a.1).bind fun x=>if 0≤x∧x<(32:Nat)then(a.2[0+x.toNat*1]?).bind fun v=>if 0≤x∧x<(32:Nat)then if 0+x.toNat*1<a.2.length then if 0≤x∧x<(32:Nat)then((a.2.set (0+x.toNat*1) (IntKind.wrap .i64 (v+1)))[0+x.toNat*1]?).bind fun w=>
  if decide (32<w)=true then some (.inr (.inl (a.2.set (0+x.toNat*1) (IntKind.wrap .i64 (v+1)),7,jv,i)))else some (.inl (IntKind.wrap .i64 (a.1+1),a.2.set (0+x.toNat*1) (IntKind.wrap .i64 (v+1))))else none else none else none else none
  else some (.inr (.inr a.2))):
 ∃p,dx f n (0,ports)=some (if(L.any fun x=>decide (32<ports[x.toNat]?.getD 0+1))=true then .inl (p,7,jv,i)else .inr (iM ports L)):=by
 have main:=NZ L ports i hn hp h0 hd hs hv (k:=fun t=>some (match t with | .inl q=>(Sum.inl q.2:(Int×ByteArray×Int)⊕List Int) | .inr q=>.inr q)) (bad:=some (.inl (7,jv,i))) (fin:=some (.inr (iM ports L))) (fun p=>rfl) rfl hf
 cases hany:(L.any fun x=>decide (32<ports[x.toNat]?.getD 0+1))with
 |true=>
  rw[hany]at main;cases hit:dx f n (0,ports)with
  |none=>rw[hit]at main;simp at main
  |some t=>
   rw[hit]at main;cases t with
   |inl q=>
    obtain⟨p,q⟩:=q;refine⟨p,?_⟩;simp at main;rw[main];rfl
   |inr q=>simp at main
 |false=>
  rw[hany]at main;cases hit:dx f n (0,ports)with
  |none=>rw[hit]at main;simp at main
  |some t=>
   rw[hit]at main;cases t with
   |inl q=>simp at main
   |inr q=>
    refine⟨[],?_⟩;simp at main;rw[main];rfl
theorem JJ{n:Nat}{γ ST τ:Type}(L ports:List Int)(i:Int)(hn:L.length<n)(hp:ports.length=32)(h0:∀x∈L,0≤x∧x<32)(hd:L.Nodup)(hs:L.length≤4000)(hv:∀v∈ports,0≤v∧v≤1000)
 {f:Int×List Int→Option ((Int×List Int)⊕((List Int×Int×ByteArray×Int)⊕List Int))}
 (hf:∀a,f a=if decide (a.1<(L.length:Int))=true then(fN L a.1).bind fun x=>if 0≤x∧x<(32:Nat)then(a.2[0+x.toNat*1]?).bind fun v=>if 0≤x∧x<(32:Nat)then if 0+x.toNat*1<a.2.length then if 0≤x∧x<(32:Nat)then((a.2.set (0+x.toNat*1) (IntKind.wrap .i64 (v+1)))[0+x.toNat*1]?).bind fun w=>
  if decide (32<w)=true then some (.inr (.inl (a.2.set (0+x.toNat*1) (IntKind.wrap .i64 (v+1)),7,jv,i)))else some (.inl (IntKind.wrap .i64 (a.1+1),a.2.set (0+x.toNat*1) (IntKind.wrap .i64 (v+1))))else none else none else none else none
  else some (.inr (.inr a.2))) {k:(List Int×Int×ByteArray×Int)⊕List Int→Option (ST⊕τ)} {A:ST} {kk:τ→Option γ} {B:Option γ} {Ev:Int}
 (hEv:Ev=if(L.any fun x=>decide (32<ports[x.toNat]?.getD 0+1))=true then 7 else 0) (hk1:Ev=7→∀p,∃t,k (.inl (p,7,jv,i))=some (.inr t)∧kk t=B) (hk2:k (.inr (iM ports L))=some (.inl A)):
 (Ev=0∧(dx f n (0,ports)).bind k=some (.inl A))∨(Ev≠0∧∃t,(dx f n (0,ports)).bind k=some (.inr t)∧kk t=B):=by
 obtain⟨p,hit⟩:=JI L ports i hn hp h0 hd hs hv hf;rw[hit];cases hany:(L.any fun x=>decide (32<ports[x.toNat]?.getD 0+1))with
 |true=>
  rw[hany]at hEv;right;refine⟨by rw[hEv];decide,?_⟩
  simp only[if_true,Option.bind_some];exact hk1 (by rw[hEv];rfl) p
 |false=>
  rw[hany]at hEv;left;refine⟨by rw[hEv];rfl,?_⟩
  simp only[Bool.false_eq_true,if_false,Option.bind_some];exact hk2
theorem Kv{α τ γ ST:Type}{f:ST→Option (ST⊕τ)}{s0:ST}(mk:Nat→ST)(l:List α)(E:Nat→α→Int){k:τ→Option γ}(bad:Nat→Int→Option γ)(fin:Option γ){n:Nat}(h0:s0=mk 0)(hn:l.length<n)
 (hr:∀(i:Nat) x,l[i]? =some x→(∀(j:Nat) y,j<i→l[j]? =some y→E j y=0)→(E i x=0∧f (mk i)=some (.inl (mk (i+1))))∨(E i x≠0∧∃t,f (mk i)=some (.inr t)∧k t=bad i (E i x)))
 (he:(∀(j:Nat) y,l[j]? =some y→E j y=0)→∃t,f (mk l.length)=some (.inr t)∧k t=fin):
 (dx f n s0).bind k=(match bE E 0 l with |none=>fin |some (e,i)=>bad i e):=by
 refine zF mk l E bad fin h0 hn (fun i x hx hp hE=>?_) (fun i x hx hp hE=>?_) he
 ·rcases hr i x hx hp with⟨h,_⟩ |⟨_,h⟩
  ·exact absurd h hE
  ·exact h
 ·rcases hr i x hx hp with⟨_,h⟩ |⟨h,_⟩
  ·exact h
  ·exact absurd hE h
theorem Kw(n:Nat)(f:av)(hn:f.ax.length<n)(hL:f.Leaves≤32)(hB:f.aG.length≤4000)(hsn:∀s∈f.ax,(s.aG.length<n∧s.aG.length≤4000)∧s.Leaves.length<n∧s.Leaves.length≤4000):
 jy.S n ⟨f⟩=some (outcome jv 64 (decide (64<(f.ax.length:Int))) (bE (zD f) 0 f.ax)):=by
 show(mq ⟨f⟩).run n=_;simp only[mq,G.run,aN,bu,eZ,Sum.elim,gt_iff_lt,decide_eq_true_eq];by_cases hfull:(64:Int)<f.ax.length
 ·simp[hfull,outcome];rfl
 ·simp only[hfull,if_false,decide_false];simp only[G.run,aN,bu,if_true,bF,jV,iz,eZ,Sum.elim,Hy,JG,JH];refine Eq.trans (Kv (fun i=>((i:Int),jS (f.ax.take i))) f.ax (zD f) (fun i e=>some (.inr (e,jv,(i:Int)))) (some (.inl ())) (by simp[Ku]) hn (fun i x hx hp=>?_) (fun hp=>?_)) ?_
  ·have hi:=(List.getElem?_eq_some_iff.1 hx).1;have hxm:=List.mem_of_getElem? hx;have hlt:(i:Int)<f.ax.length:=by omega
   simp only[hlt,if_true,bq,hx,Option.bind_some];rw[FU n x.Leaves _ _ _ _ _ _ _ _ _ _ _ _ _ _ _ _ _ _ _ (hsn x hxm).2.1 (hsn x hxm).2.2];rw[HW n x.aG _ _ _ _ _ _ _ _ _ _ _ _ _ _ _ _ _ _ _ (hsn x hxm).1.1 (hsn x hxm).1.2];simp only[G.run,aN,bu,if_true,eZ,Sum.elim];rw[uB n x.Leaves (hsn x hxm).2.1 (hsn x hxm).2.2,uB n x.aG (hsn x hxm).1.1 (hsn x hxm).1.2];simp only[G.run,aN,bu,if_true,eZ,Sum.elim,bF,Hy,JG,JH,gt_iff_lt];unfold zD;cases hc1:((x.Leaves.length:Int)==0)
   case true=>exact .inr ⟨by simp,_,rfl,rfl⟩
   cases hc2:((x.aG.length:Int)==0)
   case true=>exact .inr ⟨by simp,_,rfl,rfl⟩
   cases hc3:(x.Leaves.any fun n=> !(decide (0≤n)&&decide (n<f.Leaves)))
   case true=>exact .inr ⟨by simp,_,rfl,rfl⟩
   cases hc4:(x.aG.any fun n=> !(decide (0≤n)&&decide (n<(f.aG.length:Int))))
   case true=>exact .inr ⟨by simp,_,rfl,rfl⟩
   cases hc5:uA x.Leaves
   case false=>exact .inr ⟨by simp,_,rfl,rfl⟩
   cases hc6:uA x.aG
   case false=>exact .inr ⟨by simp,_,rfl,rfl⟩
   simp only[Bool.not_true,Bool.false_eq_true,if_false];have hrange:∀y∈x.Leaves,0≤y∧y<32:=by
    intro y hy;rw[List.any_eq_false]at hc3;have:=hc3 y hy;simp at this;omega
   obtain⟨hnd,_⟩:=Mu x.Leaves hc5;have hcnt:∀v∈jS (f.ax.take i),0≤v∧v≤1000:=by
    intro v hv;simp only[jS,List.mem_map,List.mem_range]at hv;obtain⟨m,_,rfl⟩:=hv;have:=List.countP_le_length (p:=fun s:aU=>s.Leaves.contains (m:Int)) (l:=f.ax.take i)
    simp only[List.length_take]at this;omega
   refine JJ x.Leaves (jS (f.ax.take i)) (i:Int) (hsn x hxm).2.1 (AG _) hrange hnd (hsn x hxm).2.2 hcnt (fun a=>rfl) ?_ (fun h7 p=>⟨_,rfl,by rw[h7];rfl⟩) ?_
   ·have:(x.Leaves.any fun n=>decide (32<(((f.ax.take i).countP fun s=>s.Leaves.contains n:Nat):Int)+1))=x.Leaves.any fun y=>decide (32<(jS (f.ax.take i))[y.toNat]?.getD 0+1):=by
     apply Bool.eq_iff_iff.2;simp only[List.any_eq_true];constructor
     ·rintro⟨y,hy,h⟩;have hr:=hrange y hy;refine⟨y,hy,?_⟩;rw[xl _ (by omega),show((y.toNat:Nat):Int)=y by omega]
      exact h
     ·rintro⟨y,hy,h⟩;have hr:=hrange y hy;refine⟨y,hy,?_⟩;rw[xl _ (by omega),show((y.toNat:Nat):Int)=y by omega]at h
      exact h
    rw[this]
   ·have htake:f.ax.take (i+1)=f.ax.take i++[x]:=by rw[List.take_add_one,hx];rfl
    have e:iM (jS (f.ax.take i)) x.Leaves=jS (f.ax.take (i+1)):=by rw[htake];exact JF _ _ (fun y hy=>(hrange y hy).1) hnd
    rw[e];have hw:=bL (show i<9223372036854775807 by omega)
    show some (Sum.inl (IntKind.wrap .i64 ((i:Int)+1),jS (f.ax.take (i+1))))=_;rw[hw]
  ·refine⟨.inr (jS f.ax),?_,rfl⟩;simp
  ·cases bE (zD f) 0 f.ax<;>rfl
end Go.L
namespace Go.L
open Go.AM
structure Small(f:av):Prop where
 links:f.Links.length≤4000
 iQ:f.aA.length≤4000
 jB:f.aG.length≤4000
 segments:f.ax.length≤4000
 sW:f.Hosts.length≤4000
 leaks:f.Leaks.length≤4000
 seg:∀s∈f.ax,s.Leaves.length≤4000∧s.aG.length≤4000
abbrev F0:=Unit⊕(Int×ByteArray×Int)
def pI(f:av):F0:=if ew f=true then .inr (2,GF,0)else .inl ()
def sX(f:av):F0:=if eE f.bC=true then .inr (2,GG,0)else .inl ()
def tQ(f:av):F0:=outcome C8 128 (decide (128<(f.Links.length:Int))) (bE (vF f (aT (fun x:cE=>(⟨x.A,x.B⟩:V2 Int)) [] f.Links)) 0 f.Links)
def oC(f:av):F0:=outcome zB 16 (decide (16<(f.aA.length:Int))) (bE (pH (aT (fun x:au=>x.aZ) [] f.aA) (aT (fun x:au=>x.Target) [] f.aA)) 0 f.aA)
def lR(f:av):F0:=outcome zC 32 (decide (32<(f.aG.length:Int))) (bE (wL f (aT (fun x:BD=>x.aZ) [] f.aG) (aT (fun x:BD=>x.Target) [] f.aG)) 0 f.aG)
def mH(f:av):F0:=outcome jv 64 (decide (64<(f.ax.length:Int))) (bE (zD f) 0 f.ax)
def tR(f:av):F0:=outcome Dc 128 (decide (128<(f.Hosts.length:Int))) (bE (vH f (aT (fun x:Host=>(⟨x.BD,x.aS⟩:aL)) [] f.Hosts) (aT (fun x:Host=>(⟨x.BD,IntKind.wrap .u64 x.IP⟩:aL)) [] f.Hosts)) 0 f.Hosts)
def tS(f:av):F0:=outcome Db 256 (decide (256<(f.Leaks.length:Int))) (bE (vG f (aT (fun x:bS=>x) [] f.Leaks)) 0 f.Leaks)
def oL(a:F0)(b:Int×ByteArray×Int):Int×ByteArray×Int:=match a with
 | .inl _=>b
 | .inr t=>t
def tT(f:av):Int×ByteArray×Int:=
 oL (pI f)<|oL (sX f)<|oL (tQ f)<|oL (oC f)<|oL (lR f)<|oL (mH f)<|oL (tR f)<|oL (tS f) (0,⟨⟨[]⟩⟩,0)
theorem B5{p:ByteArray}{m:Int}{b:Bool}{r:Option (Int×Nat)}{u:Unit}(h:outcome p m b r=.inl u):b=false∧r=none:=by
 unfold outcome at h;split at h
 ·cases h
 ·rename_i hb;split at h
  ·exact⟨by simpa using hb,rfl⟩
  ·cases h
theorem Rt{f:av}{u:Unit}(h:lR f=.inl u):∀b∈f.aG,b.aM≠0→fR b.ay=true:=by
 intro b hb hg;have:=(B5 h).2;rw[qC]at this;obtain⟨i,hi⟩:=List.getElem?_of_mem hb;have:=this i b hi;have hg':(b.aM==0)=false:=by simpa using hg
 have hcl:gv b.ay=true:=by
  cases hc:gv b.ay with
  |true=>rfl
  |false=>
   unfold wL at this;simp only[hg',hc,Bool.not_false,if_true,Bool.false_eq_true,if_false]at this
   repeat' split at this
   all_goals cases this
 simp only[gv,Bool.and_eq_true]at hcl;exact hcl.1
theorem Ae{f:av}{u:Unit}(h:pI f=.inl u):1≤f.Leaves∧f.Leaves≤32∧0≤f.cO∧f.cO≤32:=by
 unfold pI at h;split at h
 ·cases h
 ·rename_i hb;simp only[ew,out,Bool.not_eq_true,Bool.or_eq_false_iff,decide_eq_false_iff_not]at hb;omega
theorem JK{β:Type}(n:Nat)(hn:5000≤n)(f:av)(hs:Small f)(k:ff.sh.El→Option β):(ff.S n f).bind k=k (tT f):=by
 have b1:∀{γ:Type} (k:jZ.sh.El→Option γ),(jZ.S n ⟨f⟩).bind k=k (pI f):=fun k=>by rw[NW];rfl
 have b2:∀{γ:Type} (k:kf.sh.El→Option γ),(kf.S n ⟨f⟩).bind k=k (sX f):=fun k=>by rw[NX];rfl
 have b3:∀{γ:Type} (k:kM.sh.El→Option γ),(kM.S n ⟨f⟩).bind k=k (tQ f):=fun k=>by rw[Pn n f (by have:=hs.links;omega) (by omega)];rfl
 have b4:∀{γ:Type} (k:jL.sh.El→Option γ),(jL.S n ⟨f⟩).bind k=k (oC f):=fun k=>by rw[Mq n f (by have:=hs.iQ;omega)];rfl
 have b5:∀{γ:Type} (k:jO.sh.El→Option γ),(jO.S n ⟨f⟩).bind k=k (lR f):=fun k=>by rw[Mt n f (by have:=hs.jB;omega) (by have:=hs.iQ;omega) hs.iQ];rfl
 have b8:∀{γ:Type} (k:kO.sh.El→Option γ),(kO.S n ⟨f⟩).bind k=k (tS f):=fun k=>by rw[Pq n f (by have:=hs.leaks;omega)];rfl
 have hseg:∀s∈f.ax,(s.aG.length<n∧s.aG.length≤4000)∧s.Leaves.length<n∧s.Leaves.length≤4000:=fun s h=>by
  have:=hs.seg s h;omega
 have:ff.S n f=some (tT f):=by
  show(wz f).run n=_;have b0:∀{γ:Type} (k:vi.sh.El→Option γ),(vi.S n ()).bind k=k ():=fun k=>rfl
  simp only[wz,G.run,aN,b0,b1];unfold tT;cases h1:pI f with
  |inr t=>rfl
  |inl u=>
   simp only[Sum.elim,G.run,b2];cases h2:sX f with
   |inr t=>rfl
   |inl u=>
    simp only[Sum.elim,G.run,b3];cases h3:tQ f with
    |inr t=>rfl
    |inl u=>
     simp only[Sum.elim,G.run,b4];cases h4:oC f with
     |inr t=>rfl
     |inl u=>
      simp only[Sum.elim,G.run,b5];cases h5:lR f with
      |inr t=>rfl
      |inl u=>
       have b6:∀{γ:Type} (k:jy.sh.El→Option γ),(jy.S n ⟨f⟩).bind k=k (mH f):=fun k=>by rw[Kw n f (by have:=hs.segments;omega) (Ae h1).2.1 hs.jB hseg];rfl
       simp only[Sum.elim,G.run,b6];cases h6:mH f with
       |inr t=>rfl
       |inl u=>
        have hle:f.ax.length≤64:=by
         have:=(B5 h6).1;simp only[decide_eq_false_iff_not]at this;omega
        have b7:∀{γ:Type} (k:kN.sh.El→Option γ),(kN.S n ⟨f⟩).bind k=k (tR f):=fun k=>by rw[Pr n f (by have:=hs.sW;omega) hle (fun s h=>(hseg s h).1) (Rt h5)];rfl
        simp only[Sum.elim,G.run,b7];cases h7:tR f with
        |inr t=>rfl
        |inl u=>
         simp only[Sum.elim,G.run,b8];cases h8:tS f with
         |inr t=>rfl
         |inl u=>rfl
 rw[this];rfl
end Go.L
end
section
namespace Go.L
open Go.AM
def Good{γ:Type}(o:Option γ)(Q:γ→Prop):Prop:=∃v,o=some v∧Q v
theorem Good.bind{γ δ:Type}{o:Option γ}{Q:γ→Prop}{k:γ→Option δ}{R:δ→Prop}(h:Good o Q)(hk:∀v,Q v→Good (k v) R):Good (o.bind k) R:=by
 obtain⟨v,rfl,hv⟩:=h;exact hk v hv
theorem Good.mono{γ:Type}{o:Option γ}{Q R:γ→Prop}(h:Good o Q)(hk:∀v,Q v→R v):Good o R:=by
 obtain⟨v,e,hv⟩:=h;exact⟨v,e,hk v hv⟩
theorem Good.some{γ:Type}{v:γ}{Q:γ→Prop}(h:Q v):Good (some v) Q:=⟨v,rfl,h⟩
theorem nW{ST τ:Type}{f:ST→Option (ST⊕τ)}{Q:τ→Prop}(I:Nat→ST→Prop)(N:Nat)
 (hf:∀j s,j<N→I j s→Good (f s) fun r=>match r with | .inl s'=>I (j+1) s' | .inr t=>Q t)
 (he:∀s,I N s→Good (f s) fun r=>match r with | .inl _=>False | .inr t=>Q t) {n:Nat} (hn:N<n) {s0:ST} (h0:I 0 s0):Good (dx f n s0) Q:=by
 have key:∀(k j n:Nat) (s:ST),j+k=N→k<n→I j s→Good (dx f n s) Q:=by
  intro k;induction k with
  |zero=>
   intro j n s hj hn hs;obtain⟨n,rfl⟩:∃m,n=m+1:=⟨n - 1,by omega⟩
   have:j=N:=by omega
   subst this;obtain⟨r,hr,h⟩:=he s hs;cases r with
   |inl s'=>exact h.elim
   |inr t=>exact⟨t,by simp only[dx,hr],h⟩
  |succ k ih=>
   intro j n s hj hn hs;obtain⟨n,rfl⟩:∃m,n=m+1:=⟨n - 1,by omega⟩
   obtain⟨r,hr,h⟩:=hf j s (by omega) hs
   cases r with
   |inl s'=>
    obtain⟨t,ht,hq⟩:=ih (j+1) n s' (by omega) (by omega) h
    exact⟨t,by simp only[dx,hr];exact ht,hq⟩
   |inr t=>exact⟨t,by simp only[dx,hr],h⟩
 exact key N 0 n s0 (by omega) hn h0
def vI(c:Int)(x:aC):Prop:=0≤x.at_∧x.at_≤c
end Go.L
namespace Go.L
open Go.AM
theorem QA(n:Nat)(x k:Int)(hk:0<k)(hk2:k≤4000000000000000000):Ab.S n (x,k)=some (x % k):=by
 show(C2 x k).run n=_;have h1:¬k≤0:=by omega
 have h2:k≠0:=by omega
 simp only[C2,G.run,aN,BK,I7,decide_eq_true_eq,h1,if_false,h2,ne_eq,not_false_eq_true,decide_true,if_true,Option.bind_some,Nv hk hk2,Nu hk]<;>rfl
section
variable {n:Nat}
theorem cK(x:aC)(m c:Int)(hx:vI c x)(hc:c≤1000000)(h1:1≤m)(h2:m≤1000000):
 Good (γ:=Int×aC) (bf.S n (x,m)) fun r=>0≤r.1∧r.1<m∧vI (c+1) r.2:=by
 obtain⟨ha,hb⟩:=hx;show Good (γ:=Int×aC) ((uz x m).run n) _;have w1:IntKind.wrap .i64 (x.at_+1)=x.at_+1:=wrap_i64 (by omega) (by omega)
 have w2:IntKind.wrap .i64 (x.at_+1 - 1)=x.at_:=by rw[wrap_i64 (by omega) (by omega)];omega
 have eM:∀{γ:Type} (a:Int) (k:Ab.sh.El→Option γ),(Ab.S n (a,m)).bind k=k (a % m):=fun a k=>by rw[QA n a m (by omega) (by omega)];rfl
 simp only[uz,G.run,aN,bu,bF,w1,w2,eM,if_true,decide_eq_true_eq];by_cases h:x.at_≥(x.l.length:Int)
 ·rw[if_pos h];exact .some ⟨by show(0:Int)≤0;omega,by show(0:Int)<m;omega,ha,by show x.at_≤c+1;omega⟩
 ·rw[if_neg h];obtain⟨i,hi⟩:∃i:Nat,x.at_=(i:Int):=⟨x.at_.toNat,by omega⟩
  have hlt:i<x.l.length:=by omega
  rw[hi,bq,List.getElem?_eq_getElem hlt,Option.bind_some];exact .some ⟨Int.emod_nonneg _ (by omega),Int.emod_lt_of_pos _ (by omega),by show(0:Int)≤(i:Int)+1;omega,by show(i:Int)+1≤c+1;omega⟩
end
end Go.L
namespace Go.L
open Go.AM
def Mv(L S:Int)(x:cE):Prop:=0≤x.A∧x.A<L∧L≤x.B∧x.B<L+S∧1≤x.wm∧x.wm≤2
def B6(x:cE):V2 Int:=⟨x.A,x.B⟩
def JL(L S:Int)(l:List cE):Prop:=l.length≤32∧(∀x∈l,Mv L S x)∧(l.map B6).Nodup
def qD(L S j i:Int)(l:List cE):Prop:=(∀x∈l,Mv L S x∧(x.A<j∨x.A=j∧x.B<L+i))∧(l.map B6).Nodup
theorem Kx{L S j i c:Int}{l:List cE}(h:qD L S j i l)(hj:0≤j∧j<L)(hi:0≤i∧i<S)(hc:1≤c∧c≤2):qD L S j (i+1) (l++[⟨j,L+i,c⟩]):=by
 refine⟨fun x hx=>?_,?_⟩
 ·rcases List.mem_append.1 hx with hx |hx
  ·obtain⟨h1,h2⟩:=h.1 x hx;exact⟨h1,by omega⟩
  ·simp only[List.mem_singleton]at hx;subst hx;refine⟨⟨?_,?_,?_,?_,?_,?_⟩,.inr ⟨rfl,?_⟩⟩<;>simp only<;>omega
 ·rw[List.map_append,List.nodup_append];refine⟨h.2,by simp,?_⟩
  intro a ha b hb;simp only[List.map_cons,List.map_nil,List.mem_singleton]at hb;subst hb;obtain⟨x,hx,rfl⟩:=List.mem_map.1 ha;obtain⟨h1,h2⟩:=h.1 x hx;intro e;simp only[B6,V2.mk.injEq]at e;omega
theorem Ky{L S j i:Int}{l:List cE}(h:qD L S j i l):qD L S j (i+1) l:=
 ⟨fun x hx=>⟨(h.1 x hx).1,by have:=(h.1 x hx).2;omega⟩,h.2⟩
theorem Mw{L S j:Int}{i:Int}{l:List cE}(h:qD L S j i l)(hi:S≤i):qD L S (j+1) 0 l:=
 ⟨fun x hx=>⟨(h.1 x hx).1,by have:=(h.1 x hx).2;have:=(h.1 x hx).1;unfold Mv at this;omega⟩,h.2⟩
section
variable {n:Nat}
theorem Kz(x:aC)(L S c:Int)(hx:vI c x)(hc:c≤100000)(hL:0≤L∧L≤8)(hS:0≤S∧S≤4)(hn:5000≤n):
 Good (γ:=List cE×aC) (Ep.S n (x,L,S)) fun r=>JL L S r.1∧vI (c+64) r.2:=by
 show Good (γ:=List cE×aC) ((AD x L S).run n) _;simp only[AD,G.run,aN,zY,if_true,decide_eq_true_eq];refine Good.bind (γ:=List Int×Int×List cE) (Q:=fun t=>JL L S t.2.2∧0≤t.2.1∧t.2.1≤c+64) ?_ (fun t ht=>?_)
 ·refine nW (fun j (s:Int×List Int×Int×List cE)=>s.1=(j:Int)∧0≤s.2.2.1∧s.2.2.1≤c+8*(j:Int)∧(s.2.2.2.length:Int)≤4*(j:Int)∧qD L S (j:Int) 0 s.2.2.2) L.toNat (fun j s hj hs=>?_) (fun s hs=>?_) (by omega) ⟨rfl,hx.1,by have:=hx.2;simp;omega,by simp,by simp[qD]⟩
  ·obtain⟨h1,h2,h3,h4,h5⟩:=hs;have hlt:s.1<L:=by omega
   simp only[hlt,if_true];refine Good.bind (γ:=List Int×Int×List cE) (Q:=fun t=>0≤t.2.1∧t.2.1≤c+8*((j:Int)+1)∧(t.2.2.length:Int)≤4*((j:Int)+1)∧qD L S ((j:Int)+1) 0 t.2.2) ?_ (fun t ht=>?_)
   ·refine nW (fun i (q:Int×List Int×Int×List cE)=>q.1=(i:Int)∧0≤q.2.2.1∧q.2.2.1≤c+8*(j:Int)+2*(i:Int)∧(q.2.2.2.length:Int)≤4*(j:Int)+(i:Int)∧qD L S (j:Int) (i:Int) q.2.2.2) S.toNat (fun i q hi hq=>?_) (fun q hq=>?_) (by omega) ⟨rfl,h2,by simp;omega,by simp;omega,h5⟩
    ·obtain⟨g1,g2,g3,g4,g5⟩:=hq;have hlt:q.1<S:=by omega
     simp only[hlt,if_true];refine Good.bind (cK _ 8 (c+8*(j:Int)+2*(i:Int)) ⟨g2,g3⟩ (by omega) (by decide) (by decide)) (fun r hr=>?_)
     obtain⟨r1,r2,r3⟩:=hr;by_cases h7:(r.1 != 7)=true
     ·simp only[h7,if_true];refine Good.bind (cK r.2 2 (c+8*(j:Int)+2*(i:Int)+1) r3 (by omega) (by decide) (by decide)) (fun r' hr'=>?_)
      obtain⟨s1,s2,s3⟩:=hr';obtain⟨s3,s4⟩:=s3;have w:IntKind.wrap .i64 (q.1+1)=q.1+1:=wrap_i64 (by omega) (by omega)
      have w2:IntKind.wrap .i64 (L+q.1)=L+q.1:=wrap_i64 (by omega) (by omega)
      have w3:IntKind.wrap .i64 (1+r'.1)=1+r'.1:=wrap_i64 (by omega) (by omega)
      have hroom:roomy (q.2.2.2.length+1) 24=true:=by simp[roomy];omega
      rw[if_pos ⟨trivial,hroom⟩,w,w2,w3];have hsn:qD L S (j:Int) ((i:Int)+1) (q.2.2.2++[⟨(j:Int),L+(i:Int),1+r'.1⟩]):=Kx g5 ⟨by omega,by omega⟩ ⟨by omega,by omega⟩ ⟨by omega,by omega⟩
      refine .some ⟨?_,?_,?_,?_,?_⟩
      ·show q.1+1=((i+1:Nat):Int);omega
      ·omega
      ·show r'.2.at_≤c+8*(j:Int)+2*((i+1:Nat):Int);omega
      ·simp only[List.length_append,List.length_cons,List.length_nil];omega
      ·show qD L S (j:Int) ((i+1:Nat):Int) (q.2.2.2++[⟨s.1,L+q.1,1+r'.1⟩]);rw[h1,g1];exact hsn
     ·simp only[h7,Bool.false_eq_true,if_false];obtain⟨s3,s4⟩:=r3;have w:IntKind.wrap .i64 (q.1+1)=q.1+1:=wrap_i64 (by omega) (by omega)
      rw[w];exact .some ⟨by show q.1+1=((i+1:Nat):Int);omega,s3,by show r.2.at_≤c+8*(j:Int)+2*((i+1:Nat):Int);omega,by show(q.2.2.2.length:Int)≤4*(j:Int)+((i+1:Nat):Int);omega,Ky g5⟩
    ·obtain⟨g1,g2,g3,g4,g5⟩:=hq;have hlt:¬q.1<S:=by omega
     simp only[hlt,if_false];exact .some ⟨g2,by show q.2.2.1≤c+8*((j:Int)+1);omega,by show(q.2.2.2.length:Int)≤4*((j:Int)+1);omega,Mw g5 (by omega)⟩
   ·obtain⟨t1,t2,t3,t4⟩:=ht;have w:IntKind.wrap .i64 (s.1+1)=s.1+1:=wrap_i64 (by omega) (by omega)
    rw[w];exact .some ⟨by show s.1+1=((j+1:Nat):Int);omega,t1,by show t.2.1≤c+8*((j+1:Nat):Int);omega,by show(t.2.2.length:Int)≤4*((j+1:Nat):Int);omega,t4⟩
  ·obtain⟨h1,h2,h3,h4,h5⟩:=hs;have hlt:¬s.1<L:=by omega
   simp only[hlt,if_false];exact .some ⟨⟨by show s.2.2.2.length≤32;omega,fun x hx=>(h5.1 x hx).1,h5.2⟩,h2,by show s.2.2.1≤c+64;omega⟩
 ·obtain⟨h1,h2,h3⟩:=ht;simp[fC];refine .some ⟨h1,h2,h3⟩
def De(l:List Int):Prop:=l.Pairwise (· < ·)
theorem Pt{l:List Int}{y:Int}(h:De l)(hy:∀x∈l,x<y):De (l++[y]):=by
 unfold De at*;rw[List.pairwise_append];exact⟨h,by simp,fun a ha b hb=>by simp only[List.mem_singleton]at hb;subst hb;exact hy a ha⟩
def Mx(m q:Int)(l:List Int):Prop:=1≤l.length∧(l.length:Int)≤q∧(∀y∈l,0≤y∧y<m)∧De l
theorem F1(x:aC)(m q c:Int)(hx:vI c x)(hc:c≤100000)(hm:1≤m∧m≤8)(hq:1≤q)(hn:5000≤n):
 Good (γ:=List Int×aC) (B1.S n (x,m,q)) fun r=>Mx m q r.1∧vI (c+9) r.2:=by
 show Good (γ:=List Int×aC) ((B0 x m q).run n) _;simp only[B0,G.run,aN,zY,if_true,decide_eq_true_eq];refine Good.bind (cK x m c hx (by omega) (by omega) (by omega)) (fun r hr=>?_)
 obtain⟨r1,r2,r3,r4⟩:=hr;refine Good.bind (γ:=List Int×Int×List Int) (Q:=fun t=>(t.2.2.length:Int)≤q∧(∀y∈t.2.2,0≤y∧y<m)∧De t.2.2∧0≤t.2.1∧t.2.1≤c+9) ?_ (fun t ht=>?_)
 ·refine nW (fun j (s:Int×List Int×Int×List Int)=>s.1=(j:Int)∧0≤s.2.2.1∧s.2.2.1≤c+1+(j:Int)∧(s.2.2.2.length:Int)≤(j:Int)∧(s.2.2.2.length:Int)≤q∧(∀y∈s.2.2.2,0≤y∧y<(j:Int))∧De s.2.2.2) m.toNat (fun j s hj hs=>?_) (fun s hs=>?_) (by omega) ⟨rfl,r3,by simp;omega,by simp,by simp;omega,by simp,by simp[De]⟩
  ·obtain⟨h1,h2,h3,h4,h4',h5,h5'⟩:=hs;have hlt:s.1<m:=by omega
   have w:IntKind.wrap .i64 (s.1+1)=s.1+1:=wrap_i64 (by omega) (by omega)
   have hroom:roomy (s.2.2.2.length+1) 8=true:=by simp[roomy];omega
   have h6:∀y∈s.2.2.2++[s.1],0≤y∧y<((j+1:Nat):Int):=by
    intro y hy;rcases List.mem_append.1 hy with hy |hy
    ·have:=h5 y hy;omega
    ·simp only[List.mem_singleton]at hy;subst hy;omega
   have h7:∀y∈s.2.2.2,0≤y∧y<((j+1:Nat):Int):=fun y hy=>by have:=h5 y hy;omega
   have h8:De (s.2.2.2++[s.1]):=Pt h5' fun y hy=>by have:=h5 y hy;omega
   simp only[hlt,if_true,w];by_cases hq:(s.2.2.2.length:Int)<q
   ·simp only[hq,if_true];by_cases he:(s.1==r.1)=true
    ·simp only[he,if_true];rw[if_pos ⟨trivial,hroom⟩];refine .some ⟨?_,?_,?_,?_,?_,h6,h8⟩<;>(try simp only[List.length_append,List.length_cons,List.length_nil])<;>omega
    ·simp only[he,Bool.false_eq_true,if_false];refine Good.bind (cK _ 3 (c+1+(j:Int)) ⟨h2,h3⟩ (by omega) (by decide) (by decide)) (fun r' hr'=>?_)
     obtain⟨s1,s2,s3,s4⟩:=hr';by_cases hz:(r'.1==1)=true
     ·simp only[hz,if_true];rw[if_pos ⟨trivial,hroom⟩];refine .some ⟨?_,?_,?_,?_,?_,h6,h8⟩<;>(try simp only[List.length_append,List.length_cons,List.length_nil])<;>omega
     ·simp only[hz,Bool.false_eq_true,if_false];refine .some ⟨?_,?_,?_,?_,?_,h7,h5'⟩<;>(try simp only[List.length_append,List.length_cons,List.length_nil])<;>omega
   ·simp only[hq,if_false];refine .some ⟨?_,fun y hy=>?_,h5',?_,?_⟩
    ·exact h4'
    ·have:=h5 y hy;omega
    ·exact h2
    ·show s.2.2.1≤c+9;omega
  ·obtain⟨h1,h2,h3,h4,h4',h5,h5'⟩:=hs;have hlt:¬s.1<m:=by omega
   simp only[hlt,if_false];refine .some ⟨?_,fun y hy=>?_,h5',?_,?_⟩
   ·exact h4'
   ·have:=h5 y hy;omega
   ·exact h2
   ·show s.2.2.1≤c+9;omega
 ·obtain⟨t1,t2,t2',t3,t4⟩:=ht;by_cases hz:((t.2.2.length:Int)==0)=true
  ·simp only[hz,if_true];simp[fC];refine .some ⟨⟨?_,?_,?_,?_⟩,t3,t4⟩
   ·simp
   ·simp;omega
   ·simp;omega
   ·simp[De]
  ·simp only[hz,Bool.false_eq_true,if_false];simp[fC];refine .some ⟨⟨?_,t1,t2,t2'⟩,t3,t4⟩;simp only[beq_iff_eq]at hz;show 1≤t.2.2.length;omega
end
end Go.L
namespace Go.L
open Go.AM
theorem N0{β:Type}(a b:Int)(hb:b≠0)(k:Unit→Option β):(BK .i64 a b).run.bind k=k ():=by
 simp only[BK,I7,ne_eq,hb,not_false_eq_true,decide_true,if_true,Option.bind_some]
theorem Ru:((2:Int) ^ (@Min.min Nat instMinNat (Int.toNat (16:Int)) (IntKind.bits .i64)))=65536:=by decide
theorem wrap_u32'{a:Int}(h0:0≤a)(h1:a<4294967296):IntKind.wrap .u32 a=a:=by
 simp only[IntKind.wrap,IntKind.bits,IntKind.signed];simp
 omega
def N1(nt:Int)(i:Int)(b:BD):Prop:=0≤b.au∧b.au<nt∧b.aZ=10+i∧b.Target=500+i∧(b.ay=⟨0,0⟩∧b.aM=0∨b.ay=⟨167772160+i*65536,24⟩∧b.aM=167772161+i*65536)
def F2(nt:Int)(x:bS):Prop:=0≤x.From∧x.From<nt∧0≤x.To∧x.To<nt∧x.From≠x.To∧(x.af=⟨0,0⟩∨∃t,0≤t∧t<4∧x.af=⟨167772160+t*65536,16⟩)
def My(L nb:Int)(s:aU):Prop:=Mx L 3 s.Leaves∧Mx nb 4 s.aG
def Mz(jB:List BD)(segs:List aU)(i:Int)(h:Host):Prop:=
 h.aS=2199023951872+i∧0≤h.BD∧h.BD<(jB.length:Int)∧(h.aU= -1∨∃s,fN segs h.aU=some s∧h.BD∈s.aG)∧
 (h.IP=0∨∃b,fN jB h.BD=some b∧b.aM≠0∧h.IP=b.ay.IP+(10+i))
section
variable {n:Nat}
theorem JM(x:aC)(i m c:Int)(hx:vI c x)(hc:c≤100000)(hm:1≤m∧m≤8)(hi:0≤i∧i≤8):
 Good (γ:=BD×aC) (C3.S n (x,i,m)) fun r=>N1 m i r.1∧vI (c+2) r.2:=by
 show Good (γ:=BD×aC) ((zx x i m).run n) _;have w1:IntKind.wrap .i64 (10+i)=10+i:=wrap_i64 (by omega) (by omega)
 have w2:IntKind.wrap .u32 (10+i)=10+i:=wrap_u32' (by omega) (by omega)
 have w3:IntKind.wrap .i64 (500+i)=500+i:=wrap_i64 (by omega) (by omega)
 have w4:IntKind.wrap .u32 (500+i)=500+i:=wrap_u32' (by omega) (by omega)
 have w5:IntKind.wrap .i64 (i*65536)=i*65536:=wrap_i64 (by omega) (by omega)
 have w6:IntKind.wrap .i64 (167772160+i*65536)=167772160+i*65536:=wrap_i64 (by omega) (by omega)
 have w7:IntKind.wrap .u32 (167772160+i*65536)=167772160+i*65536:=wrap_u32' (by omega) (by omega)
 have w8:IntKind.wrap .u32 (167772160+i*65536+1)=167772161+i*65536:=by rw[wrap_u32' (by omega) (by omega)];omega
 simp only[zx,G.run,aN,if_true,decide_eq_true_eq,Ru,w1,w2,w3,w4,w5,w6,w7,w8];refine Good.bind (cK x m c hx (by omega) (by omega) (by omega)) (fun r hr=>?_)
 refine Good.bind (cK r.2 4 (c+1) hr.2.2 (by omega) (by decide) (by decide)) (fun r' hr'=>?_)
 have h:vI (c+2) r'.2:=by have:=hr'.2.2;unfold vI at*;omega
 split
 ·exact .some ⟨⟨hr.1,hr.2.1,rfl,rfl,.inr ⟨rfl,rfl⟩⟩,h⟩
 ·exact .some ⟨⟨hr.1,hr.2.1,rfl,rfl,.inl ⟨rfl,rfl⟩⟩,h⟩
theorem MA(x:aC)(m c:Int)(hx:vI c x)(hc:c≤100000)(hm:2≤m∧m≤8):
 Good (γ:=bS×aC) (FN.S n (x,m)) fun r=>F2 m r.1∧vI (c+4) r.2:=by
 show Good (γ:=bS×aC) ((B2 x m).run n) _;have w:IntKind.wrap .i64 (m - 1)=m - 1:=wrap_i64 (by omega) (by omega)
 have e:=fun {γ:Type} (a:Int) (k:Unit→Option γ)=>N0 a m (by omega) k
 simp only[B2,G.run,aN,if_true,decide_eq_true_eq,w,e,Ru];refine Good.bind (cK x m c hx (by omega) (by omega) (by omega)) (fun r hr=>?_)
 refine Good.bind (cK r.2 (m - 1) (c+1) hr.2.2 (by omega) (by omega) (by omega)) (fun r' hr'=>?_)
 refine Good.bind (cK r'.2 2 (c+1+1) hr'.2.2 (by omega) (by decide) (by decide)) (fun q hq=>?_)
 obtain⟨a1,a2,a3⟩:=hr;obtain⟨b1,b2,b3⟩:=hr';have v1:IntKind.wrap .i64 (r.1+1)=r.1+1:=wrap_i64 (by omega) (by omega)
 have v2:IntKind.wrap .i64 (r.1+1+r'.1)=r.1+1+r'.1:=wrap_i64 (by omega) (by omega)
 have v3:Int.tmod (r.1+1+r'.1) m=(r.1+1+r'.1) % m:=Int.tmod_eq_emod_of_nonneg (by omega)
 have v4:0≤(r.1+1+r'.1) % m:=Int.emod_nonneg _ (by omega)
 have v5:(r.1+1+r'.1) % m<m:=Int.emod_lt_of_pos _ (by omega)
 have v6:r.1≠(r.1+1+r'.1) % m:=by
  by_cases hlt:r.1+1+r'.1<m
  ·rw[Int.emod_eq_of_lt (by omega) hlt];omega
  ·have e1:(r.1+1+r'.1) % m=(r.1+1+r'.1 - m) % m:=by rw[Int.sub_emod_right]
   rw[e1,Int.emod_eq_of_lt (by omega) (by omega)];omega
 rw[v1,v2,v3];split
 ·refine Good.bind (cK q.2 4 (c+1+1+1) hq.2.2 (by omega) (by decide) (by decide)) (fun p hp=>?_)
  have w5:IntKind.wrap .i64 (p.1*65536)=p.1*65536:=wrap_i64 (by omega) (by omega)
  have w6:IntKind.wrap .i64 (167772160+p.1*65536)=167772160+p.1*65536:=wrap_i64 (by omega) (by omega)
  have w7:IntKind.wrap .u32 (167772160+p.1*65536)=167772160+p.1*65536:=wrap_u32' (by omega) (by omega)
  rw[w5,w6,w7];exact .some ⟨⟨a1,a2,v4,v5,v6,.inr ⟨p.1,hp.1,hp.2.1,rfl⟩⟩,by have:=hp.2.2;unfold vI at*;show 0≤p.2.at_∧p.2.at_≤c+4;omega⟩
 ·exact .some ⟨⟨a1,a2,v4,v5,v6,.inl rfl⟩,by have:=hq.2.2;unfold vI at*;show 0≤q.2.at_∧q.2.at_≤c+4;omega⟩
theorem Il{α:Type}(l:List α)(i:Int)(h0:0≤i)(h1:i<(l.length:Int)):∃x,fN l i=some x∧x∈l:=by
 obtain⟨j,rfl⟩:∃j:Nat,i=(j:Int):=⟨i.toNat,by omega⟩
 have hj:j<l.length:=by omega
 exact⟨l[j],by rw[bq];exact List.getElem?_eq_getElem hj,List.getElem_mem hj⟩
theorem mG{β:Type}(len m b aq:Nat)(i:Int)(k:Unit→Option β)(h0:0≤i)(h1:i<(len:Int)):(hU len m b aq i).run.bind k=k ():=by
 simp[hU,h0,h1]
theorem DN{c d:Int}{x:aC}(h:vI c x)(hd:c≤d):vI d x:=⟨h.1,Int.le_trans h.2 hd⟩
def JN(nt:Int)(l:List BD):Prop:=∀(i:Nat) b,l[i]? =some b→N1 nt (i:Int) b
theorem Rv{nt i:Int}{b:BD}(h:N1 nt i b)(hi:0≤i∧i≤8)(hg:b.aM≠0):b.ay.IP=167772160+i*65536:=by
 obtain⟨-,-,-,-,h |h⟩:=h
 ·exact absurd h.2 hg
 ·rw[h.1]
theorem MB(x:aC)(L S:Int)(links:List cE)(Af:List au)(jB:List BD)(segs:List aU)(a8 a9 a10:Int)(b11 b12:Bool)(a13 a14 a15 a16 a17 a18 i c nt:Int)(hx:vI c x)(hc:c≤100000)
 (h1:1≤segs.length∧segs.length≤8) (h2:∀s∈segs,My L (jB.length:Int) s) (h3:JN nt jB) (h4:jB.length≤8) (hi:0≤i∧i≤8):
 Good (γ:=Host×aC) (C4.S n (x,L,S,links,Af,jB,segs,a8,a9,a10,b11,b12,a13,a14,a15,a16,a17,a18,i)) fun r=>Mz jB segs i r.1∧vI (c+4) r.2:=by
 show Good (γ:=Host×aC) ((zy x L S links Af jB segs a8 a9 a10 b11 b12 a13 a14 a15 a16 a17 a18 i).run n) _;have w1:IntKind.wrap .i64 (2199023951872+i)=2199023951872+i:=wrap_i64 (by omega) (by omega)
 have w2:IntKind.wrap .u64 (2199023951872+i)=2199023951872+i:=by
  simp only[IntKind.wrap,IntKind.bits,IntKind.signed];simp
  omega
 have w3:IntKind.wrap .i64 (10+i)=10+i:=wrap_i64 (by omega) (by omega)
 have w4:IntKind.wrap .u32 (10+i)=10+i:=wrap_u32' (by omega) (by omega)
 simp only[zy,G.run,aN,bu,bF,if_true,decide_eq_true_eq,w1,w2,w3,w4];refine Good.bind (cK x (segs.length:Int) c hx (by omega) (by omega) (by omega)) (fun r hr=>?_)
 obtain⟨s,hs,hm⟩:=Il segs r.1 hr.1 hr.2.1;have hso:=(h2 s hm).2;obtain⟨so1,so2,so3,-⟩:=hso;rw[hs,Option.bind_some];refine Good.bind (cK r.2 (s.aG.length:Int) (c+1) hr.2.2 (by omega) (by omega) (by omega)) (fun r' hr'=>?_)
 obtain⟨d,hd,hdm⟩:=Il s.aG r'.1 hr'.1 hr'.2.1;rw[hd,Option.bind_some];obtain⟨b,hb,_⟩:=Il jB d (so3 d hdm).1 (so3 d hdm).2;rw[hb,Option.bind_some];have h3':vI (c+1+1) r'.2:=hr'.2.2;have hbd:=so3 d hdm;have hbv:N1 nt d b:=by
  obtain⟨j,rfl⟩:∃j:Nat,d=(j:Int):=⟨d.toNat,by omega⟩
  rw[bq]at hb;exact h3 j b hb
 have hseg:∀{v:Int},(v= -1∨v=r.1)→(v= -1∨∃s,fN segs v=some s∧d∈s.aG):=by
  rintro v (rfl |rfl)
  ·exact .inl rfl
  ·exact .inr ⟨s,hs,hdm⟩
 by_cases hg:(b.aM != 0)=true
 ·have hg':b.aM≠0:=by simpa using hg
  have hip:=Rv hbv ⟨hbd.1,by omega⟩ hg'
  have w5:IntKind.wrap .u32 (b.ay.IP+(10+i))=b.ay.IP+(10+i):=wrap_u32' (by omega) (by omega)
  rw[if_pos hg];refine Good.bind (cK r'.2 6 (c+1+1) h3' (by omega) (by decide) (by decide)) (fun q hq=>?_)
  split
  ·rw[Option.bind_some,w5];refine Good.bind (cK q.2 10 (c+1+1+1) hq.2.2 (by omega) (by decide) (by decide)) (fun p hp=>?_)
   split
   ·exact .some ⟨⟨rfl,hbd.1,hbd.2,hseg (.inl rfl),.inr ⟨b,hb,hg',rfl⟩⟩,DN hp.2.2 (by omega)⟩
   ·exact .some ⟨⟨rfl,hbd.1,hbd.2,hseg (.inr rfl),.inr ⟨b,hb,hg',rfl⟩⟩,DN hp.2.2 (by omega)⟩
  ·refine Good.bind (cK q.2 10 (c+1+1+1) hq.2.2 (by omega) (by decide) (by decide)) (fun p hp=>?_)
   split
   ·exact .some ⟨⟨rfl,hbd.1,hbd.2,hseg (.inl rfl),.inl rfl⟩,DN hp.2.2 (by omega)⟩
   ·exact .some ⟨⟨rfl,hbd.1,hbd.2,hseg (.inr rfl),.inl rfl⟩,DN hp.2.2 (by omega)⟩
 ·rw[if_neg hg];refine Good.bind (cK r'.2 10 (c+1+1) h3' (by omega) (by decide) (by decide)) (fun p hp=>?_)
  split
  ·exact .some ⟨⟨rfl,hbd.1,hbd.2,hseg (.inl rfl),.inl rfl⟩,DN hp.2.2 (by omega)⟩
  ·exact .some ⟨⟨rfl,hbd.1,hbd.2,hseg (.inr rfl),.inl rfl⟩,DN hp.2.2 (by omega)⟩
def Im(l:List au):Prop:=∀(i:Nat) t,l[i]? =some t→t=⟨100+(i:Int),900+(i:Int)⟩
def F3(jB:List BD)(segs:List aU)(l:List Host):Prop:=∀(i:Nat) h,l[i]? =some h→Mz jB segs (i:Int) h
structure Vf(f:av):Prop where
 leaves:2≤f.Leaves∧f.Leaves≤4
 zG:1≤f.cO∧f.cO≤3
 links:JL f.Leaves f.cO f.Links
 iQ:1≤f.aA.length∧f.aA.length≤3
 Af:Im f.aA
 jB:1≤f.aG.length∧f.aG.length≤4
 bd:JN (f.aA.length:Int) f.aG
 segments:2≤f.ax.length∧f.ax.length≤6
 seg:∀s∈f.ax,My f.Leaves (f.aG.length:Int) s
 sW:f.Hosts.length≤8
 host:F3 f.aG f.ax f.Hosts
 leaks:f.Leaks.length≤2
 Rw:∀x∈f.Leaks,F2 (f.aA.length:Int) x
 P4:f.Leaks.Nodup
 MC:0≤f.nR∧f.nR≤2
 GI:0≤f.jq∧f.jq≤1
 router:0≤f.bD∧f.bD≤1
 timers:1≤f.bC.nQ∧f.bC.nQ≤3∧f.bC.wo=9∧40≤f.bC.z6∧f.bC.z6≤69∧f.bC.mK=20∧f.bC.sM=5∧f.bC.Window=30
theorem ET{α:Type}{P:Nat→α→Prop}{l:List α}{y:α}(h:∀(i:Nat) x,l[i]? =some x→P i x)(hy:P l.length y):∀(i:Nat) x,(l++[y])[i]? =some x→P i x:=by
 intro i x hx;rw[List.getElem?_append]at hx;split at hx
 ·exact h i x hx
 ·rename_i hge;have:i - l.length=0:=by
   rcases Nat.eq_zero_or_pos (i - l.length)with h0 |h0
   ·exact h0
   ·rw[List.getElem?_eq_none (by simp;omega)]at hx;cases hx
  have:i=l.length:=by omega
  subst this;simp at hx;subst hx;exact hy
theorem JO(l:List Int)(hn:5000≤n):Good (γ:=av) (C5.S n l) Vf:=by
 show Good (γ:=av) ((zz l).run n) _;simp only[zz,G.run,aN,bu,bF,zY,if_true,decide_eq_true_eq];refine Good.bind (cK (n:=n) (Go.L.aC.mk l 0) 3 0 ⟨Int.le_refl _,Int.le_refl _⟩ (by decide) (by decide) (by decide)) (fun r2 h2=>?_)
 refine Good.bind (cK r2.2 3 1 h2.2.2 (by decide) (by decide) (by decide)) (fun r3 h3=>?_)
 refine Good.bind (cK r3.2 3 2 h3.2.2 (by decide) (by decide) (by decide)) (fun r4 h4=>?_)
 refine Good.bind (cK r4.2 2 3 h4.2.2 (by decide) (by decide) (by decide)) (fun r5 h5=>?_)
 refine Good.bind (cK r5.2 2 4 h5.2.2 (by decide) (by decide) (by decide)) (fun r6 h6=>?_)
 refine Good.bind (cK r6.2 2 5 h6.2.2 (by decide) (by decide) (by decide)) (fun r7 h7=>?_)
 refine Good.bind (cK r7.2 3 6 h7.2.2 (by decide) (by decide) (by decide)) (fun r8 h8=>?_)
 refine Good.bind (cK r8.2 3 7 h8.2.2 (by decide) (by decide) (by decide)) (fun r9 h9=>?_)
 refine Good.bind (cK r9.2 30 8 h9.2.2 (by decide) (by decide) (by decide)) (fun r10 h10=>?_)
 obtain⟨l1,l2,-⟩:=h2;obtain⟨p1,p2,-⟩:=h3;obtain⟨e1,e2,-⟩:=h4;obtain⟨e3,e4,-⟩:=h5;obtain⟨e5,e6,-⟩:=h6;obtain⟨e7,e8,-⟩:=h9;obtain⟨e9,e10,h10'⟩:=h10;have wl:IntKind.wrap .i64 (2+r2.1)=2+r2.1:=wrap_i64 (by omega) (by omega)
 have wp:IntKind.wrap .i64 (1+r3.1)=1+r3.1:=wrap_i64 (by omega) (by omega)
 have wd:IntKind.wrap .i64 (1+r9.1)=1+r9.1:=wrap_i64 (by omega) (by omega)
 have wa:IntKind.wrap .i64 (40+r10.1)=40+r10.1:=wrap_i64 (by omega) (by omega)
 rw[wl,wp,wd,wa];refine Good.bind (Kz r10.2 (2+r2.1) (1+r3.1) 9 h10' (by decide) (by omega) (by omega) hn) (fun r11 h11=>?_)
 refine Good.bind (γ:=List Int×Int×List au) (Q:=fun t=>1≤t.2.2.length∧t.2.2.length≤3∧0≤t.2.1∧t.2.1≤77∧Im t.2.2) ?_ (fun t1 ht1=>?_)
 ·obtain⟨k1,k2⟩:=h11.2;refine nW (fun j (s:Int×List Int×Int×List au)=>s.1=(j:Int)∧0≤s.2.2.1∧s.2.2.1≤73+(j:Int)∧(s.2.2.2.length:Int)=(j:Int)∧Im s.2.2.2) 3 (fun j s hj hs=>?_) (fun s hs=>?_) (by omega) ⟨rfl,k1,by simp;omega,by simp,by simp[Im]⟩
  ·obtain⟨g1,g2,g3,g4,g5⟩:=hs;refine Good.bind (cK (n:=n) (Go.L.aC.mk s.2.1 s.2.2.1) 3 (73+(j:Int)) ⟨g2,g3⟩ (by omega) (by decide) (by decide)) (fun r hr=>?_)
   obtain⟨s1,s2,s3,s4⟩:=hr;have w:IntKind.wrap .i64 (s.1+1)=s.1+1:=wrap_i64 (by omega) (by omega)
   have w1:IntKind.wrap .i64 (100+s.1)=100+s.1:=wrap_i64 (by omega) (by omega)
   have w2:IntKind.wrap .u32 (100+s.1)=100+s.1:=wrap_u32' (by omega) (by omega)
   have w3:IntKind.wrap .i64 (900+s.1)=900+s.1:=wrap_i64 (by omega) (by omega)
   have w4:IntKind.wrap .u32 (900+s.1)=900+s.1:=wrap_u32' (by omega) (by omega)
   have hroom:roomy (s.2.2.2.length+1) 8=true:=by simp[roomy];omega
   by_cases hle:s.1≤r.1
   ·rw[if_pos hle,if_pos ⟨trivial,hroom⟩,w,w1,w2,w3,w4];refine .some ⟨?_,?_,?_,?_,?_⟩
    ·show s.1+1=((j+1:Nat):Int);omega
    ·exact s3
    ·show r.2.at_≤73+((j+1:Nat):Int);omega
    ·simp only[List.length_append,List.length_cons,List.length_nil];omega
    ·refine ET (P:=fun i t=>t=(⟨100+(i:Int),900+(i:Int)⟩:au)) g5 ?_
     rw[g4,g1]
   ·rw[if_neg hle];refine .some ⟨?_,?_,?_,?_,g5⟩
    ·show 1≤s.2.2.2.length;omega
    ·show s.2.2.2.length≤3;omega
    ·exact s3
    ·show r.2.at_≤77;omega
  ·obtain⟨g1,g2,g3,g4,g5⟩:=hs;refine Good.bind (cK (n:=n) (Go.L.aC.mk s.2.1 s.2.2.1) 3 76 ⟨g2,by simpa using g3⟩ (by omega) (by decide) (by decide)) (fun r hr=>?_)
   obtain⟨s1,s2,s3,s4⟩:=hr;have hle:¬s.1≤r.1:=by omega
   rw[if_neg hle];refine .some ⟨?_,?_,?_,?_,g5⟩
   ·show 1≤s.2.2.2.length;omega
   ·show s.2.2.2.length≤3;omega
   ·exact s3
   ·show r.2.at_≤77;omega
 obtain⟨u1,u2,u3,u4,u5⟩:=ht1;refine Good.bind (cK (n:=n) (Go.L.aC.mk t1.1 t1.2.1) 4 77 ⟨u3,u4⟩ (by decide) (by decide) (by decide)) (fun r25 h25=>?_)
 obtain⟨q1,q2,q3⟩:=h25;have w25:IntKind.wrap .i64 (1+r25.1)=1+r25.1:=wrap_i64 (by omega) (by omega)
 rw[w25];simp[fC];refine Good.bind (γ:=List Int×Int×List BD) (Q:=fun t=>1≤t.2.2.length∧t.2.2.length≤4∧0≤t.2.1∧t.2.1≤86∧JN (t1.2.2.length:Int) t.2.2) ?_ (fun t2 ht2=>?_)
 ·refine nW (fun j (s:Int×List Int×Int×List BD)=>s.1=(j:Int)∧0≤s.2.2.1∧s.2.2.1≤78+2*(j:Int)∧(s.2.2.2.length:Int)=(j:Int)∧JN (t1.2.2.length:Int) s.2.2.2) (1+r25.1).toNat (fun j s hj hs=>?_) (fun s hs=>?_) (by omega) ⟨rfl,q3.1,by have:=q3.2;simp;omega,by simp,by simp[JN]⟩
  ·obtain⟨g1,g2,g3,g4,g5⟩:=hs;have hlt:s.1<1+r25.1:=by omega
   rw[if_pos hlt];refine Good.bind (JM (n:=n) (Go.L.aC.mk s.2.1 s.2.2.1) s.1 (t1.2.2.length:Int) (78+2*(j:Int)) ⟨g2,g3⟩ (by omega) (by omega) (by omega)) (fun r hr=>?_)
   obtain⟨hb,s3,s4⟩:=hr;have w:IntKind.wrap .i64 (s.1+1)=s.1+1:=wrap_i64 (by omega) (by omega)
   have hroom:roomy (s.2.2.2.length+1) 40=true:=by simp[roomy];omega
   rw[if_pos hroom,w];refine .some ⟨?_,?_,?_,?_,?_⟩
   ·show s.1+1=((j+1:Nat):Int);omega
   ·exact s3
   ·show r.2.at_≤78+2*((j+1:Nat):Int);omega
   ·simp only[List.length_append,List.length_cons,List.length_nil];omega
   ·refine ET (P:=fun i b=>N1 (t1.2.2.length:Int) (i:Int) b) g5 ?_
    rw[g4,← g1];exact hb
  ·obtain⟨g1,g2,g3,g4,g5⟩:=hs;have hlt:¬s.1<1+r25.1:=by omega
   rw[if_neg hlt];refine .some ⟨?_,?_,?_,?_,g5⟩
   ·show 1≤s.2.2.2.length;omega
   ·show s.2.2.2.length≤4;omega
   ·exact g2
   ·show s.2.2.1≤86;omega
 obtain⟨b1,b2,b3,b4,b5⟩:=ht2;refine Good.bind (cK (n:=n) (Go.L.aC.mk t2.1 t2.2.1) 5 86 ⟨b3,b4⟩ (by decide) (by decide) (by decide)) (fun r39 h39=>?_)
 obtain⟨q1',q2',q3'⟩:=h39;have w39:IntKind.wrap .i64 (2+r39.1)=2+r39.1:=wrap_i64 (by omega) (by omega)
 rw[w39];refine Good.bind (γ:=List Int×Int×List aU) (Q:=fun t=>2≤t.2.2.length∧t.2.2.length≤6∧(∀y∈t.2.2,My (2+r2.1) (t2.2.2.length:Int) y)∧0≤t.2.1∧t.2.1≤195) ?_ (fun t3 ht3=>?_)
 ·refine nW (fun j (s:Int×List Int×Int×List aU)=>s.1=(j:Int)∧0≤s.2.2.1∧s.2.2.1≤87+18*(j:Int)∧(s.2.2.2.length:Int)=(j:Int)∧∀y∈s.2.2.2,My (2+r2.1) (t2.2.2.length:Int) y) (2+r39.1).toNat (fun j s hj hs=>?_) (fun s hs=>?_) (by omega) ⟨rfl,q3'.1,by have:=q3'.2;simp;omega,by simp,by simp⟩
  ·obtain⟨g1,g2,g3,g4,g5⟩:=hs;have hlt:s.1<2+r39.1:=by omega
   rw[if_pos hlt];refine Good.bind (F1 (n:=n) (Go.L.aC.mk s.2.1 s.2.2.1) (2+r2.1) 3 (87+18*(j:Int)) ⟨g2,g3⟩ (by omega) (by omega) (by omega) hn) (fun r hr=>?_)
   obtain⟨m1,m4⟩:=hr;refine Good.bind (F1 (n:=n) r.2 (t2.2.2.length:Int) 4 (87+18*(j:Int)+9) m4 (by omega) (by omega) (by omega) hn) (fun r' hr'=>?_)
   obtain⟨m5,m8,m9⟩:=hr';have w:IntKind.wrap .i64 (s.1+1)=s.1+1:=wrap_i64 (by omega) (by omega)
   have hroom:roomy (s.2.2.2.length+1) 48=true:=by simp[roomy];omega
   rw[if_pos hroom,w];refine .some ⟨?_,?_,?_,?_,fun y hy=>?_⟩
   ·show s.1+1=((j+1:Nat):Int);omega
   ·exact m8
   ·show r'.2.at_≤87+18*((j+1:Nat):Int);omega
   ·simp only[List.length_append,List.length_cons,List.length_nil];omega
   ·rcases List.mem_append.1 hy with hy |hy
    ·exact g5 y hy
    ·simp only[List.mem_singleton]at hy;subst hy;exact⟨m1,m5⟩
  ·obtain⟨g1,g2,g3,g4,g5⟩:=hs;have hlt:¬s.1<2+r39.1:=by omega
   rw[if_neg hlt];refine .some ⟨?_,?_,g5,g2,?_⟩
   ·show 2≤s.2.2.2.length;omega
   ·show s.2.2.2.length≤6;omega
   ·show s.2.2.1≤195;omega
 obtain⟨c1,c2,c3,c4,c5⟩:=ht3;refine Good.bind (cK (n:=n) (Go.L.aC.mk t3.1 t3.2.1) 9 195 ⟨c4,c5⟩ (by decide) (by decide) (by decide)) (fun r56 h56=>?_)
 obtain⟨v1,v2,v3⟩:=h56;refine Good.bind (γ:=List Int×Int×List Host) (Q:=fun t=>t.2.2.length≤8∧0≤t.2.1∧t.2.1≤228∧F3 t2.2.2 t3.2.2 t.2.2) ?_ (fun t4 ht4=>?_)
 ·refine nW (fun j (s:Int×List Int×Int×List Host)=>s.1=(j:Int)∧0≤s.2.2.1∧s.2.2.1≤196+4*(j:Int)∧(s.2.2.2.length:Int)=(j:Int)∧F3 t2.2.2 t3.2.2 s.2.2.2) r56.1.toNat (fun j s hj hs=>?_) (fun s hs=>?_) (by omega) ⟨rfl,v3.1,by have:=v3.2;simp;omega,by simp,by simp[F3]⟩
  ·obtain⟨g1,g2,g3,g4,g5⟩:=hs;have hlt:s.1<r56.1:=by omega
   rw[if_pos hlt];refine Good.bind (MB (n:=n) (Go.L.aC.mk s.2.1 s.2.2.1) _ _ _ _ t2.2.2 t3.2.2 _ _ _ _ _ _ _ _ _ _ _ s.1 (196+4*(j:Int)) (t1.2.2.length:Int) ⟨g2,g3⟩ (by omega) (by omega) c3 b5 (by omega) (by omega)) (fun r hr=>?_)
   obtain⟨hh,s3,s4⟩:=hr;have w:IntKind.wrap .i64 (s.1+1)=s.1+1:=wrap_i64 (by omega) (by omega)
   have hroom:roomy (s.2.2.2.length+1) 32=true:=by simp[roomy];omega
   rw[if_pos hroom,w];refine .some ⟨?_,?_,?_,?_,?_⟩
   ·show s.1+1=((j+1:Nat):Int);omega
   ·exact s3
   ·show r.2.at_≤196+4*((j+1:Nat):Int);omega
   ·simp only[List.length_append,List.length_cons,List.length_nil];omega
   ·refine ET (P:=fun i b=>Mz t2.2.2 t3.2.2 (i:Int) b) g5 ?_
    rw[g4,← g1];exact hh
  ·obtain⟨g1,g2,g3,g4,g5⟩:=hs;have hlt:¬s.1<r56.1:=by omega
   rw[if_neg hlt];refine .some ⟨?_,?_,?_,g5⟩
   ·show s.2.2.2.length≤8;omega
   ·exact g2
   ·show s.2.2.1≤228;omega
 obtain⟨d1,d2,d3,d4⟩:=ht4;have hsz:∀lk:List bS,lk.length≤2→(∀x∈lk,F2 (t1.2.2.length:Int) x)→lk.Nodup→Vf {Leaves:=2+r2.1,cO:=1+r3.1,Links:=r11.1,aA:=t1.2.2,aG:=t2.2.2,ax:=t3.2.2,Hosts:=t4.2.2,Leaks:=lk,nR:=r4.1,jq:=r5.1,bD:=r6.1,ou:=r7.1==0,xb:=r8.1==1,bC:={nQ:=1+r9.1,wo:=9,z6:=40+r10.1,mK:=20,sM:=5,Window:=30}}:=fun lk hlk hlv hld=>
  ⟨⟨by show 2≤2+r2.1;omega,by show 2+r2.1≤4;omega⟩,⟨by show 1≤1+r3.1;omega,by show 1+r3.1≤3;omega⟩,h11.1,⟨u1,u2⟩,u5,⟨b1,b2⟩,b5,⟨c1,c2⟩,c3,d1,d4,hlk,hlv,hld,
   ⟨e1,by show r4.1≤2;omega⟩,⟨e3,by show r5.1≤1;omega⟩,⟨e5,by show r6.1≤1;omega⟩,by show 1≤1+r9.1;omega,by show 1+r9.1≤3;omega,rfl,by show 40≤40+r10.1;omega,by show 40+r10.1≤69;omega,rfl,rfl,rfl⟩
 by_cases hm:(1:Int)<(t1.2.2.length:Int)
 ·rw[if_pos (by simpa using hm)]
  refine Good.bind (cK (n:=n) (Go.L.aC.mk t4.1 t4.2.1) 3 228 ⟨d2,d3⟩ (by decide) (by decide) (by decide)) (fun r70 h70=>?_)
  obtain⟨v1',v2',v3'⟩:=h70;refine Good.bind (γ:=List Int×Int×List bS) (Q:=fun t=>t.2.2.length≤2∧(∀x∈t.2.2,F2 (t1.2.2.length:Int) x)∧t.2.2.Nodup) ?_ (fun t5 ht5=>?_)
  ·refine nW (fun j (s:Int×List Int×Int×List bS)=>s.1=(j:Int)∧0≤s.2.2.1∧s.2.2.1≤229+4*(j:Int)∧(s.2.2.2.length:Int)≤(j:Int)∧(∀x∈s.2.2.2,F2 (t1.2.2.length:Int) x)∧s.2.2.2.Nodup) r70.1.toNat (fun j s hj hs=>?_) (fun s hs=>?_) (by omega) ⟨rfl,v3'.1,by have:=v3'.2;simp;omega,by simp,by simp,by simp⟩
   ·obtain⟨g1,g2,g3,g4,g5,g6⟩:=hs;have hlt:s.1<r70.1:=by omega
    rw[if_pos hlt];refine Good.bind (MA (n:=n) (Go.L.aC.mk s.2.1 s.2.2.1) (t1.2.2.length:Int) (229+4*(j:Int)) ⟨g2,g3⟩ (by omega) (by omega)) (fun r hr=>?_)
    obtain⟨hk,s3,s4⟩:=hr;have w:IntKind.wrap .i64 (s.1+1)=s.1+1:=wrap_i64 (by omega) (by omega)
    have hroom:roomy (s.2.2.2.length+1) 32=true:=by simp[roomy];omega
    refine Good.bind (γ:=Unit⊕Unit) (Q:=fun t=>match t with | .inl _=>True | .inr _=>r.1∉s.2.2.2) ?_ (fun t ht=>?_)
    ·refine nW (fun i (q:Int)=>q=(i:Int)∧∀j<i,∀y,s.2.2.2[j]? =some y→y≠r.1) s.2.2.2.length (fun i q hi hq=>?_) (fun q hq=>?_) (by omega) ⟨rfl,by simp⟩
     ·obtain⟨rfl,hq⟩:=hq;have hlt:(i:Int)<(s.2.2.2.length:Int):=by omega
      rw[if_pos hlt,mG _ _ _ _ _ _ (by omega) hlt]
      simp only[OY,Int.toNat_natCast,List.getElem?_eq_getElem hi,Option.bind_some];split
      ·exact .some trivial
      ·rename_i hne;refine .some ⟨bL (by omega),fun k hk y hy=>?_⟩
       rcases Nat.lt_or_ge k i with hki |hki
       ·exact hq k hki y hy
       ·have:k=i:=by omega
        subst this;rw[List.getElem?_eq_getElem hi]at hy;simp only[Option.some.injEq]at hy;subst hy;intro e;apply hne;simp[e]
     ·obtain⟨rfl,hq⟩:=hq;simp only[Int.lt_irrefl,if_false];refine .some fun hmem=>?_
      obtain⟨k,hk⟩:=List.getElem?_of_mem hmem;exact hq k (List.getElem?_eq_some_iff.1 hk).1 _ hk rfl
    ·cases t with
     |inl _=>
      simp only[Sum.elim,G.run,aN,if_true];rw[w];refine .some ⟨?_,s3,?_,?_,g5,g6⟩
      ·show s.1+1=((j+1:Nat):Int);omega
      ·show r.2.at_≤229+4*((j+1:Nat):Int);omega
      ·show(s.2.2.2.length:Int)≤((j+1:Nat):Int);omega
     |inr _=>
      simp only[Sum.elim,G.run,aN,zY,if_true];rw[if_pos ⟨trivial,hroom⟩,w];refine .some ⟨?_,s3,?_,?_,fun x hx=>?_,?_⟩
      ·show s.1+1=((j+1:Nat):Int);omega
      ·show r.2.at_≤229+4*((j+1:Nat):Int);omega
      ·simp only[List.length_append,List.length_cons,List.length_nil];omega
      ·rcases List.mem_append.1 hx with hx |hx
       ·exact g5 x hx
       ·simp only[List.mem_singleton]at hx;subst hx;exact hk
      ·rw[List.nodup_append];refine⟨g6,by simp,fun a ha b hb=>?_⟩
       simp only[List.mem_singleton]at hb;subst hb;rintro rfl;exact ht ha
   ·obtain⟨g1,g2,g3,g4,g5,g6⟩:=hs;have hlt:¬s.1<r70.1:=by omega
    rw[if_neg hlt];exact .some ⟨by show s.2.2.2.length≤2;omega,g5,g6⟩
  ·exact .some (hsz _ ht5.1 ht5.2.1 ht5.2.2)
 ·rw[if_neg (by simpa using hm)]
  exact .some (hsz [] (by simp) (by simp) (by simp))
end
end Go.L
namespace Go.L
open Go.AM
theorem nX{α K:Type}[DecidableEq K](key:α→K)(l:List α)(i:Nat)(x:α)(hx:l[i]? =some x)(h:∀(j:Nat) y,j<i→l[j]? =some y→key y≠key x):(aT key [] l).getD i false=false:=by
 rw[List.getD_eq_getElem?_getD,B3,hx];simp only[Option.map_some,Option.getD_some,List.nil_append,decide_eq_false_iff_not,List.mem_map,not_exists,not_and];intro y hy e;obtain⟨j,hj⟩:=List.getElem?_of_mem hy;rw[List.getElem?_take]at hj;split at hj
 ·rename_i hlt;exact h j y hlt hj e
 ·cases hj
theorem qP{p:ByteArray}{m:Int}{b:Bool}{r:Option (Int×Nat)}(hb:b=false)(hr:r=none):outcome p m b r=.inl ():=by
 subst hb;subst hr;rfl
theorem pJ{α:Type}{E:Nat→α→Int}{l:List α}(h:∀(j:Nat) x,l[j]? =some x→E j x=0):bE E 0 l=none:=
 (qC l 0).2 fun j x hx=>by rw[Nat.zero_add];exact h j x hx
theorem MD:∀{l:List Int},De l→uA l=true
 | [],_=>rfl
 | [_],_=>rfl
 |x::y::l,h=>by
  have h':De (y::l):=(List.pairwise_cons.1 h).2;have hxy:x<y:=(List.pairwise_cons.1 h).1 y (by simp)
  have ih:=MD h';simp only[uA,List.tail_cons,List.zip_cons_cons,List.all_cons,Bool.and_eq_true,decide_eq_true_eq]at ih ⊢;exact⟨hxy,ih⟩
theorem N2{α:Type}{l:List α}(h:l.Nodup){i j:Nat}{x y:α}(hx:l[i]? =some x)(hy:l[j]? =some y)(hij:j<i):y≠x:=by
 obtain⟨h1,rfl⟩:=List.getElem?_eq_some_iff.1 hx;obtain⟨h2,rfl⟩:=List.getElem?_eq_some_iff.1 hy;exact(List.pairwise_iff_getElem.1 h) j i h2 h1 hij
section
variable {f:av} (hv:Vf f)
include hv
theorem Pu:tQ f=.inl ():=by
 obtain⟨h1,h2,h3⟩:=hv.links;refine qP (by simp;omega) (pJ fun i x hx=>?_)
 obtain⟨a1,a2,a3,a4,a5,a6⟩:=h2 x (List.mem_of_getElem? hx);have hf:=nX (fun x:cE=>(⟨x.A,x.B⟩:V2 Int)) f.Links i x hx fun j y hj hy e=>by
  have e1:(f.Links.map B6)[i]? =some (B6 x):=by rw[List.getElem?_map,hx];rfl
  have e2:(f.Links.map B6)[j]? =some (B6 y):=by rw[List.getElem?_map,hy];rfl
  exact N2 h3 e1 e2 hj e
 have hw:IntKind.wrap .i64 (f.Leaves+f.cO)=f.Leaves+f.cO:=wrap_i64 (by have:=hv.leaves;have:=hv.zG;omega) (by have:=hv.leaves;have:=hv.zG;omega)
 have c1:(decide (0≤x.A)&&decide (x.A<f.Leaves))=true:=by simp[a1,a2]
 have c2:decide (x.B≥f.Leaves)=true:=by simp;omega
 have c3:¬(!decide (x.B<IntKind.wrap .i64 (f.Leaves+f.cO)))=true:=by rw[hw];simp;omega
 have c4:¬(decide (x.wm<1)||decide (1000<x.wm))=true:=by simp;omega
 rw[vF,if_pos c1,if_pos c2,if_neg c3,if_neg c4,hf,if_neg (by decide)]
theorem ME:oC f=.inl ():=by
 obtain⟨h1,h2⟩:=hv.iQ;have ht:=hv.Af;refine qP (by simp;omega) (pJ fun i x hx=>?_)
 have hi:=(List.getElem?_eq_some_iff.1 hx).1;have e:=ht i x hx;have hf1:=nX (fun x:au=>x.aZ) f.aA i x hx fun j y hj hy e'=>by
  have e2:=ht j y hy;subst e2;subst e;simp at e';omega
 have hf2:=nX (fun x:au=>x.Target) f.aA i x hx fun j y hj hy e'=>by
  have e2:=ht j y hy;subst e2;subst e;simp at e';omega
 subst e;have c1:¬decide ((100+(i:Int))<1)=true:=by simp;omega
 have c2:¬decide (16777215<(100+(i:Int)))=true:=by simp;omega
 have c3:¬(((900+(i:Int))==0)=true):=by simp;omega
 rw[pH,if_neg c1,if_neg c2,if_neg c3,hf1,if_neg (by decide),hf2,if_neg (by decide)]
theorem Pv:tS f=.inl ():=by
 refine qP (by have:=hv.leaks;simp;omega) (pJ fun i x hx=>?_)
 obtain⟨a1,a2,a3,a4,a5,a6⟩:=hv.Rw x (List.mem_of_getElem? hx);have hf:=nX (fun x:bS=>x) f.Leaks i x hx fun j y hj hy e=>N2 hv.P4 hx hy hj e
 have c1:¬(!(decide (0≤x.From)&&decide (x.From<(f.aA.length:Int))))=true:=by simp[a1,a2]
 have c2:¬(!(decide (0≤x.To)&&decide (x.To<(f.aA.length:Int))))=true:=by simp[a3,a4]
 have c3:¬(x.From==x.To)=true:=by simp[a5]
 have c4:¬(!gv x.af)=true:=by
  rcases a6 with e |⟨t,t0,t4,e⟩
  ·rw[e];decide
  ·rw[e];rcases(by omega:t=0∨t=1∨t=2∨t=3)with rfl |rfl |rfl |rfl<;>decide
 rw[vG,if_neg c1,if_neg c2,if_neg c3,if_neg c4,hf,if_neg (by decide)]
theorem MF:lR f=.inl ():=by
 obtain⟨h1,h2⟩:=hv.jB;obtain⟨h3,h4⟩:=hv.iQ;have hb:=hv.bd;refine qP (by simp;omega) (pJ fun i b hx=>?_)
 have hi:=(List.getElem?_eq_some_iff.1 hx).1;obtain⟨a1,a2,a3,a4,a5⟩:=hb i b hx;have hf1:=nX (fun x:BD=>x.aZ) f.aG i b hx fun j y hj hy e=>by
  have:=(hb j y hy).2.2.1;have e':y.aZ=b.aZ:=e;omega
 have hf2:=nX (fun x:BD=>x.Target) f.aG i b hx fun j y hj hy e=>by
  have:=(hb j y hy).2.2.2.1;have e':y.Target=b.Target:=e;omega
 have c1:¬(!(decide (0≤b.au)&&decide (b.au<(f.aA.length:Int))))=true:=by simp[a1,a2]
 have c2:¬decide (b.aZ<1)=true:=by simp;omega
 have c3:¬decide (16777215<b.aZ)=true:=by simp;omega
 have c4:¬(b.Target==0)=true:=by simp;omega
 have c5:¬(f.aA.any fun x=>x.aZ==b.aZ)=true:=by
  simp only[List.any_eq_true,beq_iff_eq,not_exists,not_and];intro t ht e;obtain⟨j,hj⟩:=List.getElem?_of_mem ht;have:=hv.Af j t hj;have hjl:=(List.getElem?_eq_some_iff.1 hj).1;rw[this]at e;simp only at e;omega
 have c6:¬(f.aA.any fun x=>x.Target==b.Target)=true:=by
  simp only[List.any_eq_true,beq_iff_eq,not_exists,not_and];intro t ht e;obtain⟨j,hj⟩:=List.getElem?_of_mem ht;have:=hv.Af j t hj;have hjl:=(List.getElem?_eq_some_iff.1 hj).1;rw[this]at e;simp only at e;omega
 rw[wL,if_neg c1,if_neg c2,if_neg c3,if_neg c4,hf1,if_neg (by decide),hf2,if_neg (by decide),if_neg c5,if_neg c6]
 rcases a5 with⟨e1,e2⟩ |⟨e1,e2⟩
 ·rw[e1,e2,if_pos (by decide),if_neg (by decide)]
 ·have c7:¬(b.aM==0)=true:=by simp;omega
  have c11:¬((f.aG.take i).any (oK b.au b.ay.IP b.ay.Len))=true:=by
   simp only[List.any_eq_true,not_exists,not_and];intro y hy ho;obtain⟨j,hj⟩:=List.getElem?_of_mem hy;rw[List.getElem?_take]at hj;split at hj
   ·rename_i hlt;obtain⟨-,-,-,-,a6⟩:=hb j y hj;simp only[oK,Bool.and_eq_true,bne_iff_ne]at ho;obtain⟨-,hg,hc⟩:=ho;rcases a6 with⟨e3,e4⟩ |⟨e3,e4⟩
    ·exact hg e4
    ·rw[e1,e3]at hc;simp only at hc;rcases(by omega:(j=0∧i=1)∨(j=0∧i=2)∨(j=0∧i=3)∨(j=1∧i=2)∨(j=1∧i=3)∨(j=2∧i=3))with⟨rfl,rfl⟩ |⟨rfl,rfl⟩ |⟨rfl,rfl⟩ |⟨rfl,rfl⟩ |⟨rfl,rfl⟩ |⟨rfl,rfl⟩<;>revert hc<;>decide
   ·cases hj
  have c8:¬(!gv b.ay)=true:=by
   rw[e1];rcases(by omega:i=0∨i=1∨i=2∨i=3)with rfl |rfl |rfl |rfl<;>decide
  have c9:¬out b.ay.Len 8 30=true:=by rw[e1];show ¬out 24 8 30=true;decide
  have c10:¬(!xJ b.ay b.aM)=true:=by
   rw[e1,e2];rcases(by omega:i=0∨i=1∨i=2∨i=3)with rfl |rfl |rfl |rfl<;>decide
  rw[if_neg c7,if_neg c8,if_neg c9,if_neg c10,if_neg c11]
theorem KA:mH f=.inl ():=by
 obtain⟨h1,h2⟩:=hv.segments;refine qP (by simp;omega) (pJ fun i x hx=>?_)
 have hi:=(List.getElem?_eq_some_iff.1 hx).1;obtain⟨⟨a1,a2,a3,a4⟩,⟨b1,b2,b3,b4⟩⟩:=hv.seg x (List.mem_of_getElem? hx);have c1:¬((x.Leaves.length:Int)==0)=true:=by simp only[beq_iff_eq];omega
 have c2:¬((x.aG.length:Int)==0)=true:=by simp only[beq_iff_eq];omega
 have c3:¬(x.Leaves.any fun n=> !(decide (0≤n)&&decide (n<f.Leaves)))=true:=by
  simp only[List.any_eq_true,not_exists,not_and];intro y hy;have:=a3 y hy;simp[this.1,this.2]
 have c4:¬(x.aG.any fun n=> !(decide (0≤n)&&decide (n<(f.aG.length:Int))))=true:=by
  simp only[List.any_eq_true,not_exists,not_and];intro y hy;have:=b3 y hy;simp[this.1,this.2]
 have c5:¬(!uA x.Leaves)=true:=by rw[MD a4];decide
 have c6:¬(!uA x.aG)=true:=by rw[MD b4];decide
 have c7:¬(x.Leaves.any fun n=>decide (32<(((f.ax.take i).countP fun s=>s.Leaves.contains n:Nat):Int)+1))=true:=by
  simp only[List.any_eq_true,not_exists,not_and,decide_eq_true_eq];intro y hy;have h3:((f.ax.take i).countP fun s=>s.Leaves.contains y)≤(f.ax.take i).length:=List.countP_le_length
  have h4:(f.ax.take i).length≤f.ax.length:=by simp;omega
  omega
 rw[zD,if_neg c1,if_neg c2,if_neg c3,if_neg c4,if_neg c5,if_neg c6,if_neg c7]
theorem Pw:tR f=.inl ():=by
 have h1:=hv.sW;have hh:=hv.host;refine qP (by simp;omega) (pJ fun i h hx=>?_)
 have hi:=(List.getElem?_eq_some_iff.1 hx).1;obtain⟨a1,a2,a3,a4,a5⟩:=hh i h hx;have hf1:=nX (fun x:Host=>(⟨x.BD,x.aS⟩:aL)) f.Hosts i h hx fun j y hj hy e=>by
  have:=(hh j y hy).1;simp only[aL.mk.injEq]at e;omega
 have c1:¬(h.aS==0)=true:=by simp;omega
 have c2:¬decide (281474976710655<h.aS)=true:=by simp;omega
 have c3:¬xk h.aS=true:=by
  rw[a1];rcases(by omega:i=0∨i=1∨i=2∨i=3∨i=4∨i=5∨i=6∨i=7)with rfl |rfl |rfl |rfl |rfl |rfl |rfl |rfl<;>decide
 have c4:¬(!(decide (0≤h.BD)&&decide (h.BD<(f.aG.length:Int))))=true:=by simp[a2,a3]
 have hsr:h.aU= -1∨0≤h.aU∧h.aU<(f.ax.length:Int):=by
  rcases a4 with e |⟨s,hs,-⟩
  ·exact .inl e
  ·right;unfold fN at hs;split at hs
   ·have:=(List.getElem?_eq_some_iff.1 hs).1;omega
   ·cases hs
 have c5:¬out h.aU (-1) ((f.ax.length:Int) - 1)=true:=by
  simp only[out,Bool.or_eq_true,decide_eq_true_eq,not_or];have:=hv.segments;omega
 have c6:¬(h.aU != -1&& !(xK f h.aU).any fun x=>h.BD==x)=true:=by
  rcases a4 with e |⟨s,hs,hm⟩
  ·rw[e];simp
  ·have:((xK f h.aU).any fun x=>h.BD==x)=true:=by
    unfold xK;rw[hs];simp only[Option.map_some,Option.getD_some,List.any_eq_true];exact⟨h.BD,hm,by simp⟩
   rw[this];simp
 have c7:¬(h.aS==1577058561)=true:=by simp;omega
 have c8:¬mM h.aS=true:=by
  simp only[mM,Bool.and_eq_true,Bool.not_eq_true',decide_eq_false_iff_not,not_and];omega
 have hbd:=hv.jB;have key:h.IP≠0→∃d:Nat,d<4∧h.BD=(d:Int)∧h.IP=167772160+(d:Int)*65536+(10+(i:Int))∧(AF f h.BD).aM=167772161+(d:Int)*65536∧(AF f h.BD).ay=⟨167772160+(d:Int)*65536,24⟩:=by
  intro h0;rcases a5 with e |⟨b,hb,hg,e⟩
  ·exact absurd e h0
  ·obtain⟨d,hd⟩:∃d:Nat,h.BD=(d:Int):=⟨h.BD.toNat,by omega⟩
   have hbv:=hv.bd d b (by rw[hd,bq]at hb;exact hb)
   obtain⟨-,-,-,-,e3 |e3⟩:=hbv
   ·exact absurd e3.2 hg
   ·refine⟨d,by omega,hd,?_,?_,?_⟩
    ·rw[e,e3.1]
    ·unfold AF;rw[hb];exact e3.2
    ·unfold AF;rw[hb];exact e3.1
 have c9:¬(!fS (AF f h.BD) h.IP)=true:=by
  by_cases h0:h.IP=0
  ·rw[h0];simp[fS]
  ·obtain⟨d,hd,-,e1,e2,e3⟩:=key h0;rw[fS,e1,e2,e3];have hi8:i<8:=by omega
   clear key a5 a4 c6 c5 hsr c8 c7 c4 c3 c2 c1 hf1 a1 a2 a3 hx hh hbd h1 hv e1 e2 e3 h0;rcases(by omega:d=0∨d=1∨d=2∨d=3)with rfl |rfl |rfl |rfl<;>
    rcases(by omega:i=0∨i=1∨i=2∨i=3∨i=4∨i=5∨i=6∨i=7)with rfl |rfl |rfl |rfl |rfl |rfl |rfl |rfl<;>decide
 have c10:¬(h.IP != 0&&(aT (fun x:Host=>(⟨x.BD,IntKind.wrap .u64 x.IP⟩:aL)) [] f.Hosts).getD i false)=true:=by
  by_cases h0:h.IP=0
  ·rw[h0];simp
  ·obtain⟨d,hd,ed,e1,-,-⟩:=key h0;rw[nX (fun x:Host=>(⟨x.BD,IntKind.wrap .u64 x.IP⟩:aL)) f.Hosts i h hx fun j y hj hy e=>by
    simp only[aL.mk.injEq]at e;obtain⟨eb,ei⟩:=e;obtain⟨-,-,-,-,y5⟩:=hh j y hy;rcases y5 with y5 |⟨b,hb,hg,y5⟩
    ·rw[y5,e1]at ei;rcases(by omega:d=0∨d=1∨d=2∨d=3)with rfl |rfl |rfl |rfl<;>(simp only[IntKind.wrap,IntKind.bits,IntKind.signed]at ei;simp at ei;omega)
    ·have hbv:=hv.bd d b (by rw[eb,ed,bq]at hb;exact hb)
     obtain⟨-,-,-,-,e3 |e3⟩:=hbv
     ·exact absurd e3.2 hg
     ·rw[y5,e3.1,e1]at ei;simp only[IntKind.wrap,IntKind.bits,IntKind.signed]at ei;simp at ei;omega]
   simp
 rw[vH,if_neg c1,if_neg c2,if_neg c3,if_neg c4,if_neg c5,if_neg c6,if_neg c7,if_neg c8,if_neg c9,hf1,if_neg (by decide),if_neg c10]
theorem N3:pI f=.inl ():=by
 have hL:=hv.leaves;have hS:=hv.zG;have hw:IntKind.wrap .i64 (f.Leaves+f.cO)=f.Leaves+f.cO:=wrap_i64 (by omega) (by omega)
 have e1:=hv.MC;have e2:=hv.GI;have e3:=hv.router;have:ew f=false:=by
  simp only[ew,out,hw,Bool.or_eq_false_iff,decide_eq_false_iff_not];omega
 rw[pI,this];rfl
theorem N4:sX f=.inl ():=by
 obtain⟨t1,t2,t3,t4,t5,t6,t7,t8⟩:=hv.timers;have:eE f.bC=false:=by
  simp only[eE,out,Bool.or_eq_false_iff,decide_eq_false_iff_not];omega
 rw[sX,this];rfl
theorem JP:tT f=(0,⟨⟨[]⟩⟩,0):=by
 simp only[tT,N3 hv,N4 hv,Pu hv,ME hv,MF hv,KA hv,Pw hv,Pv hv,oL]
theorem JQ:Small f:=by
 refine⟨?_,?_,?_,?_,?_,?_,fun s hs=>?_⟩
 ·have:=hv.links.1;omega
 ·have:=hv.iQ;omega
 ·have:=hv.jB;omega
 ·have:=hv.segments;omega
 ·have:=hv.sW;omega
 ·have:=hv.leaks;omega
 ·obtain⟨⟨a1,a2,-⟩,⟨b1,b2,-⟩⟩:=hv.seg s hs;omega
end
end Go.L
end
