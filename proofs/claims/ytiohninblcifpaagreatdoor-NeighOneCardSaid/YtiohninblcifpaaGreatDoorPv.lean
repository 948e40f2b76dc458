/- Parts put together. No conditions. -/
import Derived.Test.YtiohninblcifpaaGreatDoorWb
import Derived.Test.YtiohninblcifpaaGreatDoorAd
import Derived.Test.YtiohninblcifpaaGreatDoorWf
set_option linter.unusedSectionVars false
set_option linter.unusedSimpArgs false
set_option linter.unusedVariables false
set_option maxRecDepth 100000
section
namespace Go.AM
theorem Iv{α σ τ ST:Type}{f:ST→Option (ST⊕τ)}(mk:Nat→σ→ST)(l:List α)(S:Nat→σ)(fin:τ)
 (hs:∀i x,l[i]? =some x→f (mk i (S i))=some (.inl (mk (i+1) (S (i+1))))) (he:f (mk l.length (S l.length))=some (.inr fin)) (n:Nat) (hn:l.length<n):bM f n (mk 0 (S 0))=some fin:=by
 have key:∀(k i n:Nat),i+k=l.length→k<n→bM f n (mk i (S i))=some fin:=by
  intro k;induction k with
  |zero=>
   intro i n hi hn;obtain⟨n,rfl⟩:∃m,n=m+1:=⟨n - 1,by omega⟩
   have:i=l.length:=by omega
   subst this;simp only[bM,he]
  |succ k ih=>
   intro i n hi hn;obtain⟨n,rfl⟩:∃m,n=m+1:=⟨n - 1,by omega⟩
   simp only[bM,hs i _ (List.getElem?_eq_getElem (show i<l.length by omega))]
   exact ih (i+1) n (by omega) (by omega)
 exact key l.length 0 n (by omega) hn
def bf{α K:Type}[DecidableEq K](key:α→K):List K→List α→List Bool
 |_,[]=>[]
 |seen,x::xs=>decide (key x∈seen)::bf key (seen++[key x]) xs
section
variable {α K:Type} [DecidableEq K] (key:α→K)
theorem A9:∀(l:List α) (seen:List K) (x:α),bf key seen (l++[x])=bf key seen l++[decide (key x∈seen++l.map key)]
 | [],seen,x=>by simp[bf]
 |y::l,seen,x=>by
  simp only[List.cons_append,bf,A9 l,List.map_cons,List.append_assoc,List.nil_append]
theorem dU:∀(l:List α) (seen:List K),(bf key seen l).length=l.length
 | [],_=>rfl
 |_::l,seen=>by simp[bf,dU l]
theorem Cv:∀(l:List α) (seen:List K) (i:Nat),(bf key seen l)[i]? =(l[i]?).map fun x=>decide (key x∈seen++(l.take i).map key)
 | [],_,_=>by simp[bf]
 |y::l,seen,0=>by simp[bf]
 |y::l,seen,i+1=>by
  simp only[bf,List.getElem?_cons_succ,Cv l,List.take_succ_cons,List.map_cons,List.append_assoc,List.singleton_append]
variable {eq:K→K→Bool}
def wg(m:List (K×Bool))(ks:List K):Prop:=(∀p∈m,p.2=true)∧∀k,k∈m.map (·.1)↔k∈ks
theorem yC(heq:∀a b,eq a b=decide (a=b)):∀(m:List (K×Bool)) (k:K) (j i:Nat) (v:Bool),aV eq k m j=some (i,v)→j≤i∧m[i - j]? =some (k,v)
 | [],_,_,_,_,h=>by simp[aV]at h
 |p::ps,k,j,i,v,h=>by
  simp only[aV,heq,decide_eq_true_eq]at h;split at h
  ·rename_i hk;simp only[Option.some.injEq,Prod.mk.injEq]at h;obtain⟨rfl,rfl⟩:=h;exact⟨Nat.le_refl _,by simp[hk]⟩
  ·obtain⟨h1,h2⟩:=yC heq ps k (j+1) i v h;refine⟨by omega,?_⟩
   rw[show i - j=(i - (j+1))+1 by omega]
   simpa using h2
theorem Cw(heq:∀a b,eq a b=decide (a=b)):∀(m:List (K×Bool)) (k:K) (j:Nat),aV eq k m j=none→k∉m.map (·.1)
 | [],_,_,_=>by simp
 |p::ps,k,j,h=>by
  simp only[aV,heq,decide_eq_true_eq]at h;split at h
  ·cases h
  ·rename_i hk;have:=Cw heq ps k (j+1) h;simp only[List.map_cons,List.mem_cons,not_or];exact⟨hk,this⟩
theorem wg.get(heq:∀a b,eq a b=decide (a=b)){m:List (K×Bool)}{ks:List K}(h:wg m ks)(k:K):((aV eq k m 0).map (·.2)).getD false=decide (k∈ks):=by
 cases hf:aV eq k m 0 with
 |none=>
  have:=Cw heq m k 0 hf;rw[h.2]at this;simp[this]
 |some q=>
  obtain⟨i,v⟩:=q;obtain⟨_,h2⟩:=yC heq m k 0 i v hf;have hm:=List.mem_of_getElem? h2;have hv:=h.1 _ hm;have:k∈ks:=(h.2 k).1 (List.mem_map.2 ⟨_,hm,rfl⟩);simp only at hv;simp[this,hv]
theorem wg.put(heq:∀a b,eq a b=decide (a=b)){m:List (K×Bool)}{ks:List K}(h:wg m ks)(k:K):wg (dQ eq k true m) (ks++[k]):=by
 unfold dQ;split
 ·rename_i i v hf;obtain⟨_,h2⟩:=yC heq m k 0 i v hf;rw[Nat.sub_zero]at h2;refine⟨fun p hp=>?_,fun q=>?_⟩
  ·rcases List.mem_or_eq_of_mem_set hp with hp |rfl
   ·exact h.1 p hp
   ·rfl
  ·have hs:(m.set i (k,true)).map (·.1)=m.map (·.1):=by
    rw[List.map_set];apply List.ext_getElem?;intro j;by_cases hj:i=j
    ·subst hj;have hlt:=(List.getElem?_eq_some_iff.1 h2).1;rw[List.getElem?_set_self (by simpa using hlt),List.getElem?_map,h2];rfl
    ·rw[List.getElem?_set_ne hj]
   rw[hs,h.2];have hk:k∈ks:=(h.2 k).1 (List.mem_map.2 ⟨_,List.mem_of_getElem? h2,rfl⟩);simp only[List.mem_append,List.mem_singleton];constructor
   ·exact .inl
   ·rintro(h |rfl)
    ·exact h
    ·exact hk
 ·refine⟨fun p hp=>?_,fun q=>?_⟩
  ·rcases List.mem_append.1 hp with hp |hp
   ·exact h.1 p hp
   ·simp at hp;subst hp;rfl
  ·simp only[List.map_append,List.map_cons,List.map_nil,List.mem_append,h.2 q]
theorem Ed(heq:∀a b,eq a b=decide (a=b))(l:List α){f:(Int×List (K×Bool)×List Bool)→Option ((Int×List (K×Bool)×List Bool)⊕(List (K×Bool)×List Bool))}
 (hs:∀(i:Nat) x m t,l[i]? =some x→i<t.length→f ((i:Int),m,t)=some (.inl (((i+1:Nat):Int),dQ eq (key x) true m,t.set i (((aV eq (key x) m 0).map (·.2)).getD false))))
 (he:∀m t,f ((l.length:Int),m,t)=some (.inr (m,t))) (n:Nat) (hn:l.length<n):∃m,bM f n (0,[],List.replicate l.length false)=some (m,bf key [] l):=by
 refine⟨l.foldl (fun m x=>dQ eq (key x) true m) [],?_⟩
 have hM:∀i,wg ((l.take i).foldl (fun m x=>dQ eq (key x) true m) []) ((l.take i).map key):=by
  have:∀(l:List α) (m:List (K×Bool)) (ks:List K),wg m ks→wg (l.foldl (fun m x=>dQ eq (key x) true m) m) (ks++l.map key):=by
   intro l;induction l with
   |nil=>intro m ks h;simpa using h
   |cons x xs ih=>
    intro m ks h;have:=ih _ _ (h.put heq (key x));simpa using this
  intro i;simpa using this (l.take i) [] [] ⟨by simp,by simp⟩
 have:=Iv (f:=f) (fun i (s:List (K×Bool)×List Bool)=>((i:Int),s.1,s.2)) l
  (fun i=>((l.take i).foldl (fun m x=>dQ eq (key x) true m) [],bf key [] (l.take i)++List.replicate (l.length - i) false))
  (l.foldl (fun m x=>dQ eq (key x) true m) [],bf key [] l) (fun i x hx=>?_) ?_ n hn
 ·simpa[bf]using this
 ·have hlt:=(List.getElem?_eq_some_iff.1 hx).1;have htake:l.take (i+1)=l.take i++[x]:=by
   rw[List.take_add_one,hx];rfl
  have hfl:(bf key [] (l.take i)).length=i:=by rw[dU];simp;omega
  simp only
  rw[hs i x _ _ hx (by simp[hfl];omega),(hM i).get heq]
  congr 2;refine Prod.ext rfl (Prod.ext ?_ ?_)
  ·simp only[htake,List.foldl_append,List.foldl_cons,List.foldl_nil]
  ·simp only[htake,A9,List.nil_append];rw[List.set_append_right _ _ (by omega),hfl,Nat.sub_self,show l.length - i=(l.length - (i+1))+1 by omega,List.replicate_succ,List.set_cons_zero]
   simp
 ·simp only[List.take_length,Nat.sub_self,List.replicate_zero,List.append_nil];exact he _ _
end
section
variable {α K:Type} [DecidableEq K]
theorem jQ(key:α→K){eq:K→K→Bool}(heq:∀a b,eq a b=decide (a=b))(l:List α){f:(Int×List (K×Bool)×List Bool)→Option ((Int×List (K×Bool)×List Bool)⊕(List (K×Bool)×List Bool))}{γ:Type}{k:List (K×Bool)×List Bool→Option γ}{r:Option γ}{n:Nat}(hn:l.length<n)
 (hs:∀(i:Nat) x m t,l[i]? =some x→i<t.length→f ((i:Int),m,t)=some (.inl (((i+1:Nat):Int),dQ eq (key x) true m,t.set i (((aV eq (key x) m 0).map (·.2)).getD false))))
 (he:∀m t,f ((l.length:Int),m,t)=some (.inr (m,t))) (hk:∀m,k (m,bf key [] l)=r):(bM f n (0,[],List.replicate l.length false)).bind k=r:=by
 obtain⟨m,hm⟩:=Ed key heq l hs he n hn;rw[hm];exact hk m
end
def bF{α:Type}(E:Nat→α→Int):Nat→List α→Option (Int×Nat)
 |_,[]=>none
 |i,x::xs=>if E i x≠0 then some (E i x,i)else bF E (i+1) xs
theorem Gt{α τ:Type}{f:Int→Option (Int⊕τ)}(l:List α)(E:Nat→α→Int)(bad:Nat→Int→τ)(fin:τ)
 (hs:∀(i:Nat) x,l[i]? =some x→f (i:Int)=some (if E i x≠0 then .inr (bad i (E i x))else .inl ((i+1:Nat):Int))) (he:f (l.length:Int)=some (.inr fin)) (n:Nat) (hn:l.length<n):
 bM f n 0=some (match bF E 0 l with |none=>fin |some (e,i)=>bad i e):=by
 have:=Ig (f:=f) (fun i (_:Unit)=>(i:Int)) (fun i x (_:Unit)=>if E i x≠0 then Sum.inr (bad i (E i x))else Sum.inl ()) (fun _=>fin) l
  (fun i x s hx=>by rw[hs i x hx];split<;>rfl) (fun _=>he) n () hn
 have key:∀(l:List α) (i:Nat),(match scan (fun i x (_:Unit)=>if E i x≠0 then Sum.inr (bad i (E i x))else Sum.inl ()) i l ()with | .inl _=>fin | .inr t=>t)=(match bF E i l with |none=>fin |some (e,i)=>bad i e):=by
  intro l;induction l with
  |nil=>intro i;rfl
  |cons x xs ih=>
   intro i;simp only[scan,bF];by_cases h:E i x≠0
   ·simp only[if_pos h]
   ·simp only[if_neg h];exact ih (i+1)
 rw[← key l 0];simp only[Int.natCast_zero]at this;rw[this];cases scan (fun i x (_:Unit)=>if E i x≠0 then Sum.inr (bad i (E i x))else Sum.inl ()) 0 l ()<;>rfl
theorem pH{α τ γ:Type}{f:Int→Option (Int⊕τ)}(l:List α)(E:Nat→α→Int)(bad:Nat→Int→τ)(fin:τ){k:τ→Option γ}{r:Option γ}{n:Nat}(hn:l.length<n)
 (hs:∀(i:Nat) x,l[i]? =some x→f (i:Int)=some (if E i x≠0 then .inr (bad i (E i x))else .inl ((i+1:Nat):Int))) (he:f (l.length:Int)=some (.inr fin))
 (hk:(match bF E 0 l with |none=>k fin |some (e,i)=>k (bad i e))=r):(bM f n 0).bind k=r:=by
 rw[Gt l E bad fin hs he n hn,← hk];cases bF E 0 l with
 |none=>rfl
 |some p=>rfl
theorem wM{α τ γ ST:Type}{f:ST→Option (ST⊕τ)}(mk:Nat→ST)(l:List α)(E:Nat→α→Int){k:τ→Option γ}(bad:Nat→Int→Option γ)(fin:Option γ){n:Nat}(hn:l.length<n)
 (hb:∀(i:Nat) x,l[i]? =some x→(∀(j:Nat) y,j<i→l[j]? =some y→E j y=0)→E i x≠0→∃t,f (mk i)=some (.inr t)∧k t=bad i (E i x))
 (hg:∀(i:Nat) x,l[i]? =some x→(∀(j:Nat) y,j<i→l[j]? =some y→E j y=0)→E i x=0→f (mk i)=some (.inl (mk (i+1))))
 (he:(∀(j:Nat) y,l[j]? =some y→E j y=0)→∃t,f (mk l.length)=some (.inr t)∧k t=fin):
 (bM f n (mk 0)).bind k=(match bF E 0 l with |none=>fin |some (e,i)=>bad i e):=by
 have key:∀(m i n:Nat),i+m=l.length→m<n→(∀(j:Nat) y,j<i→l[j]? =some y→E j y=0)→(bM f n (mk i)).bind k=(match bF E i (l.drop i)with |none=>fin |some (e,i)=>bad i e):=by
  intro m;induction m with
  |zero=>
   intro i n hi hn hp;obtain⟨n,rfl⟩:∃m,n=m+1:=⟨n - 1,by omega⟩
   have:i=l.length:=by omega
   subst this;obtain⟨t,h1,h2⟩:=he fun j y hj=>hp j y (List.getElem?_eq_some_iff.1 hj).1 hj
   simp only[bM,h1,Option.bind_some,h2,List.drop_length,bF]
  |succ m ih=>
   intro i n hi hn hp;obtain⟨n,rfl⟩:∃m,n=m+1:=⟨n - 1,by omega⟩
   have hlt:i<l.length:=by omega
   have hx:=List.getElem?_eq_getElem hlt;rw[List.drop_eq_getElem_cons hlt];simp only[bF];by_cases hE:E i l[i]=0
   ·rw[if_neg (by simpa using hE)]
    simp only[bM,hg i _ hx hp hE];refine ih (i+1) n (by omega) (by omega) fun j y hj hy=>?_
    by_cases hji:j=i
    ·subst hji;rw[hx]at hy;cases hy;exact hE
    ·exact hp j y (by omega) hy
   ·rw[if_pos hE];obtain⟨t,h1,h2⟩:=hb i _ hx hp hE;simp only[bM,h1,Option.bind_some,h2]
 have:=key l.length 0 n (by omega) hn fun j y hj=>absurd hj (by omega)
 simpa using this
theorem qH{α:Type}{E:Nat→α→Int}:∀(l:List α) (i:Nat),bF E i l=none↔∀(j:Nat) x,l[j]? =some x→E (i+j) x=0
 | [],i=>by simp[bF]
 |x::xs,i=>by
  simp only[bF];constructor
  ·intro h;split at h
   ·cases h
   ·rename_i h0;have ih:=(qH xs (i+1)).1 h;intro j y hj;cases j with
    |zero=>simp at hj;subst hj;simpa using h0
    |succ j=>have:=ih j y (by simpa using hj);rw[show i+(j+1)=i+1+j by omega];exact this
  ·intro h;have h0:=h 0 x rfl;simp only[Nat.add_zero]at h0;rw[if_neg (by simpa using h0)]
   exact(qH xs (i+1)).2 fun j y hj=>by
    have:=h (j+1) y (by simpa using hj)
    rw[show i+1+j=i+(j+1)by omega];exact this
theorem zQ{α:Type}(p:α→Bool):∀(l:List α) (j:Nat),bF (fun _ x=>if p x=true then 1 else 0) j l=(l.findIdx? p).map fun i=>(1,i+j)
 | [],_=>rfl
 |x::xs,j=>by
  simp only[bF,List.findIdx?_cons];cases h:p x with
  |true=>simp
  |false=>
   simp only[Bool.false_eq_true,if_false,ne_eq,not_true_eq_false,zQ p xs (j+1),Option.map_map];congr 1;funext i;simp[Nat.add_assoc,Nat.add_comm 1]
theorem pI{α γ:Type}(l:List α)(p:α→Bool){f:Int→Option (Int⊕(Int⊕Unit))}{k:Int⊕Unit→Option γ}{r:Option γ}{n:Nat}(hn:l.length<n)
 (hs:∀(i:Nat) x,l[i]? =some x→f (i:Int)=some (if p x=true then .inr (.inl (i:Int))else .inl ((i+1:Nat):Int))) (he:f (l.length:Int)=some (.inr (.inr ())))
 (hk:k (match l.findIdx? p with |some i=>.inl (i:Int) |none=>.inr ())=r):(bM f n 0).bind k=r:=by
 refine pH l (fun _ x=>if p x=true then 1 else 0) (fun i _=>.inl (i:Int)) (.inr ()) hn (fun i x hx=>?_) he ?_
 ·rw[hs i x hx];cases p x<;>simp
 ·rw[zQ,← hk];cases l.findIdx? p with
  |none=>rfl
  |some i=>rfl
def idxOf{α:Type}(p:α→Bool)(l:List α):Int:=match l.findIdx? p with
 |some i=>(i:Int)
 |none=> -1
theorem rj{α:Type}(p:α→Bool)(l:List α):decide (idxOf p l≥0)=l.any p:=by
 unfold idxOf;cases h:l.findIdx? p with
 |none=>
  rw[List.findIdx?_eq_none_iff]at h;have:l.any p=false:=by rw[List.any_eq_false];intro x hx;simp[h x hx]
  rw[this];rfl
 |some i=>
  have:l.any p=true:=by
   have h2:=List.findIdx?_eq_some_iff_getElem.1 h;obtain⟨hlt,hp,_⟩:=h2;exact List.any_eq_true.2 ⟨_,List.getElem_mem hlt,hp⟩
  rw[this];simp
theorem eo{X β:Type}(l:List X)(enc:X→List AVal)(n b ai i o:Nat)(y:X→X)(k:X→Option β):(fP l enc n b ai i o y).run.bind k=(l[i]?).bind k:=rfl
end Go.AM
namespace Go.L
open Go.AM
section leaves
variable {β:Type} (n:Nat)
theorem gr(x lo hi:Int)(k:bS.sh.El→Option β):(bS.S n (x,lo,hi)).bind k=k (decide (x<lo)||decide (hi<x)):=by
 have:bS.S n (x,lo,hi)=some (decide (x<lo)||decide (hi<x)):=by
  show(qN x lo hi).run n=_;simp only[qN,G.run,aK];by_cases h:x<lo<;>simp[h]<;>rfl
 rw[this];rfl
theorem dB(b:Bool)(e:Int)(p:ByteArray)(i:Int)(k:av.sh.El→Option β):(av.S n (b,e,p,i)).bind k=if b=true then k (.inr (e,p,i))else k (.inl ()):=by
 have:av.S n (b,e,p,i)=some (if b=true then Sum.inr (e,p,i)else Sum.inl ()):=by
  show(uj b e p i).run n=_;simp only[uj,G.run,aK];cases b<;>simp<;>rfl
 rw[this];cases b<;>rfl
theorem iW(x m:Int)(k:dM.sh.El→Option β):(dM.S n (x,m)).bind k=k (decide (0≤x)&&decide (x<m)):=by
 have:dM.S n (x,m)=some (decide (0≤x)&&decide (x<m)):=by
  show(lX x m).run n=_;simp only[lX,G.run,aK];by_cases h:0≤x<;>simp[h]<;>rfl
 rw[this];rfl
end leaves
instance :DecidableEq (V2 Int):=fun a b=>decidable_of_iff (a.a0=b.a0∧a.a1=b.a1) ⟨fun h=>by cases a;cases b;simp_all,fun h=>by simp[h]⟩
instance :DecidableEq aM:=fun a b=>decidable_of_iff (a.IP=b.IP∧a.Len=b.Len) ⟨fun h=>by cases a;cases b;simp_all,fun h=>by simp[h]⟩
instance :DecidableEq aG:=fun a b=>decidable_of_iff (a.bd=b.bd∧a.addr=b.addr) ⟨fun h=>by cases a;cases b;simp_all,fun h=>by simp[h]⟩
instance :DecidableEq cc:=fun a b=>decidable_of_iff (a.From=b.From∧a.To=b.To∧a.aM=b.aM) ⟨fun h=>by cases a;cases b;simp_all,fun h=>by simp[h]⟩
theorem Gu{β:Type}(n:Nat)(x:aC)(k:lY.sh.El→Option β):(lY.S n x).bind k=k (x.eT):=rfl
theorem xH{β:Type}(n:Nat)(l:List aC)(hn:l.length<n)(hs:l.length≤4000)(k:fI.sh.El→Option β):
 (fI.S n l).bind k=k (bf (fun x:aC=>x.eT) [] l):=by
 have:fI.S n l=some (bf (fun x:aC=>x.eT) [] l):=by
  show(iM l).run n=_;have hroom:roomy (Int.toNat (l.length:Int)) 1=true:=by simp[roomy];omega
  simp only[iM,G.run,aK,bA,nr,bY,lT,lU,cQ,eo,Gu,if_true,Int.toNat_natCast];rw[if_pos ⟨by omega,by simpa using hroom⟩]
  refine jQ (fun x:aC=>x.eT) (eq:=fun a b=>(a==b&&true)) (fun a b=>?_) l hn (fun i x m t hx ht=>?_) (fun m t=>?_) (fun m=>?_)
  ·rw[Bool.eq_iff_iff];simp
  ·have hi:=(List.getElem?_eq_some_iff.1 hx).1;have h1:(0:Int)≤i∧(i:Int)<((List.replicate l.length false).length:Nat):=by simp;omega
   obtain⟨y,hy⟩:∃y,t[i]? =some y:=⟨_,List.getElem?_eq_getElem ht⟩;simp only[bK,hx,Option.bind_some,Int.toNat_natCast,hy,h1,and_self,if_true,dR (show i<9223372036854775807 by omega)]
   simp[hi];rfl
  ·simp;rfl
  ·simp[ee,dU];rfl
 rw[this];rfl
theorem De{β:Type}(n:Nat)(x:aC)(k:jX.sh.El→Option β):(jX.S n x).bind k=k (x.Target):=rfl
theorem vN{β:Type}(n:Nat)(l:List aC)(hn:l.length<n)(hs:l.length≤4000)(k:fh.sh.El→Option β):
 (fh.S n l).bind k=k (bf (fun x:aC=>x.Target) [] l):=by
 have:fh.S n l=some (bf (fun x:aC=>x.Target) [] l):=by
  show(ic l).run n=_;have hroom:roomy (Int.toNat (l.length:Int)) 1=true:=by simp[roomy];omega
  simp only[ic,G.run,aK,bA,nr,bY,lT,lU,cQ,eo,De,if_true,Int.toNat_natCast];rw[if_pos ⟨by omega,by simpa using hroom⟩]
  refine jQ (fun x:aC=>x.Target) (eq:=fun a b=>(a==b&&true)) (fun a b=>?_) l hn (fun i x m t hx ht=>?_) (fun m t=>?_) (fun m=>?_)
  ·rw[Bool.eq_iff_iff];simp
  ·have hi:=(List.getElem?_eq_some_iff.1 hx).1;have h1:(0:Int)≤i∧(i:Int)<((List.replicate l.length false).length:Nat):=by simp;omega
   obtain⟨y,hy⟩:∃y,t[i]? =some y:=⟨_,List.getElem?_eq_getElem ht⟩;simp only[bK,hx,Option.bind_some,Int.toNat_natCast,hy,h1,and_self,if_true,dR (show i<9223372036854775807 by omega)]
   simp[hi];rfl
  ·simp;rfl
  ·simp[ee,dU];rfl
 rw[this];rfl
theorem Gv{β:Type}(n:Nat)(x:BD)(k:oI.sh.El→Option β):(oI.S n x).bind k=k (x.eT):=rfl
theorem AG{β:Type}(n:Nat)(l:List BD)(hn:l.length<n)(hs:l.length≤4000)(k:gU.sh.El→Option β):
 (gU.S n l).bind k=k (bf (fun x:BD=>x.eT) [] l):=by
 have:gU.S n l=some (bf (fun x:BD=>x.eT) [] l):=by
  show(ku l).run n=_;have hroom:roomy (Int.toNat (l.length:Int)) 1=true:=by simp[roomy];omega
  simp only[ku,G.run,aK,bA,nr,bY,lT,lU,cQ,eo,Gv,if_true,Int.toNat_natCast];rw[if_pos ⟨by omega,by simpa using hroom⟩]
  refine jQ (fun x:BD=>x.eT) (eq:=fun a b=>(a==b&&true)) (fun a b=>?_) l hn (fun i x m t hx ht=>?_) (fun m t=>?_) (fun m=>?_)
  ·rw[Bool.eq_iff_iff];simp
  ·have hi:=(List.getElem?_eq_some_iff.1 hx).1;have h1:(0:Int)≤i∧(i:Int)<((List.replicate l.length false).length:Nat):=by simp;omega
   obtain⟨y,hy⟩:∃y,t[i]? =some y:=⟨_,List.getElem?_eq_getElem ht⟩;simp only[bK,hx,Option.bind_some,Int.toNat_natCast,hy,h1,and_self,if_true,dR (show i<9223372036854775807 by omega)]
   simp[hi];rfl
  ·simp;rfl
  ·simp[ee,dU];rfl
 rw[this];rfl
theorem Df{β:Type}(n:Nat)(x:BD)(k:mY.sh.El→Option β):(mY.S n x).bind k=k (x.Target):=rfl
theorem yX{β:Type}(n:Nat)(l:List BD)(hn:l.length<n)(hs:l.length≤4000)(k:gb.sh.El→Option β):
 (gb.S n l).bind k=k (bf (fun x:BD=>x.Target) [] l):=by
 have:gb.S n l=some (bf (fun x:BD=>x.Target) [] l):=by
  show(jh l).run n=_;have hroom:roomy (Int.toNat (l.length:Int)) 1=true:=by simp[roomy];omega
  simp only[jh,G.run,aK,bA,nr,bY,lT,lU,cQ,eo,Df,if_true,Int.toNat_natCast];rw[if_pos ⟨by omega,by simpa using hroom⟩]
  refine jQ (fun x:BD=>x.Target) (eq:=fun a b=>(a==b&&true)) (fun a b=>?_) l hn (fun i x m t hx ht=>?_) (fun m t=>?_) (fun m=>?_)
  ·rw[Bool.eq_iff_iff];simp
  ·have hi:=(List.getElem?_eq_some_iff.1 hx).1;have h1:(0:Int)≤i∧(i:Int)<((List.replicate l.length false).length:Nat):=by simp;omega
   obtain⟨y,hy⟩:∃y,t[i]? =some y:=⟨_,List.getElem?_eq_getElem ht⟩;simp only[bK,hx,Option.bind_some,Int.toNat_natCast,hy,h1,and_self,if_true,dR (show i<9223372036854775807 by omega)]
   simp[hi];rfl
  ·simp;rfl
  ·simp[ee,dU];rfl
 rw[this];rfl
theorem Lc{β:Type}(n:Nat)(x:Host)(k:lq.sh.El→Option β):(lq.S n x).bind k=k ((⟨x.BD,x.MAC⟩:aG)):=rfl
theorem uK{β:Type}(n:Nat)(l:List Host)(hn:l.length<n)(hs:l.length≤4000)(k:eP.sh.El→Option β):
 (eP.S n l).bind k=k (bf (fun x:Host=>(⟨x.BD,x.MAC⟩:aG)) [] l):=by
 have:eP.S n l=some (bf (fun x:Host=>(⟨x.BD,x.MAC⟩:aG)) [] l):=by
  show(gx l).run n=_;have hroom:roomy (Int.toNat (l.length:Int)) 1=true:=by simp[roomy];omega
  simp only[gx,G.run,aK,bA,nr,bY,lT,lU,cQ,eo,Lc,if_true,Int.toNat_natCast];rw[if_pos ⟨by omega,by simpa using hroom⟩]
  refine jQ (fun x:Host=>(⟨x.BD,x.MAC⟩:aG)) (eq:=fun a b=>(a.bd==b.bd&&(a.addr==b.addr&&true))) (fun a b=>?_) l hn (fun i x m t hx ht=>?_) (fun m t=>?_) (fun m=>?_)
  ·rw[Bool.eq_iff_iff];cases a;cases b;simp
  ·have hi:=(List.getElem?_eq_some_iff.1 hx).1;have h1:(0:Int)≤i∧(i:Int)<((List.replicate l.length false).length:Nat):=by simp;omega
   obtain⟨y,hy⟩:∃y,t[i]? =some y:=⟨_,List.getElem?_eq_getElem ht⟩;simp only[bK,hx,Option.bind_some,Int.toNat_natCast,hy,h1,and_self,if_true,dR (show i<9223372036854775807 by omega)]
   simp[hi];rfl
  ·simp;rfl
  ·simp[ee,dU];rfl
 rw[this];rfl
theorem Ld{β:Type}(n:Nat)(x:Host)(k:lu.sh.El→Option β):(lu.S n x).bind k=k ((⟨x.BD,(IntKind.wrap .u64 x.IP)⟩:aG)):=rfl
theorem ua{β:Type}(n:Nat)(l:List Host)(hn:l.length<n)(hs:l.length≤4000)(k:ey.sh.El→Option β):
 (ey.S n l).bind k=k (bf (fun x:Host=>(⟨x.BD,(IntKind.wrap .u64 x.IP)⟩:aG)) [] l):=by
 have:ey.S n l=some (bf (fun x:Host=>(⟨x.BD,(IntKind.wrap .u64 x.IP)⟩:aG)) [] l):=by
  show(fT l).run n=_;have hroom:roomy (Int.toNat (l.length:Int)) 1=true:=by simp[roomy];omega
  simp only[fT,G.run,aK,bA,nr,bY,lT,lU,cQ,eo,Ld,if_true,Int.toNat_natCast];rw[if_pos ⟨by omega,by simpa using hroom⟩]
  refine jQ (fun x:Host=>(⟨x.BD,(IntKind.wrap .u64 x.IP)⟩:aG)) (eq:=fun a b=>(a.bd==b.bd&&(a.addr==b.addr&&true))) (fun a b=>?_) l hn (fun i x m t hx ht=>?_) (fun m t=>?_) (fun m=>?_)
  ·rw[Bool.eq_iff_iff];cases a;cases b;simp
  ·have hi:=(List.getElem?_eq_some_iff.1 hx).1;have h1:(0:Int)≤i∧(i:Int)<((List.replicate l.length false).length:Nat):=by simp;omega
   obtain⟨y,hy⟩:∃y,t[i]? =some y:=⟨_,List.getElem?_eq_getElem ht⟩;simp only[bK,hx,Option.bind_some,Int.toNat_natCast,hy,h1,and_self,if_true,dR (show i<9223372036854775807 by omega)]
   simp[hi];rfl
  ·simp;rfl
  ·simp[ee,dU];rfl
 rw[this];rfl
theorem Le{β:Type}(n:Nat)(x:cc)(k:lB.sh.El→Option β):(lB.S n x).bind k=k (x):=rfl
theorem AH{β:Type}(n:Nat)(l:List cc)(hn:l.length<n)(hs:l.length≤4000)(k:gY.sh.El→Option β):
 (gY.S n l).bind k=k (bf (fun x:cc=>x) [] l):=by
 have:gY.S n l=some (bf (fun x:cc=>x) [] l):=by
  show(kD l).run n=_;have hroom:roomy (Int.toNat (l.length:Int)) 1=true:=by simp[roomy];omega
  simp only[kD,G.run,aK,bA,nr,bY,lT,lU,cQ,eo,Le,if_true,Int.toNat_natCast];rw[if_pos ⟨by omega,by simpa using hroom⟩]
  refine jQ (fun x:cc=>x) (eq:=fun a b=>(a.From==b.From&&(a.To==b.To&&(a.aM.IP==b.aM.IP&&(a.aM.Len==b.aM.Len&&true))))) (fun a b=>?_) l hn (fun i x m t hx ht=>?_) (fun m t=>?_) (fun m=>?_)
  ·rw[Bool.eq_iff_iff];rcases a with⟨_,_,⟨_,_⟩⟩;rcases b with⟨_,_,⟨_,_⟩⟩;simp
  ·have hi:=(List.getElem?_eq_some_iff.1 hx).1;have h1:(0:Int)≤i∧(i:Int)<((List.replicate l.length false).length:Nat):=by simp;omega
   obtain⟨y,hy⟩:∃y,t[i]? =some y:=⟨_,List.getElem?_eq_getElem ht⟩;simp only[bK,hx,Option.bind_some,Int.toNat_natCast,hy,h1,and_self,if_true,dR (show i<9223372036854775807 by omega)]
   simp[hi];rfl
  ·simp;rfl
  ·simp[ee,dU];rfl
 rw[this];rfl
theorem Lf{β:Type}(n:Nat)(x:bV)(k:k7.sh.El→Option β):(k7.S n x).bind k=k ((⟨x.A,x.B⟩:V2 Int)):=rfl
theorem zR{β:Type}(n:Nat)(l:List bV)(hn:l.length<n)(hs:l.length≤4000)(k:gF.sh.El→Option β):
 (gF.S n l).bind k=k (bf (fun x:bV=>(⟨x.A,x.B⟩:V2 Int)) [] l):=by
 have:gF.S n l=some (bf (fun x:bV=>(⟨x.A,x.B⟩:V2 Int)) [] l):=by
  show(jJ l).run n=_;have hroom:roomy (Int.toNat (l.length:Int)) 1=true:=by simp[roomy];omega
  simp only[jJ,G.run,aK,bA,nr,bY,lT,lU,cQ,eo,Lf,if_true,Int.toNat_natCast];rw[if_pos ⟨by omega,by simpa using hroom⟩]
  refine jQ (fun x:bV=>(⟨x.A,x.B⟩:V2 Int)) (eq:=fun a b=>(a.a0==b.a0&&(a.a1==b.a1&&true))) (fun a b=>?_) l hn (fun i x m t hx ht=>?_) (fun m t=>?_) (fun m=>?_)
  ·rw[Bool.eq_iff_iff];cases a;cases b;simp
  ·have hi:=(List.getElem?_eq_some_iff.1 hx).1;have h1:(0:Int)≤i∧(i:Int)<((List.replicate l.length false).length:Nat):=by simp;omega
   obtain⟨y,hy⟩:∃y,t[i]? =some y:=⟨_,List.getElem?_eq_getElem ht⟩;simp only[bK,hx,Option.bind_some,Int.toNat_natCast,hy,h1,and_self,if_true,dR (show i<9223372036854775807 by omega)]
   simp[hi];rfl
  ·simp;rfl
  ·simp[ee,dU];rfl
 rw[this];rfl
end Go.L
namespace Go.L
open Go.AM
def outcome(part:ByteArray)(most:Int)(full:Bool)(r:Option (Int×Nat)):Unit⊕(Int×ByteArray×Int):=
 if full=true then .inr (7,part,most)else match r with
 |none=>.inl ()
 |some (e,i)=>.inr (e,part,(i:Int))
def FE:ByteArray:=⟨⟨[108,105,110,107,115]⟩⟩
def Ay(f:aQ)(fl:List Bool)(i:Nat)(x:bV):Int:=
 if(decide (0≤x.A)&&decide (x.A<f.Leaves))=true then
  if decide (x.B≥f.Leaves)=true then
   if(!decide (x.B<IntKind.wrap .i64 (f.Leaves+f.fG)))=true then 2
   else if(decide (x.zD<1)||decide (1000<x.zD))=true then 2
   else if fl.getD i false=true then 11 else 0
  else 2
 else 2
theorem Lg(n:Nat)(f:aQ)(hn:f.Links.length<n)(hs:f.Links.length≤128∨128<f.Links.length):
 jB.S n ⟨f⟩=some (outcome FE 128 (decide (128<(f.Links.length:Int))) (bF (Ay f (bf (fun x:bV=>(⟨x.A,x.B⟩:V2 Int)) [] f.Links)) 0 f.Links)):=by
 show(mB ⟨f⟩).run n=_;simp only[mB,G.run,aK,bA,dB,Sum.elim,gt_iff_lt,decide_eq_true_eq];by_cases hfull:(128:Int)<f.Links.length
 ·simp[hfull,outcome];rfl
 ·simp only[hfull,if_false,decide_false];rw[zR n f.Links hn (by omega)]
  simp only[G.run,aK,bA,if_true,bY,iW,gr,dB,Sum.elim];refine pH f.Links (Ay f (bf (fun x:bV=>(⟨x.A,x.B⟩:V2 Int)) [] f.Links)) (fun i e=>Sum.inl (e,FE,(i:Int))) (Sum.inr ()) hn (fun i x hx=>?_) ?_ ?_
  ·have hi:=(List.getElem?_eq_some_iff.1 hx).1;obtain⟨y,hy⟩:∃y,(bf (fun x:bV=>(⟨x.A,x.B⟩:V2 Int)) [] f.Links)[i]? =some y:=⟨_,List.getElem?_eq_getElem (by rw[dU];exact hi)⟩
   have hlt:(i:Int)<f.Links.length:=by omega
   simp only[bK,hx,Option.bind_some,hlt,decide_true,if_true,hy,Ay,List.getD_eq_getElem?_getD,Option.getD_some,dR (show i<9223372036854775807 by omega)]
   repeat' split
   all_goals first |rfl | (simp_all<;>omega)
  ·simp;rfl
  ·cases bF (Ay f (bf (fun x:bV=>(⟨x.A,x.B⟩:V2 Int)) [] f.Links)) 0 f.Links with
   |none=>rfl
   |some p=>rfl
end Go.L
namespace Go.L
open Go.AM
theorem Lh{β:Type}(n:Nat)(x:aC)(v:Int)(k:ji.sh.El→Option β):(ji.S n (x,v)).bind k=k (x.eT==v):=rfl
theorem Gw{β:Type}(n:Nat)(x:aC)(v:Int)(k:iO.sh.El→Option β):(iO.S n (x,v)).bind k=k (x.Target==v):=rfl
theorem FF{β:Type}(n:Nat)(l:List aC)(v:Int)(hn:l.length<n)(hs:l.length≤4000)(k:fk.sh.El→Option β):
 (fk.S n (l,v)).bind k=k (idxOf (fun x:aC=>x.eT==v) l):=by
 have:fk.S n (l,v)=some (idxOf (fun x:aC=>x.eT==v) l):=by
  show(ig l v).run n=_;simp only[ig,G.run,aK,bA,bY,Lh,if_true];refine pI l (fun x:aC=>x.eT==v) hn (fun i x hx=>?_) ?_ ?_
  ·have hi:=(List.getElem?_eq_some_iff.1 hx).1;have hlt:(i:Int)<l.length:=by omega
   simp only[bK,hx,Option.bind_some,hlt,decide_true,if_true,dR (show i<9223372036854775807 by omega)]
   split<;>rfl
  ·simp;rfl
  ·unfold idxOf;cases l.findIdx? (fun x:aC=>x.eT==v)<;>rfl
 rw[this];rfl
theorem Cx{β:Type}(n:Nat)(l:List aC)(v:Int)(hn:l.length<n)(hs:l.length≤4000)(k:eE.sh.El→Option β):
 (eE.S n (l,v)).bind k=k (l.any (fun x:aC=>x.eT==v)):=by
 have:eE.S n (l,v)=some (l.any (fun x:aC=>x.eT==v)):=by
  show(gd l v).run n=_;simp only[gd,G.run,aK,if_true];rw[FF n l v hn hs];simp only[rj];rfl
 rw[this];rfl
theorem Iw{β:Type}(n:Nat)(l:List aC)(v:Int)(hn:l.length<n)(hs:l.length≤4000)(k:gV.sh.El→Option β):(gV.S n (l,v)).bind k=k (l.any (fun x:aC=>x.eT==v)):=by
 have:gV.S n (l,v)=some (l.any (fun x:aC=>x.eT==v)):=by
  show(kA l v).run n=_;simp only[kA,G.run,aK,if_true];rw[Cx n l v hn hs];rfl
 rw[this];rfl
theorem Cy{β:Type}(n:Nat)(l:List aC)(v:Int)(hn:l.length<n)(hs:l.length≤4000)(k:eO.sh.El→Option β):
 (eO.S n (l,v)).bind k=k (idxOf (fun x:aC=>x.Target==v) l):=by
 have:eO.S n (l,v)=some (idxOf (fun x:aC=>x.Target==v) l):=by
  show(gw l v).run n=_;simp only[gw,G.run,aK,bA,bY,Gw,if_true];refine pI l (fun x:aC=>x.Target==v) hn (fun i x hx=>?_) ?_ ?_
  ·have hi:=(List.getElem?_eq_some_iff.1 hx).1;have hlt:(i:Int)<l.length:=by omega
   simp only[bK,hx,Option.bind_some,hlt,decide_true,if_true,dR (show i<9223372036854775807 by omega)]
   split<;>rfl
  ·simp;rfl
  ·unfold idxOf;cases l.findIdx? (fun x:aC=>x.Target==v)<;>rfl
 rw[this];rfl
theorem zS{β:Type}(n:Nat)(l:List aC)(v:Int)(hn:l.length<n)(hs:l.length≤4000)(k:ej.sh.El→Option β):
 (ej.S n (l,v)).bind k=k (l.any (fun x:aC=>x.Target==v)):=by
 have:ej.S n (l,v)=some (l.any (fun x:aC=>x.Target==v)):=by
  show(fM l v).run n=_;simp only[fM,G.run,aK,if_true];rw[Cy n l v hn hs];simp only[rj];rfl
 rw[this];rfl
theorem Ee{β:Type}(n:Nat)(l:List aC)(v:Int)(hn:l.length<n)(hs:l.length≤4000)(k:gi.sh.El→Option β):(gi.S n (l,v)).bind k=k (l.any (fun x:aC=>x.Target==v)):=by
 have:gi.S n (l,v)=some (l.any (fun x:aC=>x.Target==v)):=by
  show(jj l v).run n=_;simp only[jj,G.run,aK,if_true];rw[zS n l v hn hs];rfl
 rw[this];rfl
theorem Li{β:Type}(n:Nat)(x:Int)(x2:Int)(x3:Int)(x4:List bV)(x5:List aC)(x6:List BD)(x7:List aB)(x8:List Host)(x9:List cc)(x10:Int)(x11:Int)(x12:Int)(x13:Bool)(x14:Bool)(x15:Int)(x16:Int)(x17:Int)(x18:Int)(x19:Int)(x20:Int)(k:gH.sh.El→Option β):(gH.S n (x,x2,x3,x4,x5,x6,x7,x8,x9,x10,x11,x12,x13,x14,x15,x16,x17,x18,x19,x20)).bind k=k ((fun x:Int=> !(decide (0≤x)&&decide (x<x2))) x):=by
 have:gH.S n (x,x2,x3,x4,x5,x6,x7,x8,x9,x10,x11,x12,x13,x14,x15,x16,x17,x18,x19,x20)=some ((fun x:Int=> !(decide (0≤x)&&decide (x<x2))) x):=by
  show(jL x x2 x3 x4 x5 x6 x7 x8 x9 x10 x11 x12 x13 x14 x15 x16 x17 x18 x19 x20).run n=_;simp only[jL,G.run,aK,bA,iW,if_true];rfl
 rw[this];rfl
theorem FH{β:Type}(n:Nat)(l:List Int)(x2:Int)(x3:Int)(x4:List bV)(x5:List aC)(x6:List BD)(x7:List aB)(x8:List Host)(x9:List cc)(x10:Int)(x11:Int)(x12:Int)(x13:Bool)(x14:Bool)(x15:Int)(x16:Int)(x17:Int)(x18:Int)(x19:Int)(x20:Int)(hn:l.length<n)(hs:l.length≤4000)(k:gX.sh.El→Option β):
 (gX.S n (l,x2,x3,x4,x5,x6,x7,x8,x9,x10,x11,x12,x13,x14,x15,x16,x17,x18,x19,x20)).bind k=k (idxOf (fun x:Int=> !(decide (0≤x)&&decide (x<x2))) l):=by
 have:gX.S n (l,x2,x3,x4,x5,x6,x7,x8,x9,x10,x11,x12,x13,x14,x15,x16,x17,x18,x19,x20)=some (idxOf (fun x:Int=> !(decide (0≤x)&&decide (x<x2))) l):=by
  show(kC l x2 x3 x4 x5 x6 x7 x8 x9 x10 x11 x12 x13 x14 x15 x16 x17 x18 x19 x20).run n=_;simp only[kC,G.run,aK,bA,bY,Li,if_true];refine pI l (fun x:Int=> !(decide (0≤x)&&decide (x<x2))) hn (fun i x hx=>?_) ?_ ?_
  ·have hi:=(List.getElem?_eq_some_iff.1 hx).1;have hlt:(i:Int)<l.length:=by omega
   simp only[bK,hx,Option.bind_some,hlt,decide_true,if_true,dR (show i<9223372036854775807 by omega)]
   split<;>rfl
  ·simp;rfl
  ·unfold idxOf;cases l.findIdx? (fun x:Int=> !(decide (0≤x)&&decide (x<x2)))<;>rfl
 rw[this];rfl
theorem Cz{β:Type}(n:Nat)(l:List Int)(x2:Int)(x3:Int)(x4:List bV)(x5:List aC)(x6:List BD)(x7:List aB)(x8:List Host)(x9:List cc)(x10:Int)(x11:Int)(x12:Int)(x13:Bool)(x14:Bool)(x15:Int)(x16:Int)(x17:Int)(x18:Int)(x19:Int)(x20:Int)(hn:l.length<n)(hs:l.length≤4000)(k:fQ.sh.El→Option β):
 (fQ.S n (l,x2,x3,x4,x5,x6,x7,x8,x9,x10,x11,x12,x13,x14,x15,x16,x17,x18,x19,x20)).bind k=k (l.any (fun x:Int=> !(decide (0≤x)&&decide (x<x2)))):=by
 have:fQ.S n (l,x2,x3,x4,x5,x6,x7,x8,x9,x10,x11,x12,x13,x14,x15,x16,x17,x18,x19,x20)=some (l.any (fun x:Int=> !(decide (0≤x)&&decide (x<x2)))):=by
  show(iX l x2 x3 x4 x5 x6 x7 x8 x9 x10 x11 x12 x13 x14 x15 x16 x17 x18 x19 x20).run n=_;simp only[iX,G.run,aK,if_true];rw[FH n l x2 x3 x4 x5 x6 x7 x8 x9 x10 x11 x12 x13 x14 x15 x16 x17 x18 x19 x20 hn hs];simp only[rj];rfl
 rw[this];rfl
theorem MS{β:Type}(n:Nat)(x:Int)(x2:Int)(x3:Int)(x4:List bV)(x5:List aC)(x6:List BD)(x7:List aB)(x8:List Host)(x9:List cc)(x10:Int)(x11:Int)(x12:Int)(x13:Bool)(x14:Bool)(x15:Int)(x16:Int)(x17:Int)(x18:Int)(x19:Int)(x20:Int)(k:gI.sh.El→Option β):(gI.S n (x,x2,x3,x4,x5,x6,x7,x8,x9,x10,x11,x12,x13,x14,x15,x16,x17,x18,x19,x20)).bind k=k ((fun x:Int=> !(decide (0≤x)&&decide (x<(x6.length:Int)))) x):=by
 have:gI.S n (x,x2,x3,x4,x5,x6,x7,x8,x9,x10,x11,x12,x13,x14,x15,x16,x17,x18,x19,x20)=some ((fun x:Int=> !(decide (0≤x)&&decide (x<(x6.length:Int)))) x):=by
  show(jM x x2 x3 x4 x5 x6 x7 x8 x9 x10 x11 x12 x13 x14 x15 x16 x17 x18 x19 x20).run n=_;simp only[jM,G.run,aK,bA,iW,if_true];rfl
 rw[this];rfl
theorem Iy{β:Type}(n:Nat)(l:List Int)(x2:Int)(x3:Int)(x4:List bV)(x5:List aC)(x6:List BD)(x7:List aB)(x8:List Host)(x9:List cc)(x10:Int)(x11:Int)(x12:Int)(x13:Bool)(x14:Bool)(x15:Int)(x16:Int)(x17:Int)(x18:Int)(x19:Int)(x20:Int)(hn:l.length<n)(hs:l.length≤4000)(k:gj.sh.El→Option β):
 (gj.S n (l,x2,x3,x4,x5,x6,x7,x8,x9,x10,x11,x12,x13,x14,x15,x16,x17,x18,x19,x20)).bind k=k (idxOf (fun x:Int=> !(decide (0≤x)&&decide (x<(x6.length:Int)))) l):=by
 have:gj.S n (l,x2,x3,x4,x5,x6,x7,x8,x9,x10,x11,x12,x13,x14,x15,x16,x17,x18,x19,x20)=some (idxOf (fun x:Int=> !(decide (0≤x)&&decide (x<(x6.length:Int)))) l):=by
  show(jk l x2 x3 x4 x5 x6 x7 x8 x9 x10 x11 x12 x13 x14 x15 x16 x17 x18 x19 x20).run n=_;simp only[jk,G.run,aK,bA,bY,MS,if_true];refine pI l (fun x:Int=> !(decide (0≤x)&&decide (x<(x6.length:Int)))) hn (fun i x hx=>?_) ?_ ?_
  ·have hi:=(List.getElem?_eq_some_iff.1 hx).1;have hlt:(i:Int)<l.length:=by omega
   simp only[bK,hx,Option.bind_some,hlt,decide_true,if_true,dR (show i<9223372036854775807 by omega)]
   split<;>rfl
  ·simp;rfl
  ·unfold idxOf;cases l.findIdx? (fun x:Int=> !(decide (0≤x)&&decide (x<(x6.length:Int))))<;>rfl
 rw[this];rfl
theorem Ef{β:Type}(n:Nat)(l:List Int)(x2:Int)(x3:Int)(x4:List bV)(x5:List aC)(x6:List BD)(x7:List aB)(x8:List Host)(x9:List cc)(x10:Int)(x11:Int)(x12:Int)(x13:Bool)(x14:Bool)(x15:Int)(x16:Int)(x17:Int)(x18:Int)(x19:Int)(x20:Int)(hn:l.length<n)(hs:l.length≤4000)(k:fu.sh.El→Option β):
 (fu.S n (l,x2,x3,x4,x5,x6,x7,x8,x9,x10,x11,x12,x13,x14,x15,x16,x17,x18,x19,x20)).bind k=k (l.any (fun x:Int=> !(decide (0≤x)&&decide (x<(x6.length:Int))))):=by
 have:fu.S n (l,x2,x3,x4,x5,x6,x7,x8,x9,x10,x11,x12,x13,x14,x15,x16,x17,x18,x19,x20)=some (l.any (fun x:Int=> !(decide (0≤x)&&decide (x<(x6.length:Int))))):=by
  show(iC l x2 x3 x4 x5 x6 x7 x8 x9 x10 x11 x12 x13 x14 x15 x16 x17 x18 x19 x20).run n=_;simp only[iC,G.run,aK,if_true];rw[Iy n l x2 x3 x4 x5 x6 x7 x8 x9 x10 x11 x12 x13 x14 x15 x16 x17 x18 x19 x20 hn hs];simp only[rj];rfl
 rw[this];rfl
theorem JU{β:Type}(n:Nat)(l:List Int)(v:Int)(hn:l.length<n)(hs:l.length≤4000)(k:gQ.sh.El→Option β):
 (gQ.S n (l,v)).bind k=k (idxOf (fun x:Int=>v==x) l):=by
 have:gQ.S n (l,v)=some (idxOf (fun x:Int=>v==x) l):=by
  show(gP l v).run n=_;simp only[gP,G.run,aK,bA,bY,if_true,if_true];refine pI l (fun x:Int=>v==x) hn (fun i x hx=>?_) ?_ ?_
  ·have hi:=(List.getElem?_eq_some_iff.1 hx).1;have hlt:(i:Int)<l.length:=by omega
   simp only[bK,hx,Option.bind_some,hlt,decide_true,if_true,dR (show i<9223372036854775807 by omega)]
   split<;>rfl
  ·simp;rfl
  ·unfold idxOf;cases l.findIdx? (fun x:Int=>v==x)<;>rfl
 rw[this];rfl
theorem FI{β:Type}(n:Nat)(l:List Int)(v:Int)(hn:l.length<n)(hs:l.length≤4000)(k:cR.sh.El→Option β):
 (cR.S n (l,v)).bind k=k (l.any (fun x:Int=>v==x)):=by
 have:cR.S n (l,v)=some (l.any (fun x:Int=>v==x)):=by
  show(fJ l v).run n=_;simp only[fJ,G.run,aK,if_true];rw[JU n l v hn hs];simp only[rj];rfl
 rw[this];rfl
end Go.L
namespace Go.L
open Go.AM
theorem DP{β:Type}(k1 k2:Go.IntKind)(a b:Int)(k:Unit→Option β):(C2 k1 k2 a b).run.bind k=if decide (0≤b)=true then k ()else none:=by
 show(if decide (0≤b)=true then some ()else none).bind k=_
 split<;>rfl
def lE(p:aM):Bool:=decide (0≤p.Len)&&decide (p.Len≤32)
def Iz(a b:Int):Int:=IntKind.wrap .u32 (((BitVec.ofInt 32 a)&&& (BitVec.ofInt 32 b)).toNat:Int)
def N6(a b:Int):Int:=IntKind.wrap .u32 (((BitVec.ofInt 32 a)||| (BitVec.ofInt 32 b)).toNat:Int)
def NT(a b:Int):Int:=IntKind.wrap .u32 (((BitVec.ofInt 32 a) ^^^ (BitVec.ofInt 32 b)).toNat:Int)
def yD(n:Int):Int:=IntKind.wrap .u32 ((4294967295:Int)*((2:Int) ^ (min (Int.toNat (IntKind.wrap .i64 ((32:Int) - n))) (IntKind.bits .u32))))
def NU(n:Int):Int:=IntKind.wrap .u32 ((IntKind.wrap .u32 ((1:Int)*((2:Int) ^ (min (Int.toNat (IntKind.wrap .i64 ((32:Int) - n))) (IntKind.bits .u32))))) - (1:Int))
def nU(p:aM):Bool:=lE p&&(Iz p.IP (yD p.Len)==p.IP)
def l8(p:aM)(ip:Int):Bool:=lE p&&(Iz (NT p.IP ip) (yD p.Len)==0)
def vE(p:aM)(ip:Int):Bool:=l8 p ip&&(ip != p.IP&&ip != N6 p.IP (NU p.Len))
section
variable {β:Type} (n:Nat)
theorem CA(p:aM)(k:oJ.sh.El→Option β):(oJ.S n p).bind k=k (lE p):=by
 have:oJ.S n p=some (lE p):=by
  show(vq p).run n=_;simp only[vq,G.run,aK,lE,ge_iff_le];by_cases h:0≤p.Len<;>simp[h]<;>rfl
 rw[this];rfl
theorem wrap32{x:Int}(h0:0≤x)(h1:x≤32):IntKind.wrap .i64 (32 - x)=32 - x:=wrap_i64 (by omega) (by omega)
theorem DQ(x:Int)(h0:0≤x)(h1:x≤32)(k:qt.sh.El→Option β):(qt.S n x).bind k=k (yD x):=by
 have:qt.S n x=some (yD x):=by
  show(wJ x).run n=_;simp only[wJ,G.run,aK,DP,yD];rw[if_pos (by rw[wrap32 h0 h1];simp;omega)]
  rfl
 rw[this];rfl
theorem vF(p:aM)(k:mZ.sh.El→Option β):(mZ.S n p).bind k=k (nU p):=by
 have:mZ.S n p=some (nU p):=by
  show(tq p).run n=_;have hc:∀{γ:Type} (k:rZ.sh.El→Option γ),(rZ.S n p).bind k=if lE p=true then k (⟨Iz p.IP (yD p.Len),p.Len⟩,0)else k (⟨0,0⟩,2):=by
   intro γ k;have:rZ.S n p=some (if lE p=true then(⟨Iz p.IP (yD p.Len),p.Len⟩,0)else(⟨0,0⟩,2)):=by
    show(vr p).run n=_;simp only[vr,G.run,aK,CA];by_cases h:lE p=true
    ·simp only[h,Bool.not_true,Bool.false_eq_true,if_false,if_true];simp only[lE,Bool.and_eq_true,decide_eq_true_eq]at h;rw[DQ n p.Len h.1 h.2];rfl
    ·simp[h];rfl
   rw[this];split<;>rfl
  simp only[tq,G.run,aK,hc,nU];by_cases h:lE p=true<;>simp[h]<;>rfl
 rw[this];rfl
theorem yQ(p:aM)(ip:Int)(k:jY.sh.El→Option β):(jY.S n (p,ip)).bind k=k (l8 p ip):=by
 have:jY.S n (p,ip)=some (l8 p ip):=by
  show(sg p ip).run n=_;simp only[sg,G.run,aK,CA,l8];by_cases h:lE p=true
  ·simp only[h,if_true,Bool.true_and];simp only[lE,Bool.and_eq_true,decide_eq_true_eq]at h;rw[DQ n p.Len h.1 h.2];rfl
  ·simp[h];rfl
 rw[this];rfl
theorem zT(p:aM)(ip:Int)(hp:lE p=true)(k:ng.sh.El→Option β):(ng.S n (p,ip)).bind k=k (vE p ip):=by
 have:ng.S n (p,ip)=some (vE p ip):=by
  show(tu p ip).run n=_;have h:=hp;simp only[lE,Bool.and_eq_true,decide_eq_true_eq]at h;simp only[tu,G.run,aK,yQ,DP];rw[if_pos (by rw[wrap32 h.1 h.2];simp;omega)]
  simp only[vE,if_true];by_cases h1:l8 p ip=true
  ·by_cases h2:(ip != p.IP)=true
   ·simp only[h1,h2,if_true,Bool.true_and];rfl
   ·simp only[h1,h2,if_true,Bool.true_and,Bool.false_eq_true,if_false];simp at h2;simp[h2];rfl
  ·simp[h1];rfl
 rw[this];rfl
end
end Go.L
namespace Go.L
open Go.AM
def Bt:ByteArray:=⟨⟨[116,101,110,97,110,116,115]⟩⟩
def FJ:ByteArray:=⟨⟨[108,101,97,107,115]⟩⟩
def uR(f1 f2:List Bool)(i:Nat)(x:aC):Int:=
 if decide (x.eT<1)=true then 2 else if decide (16777215<x.eT)=true then 2 else if(x.Target==0)=true then 2
 else if f1.getD i false=true then 11 else if f2.getD i false=true then 11 else 0
theorem IA(n:Nat)(f:aQ)(hn:f.aR.length<n):
 iN.S n ⟨f⟩=some (outcome Bt 16 (decide (16<(f.aR.length:Int))) (bF (uR (bf (fun x:aC=>x.eT) [] f.aR) (bf (fun x:aC=>x.Target) [] f.aR)) 0 f.aR)):=by
 show(k8 ⟨f⟩).run n=_;simp only[k8,G.run,aK,bA,dB,Sum.elim,gt_iff_lt,decide_eq_true_eq];by_cases hfull:(16:Int)<f.aR.length
 ·simp[hfull,outcome];rfl
 ·simp only[hfull,if_false,decide_false];rw[xH n f.aR hn (by omega)]
  rw[vN n f.aR hn (by omega)]
  simp only[G.run,aK,bA,if_true,bY,iW,gr,dB,Sum.elim];generalize hf1:bf (fun x:aC=>x.eT) [] f.aR=f1
  generalize hf2:bf (fun x:aC=>x.Target) [] f.aR=f2
  refine pH f.aR (uR f1 f2) (fun i e=>Sum.inl (e,Bt,(i:Int))) (Sum.inr ()) hn (fun i x hx=>?_) ?_ ?_
  ·have hi:=(List.getElem?_eq_some_iff.1 hx).1;obtain⟨y,hy⟩:∃y,f1[i]? =some y:=⟨_,List.getElem?_eq_getElem (by rw[← hf1,dU];exact hi)⟩
   obtain⟨z,hz⟩:∃y,f2[i]? =some y:=⟨_,List.getElem?_eq_getElem (by rw[← hf2,dU];exact hi)⟩
   have hlt:(i:Int)<f.aR.length:=by omega
   simp only[bK,hx,Option.bind_some,hlt,decide_true,if_true,hy,hz,uR,List.getD_eq_getElem?_getD,Option.getD_some,dR (show i<9223372036854775807 by omega)]
   clear hf1 hf2 hy hz hx
   repeat' split
   all_goals first |rfl | (simp_all<;>omega)
  ·simp;rfl
  ·cases bF (uR f1 f2) 0 f.aR with
   |none=>rfl
   |some p=>rfl
def Az(f:aQ)(f1:List Bool)(i:Nat)(x:cc):Int:=
 if(!(decide (0≤x.From)&&decide (x.From<(f.aR.length:Int))))=true then 2 else if(!(decide (0≤x.To)&&decide (x.To<(f.aR.length:Int))))=true then 2
 else if(x.From==x.To)=true then 3 else if(!nU x.aM)=true then 3 else if f1.getD i false=true then 11 else 0
theorem Lj(n:Nat)(f:aQ)(hn:f.ff.length<n):
 jD.S n ⟨f⟩=some (outcome FJ 256 (decide (256<(f.ff.length:Int))) (bF (Az f (bf (fun x:cc=>x) [] f.ff)) 0 f.ff)):=by
 show(mD ⟨f⟩).run n=_;simp only[mD,G.run,aK,bA,dB,Sum.elim,gt_iff_lt,decide_eq_true_eq];by_cases hfull:(256:Int)<f.ff.length
 ·simp[hfull,outcome];rfl
 ·simp only[hfull,if_false,decide_false];rw[AH n f.ff hn (by omega)]
  simp only[G.run,aK,bA,if_true,bY,iW,gr,dB,Sum.elim,vF];generalize hf1:bf (fun x:cc=>x) [] f.ff=f1
  refine pH f.ff (Az f f1) (fun i e=>Sum.inl (e,FJ,(i:Int))) (Sum.inr ()) hn (fun i x hx=>?_) ?_ ?_
  ·have hi:=(List.getElem?_eq_some_iff.1 hx).1;obtain⟨y,hy⟩:∃y,f1[i]? =some y:=⟨_,List.getElem?_eq_getElem (by rw[← hf1,dU];exact hi)⟩
   have hlt:(i:Int)<f.ff.length:=by omega
   simp only[bK,hx,Option.bind_some,hlt,decide_true,if_true,hy,Az,List.getD_eq_getElem?_getD,Option.getD_some,dR (show i<9223372036854775807 by omega)]
   clear hf1 hy hx
   repeat' split
   all_goals first |rfl | (simp_all<;>omega)
  ·simp;rfl
  ·cases bF (Az f f1) 0 f.ff with
   |none=>rfl
   |some p=>rfl
end Go.L
namespace Go.L
open Go.AM
def Hj:ByteArray:=⟨⟨[102,97,98,114,105,99]⟩⟩
def Hl:ByteArray:=⟨⟨[116,105,109,101,114,115]⟩⟩
def FK:ByteArray:=⟨⟨[104,111,115,116,115]⟩⟩
def out(x lo hi:Int):Bool:=decide (x<lo)||decide (hi<x)
def rq(f:aQ):Bool:=out f.Leaves 1 32||out f.fG 0 32||decide (32<IntKind.wrap .i64 (f.Leaves+f.fG))||out f.tP 0 2||out f.og 0 1||out f.qq 0 1
def uc(t:bJ):Bool:=out t.qp 1 100||out t.yw 3 1000||out t.A7 1 10000||out t.pq 0 1000||out t.uJ 1 100||out t.Window 1 10000
theorem JV(n:Nat)(f:aQ):jb.S n ⟨f⟩=some (if rq f=true then Sum.inr (2,Hj,0)else Sum.inl ()):=by
 show(lF ⟨f⟩).run n=_;simp only[lF,G.run,aK,gr,dB,Sum.elim,if_true];unfold rq;have e:∀x lo hi,(decide (x<lo)||decide (hi<x))=out x lo hi:=fun _ _ _=>rfl
 simp only[e,gt_iff_lt,Bool.or_eq_true];cases out f.Leaves 1 32<;>cases out f.fG 0 32<;>cases decide (32<IntKind.wrap .i64 (f.Leaves+f.fG))<;>cases out f.tP 0 2<;>cases out f.og 0 1<;>cases out f.qq 0 1<;>rfl
theorem JW(n:Nat)(f:aQ):jc.S n ⟨f⟩=some (if uc f.bJ=true then Sum.inr (2,Hl,0)else Sum.inl ()):=by
 show(lG ⟨f⟩).run n=_;simp only[lG,G.run,aK,gr,dB,Sum.elim,if_true];unfold uc;have e:∀x lo hi,(decide (x<lo)||decide (hi<x))=out x lo hi:=fun _ _ _=>rfl
 simp only[e,gt_iff_lt,Bool.or_eq_true];cases out f.bJ.qp 1 100<;>cases out f.bJ.yw 3 1000<;>cases out f.bJ.A7 1 10000<;>cases out f.bJ.pq 0 1000<;>cases out f.bJ.uJ 1 100<;>cases out f.bJ.Window 1 10000<;>rfl
def AA(m:Int):Bool:=decide (m≤281474976710655)&&(IntKind.wrap .u64 (((BitVec.ofInt 64 (Int.fdiv m ((2:Int) ^ (min (Int.toNat (40:Int)) (IntKind.bits .u64)))))&&& (BitVec.ofInt 64 1)).toNat:Int) != 0)
def ru(m:Int):Bool:= !decide (m<2199023255552)&& !decide (m≥2199023255584)
def kP(b:BD)(ip:Int):Bool:=ip==0||(b.bW != 0&&(ip != b.bW&&vE b.bx ip))
section
variable {β:Type} (n:Nat)
theorem Dg(m:Int)(k:nH.sh.El→Option β):(nH.S n m).bind k=k (AA m):=by
 have:nH.S n m=some (AA m):=by
  show(qO m).run n=_;simp only[qO,G.run,aK,AA];by_cases h:m≤281474976710655
  ·simp only[h,decide_true,if_true,Bool.true_and];rfl
  ·simp only[h,decide_false,if_false,Bool.false_and,Bool.false_eq_true];rfl
 rw[this];rfl
theorem CB(m:Int)(k:kH.sh.El→Option β):(kH.S n m).bind k=if ru m=true then k (IntKind.wrap .i64 (IntKind.wrap .u64 (m - 2199023255552)),true)else k (0,false):=by
 have:kH.S n m=some (if ru m=true then(IntKind.wrap .i64 (IntKind.wrap .u64 (m - 2199023255552)),true)else(0,false)):=by
  show(pQ m).run n=_;simp only[pQ,G.run,aK,ru];by_cases h:m<2199023255552
  ·simp[h];rfl
  ·by_cases h2:m≥2199023255584
   ·simp[h,h2];rfl
   ·simp only[h,h2,decide_false,Bool.not_false,Bool.and_self,Bool.false_eq_true,if_false,if_true];rfl
 rw[this];split<;>rfl
theorem Bu(b:BD)(ip:Int)(hb:b.bW≠0→lE b.bx=true)(k:jO.sh.El→Option β):(jO.S n (b,ip)).bind k=k (kP b ip):=by
 have:jO.S n (b,ip)=some (kP b ip):=by
  show(oL b ip).run n=_;simp only[oL,G.run,aK,kP];cases e1:(ip==0)with
  |true=>simp only[if_true,Bool.true_or];rfl
  |false=>
   cases e2:(b.bW != 0)with
   |false=>simp only[Bool.false_eq_true,if_false,Bool.false_or,Bool.false_and];rfl
   |true=>
    cases e3:(ip != b.bW)with
    |false=>simp only[Bool.false_eq_true,if_false,if_true,Bool.false_or,Bool.true_and,Bool.false_and];rfl
    |true=>
     simp only[Bool.false_eq_true,if_false,if_true,Bool.false_or,Bool.true_and];rw[zT n b.bx ip (hb (by simpa using e2))];rfl
 rw[this];rfl
end
def zU(f:aQ)(b:Int):BD:=(fF f.aW b).getD ⟨0,0,0,⟨0,0⟩,0⟩
def xI(f:aQ)(s:Int):List Int:=((fF f.ax s).map (·.aW)).getD []
theorem Nv(n:Int)(h:0≤n)(h2:n≤4000):IntKind.wrap .i64 (n - 1)=n - 1:=wrap_i64 (by omega) (by omega)
def AB(f:aQ)(f1 f2:List Bool)(i:Nat)(h:Host):Int:=
 if(h.MAC==0)=true then 2 else if decide (281474976710655<h.MAC)=true then 2 else if AA h.MAC=true then 2
 else if(!(decide (0≤h.BD)&&decide (h.BD<(f.aW.length:Int))))=true then 2 else if out h.aB (-1) ((f.ax.length:Int) - 1)=true then 2
 else if(h.aB != -1&& !(xI f h.aB).any fun x=>h.BD==x)=true then 8
 else if(h.MAC==1577058561)=true then 3 else if ru h.MAC=true then 3 else if(!kP (zU f h.BD) h.IP)=true then 3
 else if f1.getD i false=true then 11 else if(h.IP != 0&&f2.getD i false)=true then 11 else 0
theorem Ll(n:Nat)(f:aQ)(hn:f.dS.length<n)(hseg:f.ax.length≤64)(hsn:∀s∈f.ax,s.aW.length<n∧s.aW.length≤4000)(hsub:∀b∈f.aW,b.bW≠0→lE b.bx=true):
 jC.S n ⟨f⟩=some (outcome FK 128 (decide (128<(f.dS.length:Int))) (bF (AB f (bf (fun x:Host=>(⟨x.BD,x.MAC⟩:aG)) [] f.dS) (bf (fun x:Host=>(⟨x.BD,IntKind.wrap .u64 x.IP⟩:aG)) [] f.dS)) 0 f.dS)):=by
 show(mC ⟨f⟩).run n=_;simp only[mC,G.run,aK,bA,dB,Sum.elim,gt_iff_lt,decide_eq_true_eq];by_cases hfull:(128:Int)<f.dS.length
 ·simp[hfull,outcome];rfl
 ·simp only[hfull,if_false,decide_false];rw[uK n f.dS hn (by omega)]
  rw[ua n f.dS hn (by omega)]
  simp only[G.run,aK,bA,if_true,bY,iW,gr,dB,Sum.elim,Dg,CB];generalize hf1:bf (fun x:Host=>(⟨x.BD,x.MAC⟩:aG)) [] f.dS=f1
  generalize hf2:bf (fun x:Host=>(⟨x.BD,IntKind.wrap .u64 x.IP⟩:aG)) [] f.dS=f2
  refine pH f.dS (AB f f1 f2) (fun i e=>Sum.inl (e,FK,(i:Int))) (Sum.inr ()) hn (fun i x hx=>?_) ?_ ?_
  ·have hi:=(List.getElem?_eq_some_iff.1 hx).1;obtain⟨y,hy⟩:∃y,f1[i]? =some y:=⟨_,List.getElem?_eq_getElem (by rw[← hf1,dU];exact hi)⟩
   obtain⟨z,hz⟩:∃y,f2[i]? =some y:=⟨_,List.getElem?_eq_getElem (by rw[← hf2,dU];exact hi)⟩
   have hlt:(i:Int)<f.dS.length:=by omega
   have hw:=Nv (f.ax.length:Int) (by omega) (by omega)
   simp only[bK,hx,Option.bind_some,hlt,decide_true,if_true,hy,hz,AB,List.getD_eq_getElem?_getD,Option.getD_some,dR (show i<9223372036854775807 by omega),hw]
   clear hf1 hf2 hy hz hx;cases(x.MAC==0)
   case true=>rfl
   by_cases hm:(281474976710655:Int)<x.MAC
   ·simp only[hm,if_true,decide_true,Bool.false_eq_true,if_false];rfl
   simp only[hm,if_false,decide_false,Bool.false_eq_true];cases AA x.MAC
   case true=>rfl
   cases hbd:(decide (0≤x.BD)&&decide (x.BD<(f.aW.length:Int)))
   case false=>rfl
   have e:(decide (x.aB< -1)||decide ((f.ax.length:Int) - 1<x.aB))=out x.aB (-1) ((f.ax.length:Int) - 1):=rfl;simp only[e];cases hsg:out x.aB (-1) ((f.ax.length:Int) - 1)
   case true=>rfl
   obtain⟨b,hb⟩:∃b,fF f.aW x.BD=some b:=by
    simp only[Bool.and_eq_true,decide_eq_true_eq]at hbd;exact⟨_,by unfold fF;rw[if_pos hbd.1];exact List.getElem?_eq_getElem (by omega)⟩
   have hbm:b∈f.aW:=by
    unfold fF at hb;split at hb
    ·exact List.mem_of_getElem? hb
    ·cases hb
   have hbd2:zU f x.BD=b:=by simp[zU,hb]
   simp only[Bool.not_true,Bool.false_eq_true,if_false,hb,hbd2,Option.bind_some,Bu n b x.IP (hsub b hbm)];cases hs1:(x.aB != -1)
   ·simp only[Bool.false_and,Bool.false_eq_true,if_false];cases(x.MAC==1577058561)<;>cases ru x.MAC<;>cases kP b x.IP<;>cases y<;>cases(x.IP != 0)<;>cases z<;>rfl
   ·obtain⟨s,hs⟩:∃s,fF f.ax x.aB=some s:=by
     simp only[out,Bool.or_eq_false_iff,decide_eq_false_iff_not]at hsg;have:x.aB≠ -1:=by simpa using hs1
     exact⟨_,by unfold fF;rw[if_pos (by omega)];exact List.getElem?_eq_getElem (by omega)⟩
    have hsm:s∈f.ax:=by
     unfold fF at hs;split at hs
     ·exact List.mem_of_getElem? hs
     ·cases hs
    have hsb:xI f x.aB=s.aW:=by simp[xI,hs]
    simp only[if_true,hs,Option.bind_some,hsb,Bool.true_and,FI n s.aW x.BD (hsn s hsm).1 (hsn s hsm).2];cases(s.aW.any fun y=>x.BD==y)<;>cases(x.MAC==1577058561)<;>cases ru x.MAC<;>cases kP b x.IP<;>cases y<;>cases(x.IP != 0)<;>cases z<;>rfl
  ·simp;rfl
  ·cases bF (AB f f1 f2) 0 f.dS with
   |none=>rfl
   |some p=>rfl
end Go.L
namespace Go.L
open Go.AM
def pJ(t ip len:Int)(x:BD):Bool:=x.aC==t&&(x.bW != 0&&(l8 x.bx ip||l8 ⟨ip,len⟩ x.bx.IP))
theorem MT{β:Type}(n:Nat)(x:BD)(x2 x3 x4 x5 x6 x7:Int)(k:gW.sh.El→Option β):(gW.S n (x,x2,x3,x4,x5,x6,x7)).bind k=k (pJ x2 x5 x6 x):=by
 have:gW.S n (x,x2,x3,x4,x5,x6,x7)=some (pJ x2 x5 x6 x):=by
  show(kB x x2 x3 x4 x5 x6 x7).run n=_;simp only[kB,G.run,aK,yQ,pJ,if_true];cases(x.aC==x2)<;>cases(x.bW != 0)<;>cases l8 x.bx x5<;>cases l8 ⟨x5,x6⟩ x.bx.IP<;>rfl
 rw[this];rfl
theorem IB{β:Type}(n:Nat)(l:List BD)(x2 x3 x4 x5 x6 x7:Int)(hn:l.length<n)(hs:l.length≤4000)(k:iP.sh.El→Option β):
 (iP.S n (l,x2,x3,x4,x5,x6,x7)).bind k=k (idxOf (pJ x2 x5 x6) l):=by
 have:iP.S n (l,x2,x3,x4,x5,x6,x7)=some (idxOf (pJ x2 x5 x6) l):=by
  show(k9 l x2 x3 x4 x5 x6 x7).run n=_;simp only[k9,G.run,aK,bA,bY,MT,if_true];refine pI l (pJ x2 x5 x6) hn (fun i x hx=>?_) ?_ ?_
  ·have hi:=(List.getElem?_eq_some_iff.1 hx).1;have hlt:(i:Int)<l.length:=by omega
   simp only[bK,hx,Option.bind_some,hlt,decide_true,if_true,dR (show i<9223372036854775807 by omega)]
   split<;>rfl
  ·simp;rfl
  ·unfold idxOf;cases l.findIdx? (pJ x2 x5 x6)<;>rfl
 rw[this];rfl
theorem Eg{β:Type}(n:Nat)(l:List BD)(x2 x3 x4 x5 x6 x7:Int)(hn:l.length<n)(hs:l.length≤4000)(k:gG.sh.El→Option β):
 (gG.S n (l,x2,x3,x4,x5,x6,x7)).bind k=k (l.any (pJ x2 x5 x6)):=by
 have:gG.S n (l,x2,x3,x4,x5,x6,x7)=some (l.any (pJ x2 x5 x6)):=by
  show(jK l x2 x3 x4 x5 x6 x7).run n=_;simp only[jK,G.run,aK,if_true];rw[IB n l x2 x3 x4 x5 x6 x7 hn hs];simp only[rj];rfl
 rw[this];rfl
theorem JX{X β:Type}(l:List X)(e:X→List AVal)(m:Nat)(i:Nat)(hi:i≤l.length)(k:Nat×Nat→Option β):(KS l e m none (some (i:Int))).run.bind k=k (0,i):=by
 have:(KS l e m none (some (i:Int))).run=some (0,i):=by
  show((vi l.length l.length (some (i:Int))).bind fun h=>(vi 0 h none).map fun k=>(k,h))=_
  simp only[vi];rw[if_pos (by omega)];simp
 rw[this];rfl
def Bv:ByteArray:=⟨⟨[100,111,109,97,105,110,115]⟩⟩
def Bw(f:aQ)(f1 f2:List Bool)(i:Nat)(b:BD):Int:=
 if(!(decide (0≤b.aC)&&decide (b.aC<(f.aR.length:Int))))=true then 2 else if decide (b.eT<1)=true then 2 else if decide (16777215<b.eT)=true then 2 else if(b.Target==0)=true then 2
 else if f1.getD i false=true then 11 else if f2.getD i false=true then 11 else if(f.aR.any fun x=>x.eT==b.eT)=true then 11 else if(f.aR.any fun x=>x.Target==b.Target)=true then 11
 else if(b.bW==0)=true then(if(!(b.bx.IP==0&&(b.bx.Len==0&&true)))=true then 3 else 0)
 else if(!nU b.bx)=true then 3 else if out b.bx.Len 8 30=true then 3 else if(!vE b.bx b.bW)=true then 3
 else if((f.aW.take i).any (pJ b.aC b.bx.IP b.bx.Len))=true then 11 else 0
theorem IC(n:Nat)(f:aQ)(hn:f.aW.length<n)(hnt:f.aR.length<n)(ht:f.aR.length≤4000):
 iQ.S n ⟨f⟩=some (outcome Bv 32 (decide (32<(f.aW.length:Int))) (bF (Bw f (bf (fun x:BD=>x.eT) [] f.aW) (bf (fun x:BD=>x.Target) [] f.aW)) 0 f.aW)):=by
 show(lg ⟨f⟩).run n=_;simp only[lg,G.run,aK,bA,dB,Sum.elim,gt_iff_lt,decide_eq_true_eq];by_cases hfull:(32:Int)<f.aW.length
 ·simp[hfull,outcome];rfl
 ·simp only[hfull,if_false,decide_false];rw[AG n f.aW hn (by omega)]
  rw[yX n f.aW hn (by omega)]
  simp only[G.run,aK,bA,if_true,bY,iW,gr,dB,Sum.elim,vF];generalize hf1:bf (fun x:BD=>x.eT) [] f.aW=f1
  generalize hf2:bf (fun x:BD=>x.Target) [] f.aW=f2
  refine pH f.aW (Bw f f1 f2) (fun i e=>Sum.inl (e,Bv,(i:Int))) (Sum.inr ()) hn (fun i x hx=>?_) ?_ ?_
  ·have hi:=(List.getElem?_eq_some_iff.1 hx).1;obtain⟨y,hy⟩:∃y,f1[i]? =some y:=⟨_,List.getElem?_eq_getElem (by rw[← hf1,dU];exact hi)⟩
   obtain⟨z,hz⟩:∃y,f2[i]? =some y:=⟨_,List.getElem?_eq_getElem (by rw[← hf2,dU];exact hi)⟩
   have hlt:(i:Int)<f.aW.length:=by omega
   simp only[bK,hx,Option.bind_some,hlt,decide_true,if_true,hy,hz,Bw,List.getD_eq_getElem?_getD,Option.getD_some,dR (show i<9223372036854775807 by omega)]
   clear hf1 hf2 hy hz hx;rw[Iw n f.aR x.eT hnt ht];rw[Ee n f.aR x.Target hnt ht];simp only[G.run,aK,bA,if_true,dB,Sum.elim,vF,gr,Bool.false_eq_true,if_false];cases(decide (0≤x.aC)&&decide (x.aC<(f.aR.length:Int)))
   case false=>rfl
   by_cases h1:x.eT<1
   ·simp only[h1,if_true,decide_true];rfl
   by_cases h2:(16777215:Int)<x.eT
   ·simp only[h1,h2,if_true,decide_true,if_false,decide_false,Bool.false_eq_true];rfl
   simp only[h1,h2,if_false,decide_false,Bool.false_eq_true];cases(x.Target==0)
   case true=>rfl
   cases y
   case true=>rfl
   cases z
   case true=>rfl
   cases(f.aR.any fun y=>y.eT==x.eT)
   case true=>rfl
   cases(f.aR.any fun y=>y.Target==x.Target)
   case true=>rfl
   cases(x.bW==0)
   case true=>cases(x.bx.IP==0&&(x.bx.Len==0&&true))<;>rfl
   cases hc:nU x.bx
   case false=>rfl
   have hok:lE x.bx=true:=by
    simp only[nU,Bool.and_eq_true]at hc;exact hc.1
   simp only[zT n x.bx x.bW hok,JX f.aW ew 6 i (by omega),List.drop_zero]
   rw[Eg n (f.aW.take i) x.aC x.eT x.Target x.bx.IP x.bx.Len x.bW (by simp;omega) (by simp;omega)]
   have e:(decide (x.bx.Len<8)||decide (30<x.bx.Len))=out x.bx.Len 8 30:=rfl;simp only[e];cases out x.bx.Len 8 30<;>cases vE x.bx x.bW<;>cases(f.aW.take i).any (pJ x.aC x.bx.IP x.bx.Len)<;>rfl
  ·simp;rfl
  ·cases bF (Bw f f1 f2) 0 f.aW with
   |none=>rfl
   |some p=>rfl
end Go.L
namespace Go.L
open Go.AM
def ur(l:List Int):Bool:=(l.zip l.tail).all fun p=>decide (p.1<p.2)
theorem NV(l:List (Int×Int))(j:Nat):(match bF (fun _ (p:Int×Int)=>if p.2≤p.1 then 1 else 0) j l with |none=>some true |some (_,_)=>some false)=some (l.all fun p=>decide (p.1<p.2)):=by
 induction l generalizing j with
 |nil=>rfl
 |cons p ps ih=>
  simp only[bF,List.all_cons];by_cases h:p.2≤p.1
  ·have:¬p.1<p.2:=by omega
   simp[h,this]
  ·have:p.1<p.2:=by omega
   simp only[h,if_false,ne_eq,not_true_eq_false,this,decide_true,Bool.true_and];exact ih (j+1)
theorem vG{β:Type}(n:Nat)(l:List Int)(hn:l.length<n)(hs:l.length≤4000)(k:jN.sh.El→Option β):(jN.S n l).bind k=k (ur l):=by
 have:jN.S n l=some (ur l):=by
  show(oK l).run n=_;simp only[oK,G.run,aK,bA,bY,if_true];have hzl:(l.zip l.tail).length=l.length - 1:=by simp
  refine Eq.trans (wM (fun i=>((i:Int)+1)) (l.zip l.tail) (fun _ (p:Int×Int)=>if p.2≤p.1 then 1 else 0) (fun _ _=>some false) (some true) (by omega) (fun i x hx hp hE=>?_) (fun i x hx hp hE=>?_) (fun hp=>?_)) (NV (l.zip l.tail) 0)
  ·have hi:=(List.getElem?_eq_some_iff.1 hx).1;rw[hzl]at hi;have h1:l[i]? =some x.1:=by
    rw[List.getElem?_zip_eq_some]at hx;exact hx.1
   have h2:l[i+1]? =some x.2:=by
    rw[List.getElem?_zip_eq_some]at hx;simpa using hx.2
   have hle:x.2≤x.1:=by
    by_cases h:x.2≤x.1
    ·exact h
    ·simp[h]at hE
   have hlt:(i:Int)+1<l.length:=by omega
   have e1:fF l ((i:Int)+1)=some x.2:=by rw[show(i:Int)+1=((i+1:Nat):Int)by omega,bK,h2]
   have e2:fF l (IntKind.wrap .i64 ((i:Int)+1 - 1))=some x.1:=by
    rw[wrap_i64 (by omega) (by omega),show(i:Int)+1 - 1=(i:Int)by omega,bK,h1]
   refine⟨.inl (),?_,rfl⟩;simp only[hlt,decide_true,if_true,e1,e2,Option.bind_some,hle]
  ·have hi:=(List.getElem?_eq_some_iff.1 hx).1;rw[hzl]at hi;have h1:l[i]? =some x.1:=by
    rw[List.getElem?_zip_eq_some]at hx;exact hx.1
   have h2:l[i+1]? =some x.2:=by
    rw[List.getElem?_zip_eq_some]at hx;simpa using hx.2
   have hle:¬x.2≤x.1:=by
    intro h;simp[h]at hE
   have hlt:(i:Int)+1<l.length:=by omega
   have e1:fF l ((i:Int)+1)=some x.2:=by rw[show(i:Int)+1=((i+1:Nat):Int)by omega,bK,h2]
   have e2:fF l (IntKind.wrap .i64 ((i:Int)+1 - 1))=some x.1:=by
    rw[wrap_i64 (by omega) (by omega),show(i:Int)+1 - 1=(i:Int)by omega,bK,h1]
   have e3:IntKind.wrap .i64 ((i:Int)+1+1)=((i+1:Nat):Int)+1:=by rw[wrap_i64 (by omega) (by omega)];omega
   simp only[hlt,decide_true,if_true,e1,e2,e3,Option.bind_some,hle,decide_false,Bool.false_eq_true,if_false]
  ·refine⟨.inr (),?_,rfl⟩;have hlt:¬((((l.zip l.tail).length:Nat):Int)+1<l.length):=by rw[hzl];omega
   simp only[hlt,decide_false,Bool.false_eq_true,if_false]
 rw[this];rfl
def gJ(p:List Int):List Int→List Int
 | []=>p
 |x::xs=>gJ (p.set x.toNat (p[x.toNat]?.getD 0+1)) xs
theorem DR:∀(l p:List Int),(gJ p l).length=p.length
 | [],_=>rfl
 |x::xs,p=>by simp[gJ,DR xs]
theorem CC:∀(l p:List Int) (x:Int),gJ p (l++[x])=(gJ p l).set x.toNat ((gJ p l)[x.toNat]?.getD 0+1)
 | [],_,_=>rfl
 |y::l,p,x=>by simp only[List.cons_append,gJ];exact CC l _ x
theorem zV:∀(l p:List Int) (m:Nat),(∀x∈l,0≤x)→l.Nodup→(gJ p l)[m]? =(p[m]?).map fun v=>if(m:Int)∈l then v+1 else v
 | [],p,m,_,_=>by simp[gJ]
 |x::xs,p,m,h0,hd=>by
  have hx:=h0 x (by simp)
  have hd':=List.nodup_cons.1 hd;simp only[gJ];rw[zV xs _ m (fun y hy=>h0 y (by simp[hy])) hd'.2]
  by_cases hm:m=x.toNat
  ·subst hm;have e:((x.toNat:Nat):Int)=x:=by omega
   rw[e];by_cases hp:x.toNat<p.length
   ·rw[List.getElem?_set_self hp,List.getElem?_eq_getElem hp];simp[hd'.1]
   ·rw[List.getElem?_eq_none (by simp;omega),List.getElem?_eq_none (by omega)];rfl
  ·rw[List.getElem?_set_ne (Ne.symm hm)];have:¬(m:Int)=x:=by omega
   simp[this]
def iT(l:List aB):List Int:=(List.range 32).map fun m=>((l.countP fun s=>s.Leaves.contains (m:Int):Nat):Int)
theorem Gx:iT []=List.replicate 32 0:=by decide
theorem tQ(l:List aB){m:Nat}(h:m<32):(iT l)[m]? =some ((l.countP fun s=>s.Leaves.contains (m:Int):Nat):Int):=by
 simp[iT,h]
theorem wN(l:List aB):(iT l).length=32:=by simp[iT]
theorem FL(l:List aB)(s:aB)(h0:∀x∈s.Leaves,0≤x)(hd:s.Leaves.Nodup):gJ (iT l) s.Leaves=iT (l++[s]):=by
 apply List.ext_getElem?;intro m;rw[zV _ _ m h0 hd];by_cases h:m<32
 ·rw[tQ _ h,tQ _ h];simp only[Option.map_some,List.countP_append,List.countP_cons,List.countP_nil,Nat.zero_add,List.contains_iff_mem];split<;>simp_all
 ·rw[List.getElem?_eq_none (by rw[wN];omega),List.getElem?_eq_none (by rw[wN];omega)];rfl
theorem ID:∀(l:List Int),ur l=true→l.Nodup∧∀(i j:Nat) x y,i<j→l[i]? =some x→l[j]? =some y→x<y:=by
 intro l h;have hadj:∀(i:Nat) x y,l[i]? =some x→l[i+1]? =some y→x<y:=by
  intro i x y hx hy;simp only[ur,List.all_eq_true,decide_eq_true_eq]at h;exact h (x,y) (List.mem_of_getElem? (i:=i) (by rw[List.getElem?_zip_eq_some];exact⟨hx,by simpa using hy⟩))
 have hlt:∀(d i:Nat) x y,l[i]? =some x→l[i+d+1]? =some y→x<y:=by
  intro d;induction d with
  |zero=>intro i x y hx hy;exact hadj i x y hx (by simpa using hy)
  |succ d ih=>
   intro i x y hx hy;have hlt:=(List.getElem?_eq_some_iff.1 hy).1;have h1:=hadj i x l[i+1] hx (List.getElem?_eq_getElem (by omega))
   have h2:=ih (i+1) l[i+1] y (List.getElem?_eq_getElem (by omega)) (by rw[← hy];congr 1;omega)
   omega
 have hall:∀(i j:Nat) x y,i<j→l[i]? =some x→l[j]? =some y→x<y:=by
  intro i j x y hij hx hy;exact hlt (j - i - 1) i x y hx (by rw[← hy];congr 1;omega)
 refine⟨?_,hall⟩;rw[List.nodup_iff_pairwise_ne,List.pairwise_iff_getElem];intro i j hi hj hij he;have:=hall i j l[i] l[j] hij (List.getElem?_eq_getElem hi) (List.getElem?_eq_getElem hj);omega
end Go.L
namespace Go.L
open Go.AM
theorem DS{β:Type}(b ai j o n s:Nat)(i:Int)(k:Unit→Option β):(Ib b ai j o n s i).run.bind k=if 0≤i∧i<n then k ()else none:=by
 show(if 0≤i∧i<n then some ()else none).bind k=_
 split<;>rfl
theorem FM{X β:Type}(l:List X)(c:X→AVal)(b ai sz o:Nat)(k:X→Option β):(MH l c b ai sz o).run.bind k=(l[o]?).bind k:=rfl
theorem FN{X β:Type}(l:List X)(c:X→AVal)(b ai sz o:Nat)(y:X)(k:Unit→Option β):(NH l c b ai sz o y).run.bind k=if o<l.length then k ()else none:=by
 show(if o<l.length then some ()else none).bind k=_
 split<;>rfl
def jR:ByteArray:=⟨⟨[115,101,103,109,101,110,116,115]⟩⟩
def Dh(f:aQ)(i:Nat)(x:aB):Int:=
 if((x.Leaves.length:Int)==0)=true then 3 else if((x.aW.length:Int)==0)=true then 3
 else if(x.Leaves.any fun n=> !(decide (0≤n)&&decide (n<f.Leaves)))=true then 2 else if(x.aW.any fun n=> !(decide (0≤n)&&decide (n<(f.aW.length:Int))))=true then 2
 else if(!ur x.Leaves)=true then 10 else if(!ur x.aW)=true then 10
 else if(x.Leaves.any fun n=>decide (32<(((f.ax.take i).countP fun s=>s.Leaves.contains n:Nat):Int)+1))=true then 7 else 0
theorem FO{α τ γ ST:Type}{f:ST→Option (ST⊕τ)}{s0:ST}(mk:Nat→ST)(l:List α)(E:Nat→α→Int){k:τ→Option γ}(bad:Nat→Int→Option γ)(fin:Option γ){n:Nat}(h0:s0=mk 0)(hn:l.length<n)
 (hb:∀(i:Nat) x,l[i]? =some x→(∀(j:Nat) y,j<i→l[j]? =some y→E j y=0)→E i x≠0→∃t,f (mk i)=some (.inr t)∧k t=bad i (E i x))
 (hg:∀(i:Nat) x,l[i]? =some x→(∀(j:Nat) y,j<i→l[j]? =some y→E j y=0)→E i x=0→f (mk i)=some (.inl (mk (i+1))))
 (he:(∀(j:Nat) y,l[j]? =some y→E j y=0)→∃t,f (mk l.length)=some (.inr t)∧k t=fin):
 (bM f n s0).bind k=(match bF E 0 l with |none=>fin |some (e,i)=>bad i e):=by
 subst h0;exact wM mk l E bad fin hn hb hg he
theorem JY{γ:Type}{n:Nat}(L ports:List Int)(i:Int)(hn:L.length<n)(hp:ports.length=32)(h0:∀x∈L,0≤x∧x<32)(hd:L.Nodup)(hs:L.length≤4000)(hv:∀v∈ports,0≤v∧v≤1000)
 {k:(List Int×Int×ByteArray×Int)⊕List Int→Option γ} {bad fin:Option γ} (hbad:∀p,k (.inl (p,7,jR,i))=bad) (hfin:k (.inr (gJ ports L))=fin)
 {f:Int×List Int→Option ((Int×List Int)⊕((List Int×Int×ByteArray×Int)⊕List Int))}
 (hf:∀a,f a=if decide (a.1<(L.length:Int))=true then(fF L a.1).bind fun x=>if 0≤x∧x<(32:Nat)then(a.2[0+x.toNat*1]?).bind fun v=>if 0≤x∧x<(32:Nat)then if 0+x.toNat*1<a.2.length then if 0≤x∧x<(32:Nat)then((a.2.set (0+x.toNat*1) (IntKind.wrap .i64 (v+1)))[0+x.toNat*1]?).bind fun w=>
  if decide (32<w)=true then some (.inr (.inl (a.2.set (0+x.toNat*1) (IntKind.wrap .i64 (v+1)),7,jR,i)))else some (.inl (IntKind.wrap .i64 (a.1+1),a.2.set (0+x.toNat*1) (IntKind.wrap .i64 (v+1))))else none else none else none else none
  else some (.inr (.inr a.2))):
 (bM f n (0,ports)).bind k=if(L.any fun x=>decide (32<ports[x.toNat]?.getD 0+1))=true then bad else fin:=by
 have step:∀(j:Nat) x,L[j]? =some x→∃v,ports[x.toNat]? =some v∧f ((j:Int),gJ ports (L.take j))=if decide (32<v+1)=true then some (.inr (.inl (gJ ports (L.take (j+1)),7,jR,i)))else some (.inl (((j+1:Nat):Int),gJ ports (L.take (j+1)))):=by
  intro j x hx;have hj:=(List.getElem?_eq_some_iff.1 hx).1;have hx0:=h0 x (List.mem_of_getElem? hx);have hlt:x.toNat<ports.length:=by omega
  refine⟨ports[x.toNat],List.getElem?_eq_getElem hlt,?_⟩;have hvv:=hv ports[x.toNat] (List.getElem_mem hlt);have htake:L.take (j+1)=L.take j++[x]:=by rw[List.take_add_one,hx];rfl
  have hnot:¬((x.toNat:Nat):Int)∈L.take j:=by
   intro hm;rw[show((x.toNat:Nat):Int)=x by omega]at hm
   obtain⟨q,hq⟩:=List.getElem?_of_mem hm;have hq2:=(List.getElem?_eq_some_iff.1 hq).1;simp only[List.length_take]at hq2;rw[List.getElem?_take,if_pos (by omega)]at hq
   have:=List.nodup_iff_pairwise_ne.1 hd;rw[List.pairwise_iff_getElem]at this;have hne:=this q j (by omega) hj (by omega)
   rw[List.getElem?_eq_getElem (by omega)]at hq hx
   simp only[Option.some.injEq]at hq hx;exact hne (hq.trans hx.symm)
  have hB:(gJ ports (L.take j))[x.toNat]? =some ports[x.toNat]:=by
   rw[zV _ _ _ (fun y hy=>(h0 y (List.mem_of_mem_take hy)).1) (hd.sublist (List.take_sublist _ _)),List.getElem?_eq_getElem hlt]
   simp only[Option.map_some,if_neg hnot]
  have hBl:(gJ ports (L.take j)).length=32:=by rw[DR,hp]
  have hset:(gJ ports (L.take j)).set x.toNat (ports[x.toNat]+1)=gJ ports (L.take (j+1)):=by
   rw[htake,CC,hB];rfl
  have hw:IntKind.wrap .i64 (ports[x.toNat]+1)=ports[x.toNat]+1:=wrap_i64 (by omega) (by omega)
  rw[hf];have hlt2:(j:Int)<(L.length:Int):=by omega
  have hx1:(0:Int)≤x∧x<((32:Nat):Int):=by omega
  simp only[hlt2,decide_true,if_true,bK,hx,Option.bind_some,hx1,and_self,Nat.zero_add,Nat.mul_one,hB,hw,hset];rw[if_pos (by rw[hBl];omega)]
  have hget:(gJ ports (L.take (j+1)))[x.toNat]? =some (ports[x.toNat]+1):=by
   rw[← hset,List.getElem?_set_self (by rw[hBl];omega)]
  simp only[hget,Option.bind_some,dR (show j<9223372036854775807 by omega)]
 have main:=wM (f:=f) (fun j=>((j:Int),gJ ports (L.take j))) L (fun _ x=>if 32<ports[x.toNat]?.getD 0+1 then 7 else 0) (k:=k) (fun _ _=>bad) fin hn ?_ ?_ ?_
 ·have e:(match bF (fun _ x=>if 32<ports[x.toNat]?.getD 0+1 then(7:Int)else 0) 0 L with |none=>fin |some (_,_)=>bad)=if(L.any fun x=>decide (32<ports[x.toNat]?.getD 0+1))=true then bad else fin:=by
   have key:∀(L:List Int) (j:Nat),(match bF (fun _ x=>if 32<ports[x.toNat]?.getD 0+1 then(7:Int)else 0) j L with |none=>fin |some (_,_)=>bad)=if(L.any fun x=>decide (32<ports[x.toNat]?.getD 0+1))=true then bad else fin:=by
    intro L;induction L with
    |nil=>intro j;rfl
    |cons x xs ih=>
     intro j;simp only[bF,List.any_cons];by_cases h:32<ports[x.toNat]?.getD 0+1
     ·simp[h]
     ·simp only[h,if_false,ne_eq,not_true_eq_false,decide_false,Bool.false_or];exact ih (j+1)
   exact key L 0
  rw[← e];exact main
 ·intro j x hx _ hE;obtain⟨v,h1,h2⟩:=step j x hx;have:32<v+1:=by
   rw[h1]at hE;simp only[Option.getD_some]at hE;by_cases h:32<v+1
   ·exact h
   ·simp[h]at hE
  refine⟨_,by rw[h2];simp only[this,decide_true,if_true];rfl,hbad _⟩
 ·intro j x hx _ hE;obtain⟨v,h1,h2⟩:=step j x hx;have:¬32<v+1:=by
   rw[h1]at hE;simp only[Option.getD_some]at hE;intro h;simp[h]at hE
  rw[h2];simp only[this,decide_false,Bool.false_eq_true,if_false]
 ·intro _;refine⟨.inr (gJ ports L),?_,hfin⟩;rw[hf];simp
theorem FP{n:Nat}(L ports:List Int)(i:Int)(hn:L.length<n)(hp:ports.length=32)(h0:∀x∈L,0≤x∧x<32)(hd:L.Nodup)(hs:L.length≤4000)(hv:∀v∈ports,0≤v∧v≤1000)
 {f:Int×List Int→Option ((Int×List Int)⊕((List Int×Int×ByteArray×Int)⊕List Int))}
 (hf:∀a,f a=if decide (a.1<(L.length:Int))=true then(fF L a.1).bind fun x=>if 0≤x∧x<(32:Nat)then(a.2[0+x.toNat*1]?).bind fun v=>if 0≤x∧x<(32:Nat)then if 0+x.toNat*1<a.2.length then if 0≤x∧x<(32:Nat)then((a.2.set (0+x.toNat*1) (IntKind.wrap .i64 (v+1)))[0+x.toNat*1]?).bind fun w=>
  if decide (32<w)=true then some (.inr (.inl (a.2.set (0+x.toNat*1) (IntKind.wrap .i64 (v+1)),7,jR,i)))else some (.inl (IntKind.wrap .i64 (a.1+1),a.2.set (0+x.toNat*1) (IntKind.wrap .i64 (v+1))))else none else none else none else none
  else some (.inr (.inr a.2))):
 ∃p,bM f n (0,ports)=some (if(L.any fun x=>decide (32<ports[x.toNat]?.getD 0+1))=true then .inl (p,7,jR,i)else .inr (gJ ports L)):=by
 have main:=JY L ports i hn hp h0 hd hs hv (k:=fun t=>some (match t with | .inl q=>(Sum.inl q.2:(Int×ByteArray×Int)⊕List Int) | .inr q=>.inr q)) (bad:=some (.inl (7,jR,i))) (fin:=some (.inr (gJ ports L))) (fun p=>rfl) rfl hf
 cases hany:(L.any fun x=>decide (32<ports[x.toNat]?.getD 0+1))with
 |true=>
  rw[hany]at main;cases hit:bM f n (0,ports)with
  |none=>rw[hit]at main;simp at main
  |some t=>
   rw[hit]at main;cases t with
   |inl q=>
    obtain⟨p,q⟩:=q;refine⟨p,?_⟩;simp at main;rw[main];rfl
   |inr q=>simp at main
 |false=>
  rw[hany]at main;cases hit:bM f n (0,ports)with
  |none=>rw[hit]at main;simp at main
  |some t=>
   rw[hit]at main;cases t with
   |inl q=>simp at main
   |inr q=>
    refine⟨[],?_⟩;simp at main;rw[main];rfl
theorem FQ{n:Nat}{γ ST τ:Type}(L ports:List Int)(i:Int)(hn:L.length<n)(hp:ports.length=32)(h0:∀x∈L,0≤x∧x<32)(hd:L.Nodup)(hs:L.length≤4000)(hv:∀v∈ports,0≤v∧v≤1000)
 {f:Int×List Int→Option ((Int×List Int)⊕((List Int×Int×ByteArray×Int)⊕List Int))}
 (hf:∀a,f a=if decide (a.1<(L.length:Int))=true then(fF L a.1).bind fun x=>if 0≤x∧x<(32:Nat)then(a.2[0+x.toNat*1]?).bind fun v=>if 0≤x∧x<(32:Nat)then if 0+x.toNat*1<a.2.length then if 0≤x∧x<(32:Nat)then((a.2.set (0+x.toNat*1) (IntKind.wrap .i64 (v+1)))[0+x.toNat*1]?).bind fun w=>
  if decide (32<w)=true then some (.inr (.inl (a.2.set (0+x.toNat*1) (IntKind.wrap .i64 (v+1)),7,jR,i)))else some (.inl (IntKind.wrap .i64 (a.1+1),a.2.set (0+x.toNat*1) (IntKind.wrap .i64 (v+1))))else none else none else none else none
  else some (.inr (.inr a.2))) {k:(List Int×Int×ByteArray×Int)⊕List Int→Option (ST⊕τ)} {A:ST} {kk:τ→Option γ} {B:Option γ} {Ev:Int}
 (hEv:Ev=if(L.any fun x=>decide (32<ports[x.toNat]?.getD 0+1))=true then 7 else 0) (hk1:Ev=7→∀p,∃t,k (.inl (p,7,jR,i))=some (.inr t)∧kk t=B) (hk2:k (.inr (gJ ports L))=some (.inl A)):
 (Ev=0∧(bM f n (0,ports)).bind k=some (.inl A))∨(Ev≠0∧∃t,(bM f n (0,ports)).bind k=some (.inr t)∧kk t=B):=by
 obtain⟨p,hit⟩:=FP L ports i hn hp h0 hd hs hv hf;rw[hit];cases hany:(L.any fun x=>decide (32<ports[x.toNat]?.getD 0+1))with
 |true=>
  rw[hany]at hEv;right;refine⟨by rw[hEv];decide,?_⟩
  simp only[if_true,Option.bind_some];exact hk1 (by rw[hEv];rfl) p
 |false=>
  rw[hany]at hEv;left;refine⟨by rw[hEv];rfl,?_⟩
  simp only[Bool.false_eq_true,if_false,Option.bind_some];exact hk2
theorem Gy{α τ γ ST:Type}{f:ST→Option (ST⊕τ)}{s0:ST}(mk:Nat→ST)(l:List α)(E:Nat→α→Int){k:τ→Option γ}(bad:Nat→Int→Option γ)(fin:Option γ){n:Nat}(h0:s0=mk 0)(hn:l.length<n)
 (hr:∀(i:Nat) x,l[i]? =some x→(∀(j:Nat) y,j<i→l[j]? =some y→E j y=0)→(E i x=0∧f (mk i)=some (.inl (mk (i+1))))∨(E i x≠0∧∃t,f (mk i)=some (.inr t)∧k t=bad i (E i x)))
 (he:(∀(j:Nat) y,l[j]? =some y→E j y=0)→∃t,f (mk l.length)=some (.inr t)∧k t=fin):
 (bM f n s0).bind k=(match bF E 0 l with |none=>fin |some (e,i)=>bad i e):=by
 refine FO mk l E bad fin h0 hn (fun i x hx hp hE=>?_) (fun i x hx hp hE=>?_) he
 ·rcases hr i x hx hp with⟨h,_⟩ |⟨_,h⟩
  ·exact absurd h hE
  ·exact h
 ·rcases hr i x hx hp with⟨_,h⟩ |⟨h,_⟩
  ·exact h
  ·exact absurd hE h
theorem Gz(n:Nat)(f:aQ)(hn:f.ax.length<n)(hL:f.Leaves≤32)(hB:f.aW.length≤4000)(hsn:∀s∈f.ax,(s.aW.length<n∧s.aW.length≤4000)∧s.Leaves.length<n∧s.Leaves.length≤4000):
 iA.S n ⟨f⟩=some (outcome jR 64 (decide (64<(f.ax.length:Int))) (bF (Dh f) 0 f.ax)):=by
 show(kO ⟨f⟩).run n=_;simp only[kO,G.run,aK,bA,dB,Sum.elim,gt_iff_lt,decide_eq_true_eq];by_cases hfull:(64:Int)<f.ax.length
 ·simp[hfull,outcome];rfl
 ·simp only[hfull,if_false,decide_false];simp only[G.run,aK,bA,if_true,bY,iW,gr,dB,Sum.elim,DS,FM,FN];refine Eq.trans (Gy (fun i=>((i:Int),iT (f.ax.take i))) f.ax (Dh f) (fun i e=>some (.inr (e,jR,(i:Int)))) (some (.inl ())) (by simp[Gx]) hn (fun i x hx hp=>?_) (fun hp=>?_)) ?_
  ·have hi:=(List.getElem?_eq_some_iff.1 hx).1;have hxm:=List.mem_of_getElem? hx;have hlt:(i:Int)<f.ax.length:=by omega
   simp only[hlt,if_true,bK,hx,Option.bind_some];rw[Cz n x.Leaves _ _ _ _ _ _ _ _ _ _ _ _ _ _ _ _ _ _ _ (hsn x hxm).2.1 (hsn x hxm).2.2];rw[Ef n x.aW _ _ _ _ _ _ _ _ _ _ _ _ _ _ _ _ _ _ _ (hsn x hxm).1.1 (hsn x hxm).1.2];simp only[G.run,aK,bA,if_true,dB,Sum.elim];rw[vG n x.Leaves (hsn x hxm).2.1 (hsn x hxm).2.2,vG n x.aW (hsn x hxm).1.1 (hsn x hxm).1.2];simp only[G.run,aK,bA,if_true,dB,Sum.elim,bY,DS,FM,FN,gt_iff_lt];unfold Dh;cases hc1:((x.Leaves.length:Int)==0)
   case true=>exact .inr ⟨by simp,_,rfl,rfl⟩
   cases hc2:((x.aW.length:Int)==0)
   case true=>exact .inr ⟨by simp,_,rfl,rfl⟩
   cases hc3:(x.Leaves.any fun n=> !(decide (0≤n)&&decide (n<f.Leaves)))
   case true=>exact .inr ⟨by simp,_,rfl,rfl⟩
   cases hc4:(x.aW.any fun n=> !(decide (0≤n)&&decide (n<(f.aW.length:Int))))
   case true=>exact .inr ⟨by simp,_,rfl,rfl⟩
   cases hc5:ur x.Leaves
   case false=>exact .inr ⟨by simp,_,rfl,rfl⟩
   cases hc6:ur x.aW
   case false=>exact .inr ⟨by simp,_,rfl,rfl⟩
   simp only[Bool.not_true,Bool.false_eq_true,if_false];have hrange:∀y∈x.Leaves,0≤y∧y<32:=by
    intro y hy;rw[List.any_eq_false]at hc3;have:=hc3 y hy;simp at this;omega
   obtain⟨hnd,_⟩:=ID x.Leaves hc5;have hcnt:∀v∈iT (f.ax.take i),0≤v∧v≤1000:=by
    intro v hv;simp only[iT,List.mem_map,List.mem_range]at hv;obtain⟨m,_,rfl⟩:=hv;have:=List.countP_le_length (p:=fun s:aB=>s.Leaves.contains (m:Int)) (l:=f.ax.take i)
    simp only[List.length_take]at this;omega
   refine FQ x.Leaves (iT (f.ax.take i)) (i:Int) (hsn x hxm).2.1 (wN _) hrange hnd (hsn x hxm).2.2 hcnt (fun a=>rfl) ?_ (fun h7 p=>⟨_,rfl,by rw[h7];rfl⟩) ?_
   ·have:(x.Leaves.any fun n=>decide (32<(((f.ax.take i).countP fun s=>s.Leaves.contains n:Nat):Int)+1))=x.Leaves.any fun y=>decide (32<(iT (f.ax.take i))[y.toNat]?.getD 0+1):=by
     apply Bool.eq_iff_iff.2;simp only[List.any_eq_true];constructor
     ·rintro⟨y,hy,h⟩;have hr:=hrange y hy;refine⟨y,hy,?_⟩;rw[tQ _ (by omega),show((y.toNat:Nat):Int)=y by omega]
      exact h
     ·rintro⟨y,hy,h⟩;have hr:=hrange y hy;refine⟨y,hy,?_⟩;rw[tQ _ (by omega),show((y.toNat:Nat):Int)=y by omega]at h
      exact h
    rw[this]
   ·have htake:f.ax.take (i+1)=f.ax.take i++[x]:=by rw[List.take_add_one,hx];rfl
    have e:gJ (iT (f.ax.take i)) x.Leaves=iT (f.ax.take (i+1)):=by rw[htake];exact FL _ _ (fun y hy=>(hrange y hy).1) hnd
    rw[e];have hw:=dR (show i<9223372036854775807 by omega)
    show some (Sum.inl (IntKind.wrap .i64 ((i:Int)+1),iT (f.ax.take (i+1))))=_;rw[hw]
  ·refine⟨.inr (iT f.ax),?_,rfl⟩;simp
  ·cases bF (Dh f) 0 f.ax<;>rfl
end Go.L
namespace Go.L
open Go.AM
structure Small(f:aQ):Prop where
 links:f.Links.length≤4000
 tE:f.aR.length≤4000
 sD:f.aW.length≤4000
 segments:f.ax.length≤4000
 Ey:f.dS.length≤4000
 Ez:f.ff.length≤4000
 seg:∀s∈f.ax,s.Leaves.length≤4000∧s.aW.length≤4000
abbrev CD:=Unit⊕(Int×ByteArray×Int)
def tF(f:aQ):CD:=if rq f=true then .inr (2,Hj,0)else .inl ()
def xJ(f:aQ):CD:=if uc f.bJ=true then .inr (2,Hl,0)else .inl ()
def CE(f:aQ):CD:=outcome FE 128 (decide (128<(f.Links.length:Int))) (bF (Ay f (bf (fun x:bV=>(⟨x.A,x.B⟩:V2 Int)) [] f.Links)) 0 f.Links)
def yE(f:aQ):CD:=outcome Bt 16 (decide (16<(f.aR.length:Int))) (bF (uR (bf (fun x:aC=>x.eT) [] f.aR) (bf (fun x:aC=>x.Target) [] f.aR)) 0 f.aR)
def vH(f:aQ):CD:=outcome Bv 32 (decide (32<(f.aW.length:Int))) (bF (Bw f (bf (fun x:BD=>x.eT) [] f.aW) (bf (fun x:BD=>x.Target) [] f.aW)) 0 f.aW)
def wh(f:aQ):CD:=outcome jR 64 (decide (64<(f.ax.length:Int))) (bF (Dh f) 0 f.ax)
def CF(f:aQ):CD:=outcome FK 128 (decide (128<(f.dS.length:Int))) (bF (AB f (bf (fun x:Host=>(⟨x.BD,x.MAC⟩:aG)) [] f.dS) (bf (fun x:Host=>(⟨x.BD,IntKind.wrap .u64 x.IP⟩:aG)) [] f.dS)) 0 f.dS)
def CG(f:aQ):CD:=outcome FJ 256 (decide (256<(f.ff.length:Int))) (bF (Az f (bf (fun x:cc=>x) [] f.ff)) 0 f.ff)
def uL(a:CD)(b:Int×ByteArray×Int):Int×ByteArray×Int:=match a with
 | .inl _=>b
 | .inr t=>t
def xK(f:aQ):Int×ByteArray×Int:=
 uL (tF f)<|uL (xJ f)<|uL (CE f)<|uL (yE f)<|uL (vH f)<|uL (wh f)<|uL (CF f)<|uL (CG f) (0,⟨⟨[]⟩⟩,0)
theorem CH{p:ByteArray}{m:Int}{b:Bool}{r:Option (Int×Nat)}{u:Unit}(h:outcome p m b r=.inl u):b=false∧r=none:=by
 unfold outcome at h;split at h
 ·cases h
 ·rename_i hb;split at h
  ·exact⟨by simpa using hb,rfl⟩
  ·cases h
theorem MU{f:aQ}{u:Unit}(h:vH f=.inl u):∀b∈f.aW,b.bW≠0→lE b.bx=true:=by
 intro b hb hg;have:=(CH h).2;rw[qH]at this;obtain⟨i,hi⟩:=List.getElem?_of_mem hb;have:=this i b hi;have hg':(b.bW==0)=false:=by simpa using hg
 have hcl:nU b.bx=true:=by
  cases hc:nU b.bx with
  |true=>rfl
  |false=>
   unfold Bw at this;simp only[hg',hc,Bool.not_false,if_true,Bool.false_eq_true,if_false]at this
   repeat' split at this
   all_goals cases this
 simp only[nU,Bool.and_eq_true]at hcl;exact hcl.1
theorem JZ{f:aQ}{u:Unit}(h:tF f=.inl u):1≤f.Leaves∧f.Leaves≤32∧0≤f.fG∧f.fG≤32:=by
 unfold tF at h;split at h
 ·cases h
 ·rename_i hb;simp only[rq,out,Bool.not_eq_true,Bool.or_eq_false_iff,decide_eq_false_iff_not]at hb;omega
theorem FR{β:Type}(n:Nat)(hn:5000≤n)(f:aQ)(hs:Small f)(k:jm.sh.El→Option β):(jm.S n f).bind k=k (xK f):=by
 have b1:∀{γ:Type} (k:jb.sh.El→Option γ),(jb.S n ⟨f⟩).bind k=k (tF f):=fun k=>by rw[JV];rfl
 have b2:∀{γ:Type} (k:jc.sh.El→Option γ),(jc.S n ⟨f⟩).bind k=k (xJ f):=fun k=>by rw[JW];rfl
 have b3:∀{γ:Type} (k:jB.sh.El→Option γ),(jB.S n ⟨f⟩).bind k=k (CE f):=fun k=>by rw[Lg n f (by have:=hs.links;omega) (by omega)];rfl
 have b4:∀{γ:Type} (k:iN.sh.El→Option γ),(iN.S n ⟨f⟩).bind k=k (yE f):=fun k=>by rw[IA n f (by have:=hs.tE;omega)];rfl
 have b5:∀{γ:Type} (k:iQ.sh.El→Option γ),(iQ.S n ⟨f⟩).bind k=k (vH f):=fun k=>by rw[IC n f (by have:=hs.sD;omega) (by have:=hs.tE;omega) hs.tE];rfl
 have b8:∀{γ:Type} (k:jD.sh.El→Option γ),(jD.S n ⟨f⟩).bind k=k (CG f):=fun k=>by rw[Lj n f (by have:=hs.Ez;omega)];rfl
 have hseg:∀s∈f.ax,(s.aW.length<n∧s.aW.length≤4000)∧s.Leaves.length<n∧s.Leaves.length≤4000:=fun s h=>by
  have:=hs.seg s h;omega
 have:jm.S n f=some (xK f):=by
  show(tv f).run n=_;have b0:∀{γ:Type} (k:rX.sh.El→Option γ),(rX.S n ()).bind k=k ():=fun k=>rfl
  simp only[tv,G.run,aK,b0,b1];unfold xK;cases h1:tF f with
  |inr t=>rfl
  |inl u=>
   simp only[Sum.elim,G.run,b2];cases h2:xJ f with
   |inr t=>rfl
   |inl u=>
    simp only[Sum.elim,G.run,b3];cases h3:CE f with
    |inr t=>rfl
    |inl u=>
     simp only[Sum.elim,G.run,b4];cases h4:yE f with
     |inr t=>rfl
     |inl u=>
      simp only[Sum.elim,G.run,b5];cases h5:vH f with
      |inr t=>rfl
      |inl u=>
       have b6:∀{γ:Type} (k:iA.sh.El→Option γ),(iA.S n ⟨f⟩).bind k=k (wh f):=fun k=>by rw[Gz n f (by have:=hs.segments;omega) (JZ h1).2.1 hs.sD hseg];rfl
       simp only[Sum.elim,G.run,b6];cases h6:wh f with
       |inr t=>rfl
       |inl u=>
        have hle:f.ax.length≤64:=by
         have:=(CH h6).1;simp only[decide_eq_false_iff_not]at this;omega
        have b7:∀{γ:Type} (k:jC.sh.El→Option γ),(jC.S n ⟨f⟩).bind k=k (CF f):=fun k=>by rw[Ll n f (by have:=hs.Ey;omega) hle (fun s h=>(hseg s h).1) (MU h5)];rfl
        simp only[Sum.elim,G.run,b7];cases h7:CF f with
        |inr t=>rfl
        |inl u=>
         simp only[Sum.elim,G.run,b8];cases h8:CG f with
         |inr t=>rfl
         |inl u=>rfl
 rw[this];rfl
end Go.L
end
section
namespace Go.L
open Go.AM
def Good{γ:Type}(o:Option γ)(Q:γ→Prop):Prop:=∃v,o=some v∧Q v
theorem Good.bind{γ δ:Type}{o:Option γ}{Q:γ→Prop}{k:γ→Option δ}{R:δ→Prop}(h:Good o Q)(hk:∀v,Q v→Good (k v) R):Good (o.bind k) R:=by
 obtain⟨v,rfl,hv⟩:=h;exact hk v hv
theorem Good.mono{γ:Type}{o:Option γ}{Q R:γ→Prop}(h:Good o Q)(hk:∀v,Q v→R v):Good o R:=by
 obtain⟨v,e,hv⟩:=h;exact⟨v,e,hk v hv⟩
theorem Good.some{γ:Type}{v:γ}{Q:γ→Prop}(h:Q v):Good (some v) Q:=⟨v,rfl,h⟩
theorem l9{ST τ:Type}{f:ST→Option (ST⊕τ)}{Q:τ→Prop}(I:Nat→ST→Prop)(N:Nat)
 (hf:∀j s,j<N→I j s→Good (f s) fun r=>match r with | .inl s'=>I (j+1) s' | .inr t=>Q t)
 (he:∀s,I N s→Good (f s) fun r=>match r with | .inl _=>False | .inr t=>Q t) {n:Nat} (hn:N<n) {s0:ST} (h0:I 0 s0):Good (bM f n s0) Q:=by
 have key:∀(k j n:Nat) (s:ST),j+k=N→k<n→I j s→Good (bM f n s) Q:=by
  intro k;induction k with
  |zero=>
   intro j n s hj hn hs;obtain⟨n,rfl⟩:∃m,n=m+1:=⟨n - 1,by omega⟩
   have:j=N:=by omega
   subst this;obtain⟨r,hr,h⟩:=he s hs;cases r with
   |inl s'=>exact h.elim
   |inr t=>exact⟨t,by simp only[bM,hr],h⟩
  |succ k ih=>
   intro j n s hj hn hs;obtain⟨n,rfl⟩:∃m,n=m+1:=⟨n - 1,by omega⟩
   obtain⟨r,hr,h⟩:=hf j s (by omega) hs
   cases r with
   |inl s'=>
    obtain⟨t,ht,hq⟩:=ih (j+1) n s' (by omega) (by omega) h
    exact⟨t,by simp only[bM,hr];exact ht,hq⟩
   |inr t=>exact⟨t,by simp only[bM,hr],h⟩
 exact key N 0 n s0 (by omega) hn h0
def sG(c:Int)(x:aq):Prop:=0≤x.at_∧x.at_≤c
end Go.L
namespace Go.L
open Go.AM
theorem Mh(n:Nat)(x k:Int)(hk:0<k)(hk2:k≤4000000000000000000):we.S n (x,k)=some (x % k):=by
 show(zM x k).run n=_;have h1:¬k≤0:=by omega
 have h2:k≠0:=by omega
 simp only[zM,G.run,aK,ym,C1,decide_eq_true_eq,h1,if_false,h2,ne_eq,not_false_eq_true,decide_true,if_true,Option.bind_some,JG hk hk2,JF hk]<;>rfl
section
variable {n:Nat}
theorem bT(x:aq)(m c:Int)(hx:sG c x)(hc:c≤1000000)(h1:1≤m)(h2:m≤1000000):
 Good (γ:=Int×aq) (aP.S n (x,m)) fun r=>0≤r.1∧r.1<m∧sG (c+1) r.2:=by
 obtain⟨ha,hb⟩:=hx;show Good (γ:=Int×aq) ((qS x m).run n) _;have w1:IntKind.wrap .i64 (x.at_+1)=x.at_+1:=wrap_i64 (by omega) (by omega)
 have w2:IntKind.wrap .i64 (x.at_+1 - 1)=x.at_:=by rw[wrap_i64 (by omega) (by omega)];omega
 have eM:∀{γ:Type} (a:Int) (k:we.sh.El→Option γ),(we.S n (a,m)).bind k=k (a % m):=fun a k=>by rw[Mh n a m (by omega) (by omega)];rfl
 simp only[qS,G.run,aK,bA,bY,w1,w2,eM,if_true,decide_eq_true_eq];by_cases h:x.at_≥(x.l.length:Int)
 ·rw[if_pos h];exact .some ⟨by show(0:Int)≤0;omega,by show(0:Int)<m;omega,ha,by show x.at_≤c+1;omega⟩
 ·rw[if_neg h];obtain⟨i,hi⟩:∃i:Nat,x.at_=(i:Int):=⟨x.at_.toNat,by omega⟩
  have hlt:i<x.l.length:=by omega
  rw[hi,bK,List.getElem?_eq_getElem hlt,Option.bind_some];exact .some ⟨Int.emod_nonneg _ (by omega),Int.emod_lt_of_pos _ (by omega),by show(0:Int)≤(i:Int)+1;omega,by show(i:Int)+1≤c+1;omega⟩
end
end Go.L
namespace Go.L
open Go.AM
def IE(L S:Int)(x:bV):Prop:=0≤x.A∧x.A<L∧L≤x.B∧x.B<L+S∧1≤x.zD∧x.zD≤2
def yF(x:bV):V2 Int:=⟨x.A,x.B⟩
def FT(L S:Int)(l:List bV):Prop:=l.length≤32∧(∀x∈l,IE L S x)∧(l.map yF).Nodup
def nV(L S j i:Int)(l:List bV):Prop:=(∀x∈l,IE L S x∧(x.A<j∨x.A=j∧x.B<L+i))∧(l.map yF).Nodup
theorem GA{L S j i c:Int}{l:List bV}(h:nV L S j i l)(hj:0≤j∧j<L)(hi:0≤i∧i<S)(hc:1≤c∧c≤2):nV L S j (i+1) (l++[⟨j,L+i,c⟩]):=by
 refine⟨fun x hx=>?_,?_⟩
 ·rcases List.mem_append.1 hx with hx |hx
  ·obtain⟨h1,h2⟩:=h.1 x hx;exact⟨h1,by omega⟩
  ·simp only[List.mem_singleton]at hx;subst hx;refine⟨⟨?_,?_,?_,?_,?_,?_⟩,.inr ⟨rfl,?_⟩⟩<;>simp only<;>omega
 ·rw[List.map_append,List.nodup_append];refine⟨h.2,by simp,?_⟩
  intro a ha b hb;simp only[List.map_cons,List.map_nil,List.mem_singleton]at hb;subst hb;obtain⟨x,hx,rfl⟩:=List.mem_map.1 ha;obtain⟨h1,h2⟩:=h.1 x hx;intro e;simp only[yF,V2.mk.injEq]at e;omega
theorem GB{L S j i:Int}{l:List bV}(h:nV L S j i l):nV L S j (i+1) l:=
 ⟨fun x hx=>⟨(h.1 x hx).1,by have:=(h.1 x hx).2;omega⟩,h.2⟩
theorem IF{L S j:Int}{i:Int}{l:List bV}(h:nV L S j i l)(hi:S≤i):nV L S (j+1) 0 l:=
 ⟨fun x hx=>⟨(h.1 x hx).1,by have:=(h.1 x hx).2;have:=(h.1 x hx).1;unfold IE at this;omega⟩,h.2⟩
section
variable {n:Nat}
theorem GC(x:aq)(L S c:Int)(hx:sG c x)(hc:c≤100000)(hL:0≤L∧L≤8)(hS:0≤S∧S≤4)(hn:5000≤n):
 Good (γ:=List bV×aq) (A8.S n (x,L,S)) fun r=>FT L S r.1∧sG (c+64) r.2:=by
 show Good (γ:=List bV×aq) ((wL x L S).run n) _;simp only[wL,G.run,aK,tZ,if_true,decide_eq_true_eq];refine Good.bind (γ:=List Int×Int×List bV) (Q:=fun t=>FT L S t.2.2∧0≤t.2.1∧t.2.1≤c+64) ?_ (fun t ht=>?_)
 ·refine l9 (fun j (s:Int×List Int×Int×List bV)=>s.1=(j:Int)∧0≤s.2.2.1∧s.2.2.1≤c+8*(j:Int)∧(s.2.2.2.length:Int)≤4*(j:Int)∧nV L S (j:Int) 0 s.2.2.2) L.toNat (fun j s hj hs=>?_) (fun s hs=>?_) (by omega) ⟨rfl,hx.1,by have:=hx.2;simp;omega,by simp,by simp[nV]⟩
  ·obtain⟨h1,h2,h3,h4,h5⟩:=hs;have hlt:s.1<L:=by omega
   simp only[hlt,if_true];refine Good.bind (γ:=List Int×Int×List bV) (Q:=fun t=>0≤t.2.1∧t.2.1≤c+8*((j:Int)+1)∧(t.2.2.length:Int)≤4*((j:Int)+1)∧nV L S ((j:Int)+1) 0 t.2.2) ?_ (fun t ht=>?_)
   ·refine l9 (fun i (q:Int×List Int×Int×List bV)=>q.1=(i:Int)∧0≤q.2.2.1∧q.2.2.1≤c+8*(j:Int)+2*(i:Int)∧(q.2.2.2.length:Int)≤4*(j:Int)+(i:Int)∧nV L S (j:Int) (i:Int) q.2.2.2) S.toNat (fun i q hi hq=>?_) (fun q hq=>?_) (by omega) ⟨rfl,h2,by simp;omega,by simp;omega,h5⟩
    ·obtain⟨g1,g2,g3,g4,g5⟩:=hq;have hlt:q.1<S:=by omega
     simp only[hlt,if_true];refine Good.bind (bT _ 8 (c+8*(j:Int)+2*(i:Int)) ⟨g2,g3⟩ (by omega) (by decide) (by decide)) (fun r hr=>?_)
     obtain⟨r1,r2,r3⟩:=hr;by_cases h7:(r.1 != 7)=true
     ·simp only[h7,if_true];refine Good.bind (bT r.2 2 (c+8*(j:Int)+2*(i:Int)+1) r3 (by omega) (by decide) (by decide)) (fun r' hr'=>?_)
      obtain⟨s1,s2,s3⟩:=hr';obtain⟨s3,s4⟩:=s3;have w:IntKind.wrap .i64 (q.1+1)=q.1+1:=wrap_i64 (by omega) (by omega)
      have w2:IntKind.wrap .i64 (L+q.1)=L+q.1:=wrap_i64 (by omega) (by omega)
      have w3:IntKind.wrap .i64 (1+r'.1)=1+r'.1:=wrap_i64 (by omega) (by omega)
      have hroom:roomy (q.2.2.2.length+1) 24=true:=by simp[roomy];omega
      rw[if_pos ⟨trivial,hroom⟩,w,w2,w3];have hsn:nV L S (j:Int) ((i:Int)+1) (q.2.2.2++[⟨(j:Int),L+(i:Int),1+r'.1⟩]):=GA g5 ⟨by omega,by omega⟩ ⟨by omega,by omega⟩ ⟨by omega,by omega⟩
      refine .some ⟨?_,?_,?_,?_,?_⟩
      ·show q.1+1=((i+1:Nat):Int);omega
      ·omega
      ·show r'.2.at_≤c+8*(j:Int)+2*((i+1:Nat):Int);omega
      ·simp only[List.length_append,List.length_cons,List.length_nil];omega
      ·show nV L S (j:Int) ((i+1:Nat):Int) (q.2.2.2++[⟨s.1,L+q.1,1+r'.1⟩]);rw[h1,g1];exact hsn
     ·simp only[h7,Bool.false_eq_true,if_false];obtain⟨s3,s4⟩:=r3;have w:IntKind.wrap .i64 (q.1+1)=q.1+1:=wrap_i64 (by omega) (by omega)
      rw[w];exact .some ⟨by show q.1+1=((i+1:Nat):Int);omega,s3,by show r.2.at_≤c+8*(j:Int)+2*((i+1:Nat):Int);omega,by show(q.2.2.2.length:Int)≤4*(j:Int)+((i+1:Nat):Int);omega,GB g5⟩
    ·obtain⟨g1,g2,g3,g4,g5⟩:=hq;have hlt:¬q.1<S:=by omega
     simp only[hlt,if_false];exact .some ⟨g2,by show q.2.2.1≤c+8*((j:Int)+1);omega,by show(q.2.2.2.length:Int)≤4*((j:Int)+1);omega,IF g5 (by omega)⟩
   ·obtain⟨t1,t2,t3,t4⟩:=ht;have w:IntKind.wrap .i64 (s.1+1)=s.1+1:=wrap_i64 (by omega) (by omega)
    rw[w];exact .some ⟨by show s.1+1=((j+1:Nat):Int);omega,t1,by show t.2.1≤c+8*((j+1:Nat):Int);omega,by show(t.2.2.length:Int)≤4*((j+1:Nat):Int);omega,t4⟩
  ·obtain⟨h1,h2,h3,h4,h5⟩:=hs;have hlt:¬s.1<L:=by omega
   simp only[hlt,if_false];exact .some ⟨⟨by show s.2.2.2.length≤32;omega,fun x hx=>(h5.1 x hx).1,h5.2⟩,h2,by show s.2.2.1≤c+64;omega⟩
 ·obtain⟨h1,h2,h3⟩:=ht;simp[ee];refine .some ⟨h1,h2,h3⟩
def zW(l:List Int):Prop:=l.Pairwise (· < ·)
theorem Lm{l:List Int}{y:Int}(h:zW l)(hy:∀x∈l,x<y):zW (l++[y]):=by
 unfold zW at*;rw[List.pairwise_append];exact⟨h,by simp,fun a ha b hb=>by simp only[List.mem_singleton]at hb;subst hb;exact hy a ha⟩
def IG(m q:Int)(l:List Int):Prop:=1≤l.length∧(l.length:Int)≤q∧(∀y∈l,0≤y∧y<m)∧zW l
theorem CI(x:aq)(m q c:Int)(hx:sG c x)(hc:c≤100000)(hm:1≤m∧m≤8)(hq:1≤q)(hn:5000≤n):
 Good (γ:=List Int×aq) (yA.S n (x,m,q)) fun r=>IG m q r.1∧sG (c+9) r.2:=by
 show Good (γ:=List Int×aq) ((yz x m q).run n) _;simp only[yz,G.run,aK,tZ,if_true,decide_eq_true_eq];refine Good.bind (bT x m c hx (by omega) (by omega) (by omega)) (fun r hr=>?_)
 obtain⟨r1,r2,r3,r4⟩:=hr;refine Good.bind (γ:=List Int×Int×List Int) (Q:=fun t=>(t.2.2.length:Int)≤q∧(∀y∈t.2.2,0≤y∧y<m)∧zW t.2.2∧0≤t.2.1∧t.2.1≤c+9) ?_ (fun t ht=>?_)
 ·refine l9 (fun j (s:Int×List Int×Int×List Int)=>s.1=(j:Int)∧0≤s.2.2.1∧s.2.2.1≤c+1+(j:Int)∧(s.2.2.2.length:Int)≤(j:Int)∧(s.2.2.2.length:Int)≤q∧(∀y∈s.2.2.2,0≤y∧y<(j:Int))∧zW s.2.2.2) m.toNat (fun j s hj hs=>?_) (fun s hs=>?_) (by omega) ⟨rfl,r3,by simp;omega,by simp,by simp;omega,by simp,by simp[zW]⟩
  ·obtain⟨h1,h2,h3,h4,h4',h5,h5'⟩:=hs;have hlt:s.1<m:=by omega
   have w:IntKind.wrap .i64 (s.1+1)=s.1+1:=wrap_i64 (by omega) (by omega)
   have hroom:roomy (s.2.2.2.length+1) 8=true:=by simp[roomy];omega
   have h6:∀y∈s.2.2.2++[s.1],0≤y∧y<((j+1:Nat):Int):=by
    intro y hy;rcases List.mem_append.1 hy with hy |hy
    ·have:=h5 y hy;omega
    ·simp only[List.mem_singleton]at hy;subst hy;omega
   have h7:∀y∈s.2.2.2,0≤y∧y<((j+1:Nat):Int):=fun y hy=>by have:=h5 y hy;omega
   have h8:zW (s.2.2.2++[s.1]):=Lm h5' fun y hy=>by have:=h5 y hy;omega
   simp only[hlt,if_true,w];by_cases hq:(s.2.2.2.length:Int)<q
   ·simp only[hq,if_true];by_cases he:(s.1==r.1)=true
    ·simp only[he,if_true];rw[if_pos ⟨trivial,hroom⟩];refine .some ⟨?_,?_,?_,?_,?_,h6,h8⟩<;>(try simp only[List.length_append,List.length_cons,List.length_nil])<;>omega
    ·simp only[he,Bool.false_eq_true,if_false];refine Good.bind (bT _ 3 (c+1+(j:Int)) ⟨h2,h3⟩ (by omega) (by decide) (by decide)) (fun r' hr'=>?_)
     obtain⟨s1,s2,s3,s4⟩:=hr';by_cases hz:(r'.1==1)=true
     ·simp only[hz,if_true];rw[if_pos ⟨trivial,hroom⟩];refine .some ⟨?_,?_,?_,?_,?_,h6,h8⟩<;>(try simp only[List.length_append,List.length_cons,List.length_nil])<;>omega
     ·simp only[hz,Bool.false_eq_true,if_false];refine .some ⟨?_,?_,?_,?_,?_,h7,h5'⟩<;>(try simp only[List.length_append,List.length_cons,List.length_nil])<;>omega
   ·simp only[hq,if_false];refine .some ⟨?_,fun y hy=>?_,h5',?_,?_⟩
    ·exact h4'
    ·have:=h5 y hy;omega
    ·exact h2
    ·show s.2.2.1≤c+9;omega
  ·obtain⟨h1,h2,h3,h4,h4',h5,h5'⟩:=hs;have hlt:¬s.1<m:=by omega
   simp only[hlt,if_false];refine .some ⟨?_,fun y hy=>?_,h5',?_,?_⟩
   ·exact h4'
   ·have:=h5 y hy;omega
   ·exact h2
   ·show s.2.2.1≤c+9;omega
 ·obtain⟨t1,t2,t2',t3,t4⟩:=ht;by_cases hz:((t.2.2.length:Int)==0)=true
  ·simp only[hz,if_true];simp[ee];refine .some ⟨⟨?_,?_,?_,?_⟩,t3,t4⟩
   ·simp
   ·simp;omega
   ·simp;omega
   ·simp[zW]
  ·simp only[hz,Bool.false_eq_true,if_false];simp[ee];refine .some ⟨⟨?_,t1,t2,t2'⟩,t3,t4⟩;simp only[beq_iff_eq]at hz;show 1≤t.2.2.length;omega
end
end Go.L
namespace Go.L
open Go.AM
theorem J1{β:Type}(a b:Int)(hb:b≠0)(k:Unit→Option β):(ym .i64 a b).run.bind k=k ():=by
 simp only[ym,C1,ne_eq,hb,not_false_eq_true,decide_true,if_true,Option.bind_some]
theorem MV:((2:Int) ^ (@Min.min Nat instMinNat (Int.toNat (16:Int)) (IntKind.bits .i64)))=65536:=by decide
theorem wrap_u32'{a:Int}(h0:0≤a)(h1:a<4294967296):IntKind.wrap .u32 a=a:=by
 simp only[IntKind.wrap,IntKind.bits,IntKind.signed];simp
 omega
def J2(nt:Int)(i:Int)(b:BD):Prop:=0≤b.aC∧b.aC<nt∧b.eT=10+i∧b.Target=500+i∧(b.bx=⟨0,0⟩∧b.bW=0∨b.bx=⟨167772160+i*65536,24⟩∧b.bW=167772161+i*65536)
def CJ(nt:Int)(x:cc):Prop:=0≤x.From∧x.From<nt∧0≤x.To∧x.To<nt∧x.From≠x.To∧(x.aM=⟨0,0⟩∨∃t,0≤t∧t<4∧x.aM=⟨167772160+t*65536,16⟩)
def II(L nb:Int)(s:aB):Prop:=IG L 3 s.Leaves∧IG nb 4 s.aW
def IJ(sD:List BD)(segs:List aB)(i:Int)(h:Host):Prop:=
 h.MAC=2199023951872+i∧0≤h.BD∧h.BD<(sD.length:Int)∧(h.aB= -1∨∃s,fF segs h.aB=some s∧h.BD∈s.aW)∧
 (h.IP=0∨∃b,fF sD h.BD=some b∧b.bW≠0∧h.IP=b.bx.IP+(10+i))
section
variable {n:Nat}
theorem FU(x:aq)(i m c:Int)(hx:sG c x)(hc:c≤100000)(hm:1≤m∧m≤8)(hi:0≤i∧i≤8):
 Good (γ:=BD×aq) (zN.S n (x,i,m)) fun r=>J2 m i r.1∧sG (c+2) r.2:=by
 show Good (γ:=BD×aq) ((vB x i m).run n) _;have w1:IntKind.wrap .i64 (10+i)=10+i:=wrap_i64 (by omega) (by omega)
 have w2:IntKind.wrap .u32 (10+i)=10+i:=wrap_u32' (by omega) (by omega)
 have w3:IntKind.wrap .i64 (500+i)=500+i:=wrap_i64 (by omega) (by omega)
 have w4:IntKind.wrap .u32 (500+i)=500+i:=wrap_u32' (by omega) (by omega)
 have w5:IntKind.wrap .i64 (i*65536)=i*65536:=wrap_i64 (by omega) (by omega)
 have w6:IntKind.wrap .i64 (167772160+i*65536)=167772160+i*65536:=wrap_i64 (by omega) (by omega)
 have w7:IntKind.wrap .u32 (167772160+i*65536)=167772160+i*65536:=wrap_u32' (by omega) (by omega)
 have w8:IntKind.wrap .u32 (167772160+i*65536+1)=167772161+i*65536:=by rw[wrap_u32' (by omega) (by omega)];omega
 simp only[vB,G.run,aK,if_true,decide_eq_true_eq,MV,w1,w2,w3,w4,w5,w6,w7,w8];refine Good.bind (bT x m c hx (by omega) (by omega) (by omega)) (fun r hr=>?_)
 refine Good.bind (bT r.2 4 (c+1) hr.2.2 (by omega) (by decide) (by decide)) (fun r' hr'=>?_)
 have h:sG (c+2) r'.2:=by have:=hr'.2.2;unfold sG at*;omega
 split
 ·exact .some ⟨⟨hr.1,hr.2.1,rfl,rfl,.inr ⟨rfl,rfl⟩⟩,h⟩
 ·exact .some ⟨⟨hr.1,hr.2.1,rfl,rfl,.inl ⟨rfl,rfl⟩⟩,h⟩
theorem IK(x:aq)(m c:Int)(hx:sG c x)(hc:c≤100000)(hm:2≤m∧m≤8):
 Good (γ:=cc×aq) (Ct.S n (x,m)) fun r=>CJ m r.1∧sG (c+4) r.2:=by
 show Good (γ:=cc×aq) ((yB x m).run n) _;have w:IntKind.wrap .i64 (m - 1)=m - 1:=wrap_i64 (by omega) (by omega)
 have e:=fun {γ:Type} (a:Int) (k:Unit→Option γ)=>J1 a m (by omega) k
 simp only[yB,G.run,aK,if_true,decide_eq_true_eq,w,e,MV];refine Good.bind (bT x m c hx (by omega) (by omega) (by omega)) (fun r hr=>?_)
 refine Good.bind (bT r.2 (m - 1) (c+1) hr.2.2 (by omega) (by omega) (by omega)) (fun r' hr'=>?_)
 refine Good.bind (bT r'.2 2 (c+1+1) hr'.2.2 (by omega) (by decide) (by decide)) (fun q hq=>?_)
 obtain⟨a1,a2,a3⟩:=hr;obtain⟨b1,b2,b3⟩:=hr';have v1:IntKind.wrap .i64 (r.1+1)=r.1+1:=wrap_i64 (by omega) (by omega)
 have v2:IntKind.wrap .i64 (r.1+1+r'.1)=r.1+1+r'.1:=wrap_i64 (by omega) (by omega)
 have v3:Int.tmod (r.1+1+r'.1) m=(r.1+1+r'.1) % m:=Int.tmod_eq_emod_of_nonneg (by omega)
 have v4:0≤(r.1+1+r'.1) % m:=Int.emod_nonneg _ (by omega)
 have v5:(r.1+1+r'.1) % m<m:=Int.emod_lt_of_pos _ (by omega)
 have v6:r.1≠(r.1+1+r'.1) % m:=by
  by_cases hlt:r.1+1+r'.1<m
  ·rw[Int.emod_eq_of_lt (by omega) hlt];omega
  ·have e1:(r.1+1+r'.1) % m=(r.1+1+r'.1 - m) % m:=by rw[Int.sub_emod_right]
   rw[e1,Int.emod_eq_of_lt (by omega) (by omega)];omega
 rw[v1,v2,v3];split
 ·refine Good.bind (bT q.2 4 (c+1+1+1) hq.2.2 (by omega) (by decide) (by decide)) (fun p hp=>?_)
  have w5:IntKind.wrap .i64 (p.1*65536)=p.1*65536:=wrap_i64 (by omega) (by omega)
  have w6:IntKind.wrap .i64 (167772160+p.1*65536)=167772160+p.1*65536:=wrap_i64 (by omega) (by omega)
  have w7:IntKind.wrap .u32 (167772160+p.1*65536)=167772160+p.1*65536:=wrap_u32' (by omega) (by omega)
  rw[w5,w6,w7];exact .some ⟨⟨a1,a2,v4,v5,v6,.inr ⟨p.1,hp.1,hp.2.1,rfl⟩⟩,by have:=hp.2.2;unfold sG at*;show 0≤p.2.at_∧p.2.at_≤c+4;omega⟩
 ·exact .some ⟨⟨a1,a2,v4,v5,v6,.inl rfl⟩,by have:=hq.2.2;unfold sG at*;show 0≤q.2.at_∧q.2.at_≤c+4;omega⟩
theorem IL{α:Type}(l:List α)(i:Int)(h0:0≤i)(h1:i<(l.length:Int)):∃x,fF l i=some x∧x∈l:=by
 obtain⟨j,rfl⟩:∃j:Nat,i=(j:Int):=⟨i.toNat,by omega⟩
 have hj:j<l.length:=by omega
 exact⟨l[j],by rw[bK];exact List.getElem?_eq_getElem hj,List.getElem_mem hj⟩
theorem cQ{β:Type}(len m b ai:Nat)(i:Int)(k:Unit→Option β)(h0:0≤i)(h1:i<(len:Int)):(aH len m b ai i).run.bind k=k ():=by
 simp[aH,h0,h1]
theorem AD{c d:Int}{x:aq}(h:sG c x)(hd:c≤d):sG d x:=⟨h.1,Int.le_trans h.2 hd⟩
def FV(nt:Int)(l:List BD):Prop:=∀(i:Nat) b,l[i]? =some b→J2 nt (i:Int) b
theorem MW{nt i:Int}{b:BD}(h:J2 nt i b)(hi:0≤i∧i≤8)(hg:b.bW≠0):b.bx.IP=167772160+i*65536:=by
 obtain⟨-,-,-,-,h |h⟩:=h
 ·exact absurd h.2 hg
 ·rw[h.1]
theorem IM(x:aq)(L S:Int)(links:List bV)(Ho:List aC)(sD:List BD)(segs:List aB)(a8 a9 a10:Int)(b11 b12:Bool)(a13 a14 a15 a16 a17 a18 i c nt:Int)(hx:sG c x)(hc:c≤100000)
 (h1:1≤segs.length∧segs.length≤8) (h2:∀s∈segs,II L (sD.length:Int) s) (h3:FV nt sD) (h4:sD.length≤8) (hi:0≤i∧i≤8):
 Good (γ:=Host×aq) (zO.S n (x,L,S,links,Ho,sD,segs,a8,a9,a10,b11,b12,a13,a14,a15,a16,a17,a18,i)) fun r=>IJ sD segs i r.1∧sG (c+4) r.2:=by
 show Good (γ:=Host×aq) ((vC x L S links Ho sD segs a8 a9 a10 b11 b12 a13 a14 a15 a16 a17 a18 i).run n) _;have w1:IntKind.wrap .i64 (2199023951872+i)=2199023951872+i:=wrap_i64 (by omega) (by omega)
 have w2:IntKind.wrap .u64 (2199023951872+i)=2199023951872+i:=by
  simp only[IntKind.wrap,IntKind.bits,IntKind.signed];simp
  omega
 have w3:IntKind.wrap .i64 (10+i)=10+i:=wrap_i64 (by omega) (by omega)
 have w4:IntKind.wrap .u32 (10+i)=10+i:=wrap_u32' (by omega) (by omega)
 simp only[vC,G.run,aK,bA,bY,if_true,decide_eq_true_eq,w1,w2,w3,w4];refine Good.bind (bT x (segs.length:Int) c hx (by omega) (by omega) (by omega)) (fun r hr=>?_)
 obtain⟨s,hs,hm⟩:=IL segs r.1 hr.1 hr.2.1;have hso:=(h2 s hm).2;obtain⟨so1,so2,so3,-⟩:=hso;rw[hs,Option.bind_some];refine Good.bind (bT r.2 (s.aW.length:Int) (c+1) hr.2.2 (by omega) (by omega) (by omega)) (fun r' hr'=>?_)
 obtain⟨d,hd,hdm⟩:=IL s.aW r'.1 hr'.1 hr'.2.1;rw[hd,Option.bind_some];obtain⟨b,hb,_⟩:=IL sD d (so3 d hdm).1 (so3 d hdm).2;rw[hb,Option.bind_some];have h3':sG (c+1+1) r'.2:=hr'.2.2;have hbd:=so3 d hdm;have hbv:J2 nt d b:=by
  obtain⟨j,rfl⟩:∃j:Nat,d=(j:Int):=⟨d.toNat,by omega⟩
  rw[bK]at hb;exact h3 j b hb
 have hseg:∀{v:Int},(v= -1∨v=r.1)→(v= -1∨∃s,fF segs v=some s∧d∈s.aW):=by
  rintro v (rfl |rfl)
  ·exact .inl rfl
  ·exact .inr ⟨s,hs,hdm⟩
 by_cases hg:(b.bW != 0)=true
 ·have hg':b.bW≠0:=by simpa using hg
  have hip:=MW hbv ⟨hbd.1,by omega⟩ hg'
  have w5:IntKind.wrap .u32 (b.bx.IP+(10+i))=b.bx.IP+(10+i):=wrap_u32' (by omega) (by omega)
  rw[if_pos hg];refine Good.bind (bT r'.2 6 (c+1+1) h3' (by omega) (by decide) (by decide)) (fun q hq=>?_)
  split
  ·rw[Option.bind_some,w5];refine Good.bind (bT q.2 10 (c+1+1+1) hq.2.2 (by omega) (by decide) (by decide)) (fun p hp=>?_)
   split
   ·exact .some ⟨⟨rfl,hbd.1,hbd.2,hseg (.inl rfl),.inr ⟨b,hb,hg',rfl⟩⟩,AD hp.2.2 (by omega)⟩
   ·exact .some ⟨⟨rfl,hbd.1,hbd.2,hseg (.inr rfl),.inr ⟨b,hb,hg',rfl⟩⟩,AD hp.2.2 (by omega)⟩
  ·refine Good.bind (bT q.2 10 (c+1+1+1) hq.2.2 (by omega) (by decide) (by decide)) (fun p hp=>?_)
   split
   ·exact .some ⟨⟨rfl,hbd.1,hbd.2,hseg (.inl rfl),.inl rfl⟩,AD hp.2.2 (by omega)⟩
   ·exact .some ⟨⟨rfl,hbd.1,hbd.2,hseg (.inr rfl),.inl rfl⟩,AD hp.2.2 (by omega)⟩
 ·rw[if_neg hg];refine Good.bind (bT r'.2 10 (c+1+1) h3' (by omega) (by decide) (by decide)) (fun p hp=>?_)
  split
  ·exact .some ⟨⟨rfl,hbd.1,hbd.2,hseg (.inl rfl),.inl rfl⟩,AD hp.2.2 (by omega)⟩
  ·exact .some ⟨⟨rfl,hbd.1,hbd.2,hseg (.inr rfl),.inl rfl⟩,AD hp.2.2 (by omega)⟩
def EA(l:List aC):Prop:=∀(i:Nat) t,l[i]? =some t→t=⟨100+(i:Int),900+(i:Int)⟩
def CK(sD:List BD)(segs:List aB)(l:List Host):Prop:=∀(i:Nat) h,l[i]? =some h→IJ sD segs (i:Int) h
structure Vf(f:aQ):Prop where
 leaves:2≤f.Leaves∧f.Leaves≤4
 CL:1≤f.fG∧f.fG≤3
 links:FT f.Leaves f.fG f.Links
 tE:1≤f.aR.length∧f.aR.length≤3
 Ho:EA f.aR
 sD:1≤f.aW.length∧f.aW.length≤4
 bd:FV (f.aR.length:Int) f.aW
 segments:2≤f.ax.length∧f.ax.length≤6
 seg:∀s∈f.ax,II f.Leaves (f.aW.length:Int) s
 Ey:f.dS.length≤8
 host:CK f.aW f.ax f.dS
 Ez:f.ff.length≤2
 NW:∀x∈f.ff,CJ (f.aR.length:Int) x
 Nw:f.ff.Nodup
 Nx:0≤f.tP∧f.tP≤2
 Mi:0≤f.og∧f.og≤1
 MX:0≤f.qq∧f.qq≤1
 timers:1≤f.bJ.qp∧f.bJ.qp≤3∧f.bJ.yw=9∧40≤f.bJ.A7∧f.bJ.A7≤69∧f.bJ.pq=20∧f.bJ.uJ=5∧f.bJ.Window=30
theorem Bx{α:Type}{P:Nat→α→Prop}{l:List α}{y:α}(h:∀(i:Nat) x,l[i]? =some x→P i x)(hy:P l.length y):∀(i:Nat) x,(l++[y])[i]? =some x→P i x:=by
 intro i x hx;rw[List.getElem?_append]at hx;split at hx
 ·exact h i x hx
 ·rename_i hge;have:i - l.length=0:=by
   rcases Nat.eq_zero_or_pos (i - l.length)with h0 |h0
   ·exact h0
   ·rw[List.getElem?_eq_none (by simp;omega)]at hx;cases hx
  have:i=l.length:=by omega
  subst this;simp at hx;subst hx;exact hy
theorem FW(l:List Int)(hn:5000≤n):Good (γ:=aQ) (zP.S n l) Vf:=by
 show Good (γ:=aQ) ((vD l).run n) _;simp only[vD,G.run,aK,bA,bY,tZ,if_true,decide_eq_true_eq];refine Good.bind (bT (n:=n) (Go.L.aq.mk l 0) 3 0 ⟨Int.le_refl _,Int.le_refl _⟩ (by decide) (by decide) (by decide)) (fun r2 h2=>?_)
 refine Good.bind (bT r2.2 3 1 h2.2.2 (by decide) (by decide) (by decide)) (fun r3 h3=>?_)
 refine Good.bind (bT r3.2 3 2 h3.2.2 (by decide) (by decide) (by decide)) (fun r4 h4=>?_)
 refine Good.bind (bT r4.2 2 3 h4.2.2 (by decide) (by decide) (by decide)) (fun r5 h5=>?_)
 refine Good.bind (bT r5.2 2 4 h5.2.2 (by decide) (by decide) (by decide)) (fun r6 h6=>?_)
 refine Good.bind (bT r6.2 2 5 h6.2.2 (by decide) (by decide) (by decide)) (fun r7 h7=>?_)
 refine Good.bind (bT r7.2 3 6 h7.2.2 (by decide) (by decide) (by decide)) (fun r8 h8=>?_)
 refine Good.bind (bT r8.2 3 7 h8.2.2 (by decide) (by decide) (by decide)) (fun r9 h9=>?_)
 refine Good.bind (bT r9.2 30 8 h9.2.2 (by decide) (by decide) (by decide)) (fun r10 h10=>?_)
 obtain⟨l1,l2,-⟩:=h2;obtain⟨p1,p2,-⟩:=h3;obtain⟨e1,e2,-⟩:=h4;obtain⟨e3,e4,-⟩:=h5;obtain⟨e5,e6,-⟩:=h6;obtain⟨e7,e8,-⟩:=h9;obtain⟨e9,e10,h10'⟩:=h10;have wl:IntKind.wrap .i64 (2+r2.1)=2+r2.1:=wrap_i64 (by omega) (by omega)
 have wp:IntKind.wrap .i64 (1+r3.1)=1+r3.1:=wrap_i64 (by omega) (by omega)
 have wd:IntKind.wrap .i64 (1+r9.1)=1+r9.1:=wrap_i64 (by omega) (by omega)
 have wa:IntKind.wrap .i64 (40+r10.1)=40+r10.1:=wrap_i64 (by omega) (by omega)
 rw[wl,wp,wd,wa];refine Good.bind (GC r10.2 (2+r2.1) (1+r3.1) 9 h10' (by decide) (by omega) (by omega) hn) (fun r11 h11=>?_)
 refine Good.bind (γ:=List Int×Int×List aC) (Q:=fun t=>1≤t.2.2.length∧t.2.2.length≤3∧0≤t.2.1∧t.2.1≤77∧EA t.2.2) ?_ (fun t1 ht1=>?_)
 ·obtain⟨k1,k2⟩:=h11.2;refine l9 (fun j (s:Int×List Int×Int×List aC)=>s.1=(j:Int)∧0≤s.2.2.1∧s.2.2.1≤73+(j:Int)∧(s.2.2.2.length:Int)=(j:Int)∧EA s.2.2.2) 3 (fun j s hj hs=>?_) (fun s hs=>?_) (by omega) ⟨rfl,k1,by simp;omega,by simp,by simp[EA]⟩
  ·obtain⟨g1,g2,g3,g4,g5⟩:=hs;refine Good.bind (bT (n:=n) (Go.L.aq.mk s.2.1 s.2.2.1) 3 (73+(j:Int)) ⟨g2,g3⟩ (by omega) (by decide) (by decide)) (fun r hr=>?_)
   obtain⟨s1,s2,s3,s4⟩:=hr;have w:IntKind.wrap .i64 (s.1+1)=s.1+1:=wrap_i64 (by omega) (by omega)
   have w1:IntKind.wrap .i64 (100+s.1)=100+s.1:=wrap_i64 (by omega) (by omega)
   have w2:IntKind.wrap .u32 (100+s.1)=100+s.1:=wrap_u32' (by omega) (by omega)
   have w3:IntKind.wrap .i64 (900+s.1)=900+s.1:=wrap_i64 (by omega) (by omega)
   have w4:IntKind.wrap .u32 (900+s.1)=900+s.1:=wrap_u32' (by omega) (by omega)
   have hroom:roomy (s.2.2.2.length+1) 8=true:=by simp[roomy];omega
   by_cases hle:s.1≤r.1
   ·rw[if_pos hle,if_pos ⟨trivial,hroom⟩,w,w1,w2,w3,w4];refine .some ⟨?_,?_,?_,?_,?_⟩
    ·show s.1+1=((j+1:Nat):Int);omega
    ·exact s3
    ·show r.2.at_≤73+((j+1:Nat):Int);omega
    ·simp only[List.length_append,List.length_cons,List.length_nil];omega
    ·refine Bx (P:=fun i t=>t=(⟨100+(i:Int),900+(i:Int)⟩:aC)) g5 ?_
     rw[g4,g1]
   ·rw[if_neg hle];refine .some ⟨?_,?_,?_,?_,g5⟩
    ·show 1≤s.2.2.2.length;omega
    ·show s.2.2.2.length≤3;omega
    ·exact s3
    ·show r.2.at_≤77;omega
  ·obtain⟨g1,g2,g3,g4,g5⟩:=hs;refine Good.bind (bT (n:=n) (Go.L.aq.mk s.2.1 s.2.2.1) 3 76 ⟨g2,by simpa using g3⟩ (by omega) (by decide) (by decide)) (fun r hr=>?_)
   obtain⟨s1,s2,s3,s4⟩:=hr;have hle:¬s.1≤r.1:=by omega
   rw[if_neg hle];refine .some ⟨?_,?_,?_,?_,g5⟩
   ·show 1≤s.2.2.2.length;omega
   ·show s.2.2.2.length≤3;omega
   ·exact s3
   ·show r.2.at_≤77;omega
 obtain⟨u1,u2,u3,u4,u5⟩:=ht1;refine Good.bind (bT (n:=n) (Go.L.aq.mk t1.1 t1.2.1) 4 77 ⟨u3,u4⟩ (by decide) (by decide) (by decide)) (fun r25 h25=>?_)
 obtain⟨q1,q2,q3⟩:=h25;have w25:IntKind.wrap .i64 (1+r25.1)=1+r25.1:=wrap_i64 (by omega) (by omega)
 rw[w25];simp[ee];refine Good.bind (γ:=List Int×Int×List BD) (Q:=fun t=>1≤t.2.2.length∧t.2.2.length≤4∧0≤t.2.1∧t.2.1≤86∧FV (t1.2.2.length:Int) t.2.2) ?_ (fun t2 ht2=>?_)
 ·refine l9 (fun j (s:Int×List Int×Int×List BD)=>s.1=(j:Int)∧0≤s.2.2.1∧s.2.2.1≤78+2*(j:Int)∧(s.2.2.2.length:Int)=(j:Int)∧FV (t1.2.2.length:Int) s.2.2.2) (1+r25.1).toNat (fun j s hj hs=>?_) (fun s hs=>?_) (by omega) ⟨rfl,q3.1,by have:=q3.2;simp;omega,by simp,by simp[FV]⟩
  ·obtain⟨g1,g2,g3,g4,g5⟩:=hs;have hlt:s.1<1+r25.1:=by omega
   rw[if_pos hlt];refine Good.bind (FU (n:=n) (Go.L.aq.mk s.2.1 s.2.2.1) s.1 (t1.2.2.length:Int) (78+2*(j:Int)) ⟨g2,g3⟩ (by omega) (by omega) (by omega)) (fun r hr=>?_)
   obtain⟨hb,s3,s4⟩:=hr;have w:IntKind.wrap .i64 (s.1+1)=s.1+1:=wrap_i64 (by omega) (by omega)
   have hroom:roomy (s.2.2.2.length+1) 40=true:=by simp[roomy];omega
   rw[if_pos hroom,w];refine .some ⟨?_,?_,?_,?_,?_⟩
   ·show s.1+1=((j+1:Nat):Int);omega
   ·exact s3
   ·show r.2.at_≤78+2*((j+1:Nat):Int);omega
   ·simp only[List.length_append,List.length_cons,List.length_nil];omega
   ·refine Bx (P:=fun i b=>J2 (t1.2.2.length:Int) (i:Int) b) g5 ?_
    rw[g4,← g1];exact hb
  ·obtain⟨g1,g2,g3,g4,g5⟩:=hs;have hlt:¬s.1<1+r25.1:=by omega
   rw[if_neg hlt];refine .some ⟨?_,?_,?_,?_,g5⟩
   ·show 1≤s.2.2.2.length;omega
   ·show s.2.2.2.length≤4;omega
   ·exact g2
   ·show s.2.2.1≤86;omega
 obtain⟨b1,b2,b3,b4,b5⟩:=ht2;refine Good.bind (bT (n:=n) (Go.L.aq.mk t2.1 t2.2.1) 5 86 ⟨b3,b4⟩ (by decide) (by decide) (by decide)) (fun r39 h39=>?_)
 obtain⟨q1',q2',q3'⟩:=h39;have w39:IntKind.wrap .i64 (2+r39.1)=2+r39.1:=wrap_i64 (by omega) (by omega)
 rw[w39];refine Good.bind (γ:=List Int×Int×List aB) (Q:=fun t=>2≤t.2.2.length∧t.2.2.length≤6∧(∀y∈t.2.2,II (2+r2.1) (t2.2.2.length:Int) y)∧0≤t.2.1∧t.2.1≤195) ?_ (fun t3 ht3=>?_)
 ·refine l9 (fun j (s:Int×List Int×Int×List aB)=>s.1=(j:Int)∧0≤s.2.2.1∧s.2.2.1≤87+18*(j:Int)∧(s.2.2.2.length:Int)=(j:Int)∧∀y∈s.2.2.2,II (2+r2.1) (t2.2.2.length:Int) y) (2+r39.1).toNat (fun j s hj hs=>?_) (fun s hs=>?_) (by omega) ⟨rfl,q3'.1,by have:=q3'.2;simp;omega,by simp,by simp⟩
  ·obtain⟨g1,g2,g3,g4,g5⟩:=hs;have hlt:s.1<2+r39.1:=by omega
   rw[if_pos hlt];refine Good.bind (CI (n:=n) (Go.L.aq.mk s.2.1 s.2.2.1) (2+r2.1) 3 (87+18*(j:Int)) ⟨g2,g3⟩ (by omega) (by omega) (by omega) hn) (fun r hr=>?_)
   obtain⟨m1,m4⟩:=hr;refine Good.bind (CI (n:=n) r.2 (t2.2.2.length:Int) 4 (87+18*(j:Int)+9) m4 (by omega) (by omega) (by omega) hn) (fun r' hr'=>?_)
   obtain⟨m5,m8,m9⟩:=hr';have w:IntKind.wrap .i64 (s.1+1)=s.1+1:=wrap_i64 (by omega) (by omega)
   have hroom:roomy (s.2.2.2.length+1) 48=true:=by simp[roomy];omega
   rw[if_pos hroom,w];refine .some ⟨?_,?_,?_,?_,fun y hy=>?_⟩
   ·show s.1+1=((j+1:Nat):Int);omega
   ·exact m8
   ·show r'.2.at_≤87+18*((j+1:Nat):Int);omega
   ·simp only[List.length_append,List.length_cons,List.length_nil];omega
   ·rcases List.mem_append.1 hy with hy |hy
    ·exact g5 y hy
    ·simp only[List.mem_singleton]at hy;subst hy;exact⟨m1,m5⟩
  ·obtain⟨g1,g2,g3,g4,g5⟩:=hs;have hlt:¬s.1<2+r39.1:=by omega
   rw[if_neg hlt];refine .some ⟨?_,?_,g5,g2,?_⟩
   ·show 2≤s.2.2.2.length;omega
   ·show s.2.2.2.length≤6;omega
   ·show s.2.2.1≤195;omega
 obtain⟨c1,c2,c3,c4,c5⟩:=ht3;refine Good.bind (bT (n:=n) (Go.L.aq.mk t3.1 t3.2.1) 9 195 ⟨c4,c5⟩ (by decide) (by decide) (by decide)) (fun r56 h56=>?_)
 obtain⟨v1,v2,v3⟩:=h56;refine Good.bind (γ:=List Int×Int×List Host) (Q:=fun t=>t.2.2.length≤8∧0≤t.2.1∧t.2.1≤228∧CK t2.2.2 t3.2.2 t.2.2) ?_ (fun t4 ht4=>?_)
 ·refine l9 (fun j (s:Int×List Int×Int×List Host)=>s.1=(j:Int)∧0≤s.2.2.1∧s.2.2.1≤196+4*(j:Int)∧(s.2.2.2.length:Int)=(j:Int)∧CK t2.2.2 t3.2.2 s.2.2.2) r56.1.toNat (fun j s hj hs=>?_) (fun s hs=>?_) (by omega) ⟨rfl,v3.1,by have:=v3.2;simp;omega,by simp,by simp[CK]⟩
  ·obtain⟨g1,g2,g3,g4,g5⟩:=hs;have hlt:s.1<r56.1:=by omega
   rw[if_pos hlt];refine Good.bind (IM (n:=n) (Go.L.aq.mk s.2.1 s.2.2.1) _ _ _ _ t2.2.2 t3.2.2 _ _ _ _ _ _ _ _ _ _ _ s.1 (196+4*(j:Int)) (t1.2.2.length:Int) ⟨g2,g3⟩ (by omega) (by omega) c3 b5 (by omega) (by omega)) (fun r hr=>?_)
   obtain⟨hh,s3,s4⟩:=hr;have w:IntKind.wrap .i64 (s.1+1)=s.1+1:=wrap_i64 (by omega) (by omega)
   have hroom:roomy (s.2.2.2.length+1) 32=true:=by simp[roomy];omega
   rw[if_pos hroom,w];refine .some ⟨?_,?_,?_,?_,?_⟩
   ·show s.1+1=((j+1:Nat):Int);omega
   ·exact s3
   ·show r.2.at_≤196+4*((j+1:Nat):Int);omega
   ·simp only[List.length_append,List.length_cons,List.length_nil];omega
   ·refine Bx (P:=fun i b=>IJ t2.2.2 t3.2.2 (i:Int) b) g5 ?_
    rw[g4,← g1];exact hh
  ·obtain⟨g1,g2,g3,g4,g5⟩:=hs;have hlt:¬s.1<r56.1:=by omega
   rw[if_neg hlt];refine .some ⟨?_,?_,?_,g5⟩
   ·show s.2.2.2.length≤8;omega
   ·exact g2
   ·show s.2.2.1≤228;omega
 obtain⟨d1,d2,d3,d4⟩:=ht4;have hsz:∀lk:List cc,lk.length≤2→(∀x∈lk,CJ (t1.2.2.length:Int) x)→lk.Nodup→Vf {Leaves:=2+r2.1,fG:=1+r3.1,Links:=r11.1,aR:=t1.2.2,aW:=t2.2.2,ax:=t3.2.2,dS:=t4.2.2,ff:=lk,tP:=r4.1,og:=r5.1,qq:=r6.1,vo:=r7.1==0,Ck:=r8.1==1,bJ:={qp:=1+r9.1,yw:=9,A7:=40+r10.1,pq:=20,uJ:=5,Window:=30}}:=fun lk hlk hlv hld=>
  ⟨⟨by show 2≤2+r2.1;omega,by show 2+r2.1≤4;omega⟩,⟨by show 1≤1+r3.1;omega,by show 1+r3.1≤3;omega⟩,h11.1,⟨u1,u2⟩,u5,⟨b1,b2⟩,b5,⟨c1,c2⟩,c3,d1,d4,hlk,hlv,hld,
   ⟨e1,by show r4.1≤2;omega⟩,⟨e3,by show r5.1≤1;omega⟩,⟨e5,by show r6.1≤1;omega⟩,by show 1≤1+r9.1;omega,by show 1+r9.1≤3;omega,rfl,by show 40≤40+r10.1;omega,by show 40+r10.1≤69;omega,rfl,rfl,rfl⟩
 by_cases hm:(1:Int)<(t1.2.2.length:Int)
 ·rw[if_pos (by simpa using hm)]
  refine Good.bind (bT (n:=n) (Go.L.aq.mk t4.1 t4.2.1) 3 228 ⟨d2,d3⟩ (by decide) (by decide) (by decide)) (fun r70 h70=>?_)
  obtain⟨v1',v2',v3'⟩:=h70;refine Good.bind (γ:=List Int×Int×List cc) (Q:=fun t=>t.2.2.length≤2∧(∀x∈t.2.2,CJ (t1.2.2.length:Int) x)∧t.2.2.Nodup) ?_ (fun t5 ht5=>?_)
  ·refine l9 (fun j (s:Int×List Int×Int×List cc)=>s.1=(j:Int)∧0≤s.2.2.1∧s.2.2.1≤229+4*(j:Int)∧(s.2.2.2.length:Int)≤(j:Int)∧(∀x∈s.2.2.2,CJ (t1.2.2.length:Int) x)∧s.2.2.2.Nodup) r70.1.toNat (fun j s hj hs=>?_) (fun s hs=>?_) (by omega) ⟨rfl,v3'.1,by have:=v3'.2;simp;omega,by simp,by simp,by simp⟩
   ·obtain⟨g1,g2,g3,g4,g5,g6⟩:=hs;have hlt:s.1<r70.1:=by omega
    rw[if_pos hlt];refine Good.bind (IK (n:=n) (Go.L.aq.mk s.2.1 s.2.2.1) (t1.2.2.length:Int) (229+4*(j:Int)) ⟨g2,g3⟩ (by omega) (by omega)) (fun r hr=>?_)
    obtain⟨hk,s3,s4⟩:=hr;have w:IntKind.wrap .i64 (s.1+1)=s.1+1:=wrap_i64 (by omega) (by omega)
    have hroom:roomy (s.2.2.2.length+1) 32=true:=by simp[roomy];omega
    refine Good.bind (γ:=Unit⊕Unit) (Q:=fun t=>match t with | .inl _=>True | .inr _=>r.1∉s.2.2.2) ?_ (fun t ht=>?_)
    ·refine l9 (fun i (q:Int)=>q=(i:Int)∧∀j<i,∀y,s.2.2.2[j]? =some y→y≠r.1) s.2.2.2.length (fun i q hi hq=>?_) (fun q hq=>?_) (by omega) ⟨rfl,by simp⟩
     ·obtain⟨rfl,hq⟩:=hq;have hlt:(i:Int)<(s.2.2.2.length:Int):=by omega
      rw[if_pos hlt,cQ _ _ _ _ _ _ (by omega) hlt]
      simp only[hG,Int.toNat_natCast,List.getElem?_eq_getElem hi,Option.bind_some];split
      ·exact .some trivial
      ·rename_i hne;refine .some ⟨dR (by omega),fun k hk y hy=>?_⟩
       rcases Nat.lt_or_ge k i with hki |hki
       ·exact hq k hki y hy
       ·have:k=i:=by omega
        subst this;rw[List.getElem?_eq_getElem hi]at hy;simp only[Option.some.injEq]at hy;subst hy;intro e;apply hne;simp[e]
     ·obtain⟨rfl,hq⟩:=hq;simp only[Int.lt_irrefl,if_false];refine .some fun hmem=>?_
      obtain⟨k,hk⟩:=List.getElem?_of_mem hmem;exact hq k (List.getElem?_eq_some_iff.1 hk).1 _ hk rfl
    ·cases t with
     |inl _=>
      simp only[Sum.elim,G.run,aK,if_true];rw[w];refine .some ⟨?_,s3,?_,?_,g5,g6⟩
      ·show s.1+1=((j+1:Nat):Int);omega
      ·show r.2.at_≤229+4*((j+1:Nat):Int);omega
      ·show(s.2.2.2.length:Int)≤((j+1:Nat):Int);omega
     |inr _=>
      simp only[Sum.elim,G.run,aK,tZ,if_true];rw[if_pos ⟨trivial,hroom⟩,w];refine .some ⟨?_,s3,?_,?_,fun x hx=>?_,?_⟩
      ·show s.1+1=((j+1:Nat):Int);omega
      ·show r.2.at_≤229+4*((j+1:Nat):Int);omega
      ·simp only[List.length_append,List.length_cons,List.length_nil];omega
      ·rcases List.mem_append.1 hx with hx |hx
       ·exact g5 x hx
       ·simp only[List.mem_singleton]at hx;subst hx;exact hk
      ·rw[List.nodup_append];refine⟨g6,by simp,fun a ha b hb=>?_⟩
       simp only[List.mem_singleton]at hb;subst hb;rintro rfl;exact ht ha
   ·obtain⟨g1,g2,g3,g4,g5,g6⟩:=hs;have hlt:¬s.1<r70.1:=by omega
    rw[if_neg hlt];exact .some ⟨by show s.2.2.2.length≤2;omega,g5,g6⟩
  ·exact .some (hsz _ ht5.1 ht5.2.1 ht5.2.2)
 ·rw[if_neg (by simpa using hm)]
  exact .some (hsz [] (by simp) (by simp) (by simp))
end
end Go.L
namespace Go.L
open Go.AM
theorem mc{α K:Type}[DecidableEq K](key:α→K)(l:List α)(i:Nat)(x:α)(hx:l[i]? =some x)(h:∀(j:Nat) y,j<i→l[j]? =some y→key y≠key x):(bf key [] l).getD i false=false:=by
 rw[List.getD_eq_getElem?_getD,Cv,hx];simp only[Option.map_some,Option.getD_some,List.nil_append,decide_eq_false_iff_not,List.mem_map,not_exists,not_and];intro y hy e;obtain⟨j,hj⟩:=List.getElem?_of_mem hy;rw[List.getElem?_take]at hj;split at hj
 ·rename_i hlt;exact h j y hlt hj e
 ·cases hj
theorem om{p:ByteArray}{m:Int}{b:Bool}{r:Option (Int×Nat)}(hb:b=false)(hr:r=none):outcome p m b r=.inl ():=by
 subst hb;subst hr;rfl
theorem nk{α:Type}{E:Nat→α→Int}{l:List α}(h:∀(j:Nat) x,l[j]? =some x→E j x=0):bF E 0 l=none:=
 (qH l 0).2 fun j x hx=>by rw[Nat.zero_add];exact h j x hx
theorem IQ:∀{l:List Int},zW l→ur l=true
 | [],_=>rfl
 | [_],_=>rfl
 |x::y::l,h=>by
  have h':zW (y::l):=(List.pairwise_cons.1 h).2;have hxy:x<y:=(List.pairwise_cons.1 h).1 y (by simp)
  have ih:=IQ h';simp only[ur,List.tail_cons,List.zip_cons_cons,List.all_cons,Bool.and_eq_true,decide_eq_true_eq]at ih ⊢;exact⟨hxy,ih⟩
theorem J3{α:Type}{l:List α}(h:l.Nodup){i j:Nat}{x y:α}(hx:l[i]? =some x)(hy:l[j]? =some y)(hij:j<i):y≠x:=by
 obtain⟨h1,rfl⟩:=List.getElem?_eq_some_iff.1 hx;obtain⟨h2,rfl⟩:=List.getElem?_eq_some_iff.1 hy;exact(List.pairwise_iff_getElem.1 h) j i h2 h1 hij
section
variable {f:aQ} (hv:Vf f)
include hv
theorem Ln:CE f=.inl ():=by
 obtain⟨h1,h2,h3⟩:=hv.links;refine om (by simp;omega) (nk fun i x hx=>?_)
 obtain⟨a1,a2,a3,a4,a5,a6⟩:=h2 x (List.mem_of_getElem? hx);have hf:=mc (fun x:bV=>(⟨x.A,x.B⟩:V2 Int)) f.Links i x hx fun j y hj hy e=>by
  have e1:(f.Links.map yF)[i]? =some (yF x):=by rw[List.getElem?_map,hx];rfl
  have e2:(f.Links.map yF)[j]? =some (yF y):=by rw[List.getElem?_map,hy];rfl
  exact J3 h3 e1 e2 hj e
 have hw:IntKind.wrap .i64 (f.Leaves+f.fG)=f.Leaves+f.fG:=wrap_i64 (by have:=hv.leaves;have:=hv.CL;omega) (by have:=hv.leaves;have:=hv.CL;omega)
 have c1:(decide (0≤x.A)&&decide (x.A<f.Leaves))=true:=by simp[a1,a2]
 have c2:decide (x.B≥f.Leaves)=true:=by simp;omega
 have c3:¬(!decide (x.B<IntKind.wrap .i64 (f.Leaves+f.fG)))=true:=by rw[hw];simp;omega
 have c4:¬(decide (x.zD<1)||decide (1000<x.zD))=true:=by simp;omega
 rw[Ay,if_pos c1,if_pos c2,if_neg c3,if_neg c4,hf,if_neg (by decide)]
theorem IU:yE f=.inl ():=by
 obtain⟨h1,h2⟩:=hv.tE;have ht:=hv.Ho;refine om (by simp;omega) (nk fun i x hx=>?_)
 have hi:=(List.getElem?_eq_some_iff.1 hx).1;have e:=ht i x hx;have hf1:=mc (fun x:aC=>x.eT) f.aR i x hx fun j y hj hy e'=>by
  have e2:=ht j y hy;subst e2;subst e;simp at e';omega
 have hf2:=mc (fun x:aC=>x.Target) f.aR i x hx fun j y hj hy e'=>by
  have e2:=ht j y hy;subst e2;subst e;simp at e';omega
 subst e;have c1:¬decide ((100+(i:Int))<1)=true:=by simp;omega
 have c2:¬decide (16777215<(100+(i:Int)))=true:=by simp;omega
 have c3:¬(((900+(i:Int))==0)=true):=by simp;omega
 rw[uR,if_neg c1,if_neg c2,if_neg c3,hf1,if_neg (by decide),hf2,if_neg (by decide)]
theorem Lo:CG f=.inl ():=by
 refine om (by have:=hv.Ez;simp;omega) (nk fun i x hx=>?_)
 obtain⟨a1,a2,a3,a4,a5,a6⟩:=hv.NW x (List.mem_of_getElem? hx);have hf:=mc (fun x:cc=>x) f.ff i x hx fun j y hj hy e=>J3 hv.Nw hx hy hj e
 have c1:¬(!(decide (0≤x.From)&&decide (x.From<(f.aR.length:Int))))=true:=by simp[a1,a2]
 have c2:¬(!(decide (0≤x.To)&&decide (x.To<(f.aR.length:Int))))=true:=by simp[a3,a4]
 have c3:¬(x.From==x.To)=true:=by simp[a5]
 have c4:¬(!nU x.aM)=true:=by
  rcases a6 with e |⟨t,t0,t4,e⟩
  ·rw[e];decide
  ·rw[e];rcases(by omega:t=0∨t=1∨t=2∨t=3)with rfl |rfl |rfl |rfl<;>decide
 rw[Az,if_neg c1,if_neg c2,if_neg c3,if_neg c4,hf,if_neg (by decide)]
theorem IV:vH f=.inl ():=by
 obtain⟨h1,h2⟩:=hv.sD;obtain⟨h3,h4⟩:=hv.tE;have hb:=hv.bd;refine om (by simp;omega) (nk fun i b hx=>?_)
 have hi:=(List.getElem?_eq_some_iff.1 hx).1;obtain⟨a1,a2,a3,a4,a5⟩:=hb i b hx;have hf1:=mc (fun x:BD=>x.eT) f.aW i b hx fun j y hj hy e=>by
  have:=(hb j y hy).2.2.1;have e':y.eT=b.eT:=e;omega
 have hf2:=mc (fun x:BD=>x.Target) f.aW i b hx fun j y hj hy e=>by
  have:=(hb j y hy).2.2.2.1;have e':y.Target=b.Target:=e;omega
 have c1:¬(!(decide (0≤b.aC)&&decide (b.aC<(f.aR.length:Int))))=true:=by simp[a1,a2]
 have c2:¬decide (b.eT<1)=true:=by simp;omega
 have c3:¬decide (16777215<b.eT)=true:=by simp;omega
 have c4:¬(b.Target==0)=true:=by simp;omega
 have c5:¬(f.aR.any fun x=>x.eT==b.eT)=true:=by
  simp only[List.any_eq_true,beq_iff_eq,not_exists,not_and];intro t ht e;obtain⟨j,hj⟩:=List.getElem?_of_mem ht;have:=hv.Ho j t hj;have hjl:=(List.getElem?_eq_some_iff.1 hj).1;rw[this]at e;simp only at e;omega
 have c6:¬(f.aR.any fun x=>x.Target==b.Target)=true:=by
  simp only[List.any_eq_true,beq_iff_eq,not_exists,not_and];intro t ht e;obtain⟨j,hj⟩:=List.getElem?_of_mem ht;have:=hv.Ho j t hj;have hjl:=(List.getElem?_eq_some_iff.1 hj).1;rw[this]at e;simp only at e;omega
 rw[Bw,if_neg c1,if_neg c2,if_neg c3,if_neg c4,hf1,if_neg (by decide),hf2,if_neg (by decide),if_neg c5,if_neg c6]
 rcases a5 with⟨e1,e2⟩ |⟨e1,e2⟩
 ·rw[e1,e2,if_pos (by decide),if_neg (by decide)]
 ·have c7:¬(b.bW==0)=true:=by simp;omega
  have c11:¬((f.aW.take i).any (pJ b.aC b.bx.IP b.bx.Len))=true:=by
   simp only[List.any_eq_true,not_exists,not_and];intro y hy ho;obtain⟨j,hj⟩:=List.getElem?_of_mem hy;rw[List.getElem?_take]at hj;split at hj
   ·rename_i hlt;obtain⟨-,-,-,-,a6⟩:=hb j y hj;simp only[pJ,Bool.and_eq_true,bne_iff_ne]at ho;obtain⟨-,hg,hc⟩:=ho;rcases a6 with⟨e3,e4⟩ |⟨e3,e4⟩
    ·exact hg e4
    ·rw[e1,e3]at hc;simp only at hc;rcases(by omega:(j=0∧i=1)∨(j=0∧i=2)∨(j=0∧i=3)∨(j=1∧i=2)∨(j=1∧i=3)∨(j=2∧i=3))with⟨rfl,rfl⟩ |⟨rfl,rfl⟩ |⟨rfl,rfl⟩ |⟨rfl,rfl⟩ |⟨rfl,rfl⟩ |⟨rfl,rfl⟩<;>revert hc<;>decide
   ·cases hj
  have c8:¬(!nU b.bx)=true:=by
   rw[e1];rcases(by omega:i=0∨i=1∨i=2∨i=3)with rfl |rfl |rfl |rfl<;>decide
  have c9:¬out b.bx.Len 8 30=true:=by rw[e1];show ¬out 24 8 30=true;decide
  have c10:¬(!vE b.bx b.bW)=true:=by
   rw[e1,e2];rcases(by omega:i=0∨i=1∨i=2∨i=3)with rfl |rfl |rfl |rfl<;>decide
  rw[if_neg c7,if_neg c8,if_neg c9,if_neg c10,if_neg c11]
theorem GD:wh f=.inl ():=by
 obtain⟨h1,h2⟩:=hv.segments;refine om (by simp;omega) (nk fun i x hx=>?_)
 have hi:=(List.getElem?_eq_some_iff.1 hx).1;obtain⟨⟨a1,a2,a3,a4⟩,⟨b1,b2,b3,b4⟩⟩:=hv.seg x (List.mem_of_getElem? hx);have c1:¬((x.Leaves.length:Int)==0)=true:=by simp only[beq_iff_eq];omega
 have c2:¬((x.aW.length:Int)==0)=true:=by simp only[beq_iff_eq];omega
 have c3:¬(x.Leaves.any fun n=> !(decide (0≤n)&&decide (n<f.Leaves)))=true:=by
  simp only[List.any_eq_true,not_exists,not_and];intro y hy;have:=a3 y hy;simp[this.1,this.2]
 have c4:¬(x.aW.any fun n=> !(decide (0≤n)&&decide (n<(f.aW.length:Int))))=true:=by
  simp only[List.any_eq_true,not_exists,not_and];intro y hy;have:=b3 y hy;simp[this.1,this.2]
 have c5:¬(!ur x.Leaves)=true:=by rw[IQ a4];decide
 have c6:¬(!ur x.aW)=true:=by rw[IQ b4];decide
 have c7:¬(x.Leaves.any fun n=>decide (32<(((f.ax.take i).countP fun s=>s.Leaves.contains n:Nat):Int)+1))=true:=by
  simp only[List.any_eq_true,not_exists,not_and,decide_eq_true_eq];intro y hy;have h3:((f.ax.take i).countP fun s=>s.Leaves.contains y)≤(f.ax.take i).length:=List.countP_le_length
  have h4:(f.ax.take i).length≤f.ax.length:=by simp;omega
  omega
 rw[Dh,if_neg c1,if_neg c2,if_neg c3,if_neg c4,if_neg c5,if_neg c6,if_neg c7]
theorem Lp:CF f=.inl ():=by
 have h1:=hv.Ey;have hh:=hv.host;refine om (by simp;omega) (nk fun i h hx=>?_)
 have hi:=(List.getElem?_eq_some_iff.1 hx).1;obtain⟨a1,a2,a3,a4,a5⟩:=hh i h hx;have hf1:=mc (fun x:Host=>(⟨x.BD,x.MAC⟩:aG)) f.dS i h hx fun j y hj hy e=>by
  have:=(hh j y hy).1;simp only[aG.mk.injEq]at e;omega
 have c1:¬(h.MAC==0)=true:=by simp;omega
 have c2:¬decide (281474976710655<h.MAC)=true:=by simp;omega
 have c3:¬AA h.MAC=true:=by
  rw[a1];rcases(by omega:i=0∨i=1∨i=2∨i=3∨i=4∨i=5∨i=6∨i=7)with rfl |rfl |rfl |rfl |rfl |rfl |rfl |rfl<;>decide
 have c4:¬(!(decide (0≤h.BD)&&decide (h.BD<(f.aW.length:Int))))=true:=by simp[a2,a3]
 have hsr:h.aB= -1∨0≤h.aB∧h.aB<(f.ax.length:Int):=by
  rcases a4 with e |⟨s,hs,-⟩
  ·exact .inl e
  ·right;unfold fF at hs;split at hs
   ·have:=(List.getElem?_eq_some_iff.1 hs).1;omega
   ·cases hs
 have c5:¬out h.aB (-1) ((f.ax.length:Int) - 1)=true:=by
  simp only[out,Bool.or_eq_true,decide_eq_true_eq,not_or];have:=hv.segments;omega
 have c6:¬(h.aB != -1&& !(xI f h.aB).any fun x=>h.BD==x)=true:=by
  rcases a4 with e |⟨s,hs,hm⟩
  ·rw[e];simp
  ·have:((xI f h.aB).any fun x=>h.BD==x)=true:=by
    unfold xI;rw[hs];simp only[Option.map_some,Option.getD_some,List.any_eq_true];exact⟨h.BD,hm,by simp⟩
   rw[this];simp
 have c7:¬(h.MAC==1577058561)=true:=by simp;omega
 have c8:¬ru h.MAC=true:=by
  simp only[ru,Bool.and_eq_true,Bool.not_eq_true',decide_eq_false_iff_not,not_and];omega
 have hbd:=hv.sD;have key:h.IP≠0→∃d:Nat,d<4∧h.BD=(d:Int)∧h.IP=167772160+(d:Int)*65536+(10+(i:Int))∧(zU f h.BD).bW=167772161+(d:Int)*65536∧(zU f h.BD).bx=⟨167772160+(d:Int)*65536,24⟩:=by
  intro h0;rcases a5 with e |⟨b,hb,hg,e⟩
  ·exact absurd e h0
  ·obtain⟨d,hd⟩:∃d:Nat,h.BD=(d:Int):=⟨h.BD.toNat,by omega⟩
   have hbv:=hv.bd d b (by rw[hd,bK]at hb;exact hb)
   obtain⟨-,-,-,-,e3 |e3⟩:=hbv
   ·exact absurd e3.2 hg
   ·refine⟨d,by omega,hd,?_,?_,?_⟩
    ·rw[e,e3.1]
    ·unfold zU;rw[hb];exact e3.2
    ·unfold zU;rw[hb];exact e3.1
 have c9:¬(!kP (zU f h.BD) h.IP)=true:=by
  by_cases h0:h.IP=0
  ·rw[h0];simp[kP]
  ·obtain⟨d,hd,-,e1,e2,e3⟩:=key h0;rw[kP,e1,e2,e3];have hi8:i<8:=by omega
   clear key a5 a4 c6 c5 hsr c8 c7 c4 c3 c2 c1 hf1 a1 a2 a3 hx hh hbd h1 hv e1 e2 e3 h0;rcases(by omega:d=0∨d=1∨d=2∨d=3)with rfl |rfl |rfl |rfl<;>
    rcases(by omega:i=0∨i=1∨i=2∨i=3∨i=4∨i=5∨i=6∨i=7)with rfl |rfl |rfl |rfl |rfl |rfl |rfl |rfl<;>decide
 have c10:¬(h.IP != 0&&(bf (fun x:Host=>(⟨x.BD,IntKind.wrap .u64 x.IP⟩:aG)) [] f.dS).getD i false)=true:=by
  by_cases h0:h.IP=0
  ·rw[h0];simp
  ·obtain⟨d,hd,ed,e1,-,-⟩:=key h0;rw[mc (fun x:Host=>(⟨x.BD,IntKind.wrap .u64 x.IP⟩:aG)) f.dS i h hx fun j y hj hy e=>by
    simp only[aG.mk.injEq]at e;obtain⟨eb,ei⟩:=e;obtain⟨-,-,-,-,y5⟩:=hh j y hy;rcases y5 with y5 |⟨b,hb,hg,y5⟩
    ·rw[y5,e1]at ei;rcases(by omega:d=0∨d=1∨d=2∨d=3)with rfl |rfl |rfl |rfl<;>(simp only[IntKind.wrap,IntKind.bits,IntKind.signed]at ei;simp at ei;omega)
    ·have hbv:=hv.bd d b (by rw[eb,ed,bK]at hb;exact hb)
     obtain⟨-,-,-,-,e3 |e3⟩:=hbv
     ·exact absurd e3.2 hg
     ·rw[y5,e3.1,e1]at ei;simp only[IntKind.wrap,IntKind.bits,IntKind.signed]at ei;simp at ei;omega]
   simp
 rw[AB,if_neg c1,if_neg c2,if_neg c3,if_neg c4,if_neg c5,if_neg c6,if_neg c7,if_neg c8,if_neg c9,hf1,if_neg (by decide),if_neg c10]
theorem J4:tF f=.inl ():=by
 have hL:=hv.leaves;have hS:=hv.CL;have hw:IntKind.wrap .i64 (f.Leaves+f.fG)=f.Leaves+f.fG:=wrap_i64 (by omega) (by omega)
 have e1:=hv.Nx;have e2:=hv.Mi;have e3:=hv.MX;have:rq f=false:=by
  simp only[rq,out,hw,Bool.or_eq_false_iff,decide_eq_false_iff_not];omega
 rw[tF,this];rfl
theorem J5:xJ f=.inl ():=by
 obtain⟨t1,t2,t3,t4,t5,t6,t7,t8⟩:=hv.timers;have:uc f.bJ=false:=by
  simp only[uc,out,Bool.or_eq_false_iff,decide_eq_false_iff_not];omega
 rw[xJ,this];rfl
theorem Lq:xK f=(0,⟨⟨[]⟩⟩,0):=by
 simp only[xK,J4 hv,J5 hv,Ln hv,IU hv,IV hv,GD hv,Lp hv,Lo hv,uL]
theorem Lr:Small f:=by
 refine⟨?_,?_,?_,?_,?_,?_,fun s hs=>?_⟩
 ·have:=hv.links.1;omega
 ·have:=hv.tE;omega
 ·have:=hv.sD;omega
 ·have:=hv.segments;omega
 ·have:=hv.Ey;omega
 ·have:=hv.Ez;omega
 ·obtain⟨⟨a1,a2,-⟩,⟨b1,b2,-⟩⟩:=hv.seg s hs;omega
end
end Go.L
end
