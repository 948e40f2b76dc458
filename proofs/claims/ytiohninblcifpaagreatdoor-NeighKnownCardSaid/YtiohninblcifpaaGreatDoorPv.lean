/- Parts put together. No conditions. -/
import Derived.Test.YtiohninblcifpaaGreatDoorWb
import Derived.Test.YtiohninblcifpaaGreatDoorAd
import Derived.Test.YtiohninblcifpaaGreatDoorWf
set_option linter.unusedSectionVars false
set_option linter.unusedSimpArgs false
set_option linter.unusedVariables false
set_option maxRecDepth 100000
section
namespace Go.AM
theorem EK{α σ τ ST:Type}{f:ST→Option (ST⊕τ)}(mk:Nat→σ→ST)(l:List α)(S:Nat→σ)(fin:τ)
 (hs:∀i x,l[i]? =some x→f (mk i (S i))=some (.inl (mk (i+1) (S (i+1))))) (he:f (mk l.length (S l.length))=some (.inr fin)) (n:Nat) (hn:l.length<n):bI f n (mk 0 (S 0))=some fin:=by
 have key:∀(k i n:Nat),i+k=l.length→k<n→bI f n (mk i (S i))=some fin:=by
  intro k;induction k with
  |zero=>
   intro i n hi hn;obtain⟨n,rfl⟩:∃m,n=m+1:=⟨n - 1,by omega⟩
   have:i=l.length:=by omega
   subst this;simp only[bI,he]
  |succ k ih=>
   intro i n hi hn;obtain⟨n,rfl⟩:∃m,n=m+1:=⟨n - 1,by omega⟩
   simp only[bI,hs i _ (List.getElem?_eq_getElem (show i<l.length by omega))]
   exact ih (i+1) n (by omega) (by omega)
 exact key l.length 0 n (by omega) hn
def aW{α K:Type}[DecidableEq K](key:α→K):List K→List α→List Bool
 |_,[]=>[]
 |seen,x::xs=>decide (key x∈seen)::aW key (seen++[key x]) xs
section
variable {α K:Type} [DecidableEq K] (key:α→K)
theorem Dc:∀(l:List α) (seen:List K) (x:α),aW key seen (l++[x])=aW key seen l++[decide (key x∈seen++l.map key)]
 | [],seen,x=>by simp[aW]
 |y::l,seen,x=>by
  simp only[List.cons_append,aW,Dc l,List.map_cons,List.append_assoc,List.nil_append]
theorem iZ:∀(l:List α) (seen:List K),(aW key seen l).length=l.length
 | [],_=>rfl
 |_::l,seen=>by simp[aW,iZ l]
theorem AO:∀(l:List α) (seen:List K) (i:Nat),(aW key seen l)[i]? =(l[i]?).map fun x=>decide (key x∈seen++(l.take i).map key)
 | [],_,_=>by simp[aW]
 |y::l,seen,0=>by simp[aW]
 |y::l,seen,i+1=>by
  simp only[aW,List.getElem?_cons_succ,AO l,List.take_succ_cons,List.map_cons,List.append_assoc,List.singleton_append]
variable {eq:K→K→Bool}
def yG(m:List (K×Bool))(ks:List K):Prop:=(∀p∈m,p.2=true)∧∀k,k∈m.map (·.1)↔k∈ks
theorem AP(heq:∀a b,eq a b=decide (a=b)):∀(m:List (K×Bool)) (k:K) (j i:Nat) (v:Bool),cm eq k m j=some (i,v)→j≤i∧m[i - j]? =some (k,v)
 | [],_,_,_,_,h=>by simp[cm]at h
 |p::ps,k,j,i,v,h=>by
  simp only[cm,heq,decide_eq_true_eq]at h;split at h
  ·rename_i hk;simp only[Option.some.injEq,Prod.mk.injEq]at h;obtain⟨rfl,rfl⟩:=h;exact⟨Nat.le_refl _,by simp[hk]⟩
  ·obtain⟨h1,h2⟩:=AP heq ps k (j+1) i v h;refine⟨by omega,?_⟩
   rw[show i - j=(i - (j+1))+1 by omega]
   simpa using h2
theorem EL(heq:∀a b,eq a b=decide (a=b)):∀(m:List (K×Bool)) (k:K) (j:Nat),cm eq k m j=none→k∉m.map (·.1)
 | [],_,_,_=>by simp
 |p::ps,k,j,h=>by
  simp only[cm,heq,decide_eq_true_eq]at h;split at h
  ·cases h
  ·rename_i hk;have:=EL heq ps k (j+1) h;simp only[List.map_cons,List.mem_cons,not_or];exact⟨hk,this⟩
theorem yG.get(heq:∀a b,eq a b=decide (a=b)){m:List (K×Bool)}{ks:List K}(h:yG m ks)(k:K):((cm eq k m 0).map (·.2)).getD false=decide (k∈ks):=by
 cases hf:cm eq k m 0 with
 |none=>
  have:=EL heq m k 0 hf;rw[h.2]at this;simp[this]
 |some q=>
  obtain⟨i,v⟩:=q;obtain⟨_,h2⟩:=AP heq m k 0 i v hf;have hm:=List.mem_of_getElem? h2;have hv:=h.1 _ hm;have:k∈ks:=(h.2 k).1 (List.mem_map.2 ⟨_,hm,rfl⟩);simp only at hv;simp[this,hv]
theorem yG.put(heq:∀a b,eq a b=decide (a=b)){m:List (K×Bool)}{ks:List K}(h:yG m ks)(k:K):yG (gJ eq k true m) (ks++[k]):=by
 unfold gJ;split
 ·rename_i i v hf;obtain⟨_,h2⟩:=AP heq m k 0 i v hf;rw[Nat.sub_zero]at h2;refine⟨fun p hp=>?_,fun q=>?_⟩
  ·rcases List.mem_or_eq_of_mem_set hp with hp |rfl
   ·exact h.1 p hp
   ·rfl
  ·have hs:(m.set i (k,true)).map (·.1)=m.map (·.1):=by
    rw[List.map_set];apply List.ext_getElem?;intro j;by_cases hj:i=j
    ·subst hj;have hlt:=(List.getElem?_eq_some_iff.1 h2).1;rw[List.getElem?_set_self (by simpa using hlt),List.getElem?_map,h2];rfl
    ·rw[List.getElem?_set_ne hj]
   rw[hs,h.2];have hk:k∈ks:=(h.2 k).1 (List.mem_map.2 ⟨_,List.mem_of_getElem? h2,rfl⟩);simp only[List.mem_append,List.mem_singleton];constructor
   ·exact .inl
   ·rintro(h |rfl)
    ·exact h
    ·exact hk
 ·refine⟨fun p hp=>?_,fun q=>?_⟩
  ·rcases List.mem_append.1 hp with hp |hp
   ·exact h.1 p hp
   ·simp at hp;subst hp;rfl
  ·simp only[List.map_append,List.map_cons,List.map_nil,List.mem_append,h.2 q]
theorem GU(heq:∀a b,eq a b=decide (a=b))(l:List α){f:(Int×List (K×Bool)×List Bool)→Option ((Int×List (K×Bool)×List Bool)⊕(List (K×Bool)×List Bool))}
 (hs:∀(i:Nat) x m t,l[i]? =some x→i<t.length→f ((i:Int),m,t)=some (.inl (((i+1:Nat):Int),gJ eq (key x) true m,t.set i (((cm eq (key x) m 0).map (·.2)).getD false))))
 (he:∀m t,f ((l.length:Int),m,t)=some (.inr (m,t))) (n:Nat) (hn:l.length<n):∃m,bI f n (0,[],List.replicate l.length false)=some (m,aW key [] l):=by
 refine⟨l.foldl (fun m x=>gJ eq (key x) true m) [],?_⟩
 have hM:∀i,yG ((l.take i).foldl (fun m x=>gJ eq (key x) true m) []) ((l.take i).map key):=by
  have:∀(l:List α) (m:List (K×Bool)) (ks:List K),yG m ks→yG (l.foldl (fun m x=>gJ eq (key x) true m) m) (ks++l.map key):=by
   intro l;induction l with
   |nil=>intro m ks h;simpa using h
   |cons x xs ih=>
    intro m ks h;have:=ih _ _ (h.put heq (key x));simpa using this
  intro i;simpa using this (l.take i) [] [] ⟨by simp,by simp⟩
 have:=EK (f:=f) (fun i (s:List (K×Bool)×List Bool)=>((i:Int),s.1,s.2)) l
  (fun i=>((l.take i).foldl (fun m x=>gJ eq (key x) true m) [],aW key [] (l.take i)++List.replicate (l.length - i) false))
  (l.foldl (fun m x=>gJ eq (key x) true m) [],aW key [] l) (fun i x hx=>?_) ?_ n hn
 ·simpa[aW]using this
 ·have hlt:=(List.getElem?_eq_some_iff.1 hx).1;have htake:l.take (i+1)=l.take i++[x]:=by
   rw[List.take_add_one,hx];rfl
  have hfl:(aW key [] (l.take i)).length=i:=by rw[iZ];simp;omega
  simp only
  rw[hs i x _ _ hx (by simp[hfl];omega),(hM i).get heq]
  congr 2;refine Prod.ext rfl (Prod.ext ?_ ?_)
  ·simp only[htake,List.foldl_append,List.foldl_cons,List.foldl_nil]
  ·simp only[htake,Dc,List.nil_append];rw[List.set_append_right _ _ (by omega),hfl,Nat.sub_self,show l.length - i=(l.length - (i+1))+1 by omega,List.replicate_succ,List.set_cons_zero]
   simp
 ·simp only[List.take_length,Nat.sub_self,List.replicate_zero,List.append_nil];exact he _ _
end
section
variable {α K:Type} [DecidableEq K]
theorem IA(key:α→K){eq:K→K→Bool}(heq:∀a b,eq a b=decide (a=b))(l:List α){f:(Int×List (K×Bool)×List Bool)→Option ((Int×List (K×Bool)×List Bool)⊕(List (K×Bool)×List Bool))}{γ:Type}{k:List (K×Bool)×List Bool→Option γ}{r:Option γ}{n:Nat}(hn:l.length<n)
 (hs:∀(i:Nat) x m t,l[i]? =some x→i<t.length→f ((i:Int),m,t)=some (.inl (((i+1:Nat):Int),gJ eq (key x) true m,t.set i (((cm eq (key x) m 0).map (·.2)).getD false))))
 (he:∀m t,f ((l.length:Int),m,t)=some (.inr (m,t))) (hk:∀m,k (m,aW key [] l)=r):(bI f n (0,[],List.replicate l.length false)).bind k=r:=by
 obtain⟨m,hm⟩:=GU key heq l hs he n hn;rw[hm];exact hk m
end
def bw{α:Type}(E:Nat→α→Int):Nat→List α→Option (Int×Nat)
 |_,[]=>none
 |i,x::xs=>if E i x≠0 then some (E i x,i)else bw E (i+1) xs
theorem Jx{α τ:Type}{f:Int→Option (Int⊕τ)}(l:List α)(E:Nat→α→Int)(bad:Nat→Int→τ)(fin:τ)
 (hs:∀(i:Nat) x,l[i]? =some x→f (i:Int)=some (if E i x≠0 then .inr (bad i (E i x))else .inl ((i+1:Nat):Int))) (he:f (l.length:Int)=some (.inr fin)) (n:Nat) (hn:l.length<n):
 bI f n 0=some (match bw E 0 l with |none=>fin |some (e,i)=>bad i e):=by
 have:=K7 (f:=f) (fun i (_:Unit)=>(i:Int)) (fun i x (_:Unit)=>if E i x≠0 then Sum.inr (bad i (E i x))else Sum.inl ()) (fun _=>fin) l
  (fun i x s hx=>by rw[hs i x hx];split<;>rfl) (fun _=>he) n () hn
 have key:∀(l:List α) (i:Nat),(match scan (fun i x (_:Unit)=>if E i x≠0 then Sum.inr (bad i (E i x))else Sum.inl ()) i l ()with | .inl _=>fin | .inr t=>t)=(match bw E i l with |none=>fin |some (e,i)=>bad i e):=by
  intro l;induction l with
  |nil=>intro i;rfl
  |cons x xs ih=>
   intro i;simp only[scan,bw];by_cases h:E i x≠0
   ·simp only[if_pos h]
   ·simp only[if_neg h];exact ih (i+1)
 rw[← key l 0];simp only[Int.natCast_zero]at this;rw[this];cases scan (fun i x (_:Unit)=>if E i x≠0 then Sum.inr (bad i (E i x))else Sum.inl ()) 0 l ()<;>rfl
theorem qu{α τ γ:Type}{f:Int→Option (Int⊕τ)}(l:List α)(E:Nat→α→Int)(bad:Nat→Int→τ)(fin:τ){k:τ→Option γ}{r:Option γ}{n:Nat}(hn:l.length<n)
 (hs:∀(i:Nat) x,l[i]? =some x→f (i:Int)=some (if E i x≠0 then .inr (bad i (E i x))else .inl ((i+1:Nat):Int))) (he:f (l.length:Int)=some (.inr fin))
 (hk:(match bw E 0 l with |none=>k fin |some (e,i)=>k (bad i e))=r):(bI f n 0).bind k=r:=by
 rw[Jx l E bad fin hs he n hn,← hk];cases bw E 0 l with
 |none=>rfl
 |some p=>rfl
theorem zh{α τ γ ST:Type}{f:ST→Option (ST⊕τ)}(mk:Nat→ST)(l:List α)(E:Nat→α→Int){k:τ→Option γ}(bad:Nat→Int→Option γ)(fin:Option γ){n:Nat}(hn:l.length<n)
 (hb:∀(i:Nat) x,l[i]? =some x→(∀(j:Nat) y,j<i→l[j]? =some y→E j y=0)→E i x≠0→∃t,f (mk i)=some (.inr t)∧k t=bad i (E i x))
 (hg:∀(i:Nat) x,l[i]? =some x→(∀(j:Nat) y,j<i→l[j]? =some y→E j y=0)→E i x=0→f (mk i)=some (.inl (mk (i+1))))
 (he:(∀(j:Nat) y,l[j]? =some y→E j y=0)→∃t,f (mk l.length)=some (.inr t)∧k t=fin):
 (bI f n (mk 0)).bind k=(match bw E 0 l with |none=>fin |some (e,i)=>bad i e):=by
 have key:∀(m i n:Nat),i+m=l.length→m<n→(∀(j:Nat) y,j<i→l[j]? =some y→E j y=0)→(bI f n (mk i)).bind k=(match bw E i (l.drop i)with |none=>fin |some (e,i)=>bad i e):=by
  intro m;induction m with
  |zero=>
   intro i n hi hn hp;obtain⟨n,rfl⟩:∃m,n=m+1:=⟨n - 1,by omega⟩
   have:i=l.length:=by omega
   subst this;obtain⟨t,h1,h2⟩:=he fun j y hj=>hp j y (List.getElem?_eq_some_iff.1 hj).1 hj
   simp only[bI,h1,Option.bind_some,h2,List.drop_length,bw]
  |succ m ih=>
   intro i n hi hn hp;obtain⟨n,rfl⟩:∃m,n=m+1:=⟨n - 1,by omega⟩
   have hlt:i<l.length:=by omega
   have hx:=List.getElem?_eq_getElem hlt;rw[List.drop_eq_getElem_cons hlt];simp only[bw];by_cases hE:E i l[i]=0
   ·rw[if_neg (by simpa using hE)]
    simp only[bI,hg i _ hx hp hE];refine ih (i+1) n (by omega) (by omega) fun j y hj hy=>?_
    by_cases hji:j=i
    ·subst hji;rw[hx]at hy;cases hy;exact hE
    ·exact hp j y (by omega) hy
   ·rw[if_pos hE];obtain⟨t,h1,h2⟩:=hb i _ hx hp hE;simp only[bI,h1,Option.bind_some,h2]
 have:=key l.length 0 n (by omega) hn fun j y hj=>absurd hj (by omega)
 simpa using this
theorem ox{α:Type}{E:Nat→α→Int}:∀(l:List α) (i:Nat),bw E i l=none↔∀(j:Nat) x,l[j]? =some x→E (i+j) x=0
 | [],i=>by simp[bw]
 |x::xs,i=>by
  simp only[bw];constructor
  ·intro h;split at h
   ·cases h
   ·rename_i h0;have ih:=(ox xs (i+1)).1 h;intro j y hj;cases j with
    |zero=>simp at hj;subst hj;simpa using h0
    |succ j=>have:=ih j y (by simpa using hj);rw[show i+(j+1)=i+1+j by omega];exact this
  ·intro h;have h0:=h 0 x rfl;simp only[Nat.add_zero]at h0;rw[if_neg (by simpa using h0)]
   exact(ox xs (i+1)).2 fun j y hj=>by
    have:=h (j+1) y (by simpa using hj)
    rw[show i+1+j=i+(j+1)by omega];exact this
theorem B5{α:Type}(p:α→Bool):∀(l:List α) (j:Nat),bw (fun _ x=>if p x=true then 1 else 0) j l=(l.findIdx? p).map fun i=>(1,i+j)
 | [],_=>rfl
 |x::xs,j=>by
  simp only[bw,List.findIdx?_cons];cases h:p x with
  |true=>simp
  |false=>
   simp only[Bool.false_eq_true,if_false,ne_eq,not_true_eq_false,B5 p xs (j+1),Option.map_map];congr 1;funext i;simp[Nat.add_assoc,Nat.add_comm 1]
theorem EM{α γ:Type}(l:List α)(p:α→Bool){f:Int→Option (Int⊕(Int⊕Unit))}{k:Int⊕Unit→Option γ}{r:Option γ}{n:Nat}(hn:l.length<n)
 (hs:∀(i:Nat) x,l[i]? =some x→f (i:Int)=some (if p x=true then .inr (.inl (i:Int))else .inl ((i+1:Nat):Int))) (he:f (l.length:Int)=some (.inr (.inr ())))
 (hk:k (match l.findIdx? p with |some i=>.inl (i:Int) |none=>.inr ())=r):(bI f n 0).bind k=r:=by
 refine qu l (fun _ x=>if p x=true then 1 else 0) (fun i _=>.inl (i:Int)) (.inr ()) hn (fun i x hx=>?_) he ?_
 ·rw[hs i x hx];cases p x<;>simp
 ·rw[B5,← hk];cases l.findIdx? p with
  |none=>rfl
  |some i=>rfl
def idxOf{α:Type}(p:α→Bool)(l:List α):Int:=match l.findIdx? p with
 |some i=>(i:Int)
 |none=> -1
theorem Gs{α:Type}(p:α→Bool)(l:List α):decide (idxOf p l≥0)=l.any p:=by
 unfold idxOf;cases h:l.findIdx? p with
 |none=>
  rw[List.findIdx?_eq_none_iff]at h;have:l.any p=false:=by rw[List.any_eq_false];intro x hx;simp[h x hx]
  rw[this];rfl
 |some i=>
  have:l.any p=true:=by
   have h2:=List.findIdx?_eq_some_iff_getElem.1 h;obtain⟨hlt,hp,_⟩:=h2;exact List.any_eq_true.2 ⟨_,List.getElem_mem hlt,hp⟩
  rw[this];simp
theorem iF{X β:Type}(l:List X)(enc:X→List AVal)(n b aj i o:Nat)(y:X→X)(k:X→Option β):(J4 l enc n b aj i o y).run.bind k=(l[i]?).bind k:=rfl
end Go.AM
namespace Go.L
open Go.AM
section leaves
variable {β:Type} (n:Nat)
theorem gH(x lo hi:Int)(k:bU.sh.El→Option β):(bU.S n (x,lo,hi)).bind k=k (decide (x<lo)||decide (hi<x)):=by
 have:bU.S n (x,lo,hi)=some (decide (x<lo)||decide (hi<x)):=by
  show(rP x lo hi).run n=_;simp only[rP,G.run,aK];by_cases h:x<lo<;>simp[h]<;>rfl
 rw[this];rfl
theorem dN(b:Bool)(e:Int)(p:ByteArray)(i:Int)(k:ay.sh.El→Option β):(ay.S n (b,e,p,i)).bind k=if b=true then k (.inr (e,p,i))else k (.inl ()):=by
 have:ay.S n (b,e,p,i)=some (if b=true then Sum.inr (e,p,i)else Sum.inl ()):=by
  show(vN b e p i).run n=_;simp only[vN,G.run,aK];cases b<;>simp<;>rfl
 rw[this];cases b<;>rfl
theorem jg(x m:Int)(k:dY.sh.El→Option β):(dY.S n (x,m)).bind k=k (decide (0≤x)&&decide (x<m)):=by
 have:dY.S n (x,m)=some (decide (0≤x)&&decide (x<m)):=by
  show(lY x m).run n=_;simp only[lY,G.run,aK];by_cases h:0≤x<;>simp[h]<;>rfl
 rw[this];rfl
end leaves
instance :DecidableEq (V2 Int):=fun a b=>decidable_of_iff (a.a0=b.a0∧a.a1=b.a1) ⟨fun h=>by cases a;cases b;simp_all,fun h=>by simp[h]⟩
instance :DecidableEq aN:=fun a b=>decidable_of_iff (a.IP=b.IP∧a.Len=b.Len) ⟨fun h=>by cases a;cases b;simp_all,fun h=>by simp[h]⟩
instance :DecidableEq aY:=fun a b=>decidable_of_iff (a.bd=b.bd∧a.addr=b.addr) ⟨fun h=>by cases a;cases b;simp_all,fun h=>by simp[h]⟩
instance :DecidableEq fW:=fun a b=>decidable_of_iff (a.From=b.From∧a.To=b.To∧a.aN=b.aN) ⟨fun h=>by cases a;cases b;simp_all,fun h=>by simp[h]⟩
section
variable {α K β:Type} [DecidableEq K]
theorem vF{e:α→List AVal}{sz fn jm:Nat}{c:aA prog}{ar:α→c.X}{rs:c.sh.El→K}{ek:K→AVal}{eq:K→K→Bool}{ks:List Kd}{ag:Bool}{hk:∀v,(ek v).pure=true}(heq:∀a b,eq a b=true↔a=b)(key:α→K)(hc:∀n x,∃y,c.S n (ar x)=some y∧rs y=key x)(n:Nat)(l:List α)(hn:l.length<n)(hs:l.length≤4000)(k:List Bool→Option β):
 ((xq e sz fn jm c ar rs ek eq ks ag hk l).run n).bind k=k (aW key [] l):=by
 have:(xq e sz fn jm c ar rs ek eq ks ag hk l).run n=some (aW key [] l):=by
  have hroom:roomy (Int.toNat (l.length:Int)) 1=true:=by simp[roomy];omega
  simp only[xq,G.run,aK,bK,Mx,bP,K8,K9,eH,iF,if_true,Int.toNat_natCast];rw[if_pos ⟨by omega,by simpa using hroom⟩]
  refine IA key (eq:=eq) (fun a b=>by rw[Bool.eq_iff_iff,heq];simp) l hn (fun i x m t hx ht=>?_) (fun m t=>?_) (fun m=>?_)
  ·have hi:=(List.getElem?_eq_some_iff.1 hx).1;have h1:(0:Int)≤i∧(i:Int)<((List.replicate l.length false).length:Nat):=by simp;omega
   obtain⟨y,hy⟩:∃y,t[i]? =some y:=⟨_,List.getElem?_eq_getElem ht⟩;obtain⟨z,hz,hk⟩:=hc n x;simp only[bg,hx,Option.bind_some,Int.toNat_natCast,hy,hz,hk,h1,and_self,if_true,bR (show i<9223372036854775807 by omega)]
   simp[hi];rfl
  ·simp;rfl
  ·simp[ff,iZ];rfl
 rw[this];rfl
theorem B6{e:α→List AVal}{sz:Nat}{fv:AVal}{c:aA prog}{ar:α→c.X}{rs:c.sh.El→Bool}(p:α→Bool)(hc:∀n x,∃y,c.S n (ar x)=some y∧rs y=p x)(n:Nat)(l:List α)(hn:l.length<n)(hs:l.length≤4000):
 (DC e sz fv c ar rs l).run n=some (idxOf p l):=by
 simp only[DC,G.run,aK,bK,bP,if_true];refine EM l p hn (fun i x hx=>?_) ?_ ?_
 ·have hi:=(List.getElem?_eq_some_iff.1 hx).1;have hlt:(i:Int)<l.length:=by omega
  obtain⟨y,hy,hp⟩:=hc n x;simp only[bg,hx,Option.bind_some,hlt,decide_true,if_true,hy,hp,bR (show i<9223372036854775807 by omega)]
  split<;>rfl
 ·simp;rfl
 ·unfold idxOf;cases l.findIdx? p<;>rfl
theorem B7{c:aA prog}{x:c.X}{rs:c.sh.El→Int}{y:c.sh.El}(p:α→Bool)(l:List α)(n:Nat)(hc:c.S n x=some y)(hy:rs y=idxOf p l)(k:Bool→Option β):
 ((BL c x rs).run n).bind k=k (l.any p):=by
 have:(BL c x rs).run n=some (l.any p):=by
  simp only[BL,G.run,aK,if_true,hc,Option.bind_some,hy,Gs];rfl
 rw[this];rfl
end
theorem z7{β:Type}(n:Nat)(l:List aU)(hn:l.length<n)(hs:l.length≤4000)(k:gi.sh.El→Option β):(gi.S n l).bind k=k (aW (fun x:aU=>x.cg) [] l):=by
 dsimp only[gi,aA.of];exact vF (K:=Int) (fun a b=>by simp) _ (fun _ _=>⟨_,rfl,rfl⟩) n l hn hs k
theorem yg{β:Type}(n:Nat)(l:List aU)(hn:l.length<n)(hs:l.length≤4000)(k:fN.sh.El→Option β):(fN.S n l).bind k=k (aW (fun x:aU=>x.Target) [] l):=by
 dsimp only[fN,aA.of];exact vF (K:=Int) (fun a b=>by simp) _ (fun _ _=>⟨_,rfl,rfl⟩) n l hn hs k
theorem CP{β:Type}(n:Nat)(l:List BD)(hn:l.length<n)(hs:l.length≤4000)(k:iy.sh.El→Option β):(iy.S n l).bind k=k (aW (fun x:BD=>x.cg) [] l):=by
 dsimp only[iy,aA.of];exact vF (K:=Int) (fun a b=>by simp) _ (fun _ _=>⟨_,rfl,rfl⟩) n l hn hs k
theorem Bd{β:Type}(n:Nat)(l:List BD)(hn:l.length<n)(hs:l.length≤4000)(k:gE.sh.El→Option β):(gE.S n l).bind k=k (aW (fun x:BD=>x.Target) [] l):=by
 dsimp only[gE,aA.of];exact vF (K:=Int) (fun a b=>by simp) _ (fun _ _=>⟨_,rfl,rfl⟩) n l hn hs k
theorem wB{β:Type}(n:Nat)(l:List Host)(hn:l.length<n)(hs:l.length≤4000)(k:fk.sh.El→Option β):(fk.S n l).bind k=k (aW (fun x:Host=>(⟨x.BD,x.bN⟩:aY)) [] l):=by
 dsimp only[fk,aA.of];exact vF (K:=aY) (fun a b=>by cases a;cases b;simp) _ (fun _ _=>⟨_,rfl,rfl⟩) n l hn hs k
theorem vG{β:Type}(n:Nat)(l:List Host)(hn:l.length<n)(hs:l.length≤4000)(k:eN.sh.El→Option β):(eN.S n l).bind k=k (aW (fun x:Host=>(⟨x.BD,(IntKind.wrap .u64 x.IP)⟩:aY)) [] l):=by
 dsimp only[eN,aA.of];exact vF (K:=aY) (fun a b=>by cases a;cases b;simp) _ (fun _ _=>⟨_,rfl,rfl⟩) n l hn hs k
theorem CQ{β:Type}(n:Nat)(l:List fW)(hn:l.length<n)(hs:l.length≤4000)(k:iA.sh.El→Option β):(iA.S n l).bind k=k (aW (fun x:fW=>x) [] l):=by
 dsimp only[iA,aA.of];exact vF (K:=fW) (fun a b=>by rcases a with⟨_,_,⟨_,_⟩⟩;rcases b with⟨_,_,⟨_,_⟩⟩;simp) _ (fun _ _=>⟨_,rfl,rfl⟩) n l hn hs k
theorem B8{β:Type}(n:Nat)(l:List dG)(hn:l.length<n)(hs:l.length≤4000)(k:gT.sh.El→Option β):(gT.S n l).bind k=k (aW (fun x:dG=>(⟨x.A,x.B⟩:V2 Int)) [] l):=by
 dsimp only[gT,aA.of];exact vF (K:=V2 Int) (fun a b=>by cases a;cases b;simp) _ (fun _ _=>⟨_,rfl,rfl⟩) n l hn hs k
end Go.L
namespace Go.L
open Go.AM
def outcome(part:ByteArray)(most:Int)(full:Bool)(r:Option (Int×Nat)):Unit⊕(Int×ByteArray×Int):=
 if full=true then .inr (7,part,most)else match r with
 |none=>.inl ()
 |some (e,i)=>.inr (e,part,(i:Int))
def IB:ByteArray:=⟨⟨[108,105,110,107,115]⟩⟩
def wC(f:aD)(fl:List Bool)(i:Nat)(x:dG):Int:=
 if(decide (0≤x.A)&&decide (x.A<f.Leaves))=true then
  if decide (x.B≥f.Leaves)=true then
   if(!decide (x.B<IntKind.wrap .i64 (f.Leaves+f.cZ)))=true then 2
   else if(decide (x.uF<1)||decide (1000<x.uF))=true then 2
   else if fl.getD i false=true then 11 else 0
  else 2
 else 2
theorem Og(n:Nat)(f:aD)(hn:f.Links.length<n)(hs:f.Links.length≤128∨128<f.Links.length):
 jP.S n ⟨f⟩=some (outcome IB 128 (decide (128<(f.Links.length:Int))) (bw (wC f (aW (fun x:dG=>(⟨x.A,x.B⟩:V2 Int)) [] f.Links)) 0 f.Links)):=by
 show(mC ⟨f⟩).run n=_;simp only[mC,G.run,aK,bK,dN,Sum.elim,gt_iff_lt,decide_eq_true_eq];by_cases hfull:(128:Int)<f.Links.length
 ·simp[hfull,outcome];rfl
 ·simp only[hfull,if_false,decide_false];rw[B8 n f.Links hn (by omega)]
  simp only[G.run,aK,bK,if_true,bP,jg,gH,dN,Sum.elim];refine qu f.Links (wC f (aW (fun x:dG=>(⟨x.A,x.B⟩:V2 Int)) [] f.Links)) (fun i e=>Sum.inl (e,IB,(i:Int))) (Sum.inr ()) hn (fun i x hx=>?_) ?_ ?_
  ·have hi:=(List.getElem?_eq_some_iff.1 hx).1;obtain⟨y,hy⟩:∃y,(aW (fun x:dG=>(⟨x.A,x.B⟩:V2 Int)) [] f.Links)[i]? =some y:=⟨_,List.getElem?_eq_getElem (by rw[iZ];exact hi)⟩
   have hlt:(i:Int)<f.Links.length:=by omega
   simp only[bg,hx,Option.bind_some,hlt,decide_true,if_true,hy,wC,List.getD_eq_getElem?_getD,Option.getD_some,bR (show i<9223372036854775807 by omega)]
   repeat' split
   all_goals first |rfl | (simp_all<;>omega)
  ·simp;rfl
  ·cases bw (wC f (aW (fun x:dG=>(⟨x.A,x.B⟩:V2 Int)) [] f.Links)) 0 f.Links with
   |none=>rfl
   |some p=>rfl
end Go.L
namespace Go.L
open Go.AM
theorem EN{β:Type}(n:Nat)(l:List aU)(v:Int)(hn:l.length<n)(hs:l.length≤4000)(k:eV.sh.El→Option β):(eV.S n (l,v)).bind k=k (l.any fun x=>x.cg==v):=by
 have h:iC.S n (l,v)=some (idxOf (fun x=>x.cg==v) l):=by dsimp only[iC,aA.of];exact B6 _ (fun _ _=>⟨_,rfl,rfl⟩) n l hn hs
 dsimp only[eV,aA.of];exact B7 _ l n h rfl k
theorem Lp{β:Type}(n:Nat)(l:List aU)(v:Int)(hn:l.length<n)(hs:l.length≤4000)(k:iz.sh.El→Option β):(iz.S n (l,v)).bind k=k (l.any fun x=>x.cg==v):=by
 have:iz.S n (l,v)=some (l.any fun x=>x.cg==v):=EN n l v hn hs _
 rw[this];rfl
theorem B9{β:Type}(n:Nat)(l:List aU)(v:Int)(hn:l.length<n)(hs:l.length≤4000)(k:eD.sh.El→Option β):(eD.S n (l,v)).bind k=k (l.any fun x=>x.Target==v):=by
 have h:gL.S n (l,v)=some (idxOf (fun x=>x.Target==v) l):=by dsimp only[gL,aA.of];exact B6 _ (fun _ _=>⟨_,rfl,rfl⟩) n l hn hs
 dsimp only[eD,aA.of];exact B7 _ l n h rfl k
theorem GV{β:Type}(n:Nat)(l:List aU)(v:Int)(hn:l.length<n)(hs:l.length≤4000)(k:gF.sh.El→Option β):(gF.S n (l,v)).bind k=k (l.any fun x=>x.Target==v):=by
 have:gF.S n (l,v)=some (l.any fun x=>x.Target==v):=B9 n l v hn hs _
 rw[this];rfl
theorem EO{β:Type}(n:Nat)(l:List Int)(f:aD)(hn:l.length<n)(hs:l.length≤4000)(k:gv.sh.El→Option β):(gv.S n (l,f)).bind k=k (l.any fun y=> !(decide (0≤y)&&decide (y<f.Leaves))):=by
 have h:kG.S n (l,f)=some (idxOf (fun y=> !(decide (0≤y)&&decide (y<f.Leaves))) l):=by dsimp only[kG,aA.of];exact B6 _ (fun n y=>⟨_,(jg n y _ _:nC.S n (y,f)=some _),rfl⟩) n l hn hs
 dsimp only[gv,aA.of];exact B7 _ l n h rfl k
theorem GW{β:Type}(n:Nat)(l:List Int)(f:aD)(hn:l.length<n)(hs:l.length≤4000)(k:fQ.sh.El→Option β):(fQ.S n (l,f)).bind k=k (l.any fun y=> !(decide (0≤y)&&decide (y<(f.aI.length:Int)))):=by
 have h:jF.S n (l,f)=some (idxOf (fun y=> !(decide (0≤y)&&decide (y<(f.aI.length:Int)))) l):=by dsimp only[jF,aA.of];exact B6 _ (fun n y=>⟨_,(jg n y _ _:nD.S n (y,f)=some _),rfl⟩) n l hn hs
 dsimp only[fQ,aA.of];exact B7 _ l n h rfl k
theorem MN{β:Type}(n:Nat)(l:List Int)(v:Int)(hn:l.length<n)(hs:l.length≤4000)(k:ij.sh.El→Option β):
 (ij.S n (l,v)).bind k=k (idxOf (fun x:Int=>v==x) l):=by
 have:ij.S n (l,v)=some (idxOf (fun x:Int=>v==x) l):=by
  show(ig l v).run n=_;simp only[ig,G.run,aK,bK,bP,if_true,if_true];refine EM l (fun x:Int=>v==x) hn (fun i x hx=>?_) ?_ ?_
  ·have hi:=(List.getElem?_eq_some_iff.1 hx).1;have hlt:(i:Int)<l.length:=by omega
   simp only[bg,hx,Option.bind_some,hlt,decide_true,if_true,bR (show i<9223372036854775807 by omega)]
   split<;>rfl
  ·simp;rfl
  ·unfold idxOf;cases l.findIdx? (fun x:Int=>v==x)<;>rfl
 rw[this];rfl
theorem IC{β:Type}(n:Nat)(l:List Int)(v:Int)(hn:l.length<n)(hs:l.length≤4000)(k:de.sh.El→Option β):
 (de.S n (l,v)).bind k=k (l.any (fun x:Int=>v==x)):=by
 have:de.S n (l,v)=some (l.any (fun x:Int=>v==x)):=by
  show(gj l v).run n=_;simp only[gj,G.run,aK,if_true];rw[MN n l v hn hs];simp only[Gs];rfl
 rw[this];rfl
end Go.L
namespace Go.L
open Go.AM
theorem yH{β:Type}(k1 k2:Go.IntKind)(a b:Int)(k:Unit→Option β):(BH k1 k2 a b).run.bind k=if decide (0≤b)=true then k ()else none:=by
 show(if decide (0≤b)=true then some ()else none).bind k=_
 split<;>rfl
def fu(p:aN):Bool:=decide (0≤p.Len)&&decide (p.Len≤32)
def xX(a b:Int):Int:=IntKind.wrap .u32 (((BitVec.ofInt 32 a)&&& (BitVec.ofInt 32 b)).toNat:Int)
def Qq(a b:Int):Int:=IntKind.wrap .u32 (((BitVec.ofInt 32 a)||| (BitVec.ofInt 32 b)).toNat:Int)
def Oh(a b:Int):Int:=IntKind.wrap .u32 (((BitVec.ofInt 32 a) ^^^ (BitVec.ofInt 32 b)).toNat:Int)
def rI(n:Int):Int:=IntKind.wrap .u32 ((4294967295:Int)*((2:Int) ^ (min (Int.toNat (IntKind.wrap .i64 ((32:Int) - n))) (IntKind.bits .u32))))
def xY(n:Int):Int:=IntKind.wrap .u32 ((IntKind.wrap .u32 ((1:Int)*((2:Int) ^ (min (Int.toNat (IntKind.wrap .i64 ((32:Int) - n))) (IntKind.bits .u32))))) - (1:Int))
def EP(n:Int):Int:=IntKind.wrap .u32 (((BitVec.ofInt 32 4294967295) ^^^ (BitVec.ofInt 32 (xY n))).toNat:Int)
theorem Ki{n:Int}(h0:0≤n)(h1:n≤32):EP n=rI n:=by
 have key:((List.range 33).all fun k=>EP (k:Int)==rI (k:Int))=true:=by decide+kernel
 have:=List.all_eq_true.1 key n.toNat (List.mem_range.2 (by omega))
 rw[Int.toNat_of_nonneg h0]at this;simpa using this
def fC(p:aN):Bool:=fu p&&(xX p.IP (rI p.Len)==p.IP)
def dO(p:aN)(ip:Int):Bool:=fu p&&(xX (Oh p.IP ip) (rI p.Len)==0)
def vH(p:aN)(ip:Int):Bool:=dO p ip&&(ip != p.IP&&ip != Qq p.IP (xY p.Len))
section
variable {β:Type} (n:Nat)
theorem ER(p:aN)(k:pG.sh.El→Option β):(pG.S n p).bind k=k (fu p):=by
 have:pG.S n p=some (fu p):=by
  show(xu p).run n=_;simp only[xu,G.run,aK,fu,ge_iff_le];by_cases h:0≤p.Len<;>simp[h]<;>rfl
 rw[this];rfl
theorem wrap32{x:Int}(h0:0≤x)(h1:x≤32):IntKind.wrap .i64 (32 - x)=32 - x:=wrap_i64 (by omega) (by omega)
theorem Gt(x:Int)(h0:0≤x)(h1:x≤32)(k:qZ.sh.El→Option β):(qZ.S n x).bind k=k (rI x):=by
 have:qZ.S n x=some (rI x):=by
  show(za x).run n=_;simp only[za,G.run,aK,yH,rI];rw[if_pos (by rw[wrap32 h0 h1];simp;omega)]
  rfl
 rw[this];rfl
theorem xZ(p:aN)(k:nk.sh.El→Option β):(nk.S n p).bind k=k (fC p):=by
 have:nk.S n p=some (fC p):=by
  show(uJ p).run n=_;have hc:∀{γ:Type} (k:tE.sh.El→Option γ),(tE.S n p).bind k=if fu p=true then k (⟨xX p.IP (rI p.Len),p.Len⟩,0)else k (⟨0,0⟩,2):=by
   intro γ k;have:tE.S n p=some (if fu p=true then(⟨xX p.IP (rI p.Len),p.Len⟩,0)else(⟨0,0⟩,2)):=by
    show(xw p).run n=_;simp only[xw,G.run,aK,ER];by_cases h:fu p=true
    ·simp only[h,Bool.not_true,Bool.false_eq_true,if_false,if_true];simp only[fu,Bool.and_eq_true,decide_eq_true_eq]at h;rw[Gt n p.Len h.1 h.2];rfl
    ·simp[h];rfl
   rw[this];split<;>rfl
  simp only[uJ,G.run,aK,hc,fC];by_cases h:fu p=true<;>simp[h]<;>rfl
 rw[this];rfl
theorem A6(p:aN)(ip:Int)(k:kj.sh.El→Option β):(kj.S n (p,ip)).bind k=k (dO p ip):=by
 have:kj.S n (p,ip)=some (dO p ip):=by
  show(tF p ip).run n=_;simp only[tF,G.run,aK,ER,dO];by_cases h:fu p=true
  ·simp only[h,if_true,Bool.true_and];simp only[fu,Bool.and_eq_true,decide_eq_true_eq]at h;rw[Gt n p.Len h.1 h.2];rfl
  ·simp[h];rfl
 rw[this];rfl
theorem Ca(p:aN)(ip:Int)(hp:fu p=true)(k:nq.sh.El→Option β):(nq.S n (p,ip)).bind k=k (vH p ip):=by
 have:nq.S n (p,ip)=some (vH p ip):=by
  show(uK p ip).run n=_;have h:=hp;simp only[fu,Bool.and_eq_true,decide_eq_true_eq]at h;simp only[uK,G.run,aK,A6,yH];rw[if_pos (by rw[wrap32 h.1 h.2];simp;omega)]
  simp only[vH,if_true];by_cases h1:dO p ip=true
  ·by_cases h2:(ip != p.IP)=true
   ·simp only[h1,h2,if_true,Bool.true_and];rfl
   ·simp only[h1,h2,if_true,Bool.true_and,Bool.false_eq_true,if_false];simp at h2;simp[h2];rfl
  ·simp[h1];rfl
 rw[this];rfl
end
end Go.L
namespace Go.L
open Go.AM
def DF:ByteArray:=⟨⟨[116,101,110,97,110,116,115]⟩⟩
def ID:ByteArray:=⟨⟨[108,101,97,107,115]⟩⟩
def qv(f1 f2:List Bool)(i:Nat)(x:aU):Int:=
 if decide (x.cg<1)=true then 2 else if decide (16777215<x.cg)=true then 2 else if(x.Target==0)=true then 2
 else if f1.getD i false=true then 11 else if f2.getD i false=true then 11 else 0
theorem Lq(n:Nat)(f:aD)(hn:f.aG.length<n):
 iW.S n ⟨f⟩=some (outcome DF 16 (decide (16<(f.aG.length:Int))) (bw (qv (aW (fun x:aU=>x.cg) [] f.aG) (aW (fun x:aU=>x.Target) [] f.aG)) 0 f.aG)):=by
 show(lB ⟨f⟩).run n=_;simp only[lB,G.run,aK,bK,dN,Sum.elim,gt_iff_lt,decide_eq_true_eq];by_cases hfull:(16:Int)<f.aG.length
 ·simp[hfull,outcome];rfl
 ·simp only[hfull,if_false,decide_false];rw[z7 n f.aG hn (by omega)]
  rw[yg n f.aG hn (by omega)]
  simp only[G.run,aK,bK,if_true,bP,jg,gH,dN,Sum.elim];generalize hf1:aW (fun x:aU=>x.cg) [] f.aG=f1
  generalize hf2:aW (fun x:aU=>x.Target) [] f.aG=f2
  refine qu f.aG (qv f1 f2) (fun i e=>Sum.inl (e,DF,(i:Int))) (Sum.inr ()) hn (fun i x hx=>?_) ?_ ?_
  ·have hi:=(List.getElem?_eq_some_iff.1 hx).1;obtain⟨y,hy⟩:∃y,f1[i]? =some y:=⟨_,List.getElem?_eq_getElem (by rw[← hf1,iZ];exact hi)⟩
   obtain⟨z,hz⟩:∃y,f2[i]? =some y:=⟨_,List.getElem?_eq_getElem (by rw[← hf2,iZ];exact hi)⟩
   have hlt:(i:Int)<f.aG.length:=by omega
   simp only[bg,hx,Option.bind_some,hlt,decide_true,if_true,hy,hz,qv,List.getD_eq_getElem?_getD,Option.getD_some,bR (show i<9223372036854775807 by omega)]
   clear hf1 hf2 hy hz hx
   repeat' split
   all_goals first |rfl | (simp_all<;>omega)
  ·simp;rfl
  ·cases bw (qv f1 f2) 0 f.aG with
   |none=>rfl
   |some p=>rfl
def wD(f:aD)(f1:List Bool)(i:Nat)(x:fW):Int:=
 if(!(decide (0≤x.From)&&decide (x.From<(f.aG.length:Int))))=true then 2 else if(!(decide (0≤x.To)&&decide (x.To<(f.aG.length:Int))))=true then 2
 else if(x.From==x.To)=true then 3 else if(!fC x.aN)=true then 3 else if f1.getD i false=true then 11 else 0
theorem Oi(n:Nat)(f:aD)(hn:f.dn.length<n):
 jR.S n ⟨f⟩=some (outcome ID 256 (decide (256<(f.dn.length:Int))) (bw (wD f (aW (fun x:fW=>x) [] f.dn)) 0 f.dn)):=by
 show(mE ⟨f⟩).run n=_;simp only[mE,G.run,aK,bK,dN,Sum.elim,gt_iff_lt,decide_eq_true_eq];by_cases hfull:(256:Int)<f.dn.length
 ·simp[hfull,outcome];rfl
 ·simp only[hfull,if_false,decide_false];rw[CQ n f.dn hn (by omega)]
  simp only[G.run,aK,bK,if_true,bP,jg,gH,dN,Sum.elim,xZ];generalize hf1:aW (fun x:fW=>x) [] f.dn=f1
  refine qu f.dn (wD f f1) (fun i e=>Sum.inl (e,ID,(i:Int))) (Sum.inr ()) hn (fun i x hx=>?_) ?_ ?_
  ·have hi:=(List.getElem?_eq_some_iff.1 hx).1;obtain⟨y,hy⟩:∃y,f1[i]? =some y:=⟨_,List.getElem?_eq_getElem (by rw[← hf1,iZ];exact hi)⟩
   have hlt:(i:Int)<f.dn.length:=by omega
   simp only[bg,hx,Option.bind_some,hlt,decide_true,if_true,hy,wD,List.getD_eq_getElem?_getD,Option.getD_some,bR (show i<9223372036854775807 by omega)]
   clear hf1 hy hx
   repeat' split
   all_goals first |rfl | (simp_all<;>omega)
  ·simp;rfl
  ·cases bw (wD f f1) 0 f.dn with
   |none=>rfl
   |some p=>rfl
end Go.L
namespace Go.L
open Go.AM
def Kj:ByteArray:=⟨⟨[102,97,98,114,105,99]⟩⟩
def Kk:ByteArray:=⟨⟨[116,105,109,101,114,115]⟩⟩
def IE:ByteArray:=⟨⟨[104,111,115,116,115]⟩⟩
def out(x lo hi:Int):Bool:=decide (x<lo)||decide (hi<x)
def dx(f:aD):Bool:=out f.Leaves 1 32||out f.cZ 0 32||decide (32<IntKind.wrap .i64 (f.Leaves+f.cZ))||out f.vm 0 2||out f.oI 0 1||out f.qY 0 1
def dy(t:bT):Bool:=out t.pF 1 100||out t.y9 3 1000||out t.BK 1 10000||out t.oH 0 1000||out t.vl 1 100||out t.Window 1 10000
theorem MO(n:Nat)(f:aD):jq.S n ⟨f⟩=some (if dx f=true then Sum.inr (2,Kj,0)else Sum.inl ()):=by
 show(lG ⟨f⟩).run n=_;simp only[lG,G.run,aK,gH,dN,Sum.elim,if_true];unfold dx;have e:∀x lo hi,(decide (x<lo)||decide (hi<x))=out x lo hi:=fun _ _ _=>rfl
 simp only[e,gt_iff_lt,Bool.or_eq_true];cases out f.Leaves 1 32<;>cases out f.cZ 0 32<;>cases decide (32<IntKind.wrap .i64 (f.Leaves+f.cZ))<;>cases out f.vm 0 2<;>cases out f.oI 0 1<;>cases out f.qY 0 1<;>rfl
theorem MP(n:Nat)(f:aD):jt.S n ⟨f⟩=some (if dy f.bT=true then Sum.inr (2,Kk,0)else Sum.inl ()):=by
 show(lH ⟨f⟩).run n=_;simp only[lH,G.run,aK,gH,dN,Sum.elim,if_true];unfold dy;have e:∀x lo hi,(decide (x<lo)||decide (hi<x))=out x lo hi:=fun _ _ _=>rfl
 simp only[e,gt_iff_lt,Bool.or_eq_true];cases out f.bT.pF 1 100<;>cases out f.bT.y9 3 1000<;>cases out f.bT.BK 1 10000<;>cases out f.bT.oH 0 1000<;>cases out f.bT.vl 1 100<;>cases out f.bT.Window 1 10000<;>rfl
def vn(m:Int):Bool:=decide (m≤281474976710655)&&(IntKind.wrap .u64 (((BitVec.ofInt 64 (Int.fdiv m ((2:Int) ^ (min (Int.toNat (40:Int)) (IntKind.bits .u64)))))&&& (BitVec.ofInt 64 1)).toNat:Int) != 0)
def kB(m:Int):Bool:= !decide (m<2199023255552)&& !decide (m≥2199023255584)
def fA(b:BD)(ip:Int):Bool:=ip==0||(b.aZ != 0&&(ip != b.aZ&&vH b.aJ ip))
section
variable {β:Type} (n:Nat)
theorem FJ(m:Int)(k:nQ.sh.El→Option β):(nQ.S n m).bind k=k (vn m):=by
 have:nQ.S n m=some (vn m):=by
  show(rQ m).run n=_;simp only[rQ,G.run,aK,vn];by_cases h:m≤281474976710655
  ·simp only[h,decide_true,if_true,Bool.true_and];rfl
  ·simp only[h,decide_false,if_false,Bool.false_and,Bool.false_eq_true];rfl
 rw[this];rfl
theorem ES(m:Int)(k:kK.sh.El→Option β):(kK.S n m).bind k=if kB m=true then k (IntKind.wrap .i64 (IntKind.wrap .u64 (m - 2199023255552)),true)else k (0,false):=by
 have:kK.S n m=some (if kB m=true then(IntKind.wrap .i64 (IntKind.wrap .u64 (m - 2199023255552)),true)else(0,false)):=by
  show(qC m).run n=_;simp only[qC,G.run,aK,kB];by_cases h:m<2199023255552
  ·simp[h];rfl
  ·by_cases h2:m≥2199023255584
   ·simp[h,h2];rfl
   ·simp only[h,h2,decide_false,Bool.not_false,Bool.and_self,Bool.false_eq_true,if_false,if_true];rfl
 rw[this];split<;>rfl
theorem DG(b:BD)(ip:Int)(hb:b.aZ≠0→fu b.aJ=true)(k:jX.sh.El→Option β):(jX.S n (b,ip)).bind k=k (fA b ip):=by
 have:jX.S n (b,ip)=some (fA b ip):=by
  show(pI b ip).run n=_;simp only[pI,G.run,aK,fA];cases e1:(ip==0)with
  |true=>simp only[if_true,Bool.true_or];rfl
  |false=>
   cases e2:(b.aZ != 0)with
   |false=>simp only[Bool.false_eq_true,if_false,Bool.false_or,Bool.false_and];rfl
   |true=>
    cases e3:(ip != b.aZ)with
    |false=>simp only[Bool.false_eq_true,if_false,if_true,Bool.false_or,Bool.true_and,Bool.false_and];rfl
    |true=>
     simp only[Bool.false_eq_true,if_false,if_true,Bool.false_or,Bool.true_and];rw[Ca n b.aJ ip (hb (by simpa using e2))];rfl
 rw[this];rfl
end
def zi(f:aD)(b:Int):BD:=(ez f.aI b).getD ⟨0,0,0,⟨0,0⟩,0⟩
def vI(f:aD)(s:Int):List Int:=((ez f.au s).map (·.aI)).getD []
theorem Lr(n:Int)(h:0≤n)(h2:n≤4000):IntKind.wrap .i64 (n - 1)=n - 1:=wrap_i64 (by omega) (by omega)
def wE(f:aD)(f1 f2:List Bool)(i:Nat)(h:Host):Int:=
 if(h.bN==0)=true then 2 else if decide (281474976710655<h.bN)=true then 2 else if vn h.bN=true then 2
 else if(!(decide (0≤h.BD)&&decide (h.BD<(f.aI.length:Int))))=true then 2 else if out h.aH (-1) ((f.au.length:Int) - 1)=true then 2
 else if(h.aH != -1&& !(vI f h.aH).any fun x=>h.BD==x)=true then 8
 else if(h.bN==1577058561)=true then 3 else if kB h.bN=true then 3 else if(!fA (zi f h.BD) h.IP)=true then 3
 else if f1.getD i false=true then 11 else if(h.IP != 0&&f2.getD i false)=true then 11 else 0
theorem Oj(n:Nat)(f:aD)(hn:f.bh.length<n)(hseg:f.au.length≤64)(hsn:∀s∈f.au,s.aI.length<n∧s.aI.length≤4000)(hsub:∀b∈f.aI,b.aZ≠0→fu b.aJ=true):
 jQ.S n ⟨f⟩=some (outcome IE 128 (decide (128<(f.bh.length:Int))) (bw (wE f (aW (fun x:Host=>(⟨x.BD,x.bN⟩:aY)) [] f.bh) (aW (fun x:Host=>(⟨x.BD,IntKind.wrap .u64 x.IP⟩:aY)) [] f.bh)) 0 f.bh)):=by
 show(mD ⟨f⟩).run n=_;simp only[mD,G.run,aK,bK,dN,Sum.elim,gt_iff_lt,decide_eq_true_eq];by_cases hfull:(128:Int)<f.bh.length
 ·simp[hfull,outcome];rfl
 ·simp only[hfull,if_false,decide_false];rw[wB n f.bh hn (by omega)]
  rw[vG n f.bh hn (by omega)]
  simp only[G.run,aK,bK,if_true,bP,jg,gH,dN,Sum.elim,FJ,ES];generalize hf1:aW (fun x:Host=>(⟨x.BD,x.bN⟩:aY)) [] f.bh=f1
  generalize hf2:aW (fun x:Host=>(⟨x.BD,IntKind.wrap .u64 x.IP⟩:aY)) [] f.bh=f2
  refine qu f.bh (wE f f1 f2) (fun i e=>Sum.inl (e,IE,(i:Int))) (Sum.inr ()) hn (fun i x hx=>?_) ?_ ?_
  ·have hi:=(List.getElem?_eq_some_iff.1 hx).1;obtain⟨y,hy⟩:∃y,f1[i]? =some y:=⟨_,List.getElem?_eq_getElem (by rw[← hf1,iZ];exact hi)⟩
   obtain⟨z,hz⟩:∃y,f2[i]? =some y:=⟨_,List.getElem?_eq_getElem (by rw[← hf2,iZ];exact hi)⟩
   have hlt:(i:Int)<f.bh.length:=by omega
   have hw:=Lr (f.au.length:Int) (by omega) (by omega)
   simp only[bg,hx,Option.bind_some,hlt,decide_true,if_true,hy,hz,wE,List.getD_eq_getElem?_getD,Option.getD_some,bR (show i<9223372036854775807 by omega),hw]
   clear hf1 hf2 hy hz hx;cases(x.bN==0)
   case true=>rfl
   by_cases hm:(281474976710655:Int)<x.bN
   ·simp only[hm,if_true,decide_true,Bool.false_eq_true,if_false];rfl
   simp only[hm,if_false,decide_false,Bool.false_eq_true];cases vn x.bN
   case true=>rfl
   cases hbd:(decide (0≤x.BD)&&decide (x.BD<(f.aI.length:Int)))
   case false=>rfl
   have e:(decide (x.aH< -1)||decide ((f.au.length:Int) - 1<x.aH))=out x.aH (-1) ((f.au.length:Int) - 1):=rfl;simp only[e];cases hsg:out x.aH (-1) ((f.au.length:Int) - 1)
   case true=>rfl
   obtain⟨b,hb⟩:∃b,ez f.aI x.BD=some b:=by
    simp only[Bool.and_eq_true,decide_eq_true_eq]at hbd;exact⟨_,by unfold ez;rw[if_pos hbd.1];exact List.getElem?_eq_getElem (by omega)⟩
   have hbm:b∈f.aI:=by
    unfold ez at hb;split at hb
    ·exact List.mem_of_getElem? hb
    ·cases hb
   have hbd2:zi f x.BD=b:=by simp[zi,hb]
   simp only[Bool.not_true,Bool.false_eq_true,if_false,hb,hbd2,Option.bind_some,DG n b x.IP (hsub b hbm)];cases hs1:(x.aH != -1)
   ·simp only[Bool.false_and,Bool.false_eq_true,if_false];cases(x.bN==1577058561)<;>cases kB x.bN<;>cases fA b x.IP<;>cases y<;>cases(x.IP != 0)<;>cases z<;>rfl
   ·obtain⟨s,hs⟩:∃s,ez f.au x.aH=some s:=by
     simp only[out,Bool.or_eq_false_iff,decide_eq_false_iff_not]at hsg;have:x.aH≠ -1:=by simpa using hs1
     exact⟨_,by unfold ez;rw[if_pos (by omega)];exact List.getElem?_eq_getElem (by omega)⟩
    have hsm:s∈f.au:=by
     unfold ez at hs;split at hs
     ·exact List.mem_of_getElem? hs
     ·cases hs
    have hsb:vI f x.aH=s.aI:=by simp[vI,hs]
    simp only[if_true,hs,Option.bind_some,hsb,Bool.true_and,IC n s.aI x.BD (hsn s hsm).1 (hsn s hsm).2];cases(s.aI.any fun y=>x.BD==y)<;>cases(x.bN==1577058561)<;>cases kB x.bN<;>cases fA b x.IP<;>cases y<;>cases(x.IP != 0)<;>cases z<;>rfl
  ·simp;rfl
  ·cases bw (wE f f1 f2) 0 f.bh with
   |none=>rfl
   |some p=>rfl
end Go.L
namespace Go.L
open Go.AM
def tZ(t ip len:Int)(x:BD):Bool:=x.aU==t&&(x.aZ != 0&&(dO x.aJ ip||dO ⟨ip,len⟩ x.aJ.IP))
theorem Qr(n:Nat)(x:BD)(x2 x3 x4 x5 x6 x7:Int):oh.S n (x,x2,x3,x4,x5,x6,x7)=some (tZ x2 x5 x6 x):=by
 show(kF x x2 x3 x4 x5 x6 x7).run n=_;simp only[kF,G.run,aK,A6,tZ,if_true];cases(x.aU==x2)<;>cases(x.aZ != 0)<;>cases dO x.aJ x5<;>cases dO ⟨x5,x6⟩ x.aJ.IP<;>rfl
theorem GX{β:Type}(n:Nat)(l:List BD)(x2 x3 x4 x5 x6 x7:Int)(hn:l.length<n)(hs:l.length≤4000)(k:gU.sh.El→Option β):(gU.S n (l,x2,x3,x4,x5,x6,x7)).bind k=k (l.any (tZ x2 x5 x6)):=by
 have h:lC.S n (l,x2,x3,x4,x5,x6,x7)=some (idxOf (tZ x2 x5 x6) l):=by dsimp only[lC,aA.of];exact B6 _ (fun n y=>⟨_,Qr n y x2 x3 x4 x5 x6 x7,rfl⟩) n l hn hs
 dsimp only[gU,aA.of];exact B7 _ l n h rfl k
theorem MQ{X β:Type}(l:List X)(e:X→List AVal)(m:Nat)(i:Nat)(hi:i≤l.length)(k:Nat×Nat→Option β):(NY l e m none (some (i:Int))).run.bind k=k (0,i):=by
 have:(NY l e m none (some (i:Int))).run=some (0,i):=by
  show((xb l.length l.length (some (i:Int))).bind fun h=>(xb 0 h none).map fun k=>(k,h))=_
  simp only[xb];rw[if_pos (by omega)];simp
 rw[this];rfl
def DH:ByteArray:=⟨⟨[100,111,109,97,105,110,115]⟩⟩
def ya(f:aD)(f1 f2:List Bool)(i:Nat)(b:BD):Int:=
 if(!(decide (0≤b.aU)&&decide (b.aU<(f.aG.length:Int))))=true then 2 else if decide (b.cg<1)=true then 2 else if decide (16777215<b.cg)=true then 2 else if(b.Target==0)=true then 2
 else if f1.getD i false=true then 11 else if f2.getD i false=true then 11 else if(f.aG.any fun x=>x.cg==b.cg)=true then 11 else if(f.aG.any fun x=>x.Target==b.Target)=true then 11
 else if(b.aZ==0)=true then(if(!(b.aJ.IP==0&&(b.aJ.Len==0&&true)))=true then 3 else 0)
 else if(!fC b.aJ)=true then 3 else if out b.aJ.Len 8 30=true then 3 else if(!vH b.aJ b.aZ)=true then 3
 else if((f.aI.take i).any (tZ b.aU b.aJ.IP b.aJ.Len))=true then 11 else 0
theorem Ls(n:Nat)(f:aD)(hn:f.aI.length<n)(hnt:f.aG.length<n)(ht:f.aG.length≤4000):
 iX.S n ⟨f⟩=some (outcome DH 32 (decide (32<(f.aI.length:Int))) (bw (ya f (aW (fun x:BD=>x.cg) [] f.aI) (aW (fun x:BD=>x.Target) [] f.aI)) 0 f.aI)):=by
 show(lD ⟨f⟩).run n=_;simp only[lD,G.run,aK,bK,dN,Sum.elim,gt_iff_lt,decide_eq_true_eq];by_cases hfull:(32:Int)<f.aI.length
 ·simp[hfull,outcome];rfl
 ·simp only[hfull,if_false,decide_false];rw[CP n f.aI hn (by omega)]
  rw[Bd n f.aI hn (by omega)]
  simp only[G.run,aK,bK,if_true,bP,jg,gH,dN,Sum.elim,xZ];generalize hf1:aW (fun x:BD=>x.cg) [] f.aI=f1
  generalize hf2:aW (fun x:BD=>x.Target) [] f.aI=f2
  refine qu f.aI (ya f f1 f2) (fun i e=>Sum.inl (e,DH,(i:Int))) (Sum.inr ()) hn (fun i x hx=>?_) ?_ ?_
  ·have hi:=(List.getElem?_eq_some_iff.1 hx).1;obtain⟨y,hy⟩:∃y,f1[i]? =some y:=⟨_,List.getElem?_eq_getElem (by rw[← hf1,iZ];exact hi)⟩
   obtain⟨z,hz⟩:∃y,f2[i]? =some y:=⟨_,List.getElem?_eq_getElem (by rw[← hf2,iZ];exact hi)⟩
   have hlt:(i:Int)<f.aI.length:=by omega
   simp only[bg,hx,Option.bind_some,hlt,decide_true,if_true,hy,hz,ya,List.getD_eq_getElem?_getD,Option.getD_some,bR (show i<9223372036854775807 by omega)]
   clear hf1 hf2 hy hz hx;rw[Lp n f.aG x.cg hnt ht];rw[GV n f.aG x.Target hnt ht];simp only[G.run,aK,bK,if_true,dN,Sum.elim,xZ,gH,Bool.false_eq_true,if_false];cases(decide (0≤x.aU)&&decide (x.aU<(f.aG.length:Int)))
   case false=>rfl
   by_cases h1:x.cg<1
   ·simp only[h1,if_true,decide_true];rfl
   by_cases h2:(16777215:Int)<x.cg
   ·simp only[h1,h2,if_true,decide_true,if_false,decide_false,Bool.false_eq_true];rfl
   simp only[h1,h2,if_false,decide_false,Bool.false_eq_true];cases(x.Target==0)
   case true=>rfl
   cases y
   case true=>rfl
   cases z
   case true=>rfl
   cases(f.aG.any fun y=>y.cg==x.cg)
   case true=>rfl
   cases(f.aG.any fun y=>y.Target==x.Target)
   case true=>rfl
   cases(x.aZ==0)
   case true=>cases(x.aJ.IP==0&&(x.aJ.Len==0&&true))<;>rfl
   cases hc:fC x.aJ
   case false=>rfl
   have hok:fu x.aJ=true:=by
    simp only[fC,Bool.and_eq_true]at hc;exact hc.1
   simp only[Ca n x.aJ x.aZ hok,MQ f.aI eu 6 i (by omega),List.drop_zero]
   rw[GX n (f.aI.take i) x.aU x.cg x.Target x.aJ.IP x.aJ.Len x.aZ (by simp;omega) (by simp;omega)]
   have e:(decide (x.aJ.Len<8)||decide (30<x.aJ.Len))=out x.aJ.Len 8 30:=rfl;simp only[e];cases out x.aJ.Len 8 30<;>cases vH x.aJ x.aZ<;>cases(f.aI.take i).any (tZ x.aU x.aJ.IP x.aJ.Len)<;>rfl
  ·simp;rfl
  ·cases bw (ya f f1 f2) 0 f.aI with
   |none=>rfl
   |some p=>rfl
end Go.L
namespace Go.L
open Go.AM
def sr(l:List Int):Bool:=(l.zip l.tail).all fun p=>decide (p.1<p.2)
theorem Rx(l:List (Int×Int))(j:Nat):(match bw (fun _ (p:Int×Int)=>if p.2≤p.1 then 1 else 0) j l with |none=>some true |some (_,_)=>some false)=some (l.all fun p=>decide (p.1<p.2)):=by
 induction l generalizing j with
 |nil=>rfl
 |cons p ps ih=>
  simp only[bw,List.all_cons];by_cases h:p.2≤p.1
  ·have:¬p.1<p.2:=by omega
   simp[h,this]
  ·have:p.1<p.2:=by omega
   simp only[h,if_false,ne_eq,not_true_eq_false,this,decide_true,Bool.true_and];exact ih (j+1)
theorem sv{β:Type}(n:Nat)(l:List Int)(hn:l.length<n)(hs:l.length≤4000)(k:iJ.sh.El→Option β):(iJ.S n l).bind k=k (sr l):=by
 have:iJ.S n l=some (sr l):=by
  show(pH l).run n=_;simp only[pH,G.run,aK,bK,bP,if_true];have hzl:(l.zip l.tail).length=l.length - 1:=by simp
  refine Eq.trans (zh (fun i=>((i:Int)+1)) (l.zip l.tail) (fun _ (p:Int×Int)=>if p.2≤p.1 then 1 else 0) (fun _ _=>some false) (some true) (by omega) (fun i x hx hp hE=>?_) (fun i x hx hp hE=>?_) (fun hp=>?_)) (Rx (l.zip l.tail) 0)
  ·have hi:=(List.getElem?_eq_some_iff.1 hx).1;rw[hzl]at hi;have h1:l[i]? =some x.1:=by
    rw[List.getElem?_zip_eq_some]at hx;exact hx.1
   have h2:l[i+1]? =some x.2:=by
    rw[List.getElem?_zip_eq_some]at hx;simpa using hx.2
   have hle:x.2≤x.1:=by
    by_cases h:x.2≤x.1
    ·exact h
    ·simp[h]at hE
   have hlt:(i:Int)+1<l.length:=by omega
   have e1:ez l ((i:Int)+1)=some x.2:=by rw[show(i:Int)+1=((i+1:Nat):Int)by omega,bg,h2]
   have e2:ez l (IntKind.wrap .i64 ((i:Int)+1 - 1))=some x.1:=by
    rw[wrap_i64 (by omega) (by omega),show(i:Int)+1 - 1=(i:Int)by omega,bg,h1]
   refine⟨.inl (),?_,rfl⟩;simp only[hlt,decide_true,if_true,e1,e2,Option.bind_some,hle]
  ·have hi:=(List.getElem?_eq_some_iff.1 hx).1;rw[hzl]at hi;have h1:l[i]? =some x.1:=by
    rw[List.getElem?_zip_eq_some]at hx;exact hx.1
   have h2:l[i+1]? =some x.2:=by
    rw[List.getElem?_zip_eq_some]at hx;simpa using hx.2
   have hle:¬x.2≤x.1:=by
    intro h;simp[h]at hE
   have hlt:(i:Int)+1<l.length:=by omega
   have e1:ez l ((i:Int)+1)=some x.2:=by rw[show(i:Int)+1=((i+1:Nat):Int)by omega,bg,h2]
   have e2:ez l (IntKind.wrap .i64 ((i:Int)+1 - 1))=some x.1:=by
    rw[wrap_i64 (by omega) (by omega),show(i:Int)+1 - 1=(i:Int)by omega,bg,h1]
   have e3:IntKind.wrap .i64 ((i:Int)+1+1)=((i+1:Nat):Int)+1:=by rw[wrap_i64 (by omega) (by omega)];omega
   simp only[hlt,decide_true,if_true,e1,e2,e3,Option.bind_some,hle,decide_false,Bool.false_eq_true,if_false]
  ·refine⟨.inr (),?_,rfl⟩;have hlt:¬((((l.zip l.tail).length:Nat):Int)+1<l.length):=by rw[hzl];omega
   simp only[hlt,decide_false,Bool.false_eq_true,if_false]
 rw[this];rfl
def gW(p:List Int):List Int→List Int
 | []=>p
 |x::xs=>gW (p.set x.toNat (p[x.toNat]?.getD 0+1)) xs
theorem Gu:∀(l p:List Int),(gW p l).length=p.length
 | [],_=>rfl
 |x::xs,p=>by simp[gW,Gu xs]
theorem ET:∀(l p:List Int) (x:Int),gW p (l++[x])=(gW p l).set x.toNat ((gW p l)[x.toNat]?.getD 0+1)
 | [],_,_=>rfl
 |y::l,p,x=>by simp only[List.cons_append,gW];exact ET l _ x
theorem Cb:∀(l p:List Int) (m:Nat),(∀x∈l,0≤x)→l.Nodup→(gW p l)[m]? =(p[m]?).map fun v=>if(m:Int)∈l then v+1 else v
 | [],p,m,_,_=>by simp[gW]
 |x::xs,p,m,h0,hd=>by
  have hx:=h0 x (by simp)
  have hd':=List.nodup_cons.1 hd;simp only[gW];rw[Cb xs _ m (fun y hy=>h0 y (by simp[hy])) hd'.2]
  by_cases hm:m=x.toNat
  ·subst hm;have e:((x.toNat:Nat):Int)=x:=by omega
   rw[e];by_cases hp:x.toNat<p.length
   ·rw[List.getElem?_set_self hp,List.getElem?_eq_getElem hp];simp[hd'.1]
   ·rw[List.getElem?_eq_none (by simp;omega),List.getElem?_eq_none (by omega)];rfl
  ·rw[List.getElem?_set_ne (Ne.symm hm)];have:¬(m:Int)=x:=by omega
   simp[this]
def jd(l:List aH):List Int:=(List.range 32).map fun m=>((l.countP fun s=>s.Leaves.contains (m:Int):Nat):Int)
theorem Jy:jd []=List.replicate 32 0:=by decide
theorem vo(l:List aH){m:Nat}(h:m<32):(jd l)[m]? =some ((l.countP fun s=>s.Leaves.contains (m:Int):Nat):Int):=by
 simp[jd,h]
theorem zj(l:List aH):(jd l).length=32:=by simp[jd]
theorem IF(l:List aH)(s:aH)(h0:∀x∈s.Leaves,0≤x)(hd:s.Leaves.Nodup):gW (jd l) s.Leaves=jd (l++[s]):=by
 apply List.ext_getElem?;intro m;rw[Cb _ _ m h0 hd];by_cases h:m<32
 ·rw[vo _ h,vo _ h];simp only[Option.map_some,List.countP_append,List.countP_cons,List.countP_nil,Nat.zero_add,List.contains_iff_mem];split<;>simp_all
 ·rw[List.getElem?_eq_none (by rw[zj];omega),List.getElem?_eq_none (by rw[zj];omega)];rfl
theorem Lt:∀(l:List Int),sr l=true→l.Nodup∧∀(i j:Nat) x y,i<j→l[i]? =some x→l[j]? =some y→x<y:=by
 intro l h;have hadj:∀(i:Nat) x y,l[i]? =some x→l[i+1]? =some y→x<y:=by
  intro i x y hx hy;simp only[sr,List.all_eq_true,decide_eq_true_eq]at h;exact h (x,y) (List.mem_of_getElem? (i:=i) (by rw[List.getElem?_zip_eq_some];exact⟨hx,by simpa using hy⟩))
 have hlt:∀(d i:Nat) x y,l[i]? =some x→l[i+d+1]? =some y→x<y:=by
  intro d;induction d with
  |zero=>intro i x y hx hy;exact hadj i x y hx (by simpa using hy)
  |succ d ih=>
   intro i x y hx hy;have hlt:=(List.getElem?_eq_some_iff.1 hy).1;have h1:=hadj i x l[i+1] hx (List.getElem?_eq_getElem (by omega))
   have h2:=ih (i+1) l[i+1] y (List.getElem?_eq_getElem (by omega)) (by rw[← hy];congr 1;omega)
   omega
 have hall:∀(i j:Nat) x y,i<j→l[i]? =some x→l[j]? =some y→x<y:=by
  intro i j x y hij hx hy;exact hlt (j - i - 1) i x y hx (by rw[← hy];congr 1;omega)
 refine⟨?_,hall⟩;rw[List.nodup_iff_pairwise_ne,List.pairwise_iff_getElem];intro i j hi hj hij he;have:=hall i j l[i] l[j] hij (List.getElem?_eq_getElem hi) (List.getElem?_eq_getElem hj);omega
end Go.L
namespace Go.L
open Go.AM
theorem Gv{β:Type}(b aj j o n s:Nat)(i:Int)(k:Unit→Option β):(K4 b aj j o n s i).run.bind k=if 0≤i∧i<n then k ()else none:=by
 show(if 0≤i∧i<n then some ()else none).bind k=_
 split<;>rfl
theorem IG{X β:Type}(l:List X)(c:X→AVal)(b aj sz o:Nat)(k:X→Option β):(Qg l c b aj sz o).run.bind k=(l[o]?).bind k:=rfl
theorem II{X β:Type}(l:List X)(c:X→AVal)(b aj sz o:Nat)(y:X)(k:Unit→Option β):(BI l c b aj sz o y).run.bind k=if o<l.length then k ()else none:=by
 show(if o<l.length then some ()else none).bind k=_
 split<;>rfl
def jZ:ByteArray:=⟨⟨[115,101,103,109,101,110,116,115]⟩⟩
def AQ(f:aD)(i:Nat)(x:aH):Int:=
 if((x.Leaves.length:Int)==0)=true then 3 else if((x.aI.length:Int)==0)=true then 3
 else if(x.Leaves.any fun n=> !(decide (0≤n)&&decide (n<f.Leaves)))=true then 2 else if(x.aI.any fun n=> !(decide (0≤n)&&decide (n<(f.aI.length:Int))))=true then 2
 else if(!sr x.Leaves)=true then 10 else if(!sr x.aI)=true then 10
 else if(x.Leaves.any fun n=>decide (32<(((f.au.take i).countP fun s=>s.Leaves.contains n:Nat):Int)+1))=true then 7 else 0
theorem yb{α τ γ ST:Type}{f:ST→Option (ST⊕τ)}{s0:ST}(mk:Nat→ST)(l:List α)(E:Nat→α→Int){k:τ→Option γ}(bad:Nat→Int→Option γ)(fin:Option γ){n:Nat}(h0:s0=mk 0)(hn:l.length<n)
 (hb:∀(i:Nat) x,l[i]? =some x→(∀(j:Nat) y,j<i→l[j]? =some y→E j y=0)→E i x≠0→∃t,f (mk i)=some (.inr t)∧k t=bad i (E i x))
 (hg:∀(i:Nat) x,l[i]? =some x→(∀(j:Nat) y,j<i→l[j]? =some y→E j y=0)→E i x=0→f (mk i)=some (.inl (mk (i+1))))
 (he:(∀(j:Nat) y,l[j]? =some y→E j y=0)→∃t,f (mk l.length)=some (.inr t)∧k t=fin):
 (bI f n s0).bind k=(match bw E 0 l with |none=>fin |some (e,i)=>bad i e):=by
 subst h0;exact zh mk l E bad fin hn hb hg he
theorem MR{γ:Type}{n:Nat}(L ports:List Int)(i:Int)(hn:L.length<n)(hp:ports.length=32)(h0:∀x∈L,0≤x∧x<32)(hd:L.Nodup)(hs:L.length≤4000)(hv:∀v∈ports,0≤v∧v≤1000)
 {k:(List Int×Int×ByteArray×Int)⊕List Int→Option γ} {bad fin:Option γ} (hbad:∀p,k (.inl (p,7,jZ,i))=bad) (hfin:k (.inr (gW ports L))=fin)
 {f:Int×List Int→Option ((Int×List Int)⊕((List Int×Int×ByteArray×Int)⊕List Int))}
 (hf:∀a,f a=if decide (a.1<(L.length:Int))=true then(ez L a.1).bind fun x=>if 0≤x∧x<(32:Nat)then(a.2[0+x.toNat*1]?).bind fun v=>if 0≤x∧x<(32:Nat)then if 0+x.toNat*1<a.2.length then if 0≤x∧x<(32:Nat)then((a.2.set (0+x.toNat*1) (IntKind.wrap .i64 (v+1)))[0+x.toNat*1]?).bind fun w=>
  if decide (32<w)=true then some (.inr (.inl (a.2.set (0+x.toNat*1) (IntKind.wrap .i64 (v+1)),7,jZ,i)))else some (.inl (IntKind.wrap .i64 (a.1+1),a.2.set (0+x.toNat*1) (IntKind.wrap .i64 (v+1))))else none else none else none else none
  else some (.inr (.inr a.2))):
 (bI f n (0,ports)).bind k=if(L.any fun x=>decide (32<ports[x.toNat]?.getD 0+1))=true then bad else fin:=by
 have step:∀(j:Nat) x,L[j]? =some x→∃v,ports[x.toNat]? =some v∧f ((j:Int),gW ports (L.take j))=if decide (32<v+1)=true then some (.inr (.inl (gW ports (L.take (j+1)),7,jZ,i)))else some (.inl (((j+1:Nat):Int),gW ports (L.take (j+1)))):=by
  intro j x hx;have hj:=(List.getElem?_eq_some_iff.1 hx).1;have hx0:=h0 x (List.mem_of_getElem? hx);have hlt:x.toNat<ports.length:=by omega
  refine⟨ports[x.toNat],List.getElem?_eq_getElem hlt,?_⟩;have hvv:=hv ports[x.toNat] (List.getElem_mem hlt);have htake:L.take (j+1)=L.take j++[x]:=by rw[List.take_add_one,hx];rfl
  have hnot:¬((x.toNat:Nat):Int)∈L.take j:=by
   intro hm;rw[show((x.toNat:Nat):Int)=x by omega]at hm
   obtain⟨q,hq⟩:=List.getElem?_of_mem hm;have hq2:=(List.getElem?_eq_some_iff.1 hq).1;simp only[List.length_take]at hq2;rw[List.getElem?_take,if_pos (by omega)]at hq
   have:=List.nodup_iff_pairwise_ne.1 hd;rw[List.pairwise_iff_getElem]at this;have hne:=this q j (by omega) hj (by omega)
   rw[List.getElem?_eq_getElem (by omega)]at hq hx
   simp only[Option.some.injEq]at hq hx;exact hne (hq.trans hx.symm)
  have hB:(gW ports (L.take j))[x.toNat]? =some ports[x.toNat]:=by
   rw[Cb _ _ _ (fun y hy=>(h0 y (List.mem_of_mem_take hy)).1) (hd.sublist (List.take_sublist _ _)),List.getElem?_eq_getElem hlt]
   simp only[Option.map_some,if_neg hnot]
  have hBl:(gW ports (L.take j)).length=32:=by rw[Gu,hp]
  have hset:(gW ports (L.take j)).set x.toNat (ports[x.toNat]+1)=gW ports (L.take (j+1)):=by
   rw[htake,ET,hB];rfl
  have hw:IntKind.wrap .i64 (ports[x.toNat]+1)=ports[x.toNat]+1:=wrap_i64 (by omega) (by omega)
  rw[hf];have hlt2:(j:Int)<(L.length:Int):=by omega
  have hx1:(0:Int)≤x∧x<((32:Nat):Int):=by omega
  simp only[hlt2,decide_true,if_true,bg,hx,Option.bind_some,hx1,and_self,Nat.zero_add,Nat.mul_one,hB,hw,hset];rw[if_pos (by rw[hBl];omega)]
  have hget:(gW ports (L.take (j+1)))[x.toNat]? =some (ports[x.toNat]+1):=by
   rw[← hset,List.getElem?_set_self (by rw[hBl];omega)]
  simp only[hget,Option.bind_some,bR (show j<9223372036854775807 by omega)]
 have main:=zh (f:=f) (fun j=>((j:Int),gW ports (L.take j))) L (fun _ x=>if 32<ports[x.toNat]?.getD 0+1 then 7 else 0) (k:=k) (fun _ _=>bad) fin hn ?_ ?_ ?_
 ·have e:(match bw (fun _ x=>if 32<ports[x.toNat]?.getD 0+1 then(7:Int)else 0) 0 L with |none=>fin |some (_,_)=>bad)=if(L.any fun x=>decide (32<ports[x.toNat]?.getD 0+1))=true then bad else fin:=by
   have key:∀(L:List Int) (j:Nat),(match bw (fun _ x=>if 32<ports[x.toNat]?.getD 0+1 then(7:Int)else 0) j L with |none=>fin |some (_,_)=>bad)=if(L.any fun x=>decide (32<ports[x.toNat]?.getD 0+1))=true then bad else fin:=by
    intro L;induction L with
    |nil=>intro j;rfl
    |cons x xs ih=>
     intro j;simp only[bw,List.any_cons];by_cases h:32<ports[x.toNat]?.getD 0+1
     ·simp[h]
     ·simp only[h,if_false,ne_eq,not_true_eq_false,decide_false,Bool.false_or];exact ih (j+1)
   exact key L 0
  rw[← e];exact main
 ·intro j x hx _ hE;obtain⟨v,h1,h2⟩:=step j x hx;have:32<v+1:=by
   rw[h1]at hE;simp only[Option.getD_some]at hE;by_cases h:32<v+1
   ·exact h
   ·simp[h]at hE
  refine⟨_,by rw[h2];simp only[this,decide_true,if_true];rfl,hbad _⟩
 ·intro j x hx _ hE;obtain⟨v,h1,h2⟩:=step j x hx;have:¬32<v+1:=by
   rw[h1]at hE;simp only[Option.getD_some]at hE;intro h;simp[h]at hE
  rw[h2];simp only[this,decide_false,Bool.false_eq_true,if_false]
 ·intro _;refine⟨.inr (gW ports L),?_,hfin⟩;rw[hf];simp
theorem IJ{n:Nat}(L ports:List Int)(i:Int)(hn:L.length<n)(hp:ports.length=32)(h0:∀x∈L,0≤x∧x<32)(hd:L.Nodup)(hs:L.length≤4000)(hv:∀v∈ports,0≤v∧v≤1000)
 {f:Int×List Int→Option ((Int×List Int)⊕((List Int×Int×ByteArray×Int)⊕List Int))}
 (hf:∀a,f a=if decide (a.1<(L.length:Int))=true then(ez L a.1).bind fun x=>if 0≤x∧x<(32:Nat)then(a.2[0+x.toNat*1]?).bind fun v=>if 0≤x∧x<(32:Nat)then if 0+x.toNat*1<a.2.length then if 0≤x∧x<(32:Nat)then((a.2.set (0+x.toNat*1) (IntKind.wrap .i64 (v+1)))[0+x.toNat*1]?).bind fun w=>
  if decide (32<w)=true then some (.inr (.inl (a.2.set (0+x.toNat*1) (IntKind.wrap .i64 (v+1)),7,jZ,i)))else some (.inl (IntKind.wrap .i64 (a.1+1),a.2.set (0+x.toNat*1) (IntKind.wrap .i64 (v+1))))else none else none else none else none
  else some (.inr (.inr a.2))):
 ∃p,bI f n (0,ports)=some (if(L.any fun x=>decide (32<ports[x.toNat]?.getD 0+1))=true then .inl (p,7,jZ,i)else .inr (gW ports L)):=by
 have main:=MR L ports i hn hp h0 hd hs hv (k:=fun t=>some (match t with | .inl q=>(Sum.inl q.2:(Int×ByteArray×Int)⊕List Int) | .inr q=>.inr q)) (bad:=some (.inl (7,jZ,i))) (fin:=some (.inr (gW ports L))) (fun p=>rfl) rfl hf
 cases hany:(L.any fun x=>decide (32<ports[x.toNat]?.getD 0+1))with
 |true=>
  rw[hany]at main;cases hit:bI f n (0,ports)with
  |none=>rw[hit]at main;simp at main
  |some t=>
   rw[hit]at main;cases t with
   |inl q=>
    obtain⟨p,q⟩:=q;refine⟨p,?_⟩;simp at main;rw[main];rfl
   |inr q=>simp at main
 |false=>
  rw[hany]at main;cases hit:bI f n (0,ports)with
  |none=>rw[hit]at main;simp at main
  |some t=>
   rw[hit]at main;cases t with
   |inl q=>simp at main
   |inr q=>
    refine⟨[],?_⟩;simp at main;rw[main];rfl
theorem IK{n:Nat}{γ ST τ:Type}(L ports:List Int)(i:Int)(hn:L.length<n)(hp:ports.length=32)(h0:∀x∈L,0≤x∧x<32)(hd:L.Nodup)(hs:L.length≤4000)(hv:∀v∈ports,0≤v∧v≤1000)
 {f:Int×List Int→Option ((Int×List Int)⊕((List Int×Int×ByteArray×Int)⊕List Int))}
 (hf:∀a,f a=if decide (a.1<(L.length:Int))=true then(ez L a.1).bind fun x=>if 0≤x∧x<(32:Nat)then(a.2[0+x.toNat*1]?).bind fun v=>if 0≤x∧x<(32:Nat)then if 0+x.toNat*1<a.2.length then if 0≤x∧x<(32:Nat)then((a.2.set (0+x.toNat*1) (IntKind.wrap .i64 (v+1)))[0+x.toNat*1]?).bind fun w=>
  if decide (32<w)=true then some (.inr (.inl (a.2.set (0+x.toNat*1) (IntKind.wrap .i64 (v+1)),7,jZ,i)))else some (.inl (IntKind.wrap .i64 (a.1+1),a.2.set (0+x.toNat*1) (IntKind.wrap .i64 (v+1))))else none else none else none else none
  else some (.inr (.inr a.2))) {k:(List Int×Int×ByteArray×Int)⊕List Int→Option (ST⊕τ)} {A:ST} {kk:τ→Option γ} {B:Option γ} {Ev:Int}
 (hEv:Ev=if(L.any fun x=>decide (32<ports[x.toNat]?.getD 0+1))=true then 7 else 0) (hk1:Ev=7→∀p,∃t,k (.inl (p,7,jZ,i))=some (.inr t)∧kk t=B) (hk2:k (.inr (gW ports L))=some (.inl A)):
 (Ev=0∧(bI f n (0,ports)).bind k=some (.inl A))∨(Ev≠0∧∃t,(bI f n (0,ports)).bind k=some (.inr t)∧kk t=B):=by
 obtain⟨p,hit⟩:=IJ L ports i hn hp h0 hd hs hv hf;rw[hit];cases hany:(L.any fun x=>decide (32<ports[x.toNat]?.getD 0+1))with
 |true=>
  rw[hany]at hEv;right;refine⟨by rw[hEv];decide,?_⟩
  simp only[if_true,Option.bind_some];exact hk1 (by rw[hEv];rfl) p
 |false=>
  rw[hany]at hEv;left;refine⟨by rw[hEv];rfl,?_⟩
  simp only[Bool.false_eq_true,if_false,Option.bind_some];exact hk2
theorem Jz{α τ γ ST:Type}{f:ST→Option (ST⊕τ)}{s0:ST}(mk:Nat→ST)(l:List α)(E:Nat→α→Int){k:τ→Option γ}(bad:Nat→Int→Option γ)(fin:Option γ){n:Nat}(h0:s0=mk 0)(hn:l.length<n)
 (hr:∀(i:Nat) x,l[i]? =some x→(∀(j:Nat) y,j<i→l[j]? =some y→E j y=0)→(E i x=0∧f (mk i)=some (.inl (mk (i+1))))∨(E i x≠0∧∃t,f (mk i)=some (.inr t)∧k t=bad i (E i x)))
 (he:(∀(j:Nat) y,l[j]? =some y→E j y=0)→∃t,f (mk l.length)=some (.inr t)∧k t=fin):
 (bI f n s0).bind k=(match bw E 0 l with |none=>fin |some (e,i)=>bad i e):=by
 refine yb mk l E bad fin h0 hn (fun i x hx hp hE=>?_) (fun i x hx hp hE=>?_) he
 ·rcases hr i x hx hp with⟨h,_⟩ |⟨_,h⟩
  ·exact absurd h hE
  ·exact h
 ·rcases hr i x hx hp with⟨_,h⟩ |⟨h,_⟩
  ·exact h
  ·exact absurd hE h
theorem JA(n:Nat)(f:aD)(hn:f.au.length<n)(hL:f.Leaves≤32)(hB:f.aI.length≤4000)(hsn:∀s∈f.au,(s.aI.length<n∧s.aI.length≤4000)∧s.Leaves.length<n∧s.Leaves.length≤4000):
 iL.S n ⟨f⟩=some (outcome jZ 64 (decide (64<(f.au.length:Int))) (bw (AQ f) 0 f.au)):=by
 show(kS ⟨f⟩).run n=_;simp only[kS,G.run,aK,bK,dN,Sum.elim,gt_iff_lt,decide_eq_true_eq];by_cases hfull:(64:Int)<f.au.length
 ·simp[hfull,outcome];rfl
 ·simp only[hfull,if_false,decide_false];simp only[G.run,aK,bK,if_true,bP,jg,gH,dN,Sum.elim,Gv,IG,II];refine Eq.trans (Jz (fun i=>((i:Int),jd (f.au.take i))) f.au (AQ f) (fun i e=>some (.inr (e,jZ,(i:Int)))) (some (.inl ())) (by simp[Jy]) hn (fun i x hx hp=>?_) (fun hp=>?_)) ?_
  ·have hi:=(List.getElem?_eq_some_iff.1 hx).1;have hxm:=List.mem_of_getElem? hx;have hlt:(i:Int)<f.au.length:=by omega
   simp only[hlt,if_true,bg,hx,Option.bind_some];rw[EO n x.Leaves f (hsn x hxm).2.1 (hsn x hxm).2.2];rw[GW n x.aI f (hsn x hxm).1.1 (hsn x hxm).1.2];simp only[G.run,aK,bK,if_true,dN,Sum.elim];rw[sv n x.Leaves (hsn x hxm).2.1 (hsn x hxm).2.2,sv n x.aI (hsn x hxm).1.1 (hsn x hxm).1.2];simp only[G.run,aK,bK,if_true,dN,Sum.elim,bP,Gv,IG,II,gt_iff_lt];unfold AQ;cases hc1:((x.Leaves.length:Int)==0)
   case true=>exact .inr ⟨by simp,_,rfl,rfl⟩
   cases hc2:((x.aI.length:Int)==0)
   case true=>exact .inr ⟨by simp,_,rfl,rfl⟩
   cases hc3:(x.Leaves.any fun n=> !(decide (0≤n)&&decide (n<f.Leaves)))
   case true=>exact .inr ⟨by simp,_,rfl,rfl⟩
   cases hc4:(x.aI.any fun n=> !(decide (0≤n)&&decide (n<(f.aI.length:Int))))
   case true=>exact .inr ⟨by simp,_,rfl,rfl⟩
   cases hc5:sr x.Leaves
   case false=>exact .inr ⟨by simp,_,rfl,rfl⟩
   cases hc6:sr x.aI
   case false=>exact .inr ⟨by simp,_,rfl,rfl⟩
   simp only[Bool.not_true,Bool.false_eq_true,if_false];have hrange:∀y∈x.Leaves,0≤y∧y<32:=by
    intro y hy;rw[List.any_eq_false]at hc3;have:=hc3 y hy;simp at this;omega
   obtain⟨hnd,_⟩:=Lt x.Leaves hc5;have hcnt:∀v∈jd (f.au.take i),0≤v∧v≤1000:=by
    intro v hv;simp only[jd,List.mem_map,List.mem_range]at hv;obtain⟨m,_,rfl⟩:=hv;have:=List.countP_le_length (p:=fun s:aH=>s.Leaves.contains (m:Int)) (l:=f.au.take i)
    simp only[List.length_take]at this;omega
   refine IK x.Leaves (jd (f.au.take i)) (i:Int) (hsn x hxm).2.1 (zj _) hrange hnd (hsn x hxm).2.2 hcnt (fun a=>rfl) ?_ (fun h7 p=>⟨_,rfl,by rw[h7];rfl⟩) ?_
   ·have:(x.Leaves.any fun n=>decide (32<(((f.au.take i).countP fun s=>s.Leaves.contains n:Nat):Int)+1))=x.Leaves.any fun y=>decide (32<(jd (f.au.take i))[y.toNat]?.getD 0+1):=by
     apply Bool.eq_iff_iff.2;simp only[List.any_eq_true];constructor
     ·rintro⟨y,hy,h⟩;have hr:=hrange y hy;refine⟨y,hy,?_⟩;rw[vo _ (by omega),show((y.toNat:Nat):Int)=y by omega]
      exact h
     ·rintro⟨y,hy,h⟩;have hr:=hrange y hy;refine⟨y,hy,?_⟩;rw[vo _ (by omega),show((y.toNat:Nat):Int)=y by omega]at h
      exact h
    rw[this]
   ·have htake:f.au.take (i+1)=f.au.take i++[x]:=by rw[List.take_add_one,hx];rfl
    have e:gW (jd (f.au.take i)) x.Leaves=jd (f.au.take (i+1)):=by rw[htake];exact IF _ _ (fun y hy=>(hrange y hy).1) hnd
    rw[e];have hw:=bR (show i<9223372036854775807 by omega)
    show some (Sum.inl (IntKind.wrap .i64 ((i:Int)+1),jd (f.au.take (i+1))))=_;rw[hw]
  ·refine⟨.inr (jd f.au),?_,rfl⟩;simp
  ·cases bw (AQ f) 0 f.au<;>rfl
end Go.L
namespace Go.L
open Go.AM
structure Small(f:aD):Prop where
 links:f.Links.length≤4000
 sM:f.aG.length≤4000
 nE:f.aI.length≤4000
 segments:f.au.length≤4000
 yI:f.bh.length≤4000
 EU:f.dn.length≤4000
 seg:∀s∈f.au,s.Leaves.length≤4000∧s.aI.length≤4000
abbrev EV:=Unit⊕(Int×ByteArray×Int)
def oL(f:aD):EV:=if dx f=true then .inr (2,Kj,0)else .inl ()
def wK(f:aD):EV:=if dy f.bT=true then .inr (2,Kk,0)else .inl ()
def EW(f:aD):EV:=outcome IB 128 (decide (128<(f.Links.length:Int))) (bw (wC f (aW (fun x:dG=>(⟨x.A,x.B⟩:V2 Int)) [] f.Links)) 0 f.Links)
def AR(f:aD):EV:=outcome DF 16 (decide (16<(f.aG.length:Int))) (bw (qv (aW (fun x:aU=>x.cg) [] f.aG) (aW (fun x:aU=>x.Target) [] f.aG)) 0 f.aG)
def u0(f:aD):EV:=outcome DH 32 (decide (32<(f.aI.length:Int))) (bw (ya f (aW (fun x:BD=>x.cg) [] f.aI) (aW (fun x:BD=>x.Target) [] f.aI)) 0 f.aI)
def yJ(f:aD):EV:=outcome jZ 64 (decide (64<(f.au.length:Int))) (bw (AQ f) 0 f.au)
def EX(f:aD):EV:=outcome IE 128 (decide (128<(f.bh.length:Int))) (bw (wE f (aW (fun x:Host=>(⟨x.BD,x.bN⟩:aY)) [] f.bh) (aW (fun x:Host=>(⟨x.BD,IntKind.wrap .u64 x.IP⟩:aY)) [] f.bh)) 0 f.bh)
def EY(f:aD):EV:=outcome ID 256 (decide (256<(f.dn.length:Int))) (bw (wD f (aW (fun x:fW=>x) [] f.dn)) 0 f.dn)
def ua(a:EV)(b:Int×ByteArray×Int):Int×ByteArray×Int:=match a with
 | .inl _=>b
 | .inr t=>t
def ri(f:aD):Int×ByteArray×Int:=
 ua (oL f)<|ua (wK f)<|ua (EW f)<|ua (AR f)<|ua (u0 f)<|ua (yJ f)<|ua (EX f)<|ua (EY f) (0,⟨⟨[]⟩⟩,0)
theorem AU{p:ByteArray}{m:Int}{b:Bool}{r:Option (Int×Nat)}{u:Unit}(h:outcome p m b r=.inl u):b=false∧r=none:=by
 unfold outcome at h;split at h
 ·cases h
 ·rename_i hb;split at h
  ·exact⟨by simpa using hb,rfl⟩
  ·cases h
theorem Qs{f:aD}{u:Unit}(h:u0 f=.inl u):∀b∈f.aI,b.aZ≠0→fu b.aJ=true:=by
 intro b hb hg;have:=(AU h).2;rw[ox]at this;obtain⟨i,hi⟩:=List.getElem?_of_mem hb;have:=this i b hi;have hg':(b.aZ==0)=false:=by simpa using hg
 have hcl:fC b.aJ=true:=by
  cases hc:fC b.aJ with
  |true=>rfl
  |false=>
   unfold ya at this;simp only[hg',hc,Bool.not_false,if_true,Bool.false_eq_true,if_false]at this
   repeat' split at this
   all_goals cases this
 simp only[fC,Bool.and_eq_true]at hcl;exact hcl.1
theorem yK{f:aD}{u:Unit}(h:oL f=.inl u):1≤f.Leaves∧f.Leaves≤32∧0≤f.cZ∧f.cZ≤32:=by
 unfold oL at h;split at h
 ·cases h
 ·rename_i hb;simp only[dx,out,Bool.not_eq_true,Bool.or_eq_false_iff,decide_eq_false_iff_not]at hb;omega
theorem IL{β:Type}(n:Nat)(hn:5000≤n)(f:aD)(hs:Small f)(k:jG.sh.El→Option β):(jG.S n f).bind k=k (ri f):=by
 have b1:∀{γ:Type} (k:jq.sh.El→Option γ),(jq.S n ⟨f⟩).bind k=k (oL f):=fun k=>by rw[MO];rfl
 have b2:∀{γ:Type} (k:jt.sh.El→Option γ),(jt.S n ⟨f⟩).bind k=k (wK f):=fun k=>by rw[MP];rfl
 have b3:∀{γ:Type} (k:jP.sh.El→Option γ),(jP.S n ⟨f⟩).bind k=k (EW f):=fun k=>by rw[Og n f (by have:=hs.links;omega) (by omega)];rfl
 have b4:∀{γ:Type} (k:iW.sh.El→Option γ),(iW.S n ⟨f⟩).bind k=k (AR f):=fun k=>by rw[Lq n f (by have:=hs.sM;omega)];rfl
 have b5:∀{γ:Type} (k:iX.sh.El→Option γ),(iX.S n ⟨f⟩).bind k=k (u0 f):=fun k=>by rw[Ls n f (by have:=hs.nE;omega) (by have:=hs.sM;omega) hs.sM];rfl
 have b8:∀{γ:Type} (k:jR.sh.El→Option γ),(jR.S n ⟨f⟩).bind k=k (EY f):=fun k=>by rw[Oi n f (by have:=hs.EU;omega)];rfl
 have hseg:∀s∈f.au,(s.aI.length<n∧s.aI.length≤4000)∧s.Leaves.length<n∧s.Leaves.length≤4000:=fun s h=>by
  have:=hs.seg s h;omega
 have:jG.S n f=some (ri f):=by
  show(uL f).run n=_;have b0:∀{γ:Type} (k:tB.sh.El→Option γ),(tB.S n ()).bind k=k ():=fun k=>rfl
  simp only[uL,G.run,aK,b0,b1];unfold ri;cases h1:oL f with
  |inr t=>rfl
  |inl u=>
   simp only[Sum.elim,G.run,b2];cases h2:wK f with
   |inr t=>rfl
   |inl u=>
    simp only[Sum.elim,G.run,b3];cases h3:EW f with
    |inr t=>rfl
    |inl u=>
     simp only[Sum.elim,G.run,b4];cases h4:AR f with
     |inr t=>rfl
     |inl u=>
      simp only[Sum.elim,G.run,b5];cases h5:u0 f with
      |inr t=>rfl
      |inl u=>
       have b6:∀{γ:Type} (k:iL.sh.El→Option γ),(iL.S n ⟨f⟩).bind k=k (yJ f):=fun k=>by rw[JA n f (by have:=hs.segments;omega) (yK h1).2.1 hs.nE hseg];rfl
       simp only[Sum.elim,G.run,b6];cases h6:yJ f with
       |inr t=>rfl
       |inl u=>
        have hle:f.au.length≤64:=by
         have:=(AU h6).1;simp only[decide_eq_false_iff_not]at this;omega
        have b7:∀{γ:Type} (k:jQ.sh.El→Option γ),(jQ.S n ⟨f⟩).bind k=k (EX f):=fun k=>by rw[Oj n f (by have:=hs.yI;omega) hle (fun s h=>(hseg s h).1) (Qs h5)];rfl
        simp only[Sum.elim,G.run,b7];cases h7:EX f with
        |inr t=>rfl
        |inl u=>
         simp only[Sum.elim,G.run,b8];cases h8:EY f with
         |inr t=>rfl
         |inl u=>rfl
 rw[this];rfl
end Go.L
end
section
namespace Go.L
open Go.AM
def Good{γ:Type}(o:Option γ)(Q:γ→Prop):Prop:=∃v,o=some v∧Q v
theorem Good.bind{γ δ:Type}{o:Option γ}{Q:γ→Prop}{k:γ→Option δ}{R:δ→Prop}(h:Good o Q)(hk:∀v,Q v→Good (k v) R):Good (o.bind k) R:=by
 obtain⟨v,rfl,hv⟩:=h;exact hk v hv
theorem Good.mono{γ:Type}{o:Option γ}{Q R:γ→Prop}(h:Good o Q)(hk:∀v,Q v→R v):Good o R:=by
 obtain⟨v,e,hv⟩:=h;exact⟨v,e,hk v hv⟩
theorem Good.some{γ:Type}{v:γ}{Q:γ→Prop}(h:Q v):Good (some v) Q:=⟨v,rfl,h⟩
theorem mc{ST τ:Type}{f:ST→Option (ST⊕τ)}{Q:τ→Prop}(I:Nat→ST→Prop)(N:Nat)
 (hf:∀j s,j<N→I j s→Good (f s) fun r=>match r with | .inl s'=>I (j+1) s' | .inr t=>Q t)
 (he:∀s,I N s→Good (f s) fun r=>match r with | .inl _=>False | .inr t=>Q t) {n:Nat} (hn:N<n) {s0:ST} (h0:I 0 s0):Good (bI f n s0) Q:=by
 have key:∀(k j n:Nat) (s:ST),j+k=N→k<n→I j s→Good (bI f n s) Q:=by
  intro k;induction k with
  |zero=>
   intro j n s hj hn hs;obtain⟨n,rfl⟩:∃m,n=m+1:=⟨n - 1,by omega⟩
   have:j=N:=by omega
   subst this;obtain⟨r,hr,h⟩:=he s hs;cases r with
   |inl s'=>exact h.elim
   |inr t=>exact⟨t,by simp only[bI,hr],h⟩
  |succ k ih=>
   intro j n s hj hn hs;obtain⟨n,rfl⟩:∃m,n=m+1:=⟨n - 1,by omega⟩
   obtain⟨r,hr,h⟩:=hf j s (by omega) hs
   cases r with
   |inl s'=>
    obtain⟨t,ht,hq⟩:=ih (j+1) n s' (by omega) (by omega) h
    exact⟨t,by simp only[bI,hr];exact ht,hq⟩
   |inr t=>exact⟨t,by simp only[bI,hr],h⟩
 exact key N 0 n s0 (by omega) hn h0
def uc(c:Int)(x:ax):Prop:=0≤x.at_∧x.at_≤c
end Go.L
namespace Go.L
open Go.AM
theorem Pw(n:Nat)(x k:Int)(hk:0<k)(hk2:k≤4000000000000000000):yB.S n (x,k)=some (x % k):=by
 show(BW x k).run n=_;have h1:¬k≤0:=by omega
 have h2:k≠0:=by omega
 simp only[BW,G.run,aK,Fs,H6,decide_eq_true_eq,h1,if_false,h2,ne_eq,not_false_eq_true,decide_true,if_true,Option.bind_some,Mw hk hk2,Mv hk]<;>rfl
section
variable {n:Nat}
theorem bV(x:ax)(m c:Int)(hx:uc c x)(hc:c≤1000000)(h1:1≤m)(h2:m≤1000000):
 Good (γ:=Int×ax) (aT.S n (x,m)) fun r=>0≤r.1∧r.1<m∧uc (c+1) r.2:=by
 obtain⟨ha,hb⟩:=hx;show Good (γ:=Int×ax) ((rT x m).run n) _;have w1:IntKind.wrap .i64 (x.at_+1)=x.at_+1:=wrap_i64 (by omega) (by omega)
 have w2:IntKind.wrap .i64 (x.at_+1 - 1)=x.at_:=by rw[wrap_i64 (by omega) (by omega)];omega
 have eM:∀{γ:Type} (a:Int) (k:yB.sh.El→Option γ),(yB.S n (a,m)).bind k=k (a % m):=fun a k=>by rw[Pw n a m (by omega) (by omega)];rfl
 simp only[rT,G.run,aK,bK,bP,w1,w2,eM,if_true,decide_eq_true_eq];by_cases h:x.at_≥(x.l.length:Int)
 ·rw[if_pos h];exact .some ⟨by show(0:Int)≤0;omega,by show(0:Int)<m;omega,ha,by show x.at_≤c+1;omega⟩
 ·rw[if_neg h];obtain⟨i,hi⟩:∃i:Nat,x.at_=(i:Int):=⟨x.at_.toNat,by omega⟩
  have hlt:i<x.l.length:=by omega
  rw[hi,bg,List.getElem?_eq_getElem hlt,Option.bind_some];exact .some ⟨Int.emod_nonneg _ (by omega),Int.emod_lt_of_pos _ (by omega),by show(0:Int)≤(i:Int)+1;omega,by show(i:Int)+1≤c+1;omega⟩
end
end Go.L
namespace Go.L
open Go.AM
def Lu(L S:Int)(x:dG):Prop:=0≤x.A∧x.A<L∧L≤x.B∧x.B<L+S∧1≤x.uF∧x.uF≤2
def AV(x:dG):V2 Int:=⟨x.A,x.B⟩
def IM(L S:Int)(l:List dG):Prop:=l.length≤32∧(∀x∈l,Lu L S x)∧(l.map AV).Nodup
def oy(L S j i:Int)(l:List dG):Prop:=(∀x∈l,Lu L S x∧(x.A<j∨x.A=j∧x.B<L+i))∧(l.map AV).Nodup
theorem JB{L S j i c:Int}{l:List dG}(h:oy L S j i l)(hj:0≤j∧j<L)(hi:0≤i∧i<S)(hc:1≤c∧c≤2):oy L S j (i+1) (l++[⟨j,L+i,c⟩]):=by
 refine⟨fun x hx=>?_,?_⟩
 ·rcases List.mem_append.1 hx with hx |hx
  ·obtain⟨h1,h2⟩:=h.1 x hx;exact⟨h1,by omega⟩
  ·simp only[List.mem_singleton]at hx;subst hx;refine⟨⟨?_,?_,?_,?_,?_,?_⟩,.inr ⟨rfl,?_⟩⟩<;>simp only<;>omega
 ·rw[List.map_append,List.nodup_append];refine⟨h.2,by simp,?_⟩
  intro a ha b hb;simp only[List.map_cons,List.map_nil,List.mem_singleton]at hb;subst hb;obtain⟨x,hx,rfl⟩:=List.mem_map.1 ha;obtain⟨h1,h2⟩:=h.1 x hx;intro e;simp only[AV,V2.mk.injEq]at e;omega
theorem JC{L S j i:Int}{l:List dG}(h:oy L S j i l):oy L S j (i+1) l:=
 ⟨fun x hx=>⟨(h.1 x hx).1,by have:=(h.1 x hx).2;omega⟩,h.2⟩
theorem Lv{L S j:Int}{i:Int}{l:List dG}(h:oy L S j i l)(hi:S≤i):oy L S (j+1) 0 l:=
 ⟨fun x hx=>⟨(h.1 x hx).1,by have:=(h.1 x hx).2;have:=(h.1 x hx).1;unfold Lu at this;omega⟩,h.2⟩
section
variable {n:Nat}
theorem JD(x:ax)(L S c:Int)(hx:uc c x)(hc:c≤100000)(hL:0≤L∧L≤8)(hS:0≤S∧S≤4)(hn:5000≤n):
 Good (γ:=List dG×ax) (Db.S n (x,L,S)) fun r=>IM L S r.1∧uc (c+64) r.2:=by
 show Good (γ:=List dG×ax) ((zc x L S).run n) _;simp only[zc,G.run,aK,vA,if_true,decide_eq_true_eq];refine Good.bind (γ:=List Int×Int×List dG) (Q:=fun t=>IM L S t.2.2∧0≤t.2.1∧t.2.1≤c+64) ?_ (fun t ht=>?_)
 ·refine mc (fun j (s:Int×List Int×Int×List dG)=>s.1=(j:Int)∧0≤s.2.2.1∧s.2.2.1≤c+8*(j:Int)∧(s.2.2.2.length:Int)≤4*(j:Int)∧oy L S (j:Int) 0 s.2.2.2) L.toNat (fun j s hj hs=>?_) (fun s hs=>?_) (by omega) ⟨rfl,hx.1,by have:=hx.2;simp;omega,by simp,by simp[oy]⟩
  ·obtain⟨h1,h2,h3,h4,h5⟩:=hs;have hlt:s.1<L:=by omega
   simp only[hlt,if_true];refine Good.bind (γ:=List Int×Int×List dG) (Q:=fun t=>0≤t.2.1∧t.2.1≤c+8*((j:Int)+1)∧(t.2.2.length:Int)≤4*((j:Int)+1)∧oy L S ((j:Int)+1) 0 t.2.2) ?_ (fun t ht=>?_)
   ·refine mc (fun i (q:Int×List Int×Int×List dG)=>q.1=(i:Int)∧0≤q.2.2.1∧q.2.2.1≤c+8*(j:Int)+2*(i:Int)∧(q.2.2.2.length:Int)≤4*(j:Int)+(i:Int)∧oy L S (j:Int) (i:Int) q.2.2.2) S.toNat (fun i q hi hq=>?_) (fun q hq=>?_) (by omega) ⟨rfl,h2,by simp;omega,by simp;omega,h5⟩
    ·obtain⟨g1,g2,g3,g4,g5⟩:=hq;have hlt:q.1<S:=by omega
     simp only[hlt,if_true];refine Good.bind (bV _ 8 (c+8*(j:Int)+2*(i:Int)) ⟨g2,g3⟩ (by omega) (by decide) (by decide)) (fun r hr=>?_)
     obtain⟨r1,r2,r3⟩:=hr;by_cases h7:(r.1 != 7)=true
     ·simp only[h7,if_true];refine Good.bind (bV r.2 2 (c+8*(j:Int)+2*(i:Int)+1) r3 (by omega) (by decide) (by decide)) (fun r' hr'=>?_)
      obtain⟨s1,s2,s3⟩:=hr';obtain⟨s3,s4⟩:=s3;have w:IntKind.wrap .i64 (q.1+1)=q.1+1:=wrap_i64 (by omega) (by omega)
      have w2:IntKind.wrap .i64 (L+q.1)=L+q.1:=wrap_i64 (by omega) (by omega)
      have w3:IntKind.wrap .i64 (1+r'.1)=1+r'.1:=wrap_i64 (by omega) (by omega)
      have hroom:roomy (q.2.2.2.length+1) 24=true:=by simp[roomy];omega
      rw[if_pos ⟨trivial,hroom⟩,w,w2,w3];have hsn:oy L S (j:Int) ((i:Int)+1) (q.2.2.2++[⟨(j:Int),L+(i:Int),1+r'.1⟩]):=JB g5 ⟨by omega,by omega⟩ ⟨by omega,by omega⟩ ⟨by omega,by omega⟩
      refine .some ⟨?_,?_,?_,?_,?_⟩
      ·show q.1+1=((i+1:Nat):Int);omega
      ·omega
      ·show r'.2.at_≤c+8*(j:Int)+2*((i+1:Nat):Int);omega
      ·simp only[List.length_append,List.length_cons,List.length_nil];omega
      ·show oy L S (j:Int) ((i+1:Nat):Int) (q.2.2.2++[⟨s.1,L+q.1,1+r'.1⟩]);rw[h1,g1];exact hsn
     ·simp only[h7,Bool.false_eq_true,if_false];obtain⟨s3,s4⟩:=r3;have w:IntKind.wrap .i64 (q.1+1)=q.1+1:=wrap_i64 (by omega) (by omega)
      rw[w];exact .some ⟨by show q.1+1=((i+1:Nat):Int);omega,s3,by show r.2.at_≤c+8*(j:Int)+2*((i+1:Nat):Int);omega,by show(q.2.2.2.length:Int)≤4*(j:Int)+((i+1:Nat):Int);omega,JC g5⟩
    ·obtain⟨g1,g2,g3,g4,g5⟩:=hq;have hlt:¬q.1<S:=by omega
     simp only[hlt,if_false];exact .some ⟨g2,by show q.2.2.1≤c+8*((j:Int)+1);omega,by show(q.2.2.2.length:Int)≤4*((j:Int)+1);omega,Lv g5 (by omega)⟩
   ·obtain⟨t1,t2,t3,t4⟩:=ht;have w:IntKind.wrap .i64 (s.1+1)=s.1+1:=wrap_i64 (by omega) (by omega)
    rw[w];exact .some ⟨by show s.1+1=((j+1:Nat):Int);omega,t1,by show t.2.1≤c+8*((j+1:Nat):Int);omega,by show(t.2.2.length:Int)≤4*((j+1:Nat):Int);omega,t4⟩
  ·obtain⟨h1,h2,h3,h4,h5⟩:=hs;have hlt:¬s.1<L:=by omega
   simp only[hlt,if_false];exact .some ⟨⟨by show s.2.2.2.length≤32;omega,fun x hx=>(h5.1 x hx).1,h5.2⟩,h2,by show s.2.2.1≤c+64;omega⟩
 ·obtain⟨h1,h2,h3⟩:=ht;simp[ff];refine .some ⟨h1,h2,h3⟩
def Cc(l:List Int):Prop:=l.Pairwise (· < ·)
theorem Ol{l:List Int}{y:Int}(h:Cc l)(hy:∀x∈l,x<y):Cc (l++[y]):=by
 unfold Cc at*;rw[List.pairwise_append];exact⟨h,by simp,fun a ha b hb=>by simp only[List.mem_singleton]at hb;subst hb;exact hy a ha⟩
def Lw(m q:Int)(l:List Int):Prop:=1≤l.length∧(l.length:Int)≤q∧(∀y∈l,0≤y∧y<m)∧Cc l
theorem EZ(x:ax)(m q c:Int)(hx:uc c x)(hc:c≤100000)(hm:1≤m∧m≤8)(hq:1≤q)(hn:5000≤n):
 Good (γ:=List Int×ax) (AK.S n (x,m,q)) fun r=>Lw m q r.1∧uc (c+9) r.2:=by
 show Good (γ:=List Int×ax) ((AJ x m q).run n) _;simp only[AJ,G.run,aK,vA,if_true,decide_eq_true_eq];refine Good.bind (bV x m c hx (by omega) (by omega) (by omega)) (fun r hr=>?_)
 obtain⟨r1,r2,r3,r4⟩:=hr;refine Good.bind (γ:=List Int×Int×List Int) (Q:=fun t=>(t.2.2.length:Int)≤q∧(∀y∈t.2.2,0≤y∧y<m)∧Cc t.2.2∧0≤t.2.1∧t.2.1≤c+9) ?_ (fun t ht=>?_)
 ·refine mc (fun j (s:Int×List Int×Int×List Int)=>s.1=(j:Int)∧0≤s.2.2.1∧s.2.2.1≤c+1+(j:Int)∧(s.2.2.2.length:Int)≤(j:Int)∧(s.2.2.2.length:Int)≤q∧(∀y∈s.2.2.2,0≤y∧y<(j:Int))∧Cc s.2.2.2) m.toNat (fun j s hj hs=>?_) (fun s hs=>?_) (by omega) ⟨rfl,r3,by simp;omega,by simp,by simp;omega,by simp,by simp[Cc]⟩
  ·obtain⟨h1,h2,h3,h4,h4',h5,h5'⟩:=hs;have hlt:s.1<m:=by omega
   have w:IntKind.wrap .i64 (s.1+1)=s.1+1:=wrap_i64 (by omega) (by omega)
   have hroom:roomy (s.2.2.2.length+1) 8=true:=by simp[roomy];omega
   have h6:∀y∈s.2.2.2++[s.1],0≤y∧y<((j+1:Nat):Int):=by
    intro y hy;rcases List.mem_append.1 hy with hy |hy
    ·have:=h5 y hy;omega
    ·simp only[List.mem_singleton]at hy;subst hy;omega
   have h7:∀y∈s.2.2.2,0≤y∧y<((j+1:Nat):Int):=fun y hy=>by have:=h5 y hy;omega
   have h8:Cc (s.2.2.2++[s.1]):=Ol h5' fun y hy=>by have:=h5 y hy;omega
   simp only[hlt,if_true,w];by_cases hq:(s.2.2.2.length:Int)<q
   ·simp only[hq,if_true];by_cases he:(s.1==r.1)=true
    ·simp only[he,if_true];rw[if_pos ⟨trivial,hroom⟩];refine .some ⟨?_,?_,?_,?_,?_,h6,h8⟩<;>(try simp only[List.length_append,List.length_cons,List.length_nil])<;>omega
    ·simp only[he,Bool.false_eq_true,if_false];refine Good.bind (bV _ 3 (c+1+(j:Int)) ⟨h2,h3⟩ (by omega) (by decide) (by decide)) (fun r' hr'=>?_)
     obtain⟨s1,s2,s3,s4⟩:=hr';by_cases hz:(r'.1==1)=true
     ·simp only[hz,if_true];rw[if_pos ⟨trivial,hroom⟩];refine .some ⟨?_,?_,?_,?_,?_,h6,h8⟩<;>(try simp only[List.length_append,List.length_cons,List.length_nil])<;>omega
     ·simp only[hz,Bool.false_eq_true,if_false];refine .some ⟨?_,?_,?_,?_,?_,h7,h5'⟩<;>(try simp only[List.length_append,List.length_cons,List.length_nil])<;>omega
   ·simp only[hq,if_false];refine .some ⟨?_,fun y hy=>?_,h5',?_,?_⟩
    ·exact h4'
    ·have:=h5 y hy;omega
    ·exact h2
    ·show s.2.2.1≤c+9;omega
  ·obtain⟨h1,h2,h3,h4,h4',h5,h5'⟩:=hs;have hlt:¬s.1<m:=by omega
   simp only[hlt,if_false];refine .some ⟨?_,fun y hy=>?_,h5',?_,?_⟩
   ·exact h4'
   ·have:=h5 y hy;omega
   ·exact h2
   ·show s.2.2.1≤c+9;omega
 ·obtain⟨t1,t2,t2',t3,t4⟩:=ht;by_cases hz:((t.2.2.length:Int)==0)=true
  ·simp only[hz,if_true];simp[ff];refine .some ⟨⟨?_,?_,?_,?_⟩,t3,t4⟩
   ·simp
   ·simp;omega
   ·simp;omega
   ·simp[Cc]
  ·simp only[hz,Bool.false_eq_true,if_false];simp[ff];refine .some ⟨⟨?_,t1,t2,t2'⟩,t3,t4⟩;simp only[beq_iff_eq]at hz;show 1≤t.2.2.length;omega
end
end Go.L
namespace Go.L
open Go.AM
theorem MS{β:Type}(a b:Int)(hb:b≠0)(k:Unit→Option β):(Fs .i64 a b).run.bind k=k ():=by
 simp only[Fs,H6,ne_eq,hb,not_false_eq_true,decide_true,if_true,Option.bind_some]
theorem Qt:((2:Int) ^ (@Min.min Nat instMinNat (Int.toNat (16:Int)) (IntKind.bits .i64)))=65536:=by decide
theorem wrap_u32'{a:Int}(h0:0≤a)(h1:a<4294967296):IntKind.wrap .u32 a=a:=by
 simp only[IntKind.wrap,IntKind.bits,IntKind.signed];simp
 omega
def MT(nt:Int)(i:Int)(b:BD):Prop:=0≤b.aU∧b.aU<nt∧b.cg=10+i∧b.Target=500+i∧(b.aJ=⟨0,0⟩∧b.aZ=0∨b.aJ=⟨167772160+i*65536,24⟩∧b.aZ=167772161+i*65536)
def E0(nt:Int)(x:fW):Prop:=0≤x.From∧x.From<nt∧0≤x.To∧x.To<nt∧x.From≠x.To∧(x.aN=⟨0,0⟩∨∃t,0≤t∧t<4∧x.aN=⟨167772160+t*65536,16⟩)
def Lx(L nb:Int)(s:aH):Prop:=Lw L 3 s.Leaves∧Lw nb 4 s.aI
def Lz(nE:List BD)(segs:List aH)(i:Int)(h:Host):Prop:=
 h.bN=2199023951872+i∧0≤h.BD∧h.BD<(nE.length:Int)∧(h.aH= -1∨∃s,ez segs h.aH=some s∧h.BD∈s.aI)∧
 (h.IP=0∨∃b,ez nE h.BD=some b∧b.aZ≠0∧h.IP=b.aJ.IP+(10+i))
section
variable {n:Nat}
theorem IQ(x:ax)(i m c:Int)(hx:uc c x)(hc:c≤100000)(hm:1≤m∧m≤8)(hi:0≤i∧i≤8):
 Good (γ:=BD×ax) (BX.S n (x,i,m)) fun r=>MT m i r.1∧uc (c+2) r.2:=by
 show Good (γ:=BD×ax) ((xG x i m).run n) _;have w1:IntKind.wrap .i64 (10+i)=10+i:=wrap_i64 (by omega) (by omega)
 have w2:IntKind.wrap .u32 (10+i)=10+i:=wrap_u32' (by omega) (by omega)
 have w3:IntKind.wrap .i64 (500+i)=500+i:=wrap_i64 (by omega) (by omega)
 have w4:IntKind.wrap .u32 (500+i)=500+i:=wrap_u32' (by omega) (by omega)
 have w5:IntKind.wrap .i64 (i*65536)=i*65536:=wrap_i64 (by omega) (by omega)
 have w6:IntKind.wrap .i64 (167772160+i*65536)=167772160+i*65536:=wrap_i64 (by omega) (by omega)
 have w7:IntKind.wrap .u32 (167772160+i*65536)=167772160+i*65536:=wrap_u32' (by omega) (by omega)
 have w8:IntKind.wrap .u32 (167772160+i*65536+1)=167772161+i*65536:=by rw[wrap_u32' (by omega) (by omega)];omega
 simp only[xG,G.run,aK,if_true,decide_eq_true_eq,Qt,w1,w2,w3,w4,w5,w6,w7,w8];refine Good.bind (bV x m c hx (by omega) (by omega) (by omega)) (fun r hr=>?_)
 refine Good.bind (bV r.2 4 (c+1) hr.2.2 (by omega) (by decide) (by decide)) (fun r' hr'=>?_)
 have h:uc (c+2) r'.2:=by have:=hr'.2.2;unfold uc at*;omega
 split
 ·exact .some ⟨⟨hr.1,hr.2.1,rfl,rfl,.inr ⟨rfl,rfl⟩⟩,h⟩
 ·exact .some ⟨⟨hr.1,hr.2.1,rfl,rfl,.inl ⟨rfl,rfl⟩⟩,h⟩
theorem LA(x:ax)(m c:Int)(hx:uc c x)(hc:c≤100000)(hm:2≤m∧m≤8):
 Good (γ:=fW×ax) (EG.S n (x,m)) fun r=>E0 m r.1∧uc (c+4) r.2:=by
 show Good (γ:=fW×ax) ((AL x m).run n) _;have w:IntKind.wrap .i64 (m - 1)=m - 1:=wrap_i64 (by omega) (by omega)
 have e:=fun {γ:Type} (a:Int) (k:Unit→Option γ)=>MS a m (by omega) k
 simp only[AL,G.run,aK,if_true,decide_eq_true_eq,w,e,Qt];refine Good.bind (bV x m c hx (by omega) (by omega) (by omega)) (fun r hr=>?_)
 refine Good.bind (bV r.2 (m - 1) (c+1) hr.2.2 (by omega) (by omega) (by omega)) (fun r' hr'=>?_)
 refine Good.bind (bV r'.2 2 (c+1+1) hr'.2.2 (by omega) (by decide) (by decide)) (fun q hq=>?_)
 obtain⟨a1,a2,a3⟩:=hr;obtain⟨b1,b2,b3⟩:=hr';have v1:IntKind.wrap .i64 (r.1+1)=r.1+1:=wrap_i64 (by omega) (by omega)
 have v2:IntKind.wrap .i64 (r.1+1+r'.1)=r.1+1+r'.1:=wrap_i64 (by omega) (by omega)
 have v3:Int.tmod (r.1+1+r'.1) m=(r.1+1+r'.1) % m:=Int.tmod_eq_emod_of_nonneg (by omega)
 have v4:0≤(r.1+1+r'.1) % m:=Int.emod_nonneg _ (by omega)
 have v5:(r.1+1+r'.1) % m<m:=Int.emod_lt_of_pos _ (by omega)
 have v6:r.1≠(r.1+1+r'.1) % m:=by
  by_cases hlt:r.1+1+r'.1<m
  ·rw[Int.emod_eq_of_lt (by omega) hlt];omega
  ·have e1:(r.1+1+r'.1) % m=(r.1+1+r'.1 - m) % m:=by rw[Int.sub_emod_right]
   rw[e1,Int.emod_eq_of_lt (by omega) (by omega)];omega
 rw[v1,v2,v3];split
 ·refine Good.bind (bV q.2 4 (c+1+1+1) hq.2.2 (by omega) (by decide) (by decide)) (fun p hp=>?_)
  have w5:IntKind.wrap .i64 (p.1*65536)=p.1*65536:=wrap_i64 (by omega) (by omega)
  have w6:IntKind.wrap .i64 (167772160+p.1*65536)=167772160+p.1*65536:=wrap_i64 (by omega) (by omega)
  have w7:IntKind.wrap .u32 (167772160+p.1*65536)=167772160+p.1*65536:=wrap_u32' (by omega) (by omega)
  rw[w5,w6,w7];exact .some ⟨⟨a1,a2,v4,v5,v6,.inr ⟨p.1,hp.1,hp.2.1,rfl⟩⟩,by have:=hp.2.2;unfold uc at*;show 0≤p.2.at_∧p.2.at_≤c+4;omega⟩
 ·exact .some ⟨⟨a1,a2,v4,v5,v6,.inl rfl⟩,by have:=hq.2.2;unfold uc at*;show 0≤q.2.at_∧q.2.at_≤c+4;omega⟩
theorem Hl{α:Type}(l:List α)(i:Int)(h0:0≤i)(h1:i<(l.length:Int)):∃x,ez l i=some x∧x∈l:=by
 obtain⟨j,rfl⟩:∃j:Nat,i=(j:Int):=⟨i.toNat,by omega⟩
 have hj:j<l.length:=by omega
 exact⟨l[j],by rw[bg];exact List.getElem?_eq_getElem hj,List.getElem_mem hj⟩
theorem eH{β:Type}(len m b aj:Nat)(i:Int)(k:Unit→Option β)(h0:0≤i)(h1:i<(len:Int)):(ic len m b aj i).run.bind k=k ():=by
 simp[ic,h0,h1]
theorem CK{c d:Int}{x:ax}(h:uc c x)(hd:c≤d):uc d x:=⟨h.1,Int.le_trans h.2 hd⟩
def IU(nt:Int)(l:List BD):Prop:=∀(i:Nat) b,l[i]? =some b→MT nt (i:Int) b
theorem Qu{nt i:Int}{b:BD}(h:MT nt i b)(hi:0≤i∧i≤8)(hg:b.aZ≠0):b.aJ.IP=167772160+i*65536:=by
 obtain⟨-,-,-,-,h |h⟩:=h
 ·exact absurd h.2 hg
 ·rw[h.1]
theorem LB(x:ax)(L S:Int)(links:List dG)(Kl:List aU)(nE:List BD)(segs:List aH)(a8 a9 a10:Int)(b11 b12:Bool)(a13 a14 a15 a16 a17 a18 i c nt:Int)(hx:uc c x)(hc:c≤100000)
 (h1:1≤segs.length∧segs.length≤8) (h2:∀s∈segs,Lx L (nE.length:Int) s) (h3:IU nt nE) (h4:nE.length≤8) (hi:0≤i∧i≤8):
 Good (γ:=Host×ax) (BZ.S n (x,L,S,links,Kl,nE,segs,a8,a9,a10,b11,b12,a13,a14,a15,a16,a17,a18,i)) fun r=>Lz nE segs i r.1∧uc (c+4) r.2:=by
 show Good (γ:=Host×ax) ((xH x L S links Kl nE segs a8 a9 a10 b11 b12 a13 a14 a15 a16 a17 a18 i).run n) _;have w1:IntKind.wrap .i64 (2199023951872+i)=2199023951872+i:=wrap_i64 (by omega) (by omega)
 have w2:IntKind.wrap .u64 (2199023951872+i)=2199023951872+i:=by
  simp only[IntKind.wrap,IntKind.bits,IntKind.signed];simp
  omega
 have w3:IntKind.wrap .i64 (10+i)=10+i:=wrap_i64 (by omega) (by omega)
 have w4:IntKind.wrap .u32 (10+i)=10+i:=wrap_u32' (by omega) (by omega)
 simp only[xH,G.run,aK,bK,bP,if_true,decide_eq_true_eq,w1,w2,w3,w4];refine Good.bind (bV x (segs.length:Int) c hx (by omega) (by omega) (by omega)) (fun r hr=>?_)
 obtain⟨s,hs,hm⟩:=Hl segs r.1 hr.1 hr.2.1;have hso:=(h2 s hm).2;obtain⟨so1,so2,so3,-⟩:=hso;rw[hs,Option.bind_some];refine Good.bind (bV r.2 (s.aI.length:Int) (c+1) hr.2.2 (by omega) (by omega) (by omega)) (fun r' hr'=>?_)
 obtain⟨d,hd,hdm⟩:=Hl s.aI r'.1 hr'.1 hr'.2.1;rw[hd,Option.bind_some];obtain⟨b,hb,_⟩:=Hl nE d (so3 d hdm).1 (so3 d hdm).2;rw[hb,Option.bind_some];have h3':uc (c+1+1) r'.2:=hr'.2.2;have hbd:=so3 d hdm;have hbv:MT nt d b:=by
  obtain⟨j,rfl⟩:∃j:Nat,d=(j:Int):=⟨d.toNat,by omega⟩
  rw[bg]at hb;exact h3 j b hb
 have hseg:∀{v:Int},(v= -1∨v=r.1)→(v= -1∨∃s,ez segs v=some s∧d∈s.aI):=by
  rintro v (rfl |rfl)
  ·exact .inl rfl
  ·exact .inr ⟨s,hs,hdm⟩
 by_cases hg:(b.aZ != 0)=true
 ·have hg':b.aZ≠0:=by simpa using hg
  have hip:=Qu hbv ⟨hbd.1,by omega⟩ hg'
  have w5:IntKind.wrap .u32 (b.aJ.IP+(10+i))=b.aJ.IP+(10+i):=wrap_u32' (by omega) (by omega)
  rw[if_pos hg];refine Good.bind (bV r'.2 6 (c+1+1) h3' (by omega) (by decide) (by decide)) (fun q hq=>?_)
  split
  ·rw[Option.bind_some,w5];refine Good.bind (bV q.2 10 (c+1+1+1) hq.2.2 (by omega) (by decide) (by decide)) (fun p hp=>?_)
   split
   ·exact .some ⟨⟨rfl,hbd.1,hbd.2,hseg (.inl rfl),.inr ⟨b,hb,hg',rfl⟩⟩,CK hp.2.2 (by omega)⟩
   ·exact .some ⟨⟨rfl,hbd.1,hbd.2,hseg (.inr rfl),.inr ⟨b,hb,hg',rfl⟩⟩,CK hp.2.2 (by omega)⟩
  ·refine Good.bind (bV q.2 10 (c+1+1+1) hq.2.2 (by omega) (by decide) (by decide)) (fun p hp=>?_)
   split
   ·exact .some ⟨⟨rfl,hbd.1,hbd.2,hseg (.inl rfl),.inl rfl⟩,CK hp.2.2 (by omega)⟩
   ·exact .some ⟨⟨rfl,hbd.1,hbd.2,hseg (.inr rfl),.inl rfl⟩,CK hp.2.2 (by omega)⟩
 ·rw[if_neg hg];refine Good.bind (bV r'.2 10 (c+1+1) h3' (by omega) (by decide) (by decide)) (fun p hp=>?_)
  split
  ·exact .some ⟨⟨rfl,hbd.1,hbd.2,hseg (.inl rfl),.inl rfl⟩,CK hp.2.2 (by omega)⟩
  ·exact .some ⟨⟨rfl,hbd.1,hbd.2,hseg (.inr rfl),.inl rfl⟩,CK hp.2.2 (by omega)⟩
def Ho(l:List aU):Prop:=∀(i:Nat) t,l[i]? =some t→t=⟨100+(i:Int),900+(i:Int)⟩
def E1(nE:List BD)(segs:List aH)(l:List Host):Prop:=∀(i:Nat) h,l[i]? =some h→Lz nE segs (i:Int) h
structure Vf(f:aD):Prop where
 leaves:2≤f.Leaves∧f.Leaves≤4
 Cd:1≤f.cZ∧f.cZ≤3
 links:IM f.Leaves f.cZ f.Links
 sM:1≤f.aG.length∧f.aG.length≤3
 Kl:Ho f.aG
 nE:1≤f.aI.length∧f.aI.length≤4
 bd:IU (f.aG.length:Int) f.aI
 segments:2≤f.au.length∧f.au.length≤6
 seg:∀s∈f.au,Lx f.Leaves (f.aI.length:Int) s
 yI:f.bh.length≤8
 host:E1 f.aI f.au f.bh
 EU:f.dn.length≤2
 Ry:∀x∈f.dn,E0 (f.aG.length:Int) x
 Q2:f.dn.Nodup
 Q3:0≤f.vm∧f.vm≤2
 Px:0≤f.oI∧f.oI≤1
 router:0≤f.qY∧f.qY≤1
 timers:1≤f.bT.pF∧f.bT.pF≤3∧f.bT.y9=9∧40≤f.bT.BK∧f.bT.BK≤69∧f.bT.oH=20∧f.bT.vl=5∧f.bT.Window=30
theorem DI{α:Type}{P:Nat→α→Prop}{l:List α}{y:α}(h:∀(i:Nat) x,l[i]? =some x→P i x)(hy:P l.length y):∀(i:Nat) x,(l++[y])[i]? =some x→P i x:=by
 intro i x hx;rw[List.getElem?_append]at hx;split at hx
 ·exact h i x hx
 ·rename_i hge;have:i - l.length=0:=by
   rcases Nat.eq_zero_or_pos (i - l.length)with h0 |h0
   ·exact h0
   ·rw[List.getElem?_eq_none (by simp;omega)]at hx;cases hx
  have:i=l.length:=by omega
  subst this;simp at hx;subst hx;exact hy
theorem IV(l:List Int)(hn:5000≤n):Good (γ:=aD) (B0.S n l) Vf:=by
 show Good (γ:=aD) ((xI l).run n) _;simp only[xI,G.run,aK,bK,bP,vA,if_true,decide_eq_true_eq];refine Good.bind (bV (n:=n) (Go.L.ax.mk l 0) 3 0 ⟨Int.le_refl _,Int.le_refl _⟩ (by decide) (by decide) (by decide)) (fun r2 h2=>?_)
 refine Good.bind (bV r2.2 3 1 h2.2.2 (by decide) (by decide) (by decide)) (fun r3 h3=>?_)
 refine Good.bind (bV r3.2 3 2 h3.2.2 (by decide) (by decide) (by decide)) (fun r4 h4=>?_)
 refine Good.bind (bV r4.2 2 3 h4.2.2 (by decide) (by decide) (by decide)) (fun r5 h5=>?_)
 refine Good.bind (bV r5.2 2 4 h5.2.2 (by decide) (by decide) (by decide)) (fun r6 h6=>?_)
 refine Good.bind (bV r6.2 2 5 h6.2.2 (by decide) (by decide) (by decide)) (fun r7 h7=>?_)
 refine Good.bind (bV r7.2 3 6 h7.2.2 (by decide) (by decide) (by decide)) (fun r8 h8=>?_)
 refine Good.bind (bV r8.2 3 7 h8.2.2 (by decide) (by decide) (by decide)) (fun r9 h9=>?_)
 refine Good.bind (bV r9.2 30 8 h9.2.2 (by decide) (by decide) (by decide)) (fun r10 h10=>?_)
 obtain⟨l1,l2,-⟩:=h2;obtain⟨p1,p2,-⟩:=h3;obtain⟨e1,e2,-⟩:=h4;obtain⟨e3,e4,-⟩:=h5;obtain⟨e5,e6,-⟩:=h6;obtain⟨e7,e8,-⟩:=h9;obtain⟨e9,e10,h10'⟩:=h10;have wl:IntKind.wrap .i64 (2+r2.1)=2+r2.1:=wrap_i64 (by omega) (by omega)
 have wp:IntKind.wrap .i64 (1+r3.1)=1+r3.1:=wrap_i64 (by omega) (by omega)
 have wd:IntKind.wrap .i64 (1+r9.1)=1+r9.1:=wrap_i64 (by omega) (by omega)
 have wa:IntKind.wrap .i64 (40+r10.1)=40+r10.1:=wrap_i64 (by omega) (by omega)
 rw[wl,wp,wd,wa];refine Good.bind (JD r10.2 (2+r2.1) (1+r3.1) 9 h10' (by decide) (by omega) (by omega) hn) (fun r11 h11=>?_)
 refine Good.bind (γ:=List Int×Int×List aU) (Q:=fun t=>1≤t.2.2.length∧t.2.2.length≤3∧0≤t.2.1∧t.2.1≤77∧Ho t.2.2) ?_ (fun t1 ht1=>?_)
 ·obtain⟨k1,k2⟩:=h11.2;refine mc (fun j (s:Int×List Int×Int×List aU)=>s.1=(j:Int)∧0≤s.2.2.1∧s.2.2.1≤73+(j:Int)∧(s.2.2.2.length:Int)=(j:Int)∧Ho s.2.2.2) 3 (fun j s hj hs=>?_) (fun s hs=>?_) (by omega) ⟨rfl,k1,by simp;omega,by simp,by simp[Ho]⟩
  ·obtain⟨g1,g2,g3,g4,g5⟩:=hs;refine Good.bind (bV (n:=n) (Go.L.ax.mk s.2.1 s.2.2.1) 3 (73+(j:Int)) ⟨g2,g3⟩ (by omega) (by decide) (by decide)) (fun r hr=>?_)
   obtain⟨s1,s2,s3,s4⟩:=hr;have w:IntKind.wrap .i64 (s.1+1)=s.1+1:=wrap_i64 (by omega) (by omega)
   have w1:IntKind.wrap .i64 (100+s.1)=100+s.1:=wrap_i64 (by omega) (by omega)
   have w2:IntKind.wrap .u32 (100+s.1)=100+s.1:=wrap_u32' (by omega) (by omega)
   have w3:IntKind.wrap .i64 (900+s.1)=900+s.1:=wrap_i64 (by omega) (by omega)
   have w4:IntKind.wrap .u32 (900+s.1)=900+s.1:=wrap_u32' (by omega) (by omega)
   have hroom:roomy (s.2.2.2.length+1) 8=true:=by simp[roomy];omega
   by_cases hle:s.1≤r.1
   ·rw[if_pos hle,if_pos ⟨trivial,hroom⟩,w,w1,w2,w3,w4];refine .some ⟨?_,?_,?_,?_,?_⟩
    ·show s.1+1=((j+1:Nat):Int);omega
    ·exact s3
    ·show r.2.at_≤73+((j+1:Nat):Int);omega
    ·simp only[List.length_append,List.length_cons,List.length_nil];omega
    ·refine DI (P:=fun i t=>t=(⟨100+(i:Int),900+(i:Int)⟩:aU)) g5 ?_
     rw[g4,g1]
   ·rw[if_neg hle];refine .some ⟨?_,?_,?_,?_,g5⟩
    ·show 1≤s.2.2.2.length;omega
    ·show s.2.2.2.length≤3;omega
    ·exact s3
    ·show r.2.at_≤77;omega
  ·obtain⟨g1,g2,g3,g4,g5⟩:=hs;refine Good.bind (bV (n:=n) (Go.L.ax.mk s.2.1 s.2.2.1) 3 76 ⟨g2,by simpa using g3⟩ (by omega) (by decide) (by decide)) (fun r hr=>?_)
   obtain⟨s1,s2,s3,s4⟩:=hr;have hle:¬s.1≤r.1:=by omega
   rw[if_neg hle];refine .some ⟨?_,?_,?_,?_,g5⟩
   ·show 1≤s.2.2.2.length;omega
   ·show s.2.2.2.length≤3;omega
   ·exact s3
   ·show r.2.at_≤77;omega
 obtain⟨u1,u2,u3,u4,u5⟩:=ht1;refine Good.bind (bV (n:=n) (Go.L.ax.mk t1.1 t1.2.1) 4 77 ⟨u3,u4⟩ (by decide) (by decide) (by decide)) (fun r25 h25=>?_)
 obtain⟨q1,q2,q3⟩:=h25;have w25:IntKind.wrap .i64 (1+r25.1)=1+r25.1:=wrap_i64 (by omega) (by omega)
 rw[w25];simp[ff];refine Good.bind (γ:=List Int×Int×List BD) (Q:=fun t=>1≤t.2.2.length∧t.2.2.length≤4∧0≤t.2.1∧t.2.1≤86∧IU (t1.2.2.length:Int) t.2.2) ?_ (fun t2 ht2=>?_)
 ·refine mc (fun j (s:Int×List Int×Int×List BD)=>s.1=(j:Int)∧0≤s.2.2.1∧s.2.2.1≤78+2*(j:Int)∧(s.2.2.2.length:Int)=(j:Int)∧IU (t1.2.2.length:Int) s.2.2.2) (1+r25.1).toNat (fun j s hj hs=>?_) (fun s hs=>?_) (by omega) ⟨rfl,q3.1,by have:=q3.2;simp;omega,by simp,by simp[IU]⟩
  ·obtain⟨g1,g2,g3,g4,g5⟩:=hs;have hlt:s.1<1+r25.1:=by omega
   rw[if_pos hlt];refine Good.bind (IQ (n:=n) (Go.L.ax.mk s.2.1 s.2.2.1) s.1 (t1.2.2.length:Int) (78+2*(j:Int)) ⟨g2,g3⟩ (by omega) (by omega) (by omega)) (fun r hr=>?_)
   obtain⟨hb,s3,s4⟩:=hr;have w:IntKind.wrap .i64 (s.1+1)=s.1+1:=wrap_i64 (by omega) (by omega)
   have hroom:roomy (s.2.2.2.length+1) 40=true:=by simp[roomy];omega
   rw[if_pos hroom,w];refine .some ⟨?_,?_,?_,?_,?_⟩
   ·show s.1+1=((j+1:Nat):Int);omega
   ·exact s3
   ·show r.2.at_≤78+2*((j+1:Nat):Int);omega
   ·simp only[List.length_append,List.length_cons,List.length_nil];omega
   ·refine DI (P:=fun i b=>MT (t1.2.2.length:Int) (i:Int) b) g5 ?_
    rw[g4,← g1];exact hb
  ·obtain⟨g1,g2,g3,g4,g5⟩:=hs;have hlt:¬s.1<1+r25.1:=by omega
   rw[if_neg hlt];refine .some ⟨?_,?_,?_,?_,g5⟩
   ·show 1≤s.2.2.2.length;omega
   ·show s.2.2.2.length≤4;omega
   ·exact g2
   ·show s.2.2.1≤86;omega
 obtain⟨b1,b2,b3,b4,b5⟩:=ht2;refine Good.bind (bV (n:=n) (Go.L.ax.mk t2.1 t2.2.1) 5 86 ⟨b3,b4⟩ (by decide) (by decide) (by decide)) (fun r39 h39=>?_)
 obtain⟨q1',q2',q3'⟩:=h39;have w39:IntKind.wrap .i64 (2+r39.1)=2+r39.1:=wrap_i64 (by omega) (by omega)
 rw[w39];refine Good.bind (γ:=List Int×Int×List aH) (Q:=fun t=>2≤t.2.2.length∧t.2.2.length≤6∧(∀y∈t.2.2,Lx (2+r2.1) (t2.2.2.length:Int) y)∧0≤t.2.1∧t.2.1≤195) ?_ (fun t3 ht3=>?_)
 ·refine mc (fun j (s:Int×List Int×Int×List aH)=>s.1=(j:Int)∧0≤s.2.2.1∧s.2.2.1≤87+18*(j:Int)∧(s.2.2.2.length:Int)=(j:Int)∧∀y∈s.2.2.2,Lx (2+r2.1) (t2.2.2.length:Int) y) (2+r39.1).toNat (fun j s hj hs=>?_) (fun s hs=>?_) (by omega) ⟨rfl,q3'.1,by have:=q3'.2;simp;omega,by simp,by simp⟩
  ·obtain⟨g1,g2,g3,g4,g5⟩:=hs;have hlt:s.1<2+r39.1:=by omega
   rw[if_pos hlt];refine Good.bind (EZ (n:=n) (Go.L.ax.mk s.2.1 s.2.2.1) (2+r2.1) 3 (87+18*(j:Int)) ⟨g2,g3⟩ (by omega) (by omega) (by omega) hn) (fun r hr=>?_)
   obtain⟨m1,m4⟩:=hr;refine Good.bind (EZ (n:=n) r.2 (t2.2.2.length:Int) 4 (87+18*(j:Int)+9) m4 (by omega) (by omega) (by omega) hn) (fun r' hr'=>?_)
   obtain⟨m5,m8,m9⟩:=hr';have w:IntKind.wrap .i64 (s.1+1)=s.1+1:=wrap_i64 (by omega) (by omega)
   have hroom:roomy (s.2.2.2.length+1) 48=true:=by simp[roomy];omega
   rw[if_pos hroom,w];refine .some ⟨?_,?_,?_,?_,fun y hy=>?_⟩
   ·show s.1+1=((j+1:Nat):Int);omega
   ·exact m8
   ·show r'.2.at_≤87+18*((j+1:Nat):Int);omega
   ·simp only[List.length_append,List.length_cons,List.length_nil];omega
   ·rcases List.mem_append.1 hy with hy |hy
    ·exact g5 y hy
    ·simp only[List.mem_singleton]at hy;subst hy;exact⟨m1,m5⟩
  ·obtain⟨g1,g2,g3,g4,g5⟩:=hs;have hlt:¬s.1<2+r39.1:=by omega
   rw[if_neg hlt];refine .some ⟨?_,?_,g5,g2,?_⟩
   ·show 2≤s.2.2.2.length;omega
   ·show s.2.2.2.length≤6;omega
   ·show s.2.2.1≤195;omega
 obtain⟨c1,c2,c3,c4,c5⟩:=ht3;refine Good.bind (bV (n:=n) (Go.L.ax.mk t3.1 t3.2.1) 9 195 ⟨c4,c5⟩ (by decide) (by decide) (by decide)) (fun r56 h56=>?_)
 obtain⟨v1,v2,v3⟩:=h56;refine Good.bind (γ:=List Int×Int×List Host) (Q:=fun t=>t.2.2.length≤8∧0≤t.2.1∧t.2.1≤228∧E1 t2.2.2 t3.2.2 t.2.2) ?_ (fun t4 ht4=>?_)
 ·refine mc (fun j (s:Int×List Int×Int×List Host)=>s.1=(j:Int)∧0≤s.2.2.1∧s.2.2.1≤196+4*(j:Int)∧(s.2.2.2.length:Int)=(j:Int)∧E1 t2.2.2 t3.2.2 s.2.2.2) r56.1.toNat (fun j s hj hs=>?_) (fun s hs=>?_) (by omega) ⟨rfl,v3.1,by have:=v3.2;simp;omega,by simp,by simp[E1]⟩
  ·obtain⟨g1,g2,g3,g4,g5⟩:=hs;have hlt:s.1<r56.1:=by omega
   rw[if_pos hlt];refine Good.bind (LB (n:=n) (Go.L.ax.mk s.2.1 s.2.2.1) _ _ _ _ t2.2.2 t3.2.2 _ _ _ _ _ _ _ _ _ _ _ s.1 (196+4*(j:Int)) (t1.2.2.length:Int) ⟨g2,g3⟩ (by omega) (by omega) c3 b5 (by omega) (by omega)) (fun r hr=>?_)
   obtain⟨hh,s3,s4⟩:=hr;have w:IntKind.wrap .i64 (s.1+1)=s.1+1:=wrap_i64 (by omega) (by omega)
   have hroom:roomy (s.2.2.2.length+1) 32=true:=by simp[roomy];omega
   rw[if_pos hroom,w];refine .some ⟨?_,?_,?_,?_,?_⟩
   ·show s.1+1=((j+1:Nat):Int);omega
   ·exact s3
   ·show r.2.at_≤196+4*((j+1:Nat):Int);omega
   ·simp only[List.length_append,List.length_cons,List.length_nil];omega
   ·refine DI (P:=fun i b=>Lz t2.2.2 t3.2.2 (i:Int) b) g5 ?_
    rw[g4,← g1];exact hh
  ·obtain⟨g1,g2,g3,g4,g5⟩:=hs;have hlt:¬s.1<r56.1:=by omega
   rw[if_neg hlt];refine .some ⟨?_,?_,?_,g5⟩
   ·show s.2.2.2.length≤8;omega
   ·exact g2
   ·show s.2.2.1≤228;omega
 obtain⟨d1,d2,d3,d4⟩:=ht4;have hsz:∀lk:List fW,lk.length≤2→(∀x∈lk,E0 (t1.2.2.length:Int) x)→lk.Nodup→Vf {Leaves:=2+r2.1,cZ:=1+r3.1,Links:=r11.1,aG:=t1.2.2,aI:=t2.2.2,au:=t3.2.2,bh:=t4.2.2,dn:=lk,vm:=r4.1,oI:=r5.1,qY:=r6.1,DB:=r7.1==0,Lf:=r8.1==1,bT:={pF:=1+r9.1,y9:=9,BK:=40+r10.1,oH:=20,vl:=5,Window:=30}}:=fun lk hlk hlv hld=>
  ⟨⟨by show 2≤2+r2.1;omega,by show 2+r2.1≤4;omega⟩,⟨by show 1≤1+r3.1;omega,by show 1+r3.1≤3;omega⟩,h11.1,⟨u1,u2⟩,u5,⟨b1,b2⟩,b5,⟨c1,c2⟩,c3,d1,d4,hlk,hlv,hld,
   ⟨e1,by show r4.1≤2;omega⟩,⟨e3,by show r5.1≤1;omega⟩,⟨e5,by show r6.1≤1;omega⟩,by show 1≤1+r9.1;omega,by show 1+r9.1≤3;omega,rfl,by show 40≤40+r10.1;omega,by show 40+r10.1≤69;omega,rfl,rfl,rfl⟩
 by_cases hm:(1:Int)<(t1.2.2.length:Int)
 ·rw[if_pos (by simpa using hm)]
  refine Good.bind (bV (n:=n) (Go.L.ax.mk t4.1 t4.2.1) 3 228 ⟨d2,d3⟩ (by decide) (by decide) (by decide)) (fun r70 h70=>?_)
  obtain⟨v1',v2',v3'⟩:=h70;refine Good.bind (γ:=List Int×Int×List fW) (Q:=fun t=>t.2.2.length≤2∧(∀x∈t.2.2,E0 (t1.2.2.length:Int) x)∧t.2.2.Nodup) ?_ (fun t5 ht5=>?_)
  ·refine mc (fun j (s:Int×List Int×Int×List fW)=>s.1=(j:Int)∧0≤s.2.2.1∧s.2.2.1≤229+4*(j:Int)∧(s.2.2.2.length:Int)≤(j:Int)∧(∀x∈s.2.2.2,E0 (t1.2.2.length:Int) x)∧s.2.2.2.Nodup) r70.1.toNat (fun j s hj hs=>?_) (fun s hs=>?_) (by omega) ⟨rfl,v3'.1,by have:=v3'.2;simp;omega,by simp,by simp,by simp⟩
   ·obtain⟨g1,g2,g3,g4,g5,g6⟩:=hs;have hlt:s.1<r70.1:=by omega
    rw[if_pos hlt];refine Good.bind (LA (n:=n) (Go.L.ax.mk s.2.1 s.2.2.1) (t1.2.2.length:Int) (229+4*(j:Int)) ⟨g2,g3⟩ (by omega) (by omega)) (fun r hr=>?_)
    obtain⟨hk,s3,s4⟩:=hr;have w:IntKind.wrap .i64 (s.1+1)=s.1+1:=wrap_i64 (by omega) (by omega)
    have hroom:roomy (s.2.2.2.length+1) 32=true:=by simp[roomy];omega
    refine Good.bind (γ:=Unit⊕Unit) (Q:=fun t=>match t with | .inl _=>True | .inr _=>r.1∉s.2.2.2) ?_ (fun t ht=>?_)
    ·refine mc (fun i (q:Int)=>q=(i:Int)∧∀j<i,∀y,s.2.2.2[j]? =some y→y≠r.1) s.2.2.2.length (fun i q hi hq=>?_) (fun q hq=>?_) (by omega) ⟨rfl,by simp⟩
     ·obtain⟨rfl,hq⟩:=hq;have hlt:(i:Int)<(s.2.2.2.length:Int):=by omega
      rw[if_pos hlt,eH _ _ _ _ _ _ (by omega) hlt]
      simp only[gK,Int.toNat_natCast,List.getElem?_eq_getElem hi,Option.bind_some];split
      ·exact .some trivial
      ·rename_i hne;refine .some ⟨bR (by omega),fun k hk y hy=>?_⟩
       rcases Nat.lt_or_ge k i with hki |hki
       ·exact hq k hki y hy
       ·have:k=i:=by omega
        subst this;rw[List.getElem?_eq_getElem hi]at hy;simp only[Option.some.injEq]at hy;subst hy;intro e;apply hne;simp[e]
     ·obtain⟨rfl,hq⟩:=hq;simp only[Int.lt_irrefl,if_false];refine .some fun hmem=>?_
      obtain⟨k,hk⟩:=List.getElem?_of_mem hmem;exact hq k (List.getElem?_eq_some_iff.1 hk).1 _ hk rfl
    ·cases t with
     |inl _=>
      simp only[Sum.elim,G.run,aK,if_true];rw[w];refine .some ⟨?_,s3,?_,?_,g5,g6⟩
      ·show s.1+1=((j+1:Nat):Int);omega
      ·show r.2.at_≤229+4*((j+1:Nat):Int);omega
      ·show(s.2.2.2.length:Int)≤((j+1:Nat):Int);omega
     |inr _=>
      simp only[Sum.elim,G.run,aK,vA,if_true];rw[if_pos ⟨trivial,hroom⟩,w];refine .some ⟨?_,s3,?_,?_,fun x hx=>?_,?_⟩
      ·show s.1+1=((j+1:Nat):Int);omega
      ·show r.2.at_≤229+4*((j+1:Nat):Int);omega
      ·simp only[List.length_append,List.length_cons,List.length_nil];omega
      ·rcases List.mem_append.1 hx with hx |hx
       ·exact g5 x hx
       ·simp only[List.mem_singleton]at hx;subst hx;exact hk
      ·rw[List.nodup_append];refine⟨g6,by simp,fun a ha b hb=>?_⟩
       simp only[List.mem_singleton]at hb;subst hb;rintro rfl;exact ht ha
   ·obtain⟨g1,g2,g3,g4,g5,g6⟩:=hs;have hlt:¬s.1<r70.1:=by omega
    rw[if_neg hlt];exact .some ⟨by show s.2.2.2.length≤2;omega,g5,g6⟩
  ·exact .some (hsz _ ht5.1 ht5.2.1 ht5.2.2)
 ·rw[if_neg (by simpa using hm)]
  exact .some (hsz [] (by simp) (by simp) (by simp))
end
end Go.L
namespace Go.L
open Go.AM
theorem me{α K:Type}[DecidableEq K](key:α→K)(l:List α)(i:Nat)(x:α)(hx:l[i]? =some x)(h:∀(j:Nat) y,j<i→l[j]? =some y→key y≠key x):(aW key [] l).getD i false=false:=by
 rw[List.getD_eq_getElem?_getD,AO,hx];simp only[Option.map_some,Option.getD_some,List.nil_append,decide_eq_false_iff_not,List.mem_map,not_exists,not_and];intro y hy e;obtain⟨j,hj⟩:=List.getElem?_of_mem hy;rw[List.getElem?_take]at hj;split at hj
 ·rename_i hlt;exact h j y hlt hj e
 ·cases hj
theorem oM{p:ByteArray}{m:Int}{b:Bool}{r:Option (Int×Nat)}(hb:b=false)(hr:r=none):outcome p m b r=.inl ():=by
 subst hb;subst hr;rfl
theorem nB{α:Type}{E:Nat→α→Int}{l:List α}(h:∀(j:Nat) x,l[j]? =some x→E j x=0):bw E 0 l=none:=
 (ox l 0).2 fun j x hx=>by rw[Nat.zero_add];exact h j x hx
theorem LC:∀{l:List Int},Cc l→sr l=true
 | [],_=>rfl
 | [_],_=>rfl
 |x::y::l,h=>by
  have h':Cc (y::l):=(List.pairwise_cons.1 h).2;have hxy:x<y:=(List.pairwise_cons.1 h).1 y (by simp)
  have ih:=LC h';simp only[sr,List.tail_cons,List.zip_cons_cons,List.all_cons,Bool.and_eq_true,decide_eq_true_eq]at ih ⊢;exact⟨hxy,ih⟩
theorem MU{α:Type}{l:List α}(h:l.Nodup){i j:Nat}{x y:α}(hx:l[i]? =some x)(hy:l[j]? =some y)(hij:j<i):y≠x:=by
 obtain⟨h1,rfl⟩:=List.getElem?_eq_some_iff.1 hx;obtain⟨h2,rfl⟩:=List.getElem?_eq_some_iff.1 hy;exact(List.pairwise_iff_getElem.1 h) j i h2 h1 hij
section
variable {f:aD} (hv:Vf f)
include hv
theorem Om:EW f=.inl ():=by
 obtain⟨h1,h2,h3⟩:=hv.links;refine oM (by simp;omega) (nB fun i x hx=>?_)
 obtain⟨a1,a2,a3,a4,a5,a6⟩:=h2 x (List.mem_of_getElem? hx);have hf:=me (fun x:dG=>(⟨x.A,x.B⟩:V2 Int)) f.Links i x hx fun j y hj hy e=>by
  have e1:(f.Links.map AV)[i]? =some (AV x):=by rw[List.getElem?_map,hx];rfl
  have e2:(f.Links.map AV)[j]? =some (AV y):=by rw[List.getElem?_map,hy];rfl
  exact MU h3 e1 e2 hj e
 have hw:IntKind.wrap .i64 (f.Leaves+f.cZ)=f.Leaves+f.cZ:=wrap_i64 (by have:=hv.leaves;have:=hv.Cd;omega) (by have:=hv.leaves;have:=hv.Cd;omega)
 have c1:(decide (0≤x.A)&&decide (x.A<f.Leaves))=true:=by simp[a1,a2]
 have c2:decide (x.B≥f.Leaves)=true:=by simp;omega
 have c3:¬(!decide (x.B<IntKind.wrap .i64 (f.Leaves+f.cZ)))=true:=by rw[hw];simp;omega
 have c4:¬(decide (x.uF<1)||decide (1000<x.uF))=true:=by simp;omega
 rw[wC,if_pos c1,if_pos c2,if_neg c3,if_neg c4,hf,if_neg (by decide)]
theorem LD:AR f=.inl ():=by
 obtain⟨h1,h2⟩:=hv.sM;have ht:=hv.Kl;refine oM (by simp;omega) (nB fun i x hx=>?_)
 have hi:=(List.getElem?_eq_some_iff.1 hx).1;have e:=ht i x hx;have hf1:=me (fun x:aU=>x.cg) f.aG i x hx fun j y hj hy e'=>by
  have e2:=ht j y hy;subst e2;subst e;simp at e';omega
 have hf2:=me (fun x:aU=>x.Target) f.aG i x hx fun j y hj hy e'=>by
  have e2:=ht j y hy;subst e2;subst e;simp at e';omega
 subst e;have c1:¬decide ((100+(i:Int))<1)=true:=by simp;omega
 have c2:¬decide (16777215<(100+(i:Int)))=true:=by simp;omega
 have c3:¬(((900+(i:Int))==0)=true):=by simp;omega
 rw[qv,if_neg c1,if_neg c2,if_neg c3,hf1,if_neg (by decide),hf2,if_neg (by decide)]
theorem On:EY f=.inl ():=by
 refine oM (by have:=hv.EU;simp;omega) (nB fun i x hx=>?_)
 obtain⟨a1,a2,a3,a4,a5,a6⟩:=hv.Ry x (List.mem_of_getElem? hx);have hf:=me (fun x:fW=>x) f.dn i x hx fun j y hj hy e=>MU hv.Q2 hx hy hj e
 have c1:¬(!(decide (0≤x.From)&&decide (x.From<(f.aG.length:Int))))=true:=by simp[a1,a2]
 have c2:¬(!(decide (0≤x.To)&&decide (x.To<(f.aG.length:Int))))=true:=by simp[a3,a4]
 have c3:¬(x.From==x.To)=true:=by simp[a5]
 have c4:¬(!fC x.aN)=true:=by
  rcases a6 with e |⟨t,t0,t4,e⟩
  ·rw[e];decide
  ·rw[e];rcases(by omega:t=0∨t=1∨t=2∨t=3)with rfl |rfl |rfl |rfl<;>decide
 rw[wD,if_neg c1,if_neg c2,if_neg c3,if_neg c4,hf,if_neg (by decide)]
theorem LF:u0 f=.inl ():=by
 obtain⟨h1,h2⟩:=hv.nE;obtain⟨h3,h4⟩:=hv.sM;have hb:=hv.bd;refine oM (by simp;omega) (nB fun i b hx=>?_)
 have hi:=(List.getElem?_eq_some_iff.1 hx).1;obtain⟨a1,a2,a3,a4,a5⟩:=hb i b hx;have hf1:=me (fun x:BD=>x.cg) f.aI i b hx fun j y hj hy e=>by
  have:=(hb j y hy).2.2.1;have e':y.cg=b.cg:=e;omega
 have hf2:=me (fun x:BD=>x.Target) f.aI i b hx fun j y hj hy e=>by
  have:=(hb j y hy).2.2.2.1;have e':y.Target=b.Target:=e;omega
 have c1:¬(!(decide (0≤b.aU)&&decide (b.aU<(f.aG.length:Int))))=true:=by simp[a1,a2]
 have c2:¬decide (b.cg<1)=true:=by simp;omega
 have c3:¬decide (16777215<b.cg)=true:=by simp;omega
 have c4:¬(b.Target==0)=true:=by simp;omega
 have c5:¬(f.aG.any fun x=>x.cg==b.cg)=true:=by
  simp only[List.any_eq_true,beq_iff_eq,not_exists,not_and];intro t ht e;obtain⟨j,hj⟩:=List.getElem?_of_mem ht;have:=hv.Kl j t hj;have hjl:=(List.getElem?_eq_some_iff.1 hj).1;rw[this]at e;simp only at e;omega
 have c6:¬(f.aG.any fun x=>x.Target==b.Target)=true:=by
  simp only[List.any_eq_true,beq_iff_eq,not_exists,not_and];intro t ht e;obtain⟨j,hj⟩:=List.getElem?_of_mem ht;have:=hv.Kl j t hj;have hjl:=(List.getElem?_eq_some_iff.1 hj).1;rw[this]at e;simp only at e;omega
 rw[ya,if_neg c1,if_neg c2,if_neg c3,if_neg c4,hf1,if_neg (by decide),hf2,if_neg (by decide),if_neg c5,if_neg c6]
 rcases a5 with⟨e1,e2⟩ |⟨e1,e2⟩
 ·rw[e1,e2,if_pos (by decide),if_neg (by decide)]
 ·have c7:¬(b.aZ==0)=true:=by simp;omega
  have c11:¬((f.aI.take i).any (tZ b.aU b.aJ.IP b.aJ.Len))=true:=by
   simp only[List.any_eq_true,not_exists,not_and];intro y hy ho;obtain⟨j,hj⟩:=List.getElem?_of_mem hy;rw[List.getElem?_take]at hj;split at hj
   ·rename_i hlt;obtain⟨-,-,-,-,a6⟩:=hb j y hj;simp only[tZ,Bool.and_eq_true,bne_iff_ne]at ho;obtain⟨-,hg,hc⟩:=ho;rcases a6 with⟨e3,e4⟩ |⟨e3,e4⟩
    ·exact hg e4
    ·rw[e1,e3]at hc;simp only at hc;rcases(by omega:(j=0∧i=1)∨(j=0∧i=2)∨(j=0∧i=3)∨(j=1∧i=2)∨(j=1∧i=3)∨(j=2∧i=3))with⟨rfl,rfl⟩ |⟨rfl,rfl⟩ |⟨rfl,rfl⟩ |⟨rfl,rfl⟩ |⟨rfl,rfl⟩ |⟨rfl,rfl⟩<;>revert hc<;>decide
   ·cases hj
  have c8:¬(!fC b.aJ)=true:=by
   rw[e1];rcases(by omega:i=0∨i=1∨i=2∨i=3)with rfl |rfl |rfl |rfl<;>decide
  have c9:¬out b.aJ.Len 8 30=true:=by rw[e1];show ¬out 24 8 30=true;decide
  have c10:¬(!vH b.aJ b.aZ)=true:=by
   rw[e1,e2];rcases(by omega:i=0∨i=1∨i=2∨i=3)with rfl |rfl |rfl |rfl<;>decide
  rw[if_neg c7,if_neg c8,if_neg c9,if_neg c10,if_neg c11]
theorem JE:yJ f=.inl ():=by
 obtain⟨h1,h2⟩:=hv.segments;refine oM (by simp;omega) (nB fun i x hx=>?_)
 have hi:=(List.getElem?_eq_some_iff.1 hx).1;obtain⟨⟨a1,a2,a3,a4⟩,⟨b1,b2,b3,b4⟩⟩:=hv.seg x (List.mem_of_getElem? hx);have c1:¬((x.Leaves.length:Int)==0)=true:=by simp only[beq_iff_eq];omega
 have c2:¬((x.aI.length:Int)==0)=true:=by simp only[beq_iff_eq];omega
 have c3:¬(x.Leaves.any fun n=> !(decide (0≤n)&&decide (n<f.Leaves)))=true:=by
  simp only[List.any_eq_true,not_exists,not_and];intro y hy;have:=a3 y hy;simp[this.1,this.2]
 have c4:¬(x.aI.any fun n=> !(decide (0≤n)&&decide (n<(f.aI.length:Int))))=true:=by
  simp only[List.any_eq_true,not_exists,not_and];intro y hy;have:=b3 y hy;simp[this.1,this.2]
 have c5:¬(!sr x.Leaves)=true:=by rw[LC a4];decide
 have c6:¬(!sr x.aI)=true:=by rw[LC b4];decide
 have c7:¬(x.Leaves.any fun n=>decide (32<(((f.au.take i).countP fun s=>s.Leaves.contains n:Nat):Int)+1))=true:=by
  simp only[List.any_eq_true,not_exists,not_and,decide_eq_true_eq];intro y hy;have h3:((f.au.take i).countP fun s=>s.Leaves.contains y)≤(f.au.take i).length:=List.countP_le_length
  have h4:(f.au.take i).length≤f.au.length:=by simp;omega
  omega
 rw[AQ,if_neg c1,if_neg c2,if_neg c3,if_neg c4,if_neg c5,if_neg c6,if_neg c7]
theorem Oo:EX f=.inl ():=by
 have h1:=hv.yI;have hh:=hv.host;refine oM (by simp;omega) (nB fun i h hx=>?_)
 have hi:=(List.getElem?_eq_some_iff.1 hx).1;obtain⟨a1,a2,a3,a4,a5⟩:=hh i h hx;have hf1:=me (fun x:Host=>(⟨x.BD,x.bN⟩:aY)) f.bh i h hx fun j y hj hy e=>by
  have:=(hh j y hy).1;simp only[aY.mk.injEq]at e;omega
 have c1:¬(h.bN==0)=true:=by simp;omega
 have c2:¬decide (281474976710655<h.bN)=true:=by simp;omega
 have c3:¬vn h.bN=true:=by
  rw[a1];rcases(by omega:i=0∨i=1∨i=2∨i=3∨i=4∨i=5∨i=6∨i=7)with rfl |rfl |rfl |rfl |rfl |rfl |rfl |rfl<;>decide
 have c4:¬(!(decide (0≤h.BD)&&decide (h.BD<(f.aI.length:Int))))=true:=by simp[a2,a3]
 have hsr:h.aH= -1∨0≤h.aH∧h.aH<(f.au.length:Int):=by
  rcases a4 with e |⟨s,hs,-⟩
  ·exact .inl e
  ·right;unfold ez at hs;split at hs
   ·have:=(List.getElem?_eq_some_iff.1 hs).1;omega
   ·cases hs
 have c5:¬out h.aH (-1) ((f.au.length:Int) - 1)=true:=by
  simp only[out,Bool.or_eq_true,decide_eq_true_eq,not_or];have:=hv.segments;omega
 have c6:¬(h.aH != -1&& !(vI f h.aH).any fun x=>h.BD==x)=true:=by
  rcases a4 with e |⟨s,hs,hm⟩
  ·rw[e];simp
  ·have:((vI f h.aH).any fun x=>h.BD==x)=true:=by
    unfold vI;rw[hs];simp only[Option.map_some,Option.getD_some,List.any_eq_true];exact⟨h.BD,hm,by simp⟩
   rw[this];simp
 have c7:¬(h.bN==1577058561)=true:=by simp;omega
 have c8:¬kB h.bN=true:=by
  simp only[kB,Bool.and_eq_true,Bool.not_eq_true',decide_eq_false_iff_not,not_and];omega
 have hbd:=hv.nE;have key:h.IP≠0→∃d:Nat,d<4∧h.BD=(d:Int)∧h.IP=167772160+(d:Int)*65536+(10+(i:Int))∧(zi f h.BD).aZ=167772161+(d:Int)*65536∧(zi f h.BD).aJ=⟨167772160+(d:Int)*65536,24⟩:=by
  intro h0;rcases a5 with e |⟨b,hb,hg,e⟩
  ·exact absurd e h0
  ·obtain⟨d,hd⟩:∃d:Nat,h.BD=(d:Int):=⟨h.BD.toNat,by omega⟩
   have hbv:=hv.bd d b (by rw[hd,bg]at hb;exact hb)
   obtain⟨-,-,-,-,e3 |e3⟩:=hbv
   ·exact absurd e3.2 hg
   ·refine⟨d,by omega,hd,?_,?_,?_⟩
    ·rw[e,e3.1]
    ·unfold zi;rw[hb];exact e3.2
    ·unfold zi;rw[hb];exact e3.1
 have c9:¬(!fA (zi f h.BD) h.IP)=true:=by
  by_cases h0:h.IP=0
  ·rw[h0];simp[fA]
  ·obtain⟨d,hd,-,e1,e2,e3⟩:=key h0;rw[fA,e1,e2,e3];have hi8:i<8:=by omega
   clear key a5 a4 c6 c5 hsr c8 c7 c4 c3 c2 c1 hf1 a1 a2 a3 hx hh hbd h1 hv e1 e2 e3 h0;rcases(by omega:d=0∨d=1∨d=2∨d=3)with rfl |rfl |rfl |rfl<;>
    rcases(by omega:i=0∨i=1∨i=2∨i=3∨i=4∨i=5∨i=6∨i=7)with rfl |rfl |rfl |rfl |rfl |rfl |rfl |rfl<;>decide
 have c10:¬(h.IP != 0&&(aW (fun x:Host=>(⟨x.BD,IntKind.wrap .u64 x.IP⟩:aY)) [] f.bh).getD i false)=true:=by
  by_cases h0:h.IP=0
  ·rw[h0];simp
  ·obtain⟨d,hd,ed,e1,-,-⟩:=key h0;rw[me (fun x:Host=>(⟨x.BD,IntKind.wrap .u64 x.IP⟩:aY)) f.bh i h hx fun j y hj hy e=>by
    simp only[aY.mk.injEq]at e;obtain⟨eb,ei⟩:=e;obtain⟨-,-,-,-,y5⟩:=hh j y hy;rcases y5 with y5 |⟨b,hb,hg,y5⟩
    ·rw[y5,e1]at ei;rcases(by omega:d=0∨d=1∨d=2∨d=3)with rfl |rfl |rfl |rfl<;>(simp only[IntKind.wrap,IntKind.bits,IntKind.signed]at ei;simp at ei;omega)
    ·have hbv:=hv.bd d b (by rw[eb,ed,bg]at hb;exact hb)
     obtain⟨-,-,-,-,e3 |e3⟩:=hbv
     ·exact absurd e3.2 hg
     ·rw[y5,e3.1,e1]at ei;simp only[IntKind.wrap,IntKind.bits,IntKind.signed]at ei;simp at ei;omega]
   simp
 rw[wE,if_neg c1,if_neg c2,if_neg c3,if_neg c4,if_neg c5,if_neg c6,if_neg c7,if_neg c8,if_neg c9,hf1,if_neg (by decide),if_neg c10]
theorem MV:oL f=.inl ():=by
 have hL:=hv.leaves;have hS:=hv.Cd;have hw:IntKind.wrap .i64 (f.Leaves+f.cZ)=f.Leaves+f.cZ:=wrap_i64 (by omega) (by omega)
 have e1:=hv.Q3;have e2:=hv.Px;have e3:=hv.router;have:dx f=false:=by
  simp only[dx,out,hw,Bool.or_eq_false_iff,decide_eq_false_iff_not];omega
 rw[oL,this];rfl
theorem MW:wK f=.inl ():=by
 obtain⟨t1,t2,t3,t4,t5,t6,t7,t8⟩:=hv.timers;have:dy f.bT=false:=by
  simp only[dy,out,Bool.or_eq_false_iff,decide_eq_false_iff_not];omega
 rw[wK,this];rfl
theorem IW:ri f=(0,⟨⟨[]⟩⟩,0):=by
 simp only[ri,MV hv,MW hv,Om hv,LD hv,LF hv,JE hv,Oo hv,On hv,ua]
theorem IX:Small f:=by
 refine⟨?_,?_,?_,?_,?_,?_,fun s hs=>?_⟩
 ·have:=hv.links.1;omega
 ·have:=hv.sM;omega
 ·have:=hv.nE;omega
 ·have:=hv.segments;omega
 ·have:=hv.yI;omega
 ·have:=hv.EU;omega
 ·obtain⟨⟨a1,a2,-⟩,⟨b1,b2,-⟩⟩:=hv.seg s hs;omega
end
end Go.L
end
