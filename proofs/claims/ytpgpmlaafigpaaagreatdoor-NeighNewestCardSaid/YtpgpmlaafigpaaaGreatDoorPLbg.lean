/- TenantChecks: Check answers as the reference does, for any configuration. No conditions. -/
import Derived.Test.YtpgpmlaafigpaaaGreatDoorWBh
import Derived.Test.YtpgpmlaafigpaaaGreatDoorAd
namespace Go.AM
theorem P5{α σ τ ST:Type}{f:ST→Option (ST⊕τ)}(mk:Nat→σ→ST)(l:List α)(S:Nat→σ)(fin:τ)
 (hs:∀i x,l[i]? =some x→f (mk i (S i))=some (.inl (mk (i+1) (S (i+1))))) (he:f (mk l.length (S l.length))=some (.inr fin)) (n:Nat) (hn:l.length<n):bZ f n (mk 0 (S 0))=some fin:=by
 have key:∀(k i n:Nat),i+k=l.length→k<n→bZ f n (mk i (S i))=some fin:=by
  intro k;induction k with
  |zero=>
   intro i n hi hn;obtain⟨n,rfl⟩:∃m,n=m+1:=⟨n - 1,by omega⟩
   have:i=l.length:=by omega
   subst this;simp only[bZ,he]
  |succ k ih=>
   intro i n hi hn;obtain⟨n,rfl⟩:∃m,n=m+1:=⟨n - 1,by omega⟩
   simp only[bZ,hs i _ (List.getElem?_eq_getElem (show i<l.length by omega))]
   exact ih (i+1) n (by omega) (by omega)
 exact key l.length 0 n (by omega) hn
def bM{α K:Type}[DecidableEq K](key:α→K):List K→List α→List Bool
 |_,[]=>[]
 |seen,x::xs=>decide (key x∈seen)::bM key (seen++[key x]) xs
section
variable {α K:Type} [DecidableEq K] (key:α→K)
theorem Gb:∀(l:List α) (seen:List K) (x:α),bM key seen (l++[x])=bM key seen l++[decide (key x∈seen++l.map key)]
 | [],seen,x=>by simp[bM]
 |y::l,seen,x=>by
  simp only[List.cons_append,bM,Gb l,List.map_cons,List.append_assoc,List.nil_append]
theorem fh:∀(l:List α) (seen:List K),(bM key seen l).length=l.length
 | [],_=>rfl
 |_::l,seen=>by simp[bM,fh l]
theorem Ia:∀(l:List α) (seen:List K) (i:Nat),(bM key seen l)[i]? =(l[i]?).map fun x=>decide (key x∈seen++(l.take i).map key)
 | [],_,_=>by simp[bM]
 |y::l,seen,0=>by simp[bM]
 |y::l,seen,i+1=>by
  simp only[bM,List.getElem?_cons_succ,Ia l,List.take_succ_cons,List.map_cons,List.append_assoc,List.singleton_append]
variable {eq:K→K→Bool}
def BG(m:List (K×Bool))(ks:List K):Prop:=(∀p∈m,p.2=true)∧∀k,k∈m.map (·.1)↔k∈ks
theorem DA(heq:∀a b,eq a b=decide (a=b)):∀(m:List (K×Bool)) (k:K) (j i:Nat) (v:Bool),bp eq k m j=some (i,v)→j≤i∧m[i - j]? =some (k,v)
 | [],_,_,_,_,h=>by simp[bp]at h
 |p::ps,k,j,i,v,h=>by
  simp only[bp,heq,decide_eq_true_eq]at h;split at h
  ·rename_i hk;simp only[Option.some.injEq,Prod.mk.injEq]at h;obtain⟨rfl,rfl⟩:=h;exact⟨Nat.le_refl _,by simp[hk]⟩
  ·obtain⟨h1,h2⟩:=DA heq ps k (j+1) i v h;refine⟨by omega,?_⟩
   rw[show i - j=(i - (j+1))+1 by omega]
   simpa using h2
theorem Ib(heq:∀a b,eq a b=decide (a=b)):∀(m:List (K×Bool)) (k:K) (j:Nat),bp eq k m j=none→k∉m.map (·.1)
 | [],_,_,_=>by simp
 |p::ps,k,j,h=>by
  simp only[bp,heq,decide_eq_true_eq]at h;split at h
  ·cases h
  ·rename_i hk;have:=Ib heq ps k (j+1) h;simp only[List.map_cons,List.mem_cons,not_or];exact⟨hk,this⟩
theorem BG.get(heq:∀a b,eq a b=decide (a=b)){m:List (K×Bool)}{ks:List K}(h:BG m ks)(k:K):((bp eq k m 0).map (·.2)).getD false=decide (k∈ks):=by
 cases hf:bp eq k m 0 with
 |none=>
  have:=Ib heq m k 0 hf;rw[h.2]at this;simp[this]
 |some q=>
  obtain⟨i,v⟩:=q;obtain⟨_,h2⟩:=DA heq m k 0 i v hf;have hm:=List.mem_of_getElem? h2;have hv:=h.1 _ hm;have:k∈ks:=(h.2 k).1 (List.mem_map.2 ⟨_,hm,rfl⟩);simp only at hv;simp[this,hv]
theorem BG.put(heq:∀a b,eq a b=decide (a=b)){m:List (K×Bool)}{ks:List K}(h:BG m ks)(k:K):BG (dx eq k true m) (ks++[k]):=by
 unfold dx;split
 ·rename_i i v hf;obtain⟨_,h2⟩:=DA heq m k 0 i v hf;rw[Nat.sub_zero]at h2;refine⟨fun p hp=>?_,fun q=>?_⟩
  ·rcases List.mem_or_eq_of_mem_set hp with hp |rfl
   ·exact h.1 p hp
   ·rfl
  ·have hs:(m.set i (k,true)).map (·.1)=m.map (·.1):=by
    rw[List.map_set];apply List.ext_getElem?;intro j;by_cases hj:i=j
    ·subst hj;have hlt:=(List.getElem?_eq_some_iff.1 h2).1;rw[List.getElem?_set_self (by simpa using hlt),List.getElem?_map,h2];rfl
    ·rw[List.getElem?_set_ne hj]
   rw[hs,h.2];have hk:k∈ks:=(h.2 k).1 (List.mem_map.2 ⟨_,List.mem_of_getElem? h2,rfl⟩);simp only[List.mem_append,List.mem_singleton];constructor
   ·exact .inl
   ·rintro(h |rfl)
    ·exact h
    ·exact hk
 ·refine⟨fun p hp=>?_,fun q=>?_⟩
  ·rcases List.mem_append.1 hp with hp |hp
   ·exact h.1 p hp
   ·simp at hp;subst hp;rfl
  ·simp only[List.map_append,List.map_cons,List.map_nil,List.mem_append,h.2 q]
theorem Kq(heq:∀a b,eq a b=decide (a=b))(l:List α){f:(Int×List (K×Bool)×List Bool)→Option ((Int×List (K×Bool)×List Bool)⊕(List (K×Bool)×List Bool))}
 (hs:∀(i:Nat) x m t,l[i]? =some x→i<t.length→f ((i:Int),m,t)=some (.inl (((i+1:Nat):Int),dx eq (key x) true m,t.set i (((bp eq (key x) m 0).map (·.2)).getD false))))
 (he:∀m t,f ((l.length:Int),m,t)=some (.inr (m,t))) (n:Nat) (hn:l.length<n):∃m,bZ f n (0,[],List.replicate l.length false)=some (m,bM key [] l):=by
 refine⟨l.foldl (fun m x=>dx eq (key x) true m) [],?_⟩
 have hM:∀i,BG ((l.take i).foldl (fun m x=>dx eq (key x) true m) []) ((l.take i).map key):=by
  have:∀(l:List α) (m:List (K×Bool)) (ks:List K),BG m ks→BG (l.foldl (fun m x=>dx eq (key x) true m) m) (ks++l.map key):=by
   intro l;induction l with
   |nil=>intro m ks h;simpa using h
   |cons x xs ih=>
    intro m ks h;have:=ih _ _ (h.put heq (key x));simpa using this
  intro i;simpa using this (l.take i) [] [] ⟨by simp,by simp⟩
 have:=P5 (f:=f) (fun i (s:List (K×Bool)×List Bool)=>((i:Int),s.1,s.2)) l
  (fun i=>((l.take i).foldl (fun m x=>dx eq (key x) true m) [],bM key [] (l.take i)++List.replicate (l.length - i) false))
  (l.foldl (fun m x=>dx eq (key x) true m) [],bM key [] l) (fun i x hx=>?_) ?_ n hn
 ·simpa[bM]using this
 ·have hlt:=(List.getElem?_eq_some_iff.1 hx).1;have htake:l.take (i+1)=l.take i++[x]:=by
   rw[List.take_add_one,hx];rfl
  have hfl:(bM key [] (l.take i)).length=i:=by rw[fh];simp;omega
  simp only
  rw[hs i x _ _ hx (by simp[hfl];omega),(hM i).get heq]
  congr 2;refine Prod.ext rfl (Prod.ext ?_ ?_)
  ·simp only[htake,List.foldl_append,List.foldl_cons,List.foldl_nil]
  ·simp only[htake,Gb,List.nil_append];rw[List.set_append_right _ _ (by omega),hfl,Nat.sub_self,show l.length - i=(l.length - (i+1))+1 by omega,List.replicate_succ,List.set_cons_zero]
   simp
 ·simp only[List.take_length,Nat.sub_self,List.replicate_zero,List.append_nil];exact he _ _
end
section
variable {α K:Type} [DecidableEq K]
theorem mz(key:α→K){eq:K→K→Bool}(heq:∀a b,eq a b=decide (a=b))(l:List α){f:(Int×List (K×Bool)×List Bool)→Option ((Int×List (K×Bool)×List Bool)⊕(List (K×Bool)×List Bool))}{γ:Type}{k:List (K×Bool)×List Bool→Option γ}{r:Option γ}{n:Nat}(hn:l.length<n)
 (hs:∀(i:Nat) x m t,l[i]? =some x→i<t.length→f ((i:Int),m,t)=some (.inl (((i+1:Nat):Int),dx eq (key x) true m,t.set i (((bp eq (key x) m 0).map (·.2)).getD false))))
 (he:∀m t,f ((l.length:Int),m,t)=some (.inr (m,t))) (hk:∀m,k (m,bM key [] l)=r):(bZ f n (0,[],List.replicate l.length false)).bind k=r:=by
 obtain⟨m,hm⟩:=Kq key heq l hs he n hn;rw[hm];exact hk m
end
def bY{α:Type}(E:Nat→α→Int):Nat→List α→Option (Int×Nat)
 |_,[]=>none
 |i,x::xs=>if E i x≠0 then some (E i x,i)else bY E (i+1) xs
theorem Nn{α τ:Type}{f:Int→Option (Int⊕τ)}(l:List α)(E:Nat→α→Int)(bad:Nat→Int→τ)(fin:τ)
 (hs:∀(i:Nat) x,l[i]? =some x→f (i:Int)=some (if E i x≠0 then .inr (bad i (E i x))else .inl ((i+1:Nat):Int))) (he:f (l.length:Int)=some (.inr fin)) (n:Nat) (hn:l.length<n):
 bZ f n 0=some (match bY E 0 l with |none=>fin |some (e,i)=>bad i e):=by
 have:=Pm (f:=f) (fun i (_:Unit)=>(i:Int)) (fun i x (_:Unit)=>if E i x≠0 then Sum.inr (bad i (E i x))else Sum.inl ()) (fun _=>fin) l
  (fun i x s hx=>by rw[hs i x hx];split<;>rfl) (fun _=>he) n () hn
 have key:∀(l:List α) (i:Nat),(match scan (fun i x (_:Unit)=>if E i x≠0 then Sum.inr (bad i (E i x))else Sum.inl ()) i l ()with | .inl _=>fin | .inr t=>t)=(match bY E i l with |none=>fin |some (e,i)=>bad i e):=by
  intro l;induction l with
  |nil=>intro i;rfl
  |cons x xs ih=>
   intro i;simp only[scan,bY];by_cases h:E i x≠0
   ·simp only[if_pos h]
   ·simp only[if_neg h];exact ih (i+1)
 rw[← key l 0];simp only[Int.natCast_zero]at this;rw[this];cases scan (fun i x (_:Unit)=>if E i x≠0 then Sum.inr (bad i (E i x))else Sum.inl ()) 0 l ()<;>rfl
theorem tE{α τ γ:Type}{f:Int→Option (Int⊕τ)}(l:List α)(E:Nat→α→Int)(bad:Nat→Int→τ)(fin:τ){k:τ→Option γ}{r:Option γ}{n:Nat}(hn:l.length<n)
 (hs:∀(i:Nat) x,l[i]? =some x→f (i:Int)=some (if E i x≠0 then .inr (bad i (E i x))else .inl ((i+1:Nat):Int))) (he:f (l.length:Int)=some (.inr fin))
 (hk:(match bY E 0 l with |none=>k fin |some (e,i)=>k (bad i e))=r):(bZ f n 0).bind k=r:=by
 rw[Nn l E bad fin hs he n hn,← hk];cases bY E 0 l with
 |none=>rfl
 |some p=>rfl
theorem Cb{α τ γ ST:Type}{f:ST→Option (ST⊕τ)}(mk:Nat→ST)(l:List α)(E:Nat→α→Int){k:τ→Option γ}(bad:Nat→Int→Option γ)(fin:Option γ){n:Nat}(hn:l.length<n)
 (hb:∀(i:Nat) x,l[i]? =some x→(∀(j:Nat) y,j<i→l[j]? =some y→E j y=0)→E i x≠0→∃t,f (mk i)=some (.inr t)∧k t=bad i (E i x))
 (hg:∀(i:Nat) x,l[i]? =some x→(∀(j:Nat) y,j<i→l[j]? =some y→E j y=0)→E i x=0→f (mk i)=some (.inl (mk (i+1))))
 (he:(∀(j:Nat) y,l[j]? =some y→E j y=0)→∃t,f (mk l.length)=some (.inr t)∧k t=fin):
 (bZ f n (mk 0)).bind k=(match bY E 0 l with |none=>fin |some (e,i)=>bad i e):=by
 have key:∀(m i n:Nat),i+m=l.length→m<n→(∀(j:Nat) y,j<i→l[j]? =some y→E j y=0)→(bZ f n (mk i)).bind k=(match bY E i (l.drop i)with |none=>fin |some (e,i)=>bad i e):=by
  intro m;induction m with
  |zero=>
   intro i n hi hn hp;obtain⟨n,rfl⟩:∃m,n=m+1:=⟨n - 1,by omega⟩
   have:i=l.length:=by omega
   subst this;obtain⟨t,h1,h2⟩:=he fun j y hj=>hp j y (List.getElem?_eq_some_iff.1 hj).1 hj
   simp only[bZ,h1,Option.bind_some,h2,List.drop_length,bY]
  |succ m ih=>
   intro i n hi hn hp;obtain⟨n,rfl⟩:∃m,n=m+1:=⟨n - 1,by omega⟩
   have hlt:i<l.length:=by omega
   have hx:=List.getElem?_eq_getElem hlt;rw[List.drop_eq_getElem_cons hlt];simp only[bY];by_cases hE:E i l[i]=0
   ·rw[if_neg (by simpa using hE)]
    simp only[bZ,hg i _ hx hp hE];refine ih (i+1) n (by omega) (by omega) fun j y hj hy=>?_
    by_cases hji:j=i
    ·subst hji;rw[hx]at hy;cases hy;exact hE
    ·exact hp j y (by omega) hy
   ·rw[if_pos hE];obtain⟨t,h1,h2⟩:=hb i _ hx hp hE;simp only[bZ,h1,Option.bind_some,h2]
 have:=key l.length 0 n (by omega) hn fun j y hj=>absurd hj (by omega)
 simpa using this
theorem uC{α:Type}{E:Nat→α→Int}:∀(l:List α) (i:Nat),bY E i l=none↔∀(j:Nat) x,l[j]? =some x→E (i+j) x=0
 | [],i=>by simp[bY]
 |x::xs,i=>by
  simp only[bY];constructor
  ·intro h;split at h
   ·cases h
   ·rename_i h0;have ih:=(uC xs (i+1)).1 h;intro j y hj;cases j with
    |zero=>simp at hj;subst hj;simpa using h0
    |succ j=>have:=ih j y (by simpa using hj);rw[show i+(j+1)=i+1+j by omega];exact this
  ·intro h;have h0:=h 0 x rfl;simp only[Nat.add_zero]at h0;rw[if_neg (by simpa using h0)]
   exact(uC xs (i+1)).2 fun j y hj=>by
    have:=h (j+1) y (by simpa using hj)
    rw[show i+1+j=i+(j+1)by omega];exact this
theorem E3{α:Type}(p:α→Bool):∀(l:List α) (j:Nat),bY (fun _ x=>if p x=true then 1 else 0) j l=(l.findIdx? p).map fun i=>(1,i+j)
 | [],_=>rfl
 |x::xs,j=>by
  simp only[bY,List.findIdx?_cons];cases h:p x with
  |true=>simp
  |false=>
   simp only[Bool.false_eq_true,if_false,ne_eq,not_true_eq_false,E3 p xs (j+1),Option.map_map];congr 1;funext i;simp[Nat.add_assoc,Nat.add_comm 1]
theorem tF{α γ:Type}(l:List α)(p:α→Bool){f:Int→Option (Int⊕(Int⊕Unit))}{k:Int⊕Unit→Option γ}{r:Option γ}{n:Nat}(hn:l.length<n)
 (hs:∀(i:Nat) x,l[i]? =some x→f (i:Int)=some (if p x=true then .inr (.inl (i:Int))else .inl ((i+1:Nat):Int))) (he:f (l.length:Int)=some (.inr (.inr ())))
 (hk:k (match l.findIdx? p with |some i=>.inl (i:Int) |none=>.inr ())=r):(bZ f n 0).bind k=r:=by
 refine tE l (fun _ x=>if p x=true then 1 else 0) (fun i _=>.inl (i:Int)) (.inr ()) hn (fun i x hx=>?_) he ?_
 ·rw[hs i x hx];cases p x<;>simp
 ·rw[E3,← hk];cases l.findIdx? p with
  |none=>rfl
  |some i=>rfl
def idxOf{α:Type}(p:α→Bool)(l:List α):Int:=match l.findIdx? p with
 |some i=>(i:Int)
 |none=> -1
theorem vm{α:Type}(p:α→Bool)(l:List α):decide (idxOf p l≥0)=l.any p:=by
 unfold idxOf;cases h:l.findIdx? p with
 |none=>
  rw[List.findIdx?_eq_none_iff]at h;have:l.any p=false:=by rw[List.any_eq_false];intro x hx;simp[h x hx]
  rw[this];rfl
 |some i=>
  have:l.any p=true:=by
   have h2:=List.findIdx?_eq_some_iff_getElem.1 h;obtain⟨hlt,hp,_⟩:=h2;exact List.any_eq_true.2 ⟨_,List.getElem_mem hlt,hp⟩
  rw[this];simp
theorem fe{X β:Type}(l:List X)(enc:X→List AVal)(n b ai i o:Nat)(y:X→X)(k:X→Option β):(ig l enc n b ai i o y).run.bind k=(l[i]?).bind k:=rfl
end Go.AM
namespace Go.L
open Go.AM
set_option maxRecDepth 100000
set_option linter.unusedSimpArgs false
set_option linter.unusedVariables false
section leaves
variable {β:Type} (n:Nat)
theorem iY(x lo hi:Int)(k:cE.sh.El→Option β):(cE.S n (x,lo,hi)).bind k=k (decide (x<lo)||decide (hi<x)):=by
 have:cE.S n (x,lo,hi)=some (decide (x<lo)||decide (hi<x)):=by
  show(uT x lo hi).run n=_;simp only[uT,G.run,aI];by_cases h:x<lo<;>simp[h]<;>rfl
 rw[this];rfl
theorem eH(b:Bool)(e:Int)(p:ByteArray)(i:Int)(k:aB.sh.El→Option β):(aB.S n (b,e,p,i)).bind k=if b=true then k (.inr (e,p,i))else k (.inl ()):=by
 have:aB.S n (b,e,p,i)=some (if b=true then Sum.inr (e,p,i)else Sum.inl ()):=by
  show(yU b e p i).run n=_;simp only[yU,G.run,aI];cases b<;>simp<;>rfl
 rw[this];cases b<;>rfl
theorem kQ(x m:Int)(k:eX.sh.El→Option β):(eX.S n (x,m)).bind k=k (decide (0≤x)&&decide (x<m)):=by
 have:eX.S n (x,m)=some (decide (0≤x)&&decide (x<m)):=by
  show(oK x m).run n=_;simp only[oK,G.run,aI];by_cases h:0≤x<;>simp[h]<;>rfl
 rw[this];rfl
end leaves
instance :DecidableEq (V2 Int):=fun a b=>decidable_of_iff (a.a0=b.a0∧a.a1=b.a1) ⟨fun h=>by cases a;cases b;simp_all,fun h=>by simp[h]⟩
instance :DecidableEq Prefix:=fun a b=>decidable_of_iff (a.IP=b.IP∧a.Len=b.Len) ⟨fun h=>by cases a;cases b;simp_all,fun h=>by simp[h]⟩
instance :DecidableEq aS:=fun a b=>decidable_of_iff (a.bd=b.bd∧a.addr=b.addr) ⟨fun h=>by cases a;cases b;simp_all,fun h=>by simp[h]⟩
instance :DecidableEq cW:=fun a b=>decidable_of_iff (a.From=b.From∧a.To=b.To∧a.Prefix=b.Prefix) ⟨fun h=>by cases a;cases b;simp_all,fun h=>by simp[h]⟩
theorem Np{β:Type}(n:Nat)(x:aJ)(k:oL.sh.El→Option β):(oL.S n x).bind k=k (x.gy):=rfl
theorem CR{β:Type}(n:Nat)(l:List aJ)(hn:l.length<n)(hs:l.length≤4000)(k:iB.sh.El→Option β):
 (iB.S n l).bind k=k (bM (fun x:aJ=>x.gy) [] l):=by
 have:iB.S n l=some (bM (fun x:aJ=>x.gy) [] l):=by
  show(kE l).run n=_;have hroom:roomy (Int.toNat (l.length:Int)) 1=true:=by simp[roomy];omega
  simp only[kE,G.run,aI,bD,qo,cn,oD,oE,cQ,fe,Np,if_true,Int.toNat_natCast];rw[if_pos ⟨by omega,by simpa using hroom⟩]
  refine mz (fun x:aJ=>x.gy) (eq:=fun a b=>(a==b&&true)) (fun a b=>?_) l hn (fun i x m t hx ht=>?_) (fun m t=>?_) (fun m=>?_)
  ·rw[Bool.eq_iff_iff];simp
  ·have hi:=(List.getElem?_eq_some_iff.1 hx).1;have h1:(0:Int)≤i∧(i:Int)<((List.replicate l.length false).length:Nat):=by simp;omega
   obtain⟨y,hy⟩:∃y,t[i]? =some y:=⟨_,List.getElem?_eq_getElem ht⟩;simp only[bQ,hx,Option.bind_some,Int.toNat_natCast,hy,h1,and_self,if_true,eu (show i<9223372036854775807 by omega)]
   simp[hi];rfl
  ·simp;rfl
  ·simp[bh,fh];rfl
 rw[this];rfl
theorem Jf{β:Type}(n:Nat)(x:aJ)(k:mG.sh.El→Option β):(mG.S n x).bind k=k (x.Target):=rfl
theorem A4{β:Type}(n:Nat)(l:List aJ)(hn:l.length<n)(hs:l.length≤4000)(k:gL.sh.El→Option β):
 (gL.S n l).bind k=k (bM (fun x:aJ=>x.Target) [] l):=by
 have:gL.S n l=some (bM (fun x:aJ=>x.Target) [] l):=by
  show(jM l).run n=_;have hroom:roomy (Int.toNat (l.length:Int)) 1=true:=by simp[roomy];omega
  simp only[jM,G.run,aI,bD,qo,cn,oD,oE,cQ,fe,Jf,if_true,Int.toNat_natCast];rw[if_pos ⟨by omega,by simpa using hroom⟩]
  refine mz (fun x:aJ=>x.Target) (eq:=fun a b=>(a==b&&true)) (fun a b=>?_) l hn (fun i x m t hx ht=>?_) (fun m t=>?_) (fun m=>?_)
  ·rw[Bool.eq_iff_iff];simp
  ·have hi:=(List.getElem?_eq_some_iff.1 hx).1;have h1:(0:Int)≤i∧(i:Int)<((List.replicate l.length false).length:Nat):=by simp;omega
   obtain⟨y,hy⟩:∃y,t[i]? =some y:=⟨_,List.getElem?_eq_getElem ht⟩;simp only[bQ,hx,Option.bind_some,Int.toNat_natCast,hy,h1,and_self,if_true,eu (show i<9223372036854775807 by omega)]
   simp[hi];rfl
  ·simp;rfl
  ·simp[bh,fh];rfl
 rw[this];rfl
theorem Nq{β:Type}(n:Nat)(x:BD)(k:sQ.sh.El→Option β):(sQ.S n x).bind k=k (x.gy):=rfl
theorem FK{β:Type}(n:Nat)(l:List BD)(hn:l.length<n)(hs:l.length≤4000)(k:jE.sh.El→Option β):
 (jE.S n l).bind k=k (bM (fun x:BD=>x.gy) [] l):=by
 have:jE.S n l=some (bM (fun x:BD=>x.gy) [] l):=by
  show(mT l).run n=_;have hroom:roomy (Int.toNat (l.length:Int)) 1=true:=by simp[roomy];omega
  simp only[mT,G.run,aI,bD,qo,cn,oD,oE,cQ,fe,Nq,if_true,Int.toNat_natCast];rw[if_pos ⟨by omega,by simpa using hroom⟩]
  refine mz (fun x:BD=>x.gy) (eq:=fun a b=>(a==b&&true)) (fun a b=>?_) l hn (fun i x m t hx ht=>?_) (fun m t=>?_) (fun m=>?_)
  ·rw[Bool.eq_iff_iff];simp
  ·have hi:=(List.getElem?_eq_some_iff.1 hx).1;have h1:(0:Int)≤i∧(i:Int)<((List.replicate l.length false).length:Nat):=by simp;omega
   obtain⟨y,hy⟩:∃y,t[i]? =some y:=⟨_,List.getElem?_eq_getElem ht⟩;simp only[bQ,hx,Option.bind_some,Int.toNat_natCast,hy,h1,and_self,if_true,eu (show i<9223372036854775807 by omega)]
   simp[hi];rfl
  ·simp;rfl
  ·simp[bh,fh];rfl
 rw[this];rfl
theorem Jg{β:Type}(n:Nat)(x:BD)(k:qi.sh.El→Option β):(qi.S n x).bind k=k (x.Target):=rfl
theorem DY{β:Type}(n:Nat)(l:List BD)(hn:l.length<n)(hs:l.length≤4000)(k:iU.sh.El→Option β):
 (iU.S n l).bind k=k (bM (fun x:BD=>x.Target) [] l):=by
 have:iU.S n l=some (bM (fun x:BD=>x.Target) [] l):=by
  show(lC l).run n=_;have hroom:roomy (Int.toNat (l.length:Int)) 1=true:=by simp[roomy];omega
  simp only[lC,G.run,aI,bD,qo,cn,oD,oE,cQ,fe,Jg,if_true,Int.toNat_natCast];rw[if_pos ⟨by omega,by simpa using hroom⟩]
  refine mz (fun x:BD=>x.Target) (eq:=fun a b=>(a==b&&true)) (fun a b=>?_) l hn (fun i x m t hx ht=>?_) (fun m t=>?_) (fun m=>?_)
  ·rw[Bool.eq_iff_iff];simp
  ·have hi:=(List.getElem?_eq_some_iff.1 hx).1;have h1:(0:Int)≤i∧(i:Int)<((List.replicate l.length false).length:Nat):=by simp;omega
   obtain⟨y,hy⟩:∃y,t[i]? =some y:=⟨_,List.getElem?_eq_getElem ht⟩;simp only[bQ,hx,Option.bind_some,Int.toNat_natCast,hy,h1,and_self,if_true,eu (show i<9223372036854775807 by omega)]
   simp[hi];rfl
  ·simp;rfl
  ·simp[bh,fh];rfl
 rw[this];rfl
theorem TF{β:Type}(n:Nat)(x:Host)(k:nT.sh.El→Option β):(nT.S n x).bind k=k ((⟨x.BD,x.dM⟩:aS)):=rfl
theorem zD{β:Type}(n:Nat)(l:List Host)(hn:l.length<n)(hs:l.length≤4000)(k:gu.sh.El→Option β):
 (gu.S n l).bind k=k (bM (fun x:Host=>(⟨x.BD,x.dM⟩:aS)) [] l):=by
 have:gu.S n l=some (bM (fun x:Host=>(⟨x.BD,x.dM⟩:aS)) [] l):=by
  show(jb l).run n=_;have hroom:roomy (Int.toNat (l.length:Int)) 1=true:=by simp[roomy];omega
  simp only[jb,G.run,aI,bD,qo,cn,oD,oE,cQ,fe,TF,if_true,Int.toNat_natCast];rw[if_pos ⟨by omega,by simpa using hroom⟩]
  refine mz (fun x:Host=>(⟨x.BD,x.dM⟩:aS)) (eq:=fun a b=>(a.bd==b.bd&&(a.addr==b.addr&&true))) (fun a b=>?_) l hn (fun i x m t hx ht=>?_) (fun m t=>?_) (fun m=>?_)
  ·rw[Bool.eq_iff_iff];cases a;cases b;simp
  ·have hi:=(List.getElem?_eq_some_iff.1 hx).1;have h1:(0:Int)≤i∧(i:Int)<((List.replicate l.length false).length:Nat):=by simp;omega
   obtain⟨y,hy⟩:∃y,t[i]? =some y:=⟨_,List.getElem?_eq_getElem ht⟩;simp only[bQ,hx,Option.bind_some,Int.toNat_natCast,hy,h1,and_self,if_true,eu (show i<9223372036854775807 by omega)]
   simp[hi];rfl
  ·simp;rfl
  ·simp[bh,fh];rfl
 rw[this];rfl
theorem TG{β:Type}(n:Nat)(x:Host)(k:nU.sh.El→Option β):(nU.S n x).bind k=k ((⟨x.BD,(Go.IntKind.wrap .u64 x.IP)⟩:aS)):=rfl
theorem yu{β:Type}(n:Nat)(l:List Host)(hn:l.length<n)(hs:l.length≤4000)(k:fQ.sh.El→Option β):
 (fQ.S n l).bind k=k (bM (fun x:Host=>(⟨x.BD,(Go.IntKind.wrap .u64 x.IP)⟩:aS)) [] l):=by
 have:fQ.S n l=some (bM (fun x:Host=>(⟨x.BD,(Go.IntKind.wrap .u64 x.IP)⟩:aS)) [] l):=by
  show(iN l).run n=_;have hroom:roomy (Int.toNat (l.length:Int)) 1=true:=by simp[roomy];omega
  simp only[iN,G.run,aI,bD,qo,cn,oD,oE,cQ,fe,TG,if_true,Int.toNat_natCast];rw[if_pos ⟨by omega,by simpa using hroom⟩]
  refine mz (fun x:Host=>(⟨x.BD,(Go.IntKind.wrap .u64 x.IP)⟩:aS)) (eq:=fun a b=>(a.bd==b.bd&&(a.addr==b.addr&&true))) (fun a b=>?_) l hn (fun i x m t hx ht=>?_) (fun m t=>?_) (fun m=>?_)
  ·rw[Bool.eq_iff_iff];cases a;cases b;simp
  ·have hi:=(List.getElem?_eq_some_iff.1 hx).1;have h1:(0:Int)≤i∧(i:Int)<((List.replicate l.length false).length:Nat):=by simp;omega
   obtain⟨y,hy⟩:∃y,t[i]? =some y:=⟨_,List.getElem?_eq_getElem ht⟩;simp only[bQ,hx,Option.bind_some,Int.toNat_natCast,hy,h1,and_self,if_true,eu (show i<9223372036854775807 by omega)]
   simp[hi];rfl
  ·simp;rfl
  ·simp[bh,fh];rfl
 rw[this];rfl
theorem TH{β:Type}(n:Nat)(x:cW)(k:nV.sh.El→Option β):(nV.S n x).bind k=k (x):=rfl
theorem FL{β:Type}(n:Nat)(l:List cW)(hn:l.length<n)(hs:l.length≤4000)(k:jI.sh.El→Option β):
 (jI.S n l).bind k=k (bM (fun x:cW=>x) [] l):=by
 have:jI.S n l=some (bM (fun x:cW=>x) [] l):=by
  show(mX l).run n=_;have hroom:roomy (Int.toNat (l.length:Int)) 1=true:=by simp[roomy];omega
  simp only[mX,G.run,aI,bD,qo,cn,oD,oE,cQ,fe,TH,if_true,Int.toNat_natCast];rw[if_pos ⟨by omega,by simpa using hroom⟩]
  refine mz (fun x:cW=>x) (eq:=fun a b=>(a.From==b.From&&(a.To==b.To&&(a.Prefix.IP==b.Prefix.IP&&(a.Prefix.Len==b.Prefix.Len&&true))))) (fun a b=>?_) l hn (fun i x m t hx ht=>?_) (fun m t=>?_) (fun m=>?_)
  ·rw[Bool.eq_iff_iff];rcases a with⟨_,_,⟨_,_⟩⟩;rcases b with⟨_,_,⟨_,_⟩⟩;simp
  ·have hi:=(List.getElem?_eq_some_iff.1 hx).1;have h1:(0:Int)≤i∧(i:Int)<((List.replicate l.length false).length:Nat):=by simp;omega
   obtain⟨y,hy⟩:∃y,t[i]? =some y:=⟨_,List.getElem?_eq_getElem ht⟩;simp only[bQ,hx,Option.bind_some,Int.toNat_natCast,hy,h1,and_self,if_true,eu (show i<9223372036854775807 by omega)]
   simp[hi];rfl
  ·simp;rfl
  ·simp[bh,fh];rfl
 rw[this];rfl
theorem TI{β:Type}(n:Nat)(x:cK)(k:nP.sh.El→Option β):(nP.S n x).bind k=k ((⟨x.A,x.B⟩:V2 Int)):=rfl
theorem E4{β:Type}(n:Nat)(l:List cK)(hn:l.length<n)(hs:l.length≤4000)(k:ji.sh.El→Option β):
 (ji.S n l).bind k=k (bM (fun x:cK=>(⟨x.A,x.B⟩:V2 Int)) [] l):=by
 have:ji.S n l=some (bM (fun x:cK=>(⟨x.A,x.B⟩:V2 Int)) [] l):=by
  show(me l).run n=_;have hroom:roomy (Int.toNat (l.length:Int)) 1=true:=by simp[roomy];omega
  simp only[me,G.run,aI,bD,qo,cn,oD,oE,cQ,fe,TI,if_true,Int.toNat_natCast];rw[if_pos ⟨by omega,by simpa using hroom⟩]
  refine mz (fun x:cK=>(⟨x.A,x.B⟩:V2 Int)) (eq:=fun a b=>(a.a0==b.a0&&(a.a1==b.a1&&true))) (fun a b=>?_) l hn (fun i x m t hx ht=>?_) (fun m t=>?_) (fun m=>?_)
  ·rw[Bool.eq_iff_iff];cases a;cases b;simp
  ·have hi:=(List.getElem?_eq_some_iff.1 hx).1;have h1:(0:Int)≤i∧(i:Int)<((List.replicate l.length false).length:Nat):=by simp;omega
   obtain⟨y,hy⟩:∃y,t[i]? =some y:=⟨_,List.getElem?_eq_getElem ht⟩;simp only[bQ,hx,Option.bind_some,Int.toNat_natCast,hy,h1,and_self,if_true,eu (show i<9223372036854775807 by omega)]
   simp[hi];rfl
  ·simp;rfl
  ·simp[bh,fh];rfl
 rw[this];rfl
end Go.L
namespace Go.L
open Go.AM
set_option maxRecDepth 100000
set_option linter.unusedSimpArgs false
set_option linter.unusedVariables false
def outcome(part:ByteArray)(most:Int)(full:Bool)(r:Option (Int×Nat)):Unit⊕(Int×ByteArray×Int):=
 if full=true then .inr (7,part,most)else match r with
 |none=>.inl ()
 |some (e,i)=>.inr (e,part,(i:Int))
def Mi:ByteArray:=⟨⟨[108,105,110,107,115]⟩⟩
def FC(f:bH)(fl:List Bool)(i:Nat)(x:cK):Int:=
 if(decide (0≤x.A)&&decide (x.A<f.Leaves))=true then
  if decide (x.B≥f.Leaves)=true then
   if(!decide (x.B<Go.IntKind.wrap .i64 (f.Leaves+f.iy)))=true then 2
   else if(decide (x.EB<1)||decide (1000<x.EB))=true then 2
   else if fl.getD i false=true then 11 else 0
  else 2
 else 2
theorem TJ(n:Nat)(f:bH)(hn:f.Links.length<n)(hs:f.Links.length≤128∨128<f.Links.length):
 lT.S n ⟨f⟩=some (outcome Mi 128 (decide (128<(f.Links.length:Int))) (bY (FC f (bM (fun x:cK=>(⟨x.A,x.B⟩:V2 Int)) [] f.Links)) 0 f.Links)):=by
 show(o9 ⟨f⟩).run n=_;simp only[o9,G.run,aI,bD,eH,Sum.elim,gt_iff_lt,decide_eq_true_eq];by_cases hfull:(128:Int)<f.Links.length
 ·simp[hfull,outcome];rfl
 ·simp only[hfull,if_false,decide_false];rw[E4 n f.Links hn (by omega)]
  simp only[G.run,aI,bD,if_true,cn,kQ,iY,eH,Sum.elim];refine tE f.Links (FC f (bM (fun x:cK=>(⟨x.A,x.B⟩:V2 Int)) [] f.Links)) (fun i e=>Sum.inl (e,Mi,(i:Int))) (Sum.inr ()) hn (fun i x hx=>?_) ?_ ?_
  ·have hi:=(List.getElem?_eq_some_iff.1 hx).1;obtain⟨y,hy⟩:∃y,(bM (fun x:cK=>(⟨x.A,x.B⟩:V2 Int)) [] f.Links)[i]? =some y:=⟨_,List.getElem?_eq_getElem (by rw[fh];exact hi)⟩
   have hlt:(i:Int)<f.Links.length:=by omega
   simp only[bQ,hx,Option.bind_some,hlt,decide_true,if_true,hy,FC,List.getD_eq_getElem?_getD,Option.getD_some,eu (show i<9223372036854775807 by omega)]
   repeat' split
   all_goals first |rfl | (simp_all<;>omega)
  ·simp;rfl
  ·cases bY (FC f (bM (fun x:cK=>(⟨x.A,x.B⟩:V2 Int)) [] f.Links)) 0 f.Links with
   |none=>rfl
   |some p=>rfl
end Go.L
namespace Go.L
open Go.AM
set_option maxRecDepth 100000
set_option linter.unusedSimpArgs false
set_option linter.unusedVariables false
theorem TL{β:Type}(n:Nat)(x:aJ)(v:Int)(k:lD.sh.El→Option β):(lD.S n (x,v)).bind k=k (x.gy==v):=rfl
theorem Nr{β:Type}(n:Nat)(x:aJ)(v:Int)(k:kG.sh.El→Option β):(kG.S n (x,v)).bind k=k (x.Target==v):=rfl
theorem Mj{β:Type}(n:Nat)(l:List aJ)(v:Int)(hn:l.length<n)(hs:l.length≤4000)(k:gM.sh.El→Option β):
 (gM.S n (l,v)).bind k=k (idxOf (fun x:aJ=>x.gy==v) l):=by
 have:gM.S n (l,v)=some (idxOf (fun x:aJ=>x.gy==v) l):=by
  show(jN l v).run n=_;simp only[jN,G.run,aI,bD,cn,TL,if_true];refine tF l (fun x:aJ=>x.gy==v) hn (fun i x hx=>?_) ?_ ?_
  ·have hi:=(List.getElem?_eq_some_iff.1 hx).1;have hlt:(i:Int)<l.length:=by omega
   simp only[bQ,hx,Option.bind_some,hlt,decide_true,if_true,eu (show i<9223372036854775807 by omega)]
   split<;>rfl
  ·simp;rfl
  ·unfold idxOf;cases l.findIdx? (fun x:aJ=>x.gy==v)<;>rfl
 rw[this];rfl
theorem Ic{β:Type}(n:Nat)(l:List aJ)(v:Int)(hn:l.length<n)(hs:l.length≤4000)(k:gb.sh.El→Option β):
 (gb.S n (l,v)).bind k=k (l.any (fun x:aJ=>x.gy==v)):=by
 have:gb.S n (l,v)=some (l.any (fun x:aJ=>x.gy==v)):=by
  show(iV l v).run n=_;simp only[iV,G.run,aI,if_true];rw[Mj n l v hn hs];simp only[vm];rfl
 rw[this];rfl
theorem P6{β:Type}(n:Nat)(l:List aJ)(v:Int)(hn:l.length<n)(hs:l.length≤4000)(k:jF.sh.El→Option β):(jF.S n (l,v)).bind k=k (l.any (fun x:aJ=>x.gy==v)):=by
 have:jF.S n (l,v)=some (l.any (fun x:aJ=>x.gy==v)):=by
  show(mU l v).run n=_;simp only[mU,G.run,aI,if_true];rw[Ic n l v hn hs];rfl
 rw[this];rfl
theorem Ie{β:Type}(n:Nat)(l:List aJ)(v:Int)(hn:l.length<n)(hs:l.length≤4000)(k:gr.sh.El→Option β):
 (gr.S n (l,v)).bind k=k (idxOf (fun x:aJ=>x.Target==v) l):=by
 have:gr.S n (l,v)=some (idxOf (fun x:aJ=>x.Target==v) l):=by
  show(ja l v).run n=_;simp only[ja,G.run,aI,bD,cn,Nr,if_true];refine tF l (fun x:aJ=>x.Target==v) hn (fun i x hx=>?_) ?_ ?_
  ·have hi:=(List.getElem?_eq_some_iff.1 hx).1;have hlt:(i:Int)<l.length:=by omega
   simp only[bQ,hx,Option.bind_some,hlt,decide_true,if_true,eu (show i<9223372036854775807 by omega)]
   split<;>rfl
  ·simp;rfl
  ·unfold idxOf;cases l.findIdx? (fun x:aJ=>x.Target==v)<;>rfl
 rw[this];rfl
theorem E5{β:Type}(n:Nat)(l:List aJ)(v:Int)(hn:l.length<n)(hs:l.length≤4000)(k:fE.sh.El→Option β):
 (fE.S n (l,v)).bind k=k (l.any (fun x:aJ=>x.Target==v)):=by
 have:fE.S n (l,v)=some (l.any (fun x:aJ=>x.Target==v)):=by
  show(iE l v).run n=_;simp only[iE,G.run,aI,if_true];rw[Ie n l v hn hs];simp only[vm];rfl
 rw[this];rfl
theorem Kr{β:Type}(n:Nat)(l:List aJ)(v:Int)(hn:l.length<n)(hs:l.length≤4000)(k:iW.sh.El→Option β):(iW.S n (l,v)).bind k=k (l.any (fun x:aJ=>x.Target==v)):=by
 have:iW.S n (l,v)=some (l.any (fun x:aJ=>x.Target==v)):=by
  show(lE l v).run n=_;simp only[lE,G.run,aI,if_true];rw[E5 n l v hn hs];rfl
 rw[this];rfl
theorem TN{β:Type}(n:Nat)(x:Int)(x2:Int)(x3:Int)(x4:List cK)(x5:List aJ)(x6:List BD)(x7:List aO)(x8:List Host)(x9:List cW)(x10:Int)(x11:Int)(x12:Int)(x13:Bool)(x14:Bool)(x15:Int)(x16:Int)(x17:Int)(x18:Int)(x19:Int)(x20:Int)(k:jk.sh.El→Option β):(jk.S n (x,x2,x3,x4,x5,x6,x7,x8,x9,x10,x11,x12,x13,x14,x15,x16,x17,x18,x19,x20)).bind k=k ((fun x:Int=> !(decide (0≤x)&&decide (x<x2))) x):=by
 have:jk.S n (x,x2,x3,x4,x5,x6,x7,x8,x9,x10,x11,x12,x13,x14,x15,x16,x17,x18,x19,x20)=some ((fun x:Int=> !(decide (0≤x)&&decide (x<x2))) x):=by
  show(mh x x2 x3 x4 x5 x6 x7 x8 x9 x10 x11 x12 x13 x14 x15 x16 x17 x18 x19 x20).run n=_;simp only[mh,G.run,aI,bD,kQ,if_true];rfl
 rw[this];rfl
theorem Mk{β:Type}(n:Nat)(l:List Int)(x2:Int)(x3:Int)(x4:List cK)(x5:List aJ)(x6:List BD)(x7:List aO)(x8:List Host)(x9:List cW)(x10:Int)(x11:Int)(x12:Int)(x13:Bool)(x14:Bool)(x15:Int)(x16:Int)(x17:Int)(x18:Int)(x19:Int)(x20:Int)(hn:l.length<n)(hs:l.length≤4000)(k:jH.sh.El→Option β):
 (jH.S n (l,x2,x3,x4,x5,x6,x7,x8,x9,x10,x11,x12,x13,x14,x15,x16,x17,x18,x19,x20)).bind k=k (idxOf (fun x:Int=> !(decide (0≤x)&&decide (x<x2))) l):=by
 have:jH.S n (l,x2,x3,x4,x5,x6,x7,x8,x9,x10,x11,x12,x13,x14,x15,x16,x17,x18,x19,x20)=some (idxOf (fun x:Int=> !(decide (0≤x)&&decide (x<x2))) l):=by
  show(mW l x2 x3 x4 x5 x6 x7 x8 x9 x10 x11 x12 x13 x14 x15 x16 x17 x18 x19 x20).run n=_;simp only[mW,G.run,aI,bD,cn,TN,if_true];refine tF l (fun x:Int=> !(decide (0≤x)&&decide (x<x2))) hn (fun i x hx=>?_) ?_ ?_
  ·have hi:=(List.getElem?_eq_some_iff.1 hx).1;have hlt:(i:Int)<l.length:=by omega
   simp only[bQ,hx,Option.bind_some,hlt,decide_true,if_true,eu (show i<9223372036854775807 by omega)]
   split<;>rfl
  ·simp;rfl
  ·unfold idxOf;cases l.findIdx? (fun x:Int=> !(decide (0≤x)&&decide (x<x2)))<;>rfl
 rw[this];rfl
theorem Ig{β:Type}(n:Nat)(l:List Int)(x2:Int)(x3:Int)(x4:List cK)(x5:List aJ)(x6:List BD)(x7:List aO)(x8:List Host)(x9:List cW)(x10:Int)(x11:Int)(x12:Int)(x13:Bool)(x14:Bool)(x15:Int)(x16:Int)(x17:Int)(x18:Int)(x19:Int)(x20:Int)(hn:l.length<n)(hs:l.length≤4000)(k:iG.sh.El→Option β):
 (iG.S n (l,x2,x3,x4,x5,x6,x7,x8,x9,x10,x11,x12,x13,x14,x15,x16,x17,x18,x19,x20)).bind k=k (l.any (fun x:Int=> !(decide (0≤x)&&decide (x<x2)))):=by
 have:iG.S n (l,x2,x3,x4,x5,x6,x7,x8,x9,x10,x11,x12,x13,x14,x15,x16,x17,x18,x19,x20)=some (l.any (fun x:Int=> !(decide (0≤x)&&decide (x<x2)))):=by
  show(kT l x2 x3 x4 x5 x6 x7 x8 x9 x10 x11 x12 x13 x14 x15 x16 x17 x18 x19 x20).run n=_;simp only[kT,G.run,aI,if_true];rw[Mk n l x2 x3 x4 x5 x6 x7 x8 x9 x10 x11 x12 x13 x14 x15 x16 x17 x18 x19 x20 hn hs];simp only[vm];rfl
 rw[this];rfl
theorem V3{β:Type}(n:Nat)(x:Int)(x2:Int)(x3:Int)(x4:List cK)(x5:List aJ)(x6:List BD)(x7:List aO)(x8:List Host)(x9:List cW)(x10:Int)(x11:Int)(x12:Int)(x13:Bool)(x14:Bool)(x15:Int)(x16:Int)(x17:Int)(x18:Int)(x19:Int)(x20:Int)(k:jm.sh.El→Option β):(jm.S n (x,x2,x3,x4,x5,x6,x7,x8,x9,x10,x11,x12,x13,x14,x15,x16,x17,x18,x19,x20)).bind k=k ((fun x:Int=> !(decide (0≤x)&&decide (x<(x6.length:Int)))) x):=by
 have:jm.S n (x,x2,x3,x4,x5,x6,x7,x8,x9,x10,x11,x12,x13,x14,x15,x16,x17,x18,x19,x20)=some ((fun x:Int=> !(decide (0≤x)&&decide (x<(x6.length:Int)))) x):=by
  show(mj x x2 x3 x4 x5 x6 x7 x8 x9 x10 x11 x12 x13 x14 x15 x16 x17 x18 x19 x20).run n=_;simp only[mj,G.run,aI,bD,kQ,if_true];rfl
 rw[this];rfl
theorem P7{β:Type}(n:Nat)(l:List Int)(x2:Int)(x3:Int)(x4:List cK)(x5:List aJ)(x6:List BD)(x7:List aO)(x8:List Host)(x9:List cW)(x10:Int)(x11:Int)(x12:Int)(x13:Bool)(x14:Bool)(x15:Int)(x16:Int)(x17:Int)(x18:Int)(x19:Int)(x20:Int)(hn:l.length<n)(hs:l.length≤4000)(k:iX.sh.El→Option β):
 (iX.S n (l,x2,x3,x4,x5,x6,x7,x8,x9,x10,x11,x12,x13,x14,x15,x16,x17,x18,x19,x20)).bind k=k (idxOf (fun x:Int=> !(decide (0≤x)&&decide (x<(x6.length:Int)))) l):=by
 have:iX.S n (l,x2,x3,x4,x5,x6,x7,x8,x9,x10,x11,x12,x13,x14,x15,x16,x17,x18,x19,x20)=some (idxOf (fun x:Int=> !(decide (0≤x)&&decide (x<(x6.length:Int)))) l):=by
  show(lF l x2 x3 x4 x5 x6 x7 x8 x9 x10 x11 x12 x13 x14 x15 x16 x17 x18 x19 x20).run n=_;simp only[lF,G.run,aI,bD,cn,V3,if_true];refine tF l (fun x:Int=> !(decide (0≤x)&&decide (x<(x6.length:Int)))) hn (fun i x hx=>?_) ?_ ?_
  ·have hi:=(List.getElem?_eq_some_iff.1 hx).1;have hlt:(i:Int)<l.length:=by omega
   simp only[bQ,hx,Option.bind_some,hlt,decide_true,if_true,eu (show i<9223372036854775807 by omega)]
   split<;>rfl
  ·simp;rfl
  ·unfold idxOf;cases l.findIdx? (fun x:Int=> !(decide (0≤x)&&decide (x<(x6.length:Int))))<;>rfl
 rw[this];rfl
theorem Ks{β:Type}(n:Nat)(l:List Int)(x2:Int)(x3:Int)(x4:List cK)(x5:List aJ)(x6:List BD)(x7:List aO)(x8:List Host)(x9:List cW)(x10:Int)(x11:Int)(x12:Int)(x13:Bool)(x14:Bool)(x15:Int)(x16:Int)(x17:Int)(x18:Int)(x19:Int)(x20:Int)(hn:l.length<n)(hs:l.length≤4000)(k:gV.sh.El→Option β):
 (gV.S n (l,x2,x3,x4,x5,x6,x7,x8,x9,x10,x11,x12,x13,x14,x15,x16,x17,x18,x19,x20)).bind k=k (l.any (fun x:Int=> !(decide (0≤x)&&decide (x<(x6.length:Int))))):=by
 have:gV.S n (l,x2,x3,x4,x5,x6,x7,x8,x9,x10,x11,x12,x13,x14,x15,x16,x17,x18,x19,x20)=some (l.any (fun x:Int=> !(decide (0≤x)&&decide (x<(x6.length:Int))))):=by
  show(jX l x2 x3 x4 x5 x6 x7 x8 x9 x10 x11 x12 x13 x14 x15 x16 x17 x18 x19 x20).run n=_;simp only[jX,G.run,aI,if_true];rw[P7 n l x2 x3 x4 x5 x6 x7 x8 x9 x10 x11 x12 x13 x14 x15 x16 x17 x18 x19 x20 hn hs];simp only[vm];rfl
 rw[this];rfl
theorem R3{β:Type}(n:Nat)(l:List Int)(v:Int)(hn:l.length<n)(hs:l.length≤4000)(k:gZ.sh.El→Option β):
 (gZ.S n (l,v)).bind k=k (idxOf (fun x:Int=>v==x) l):=by
 have:gZ.S n (l,v)=some (idxOf (fun x:Int=>v==x) l):=by
  show(fV l v).run n=_;simp only[fV,G.run,aI,bD,cn,if_true,if_true];refine tF l (fun x:Int=>v==x) hn (fun i x hx=>?_) ?_ ?_
  ·have hi:=(List.getElem?_eq_some_iff.1 hx).1;have hlt:(i:Int)<l.length:=by omega
   simp only[bQ,hx,Option.bind_some,hlt,decide_true,if_true,eu (show i<9223372036854775807 by omega)]
   split<;>rfl
  ·simp;rfl
  ·unfold idxOf;cases l.findIdx? (fun x:Int=>v==x)<;>rfl
 rw[this];rfl
theorem Ml{β:Type}(n:Nat)(l:List Int)(v:Int)(hn:l.length<n)(hs:l.length≤4000)(k:cM.sh.El→Option β):
 (cM.S n (l,v)).bind k=k (l.any (fun x:Int=>v==x)):=by
 have:cM.S n (l,v)=some (l.any (fun x:Int=>v==x)):=by
  show(ey l v).run n=_;simp only[ey,G.run,aI,if_true];rw[R3 n l v hn hs];simp only[vm];rfl
 rw[this];rfl
end Go.L
namespace Go.L
open Go.AM
set_option maxRecDepth 100000
set_option linter.unusedSimpArgs false
set_option linter.unusedVariables false
theorem yg{β:Type}(k1 k2:Go.IntKind)(a b:Int)(k:Unit→Option β):(Eu k1 k2 a b).run.bind k=if decide (0≤b)=true then k ()else none:=by
 show(if decide (0≤b)=true then some ()else none).bind k=_
 split<;>rfl
def fD(p:Prefix):Bool:=decide (0≤p.Len)&&decide (p.Len≤32)
def B5(a b:Int):Int:=Go.IntKind.wrap .u32 (((BitVec.ofInt 32 a)&&& (BitVec.ofInt 32 b)).toNat:Int)
def Xf(a b:Int):Int:=Go.IntKind.wrap .u32 (((BitVec.ofInt 32 a)||| (BitVec.ofInt 32 b)).toNat:Int)
def LS(a b:Int):Int:=Go.IntKind.wrap .u32 (((BitVec.ofInt 32 a) ^^^ (BitVec.ofInt 32 b)).toNat:Int)
def oI(n:Int):Int:=Go.IntKind.wrap .u32 ((4294967295:Int)*((2:Int) ^ (min (Int.toNat (Go.IntKind.wrap .i64 ((32:Int) - n))) (Go.IntKind.bits .u32))))
def PB(n:Int):Int:=Go.IntKind.wrap .u32 ((Go.IntKind.wrap .u32 ((1:Int)*((2:Int) ^ (min (Int.toNat (Go.IntKind.wrap .i64 ((32:Int) - n))) (Go.IntKind.bits .u32))))) - (1:Int))
def FB(n:Int):Int:=Go.IntKind.wrap .u32 (((BitVec.ofInt 32 4294967295) ^^^ (BitVec.ofInt 32 (PB n))).toNat:Int)
theorem N6{n:Int}(h0:0≤n)(h1:n≤32):FB n=oI n:=by
 have key:((List.range 33).all fun k=>FB (k:Int)==oI (k:Int))=true:=by decide+kernel
 have:=List.all_eq_true.1 key n.toNat (List.mem_range.2 (by omega))
 rw[Int.toNat_of_nonneg h0]at this;simpa using this
def qY(p:Prefix):Bool:=fD p&&(B5 p.IP (oI p.Len)==p.IP)
def gF(p:Prefix)(ip:Int):Bool:=fD p&&(B5 (LS p.IP ip) (oI p.Len)==0)
def AU(p:Prefix)(ip:Int):Bool:=gF p ip&&(ip != p.IP&&ip != Xf p.IP (PB p.Len))
section
variable {β:Type} (n:Nat)
theorem v8(p:Prefix)(k:iK.sh.El→Option β):(iK.S n p).bind k=k (fD p):=by
 have:iK.S n p=some (fD p):=by
  show(nL p).run n=_;simp only[nL,G.run,aI,fD,ge_iff_le];by_cases h:0≤p.Len<;>simp[h]<;>rfl
 rw[this];rfl
theorem wrap32{x:Int}(h0:0≤x)(h1:x≤32):Go.IntKind.wrap .i64 (32 - x)=32 - x:=wrap_i64 (by omega) (by omega)
theorem Bp(x:Int)(h0:0≤x)(h1:x≤32)(k:lQ.sh.El→Option β):(lQ.S n x).bind k=k (oI x):=by
 have:lQ.S n x=some (oI x):=by
  show(o7 x).run n=_;simp only[o7,G.run,aI,yg,oI];rw[if_pos (by rw[wrap32 h0 h1];simp;omega)]
  rfl
 rw[this];rfl
theorem AV(p:Prefix)(k:qj.sh.El→Option β):(qj.S n p).bind k=k (qY p):=by
 have:qj.S n p=some (qY p):=by
  show(xE p).run n=_;have hc:∀{γ:Type} (k:wF.sh.El→Option γ),(wF.S n p).bind k=if fD p=true then k (⟨B5 p.IP (oI p.Len),p.Len⟩,0)else k (⟨0,0⟩,2):=by
   intro γ k;have:wF.S n p=some (if fD p=true then(⟨B5 p.IP (oI p.Len),p.Len⟩,0)else(⟨0,0⟩,2)):=by
    show(AJ p).run n=_;simp only[AJ,G.run,aI,v8];by_cases h:fD p=true
    ·simp only[h,Bool.not_true,Bool.false_eq_true,if_false,if_true];simp only[fD,Bool.and_eq_true,decide_eq_true_eq]at h;rw[Bp n p.Len h.1 h.2];rfl
    ·simp[h];rfl
   rw[this];split<;>rfl
  simp only[xE,G.run,aI,hc,qY];by_cases h:fD p=true<;>simp[h]<;>rfl
 rw[this];rfl
theorem uA(p:Prefix)(ip:Int)(k:fN.sh.El→Option β):(fN.S n (p,ip)).bind k=k (gF p ip):=by
 have:fN.S n (p,ip)=some (gF p ip):=by
  show(kC p ip).run n=_;simp only[kC,G.run,aI,v8,gF];by_cases h:fD p=true
  ·simp only[h,if_true,Bool.true_and];simp only[fD,Bool.and_eq_true,decide_eq_true_eq]at h;rw[Bp n p.Len h.1 h.2];rfl
  ·simp[h];rfl
 rw[this];rfl
theorem E6(p:Prefix)(ip:Int)(hp:fD p=true)(k:qk.sh.El→Option β):(qk.S n (p,ip)).bind k=k (AU p ip):=by
 have:qk.S n (p,ip)=some (AU p ip):=by
  show(xF p ip).run n=_;have h:=hp;simp only[fD,Bool.and_eq_true,decide_eq_true_eq]at h;simp only[xF,G.run,aI,uA,yg];rw[if_pos (by rw[wrap32 h.1 h.2];simp;omega)]
  simp only[AU,if_true];by_cases h1:gF p ip=true
  ·by_cases h2:(ip != p.IP)=true
   ·simp only[h1,h2,if_true,Bool.true_and];rfl
   ·simp only[h1,h2,if_true,Bool.true_and,Bool.false_eq_true,if_false];simp at h2;simp[h2];rfl
  ·simp[h1];rfl
 rw[this];rfl
end
end Go.L
namespace Go.L
open Go.AM
set_option maxRecDepth 100000
set_option linter.unusedSimpArgs false
set_option linter.unusedVariables false
def GL:ByteArray:=⟨⟨[116,101,110,97,110,116,115]⟩⟩
def Mm:ByteArray:=⟨⟨[108,101,97,107,115]⟩⟩
def zP(f1 f2:List Bool)(i:Nat)(x:aJ):Int:=
 if decide (x.gy<1)=true then 2 else if decide (16777215<x.gy)=true then 2 else if(x.Target==0)=true then 2
 else if f1.getD i false=true then 11 else if f2.getD i false=true then 11 else 0
theorem P8(n:Nat)(f:bH)(hn:f.bq.length<n):
 kF.S n ⟨f⟩=some (outcome GL 16 (decide (16<(f.bq.length:Int))) (bY (zP (bM (fun x:aJ=>x.gy) [] f.bq) (bM (fun x:aJ=>x.Target) [] f.bq)) 0 f.bq)):=by
 show(nQ ⟨f⟩).run n=_;simp only[nQ,G.run,aI,bD,eH,Sum.elim,gt_iff_lt,decide_eq_true_eq];by_cases hfull:(16:Int)<f.bq.length
 ·simp[hfull,outcome];rfl
 ·simp only[hfull,if_false,decide_false];rw[CR n f.bq hn (by omega)]
  rw[A4 n f.bq hn (by omega)]
  simp only[G.run,aI,bD,if_true,cn,kQ,iY,eH,Sum.elim];generalize hf1:bM (fun x:aJ=>x.gy) [] f.bq=f1
  generalize hf2:bM (fun x:aJ=>x.Target) [] f.bq=f2
  refine tE f.bq (zP f1 f2) (fun i e=>Sum.inl (e,GL,(i:Int))) (Sum.inr ()) hn (fun i x hx=>?_) ?_ ?_
  ·have hi:=(List.getElem?_eq_some_iff.1 hx).1;obtain⟨y,hy⟩:∃y,f1[i]? =some y:=⟨_,List.getElem?_eq_getElem (by rw[← hf1,fh];exact hi)⟩
   obtain⟨z,hz⟩:∃y,f2[i]? =some y:=⟨_,List.getElem?_eq_getElem (by rw[← hf2,fh];exact hi)⟩
   have hlt:(i:Int)<f.bq.length:=by omega
   simp only[bQ,hx,Option.bind_some,hlt,decide_true,if_true,hy,hz,zP,List.getD_eq_getElem?_getD,Option.getD_some,eu (show i<9223372036854775807 by omega)]
   clear hf1 hf2 hy hz hx
   repeat' split
   all_goals first |rfl | (simp_all<;>omega)
  ·simp;rfl
  ·cases bY (zP f1 f2) 0 f.bq with
   |none=>rfl
   |some p=>rfl
def FD(f:bH)(f1:List Bool)(i:Nat)(x:cW):Int:=
 if(!(decide (0≤x.From)&&decide (x.From<(f.bq.length:Int))))=true then 2 else if(!(decide (0≤x.To)&&decide (x.To<(f.bq.length:Int))))=true then 2
 else if(x.From==x.To)=true then 3 else if(!qY x.Prefix)=true then 3 else if f1.getD i false=true then 11 else 0
theorem TP(n:Nat)(f:bH)(hn:f.gJ.length<n):
 lV.S n ⟨f⟩=some (outcome Mm 256 (decide (256<(f.gJ.length:Int))) (bY (FD f (bM (fun x:cW=>x) [] f.gJ)) 0 f.gJ)):=by
 show(pg ⟨f⟩).run n=_;simp only[pg,G.run,aI,bD,eH,Sum.elim,gt_iff_lt,decide_eq_true_eq];by_cases hfull:(256:Int)<f.gJ.length
 ·simp[hfull,outcome];rfl
 ·simp only[hfull,if_false,decide_false];rw[FL n f.gJ hn (by omega)]
  simp only[G.run,aI,bD,if_true,cn,kQ,iY,eH,Sum.elim,AV];generalize hf1:bM (fun x:cW=>x) [] f.gJ=f1
  refine tE f.gJ (FD f f1) (fun i e=>Sum.inl (e,Mm,(i:Int))) (Sum.inr ()) hn (fun i x hx=>?_) ?_ ?_
  ·have hi:=(List.getElem?_eq_some_iff.1 hx).1;obtain⟨y,hy⟩:∃y,f1[i]? =some y:=⟨_,List.getElem?_eq_getElem (by rw[← hf1,fh];exact hi)⟩
   have hlt:(i:Int)<f.gJ.length:=by omega
   simp only[bQ,hx,Option.bind_some,hlt,decide_true,if_true,hy,FD,List.getD_eq_getElem?_getD,Option.getD_some,eu (show i<9223372036854775807 by omega)]
   clear hf1 hy hx
   repeat' split
   all_goals first |rfl | (simp_all<;>omega)
  ·simp;rfl
  ·cases bY (FD f f1) 0 f.gJ with
   |none=>rfl
   |some p=>rfl
end Go.L
namespace Go.L
open Go.AM
set_option maxRecDepth 100000
set_option linter.unusedSimpArgs false
set_option linter.unusedVariables false
def Ox:ByteArray:=⟨⟨[102,97,98,114,105,99]⟩⟩
def Oy:ByteArray:=⟨⟨[116,105,109,101,114,115]⟩⟩
def Mn:ByteArray:=⟨⟨[104,111,115,116,115]⟩⟩
def out(x lo hi:Int):Bool:=decide (x<lo)||decide (hi<x)
def vn(f:bH):Bool:=out f.Leaves 1 32||out f.iy 0 32||decide (32<Go.IntKind.wrap .i64 (f.Leaves+f.iy))||out f.xV 0 2||out f.ry 0 1||out f.uq 0 1
def yw(t:cq):Bool:=out t.uo 1 100||out t.Dn 3 1000||out t.F7 1 10000||out t.tu 0 1000||out t.zy 1 100||out t.Window 1 10000
theorem R4(n:Nat)(f:bH):kW.S n ⟨f⟩=some (if vn f=true then Sum.inr (2,Ox,0)else Sum.inl ()):=by
 show(od ⟨f⟩).run n=_;simp only[od,G.run,aI,iY,eH,Sum.elim,if_true];unfold vn;have e:∀x lo hi,(decide (x<lo)||decide (hi<x))=out x lo hi:=fun _ _ _=>rfl
 simp only[e,gt_iff_lt,Bool.or_eq_true];cases out f.Leaves 1 32<;>cases out f.iy 0 32<;>cases decide (32<Go.IntKind.wrap .i64 (f.Leaves+f.iy))<;>cases out f.xV 0 2<;>cases out f.ry 0 1<;>cases out f.uq 0 1<;>rfl
theorem R5(n:Nat)(f:bH):kX.S n ⟨f⟩=some (if yw f.cq=true then Sum.inr (2,Oy,0)else Sum.inl ()):=by
 show(oe ⟨f⟩).run n=_;simp only[oe,G.run,aI,iY,eH,Sum.elim,if_true];unfold yw;have e:∀x lo hi,(decide (x<lo)||decide (hi<x))=out x lo hi:=fun _ _ _=>rfl
 simp only[e,gt_iff_lt,Bool.or_eq_true];cases out f.cq.uo 1 100<;>cases out f.cq.Dn 3 1000<;>cases out f.cq.F7 1 10000<;>cases out f.cq.tu 0 1000<;>cases out f.cq.zy 1 100<;>cases out f.cq.Window 1 10000<;>rfl
def FE(m:Int):Bool:=decide (m≤281474976710655)&&(Go.IntKind.wrap .u64 (((BitVec.ofInt 64 (Int.fdiv m ((2:Int) ^ (min (Int.toNat (40:Int)) (Go.IntKind.bits .u64)))))&&& (BitVec.ofInt 64 1)).toNat:Int) != 0)
def vo(m:Int):Bool:= !decide (m<2199023255552)&& !decide (m≥2199023255584)
def nA(b:BD)(ip:Int):Bool:=ip==0||(b.bC != 0&&(ip != b.bC&&AU b.bT ip))
section
variable {β:Type} (n:Nat)
theorem Jh(m:Int)(k:qI.sh.El→Option β):(qI.S n m).bind k=k (FE m):=by
 have:qI.S n m=some (FE m):=by
  show(uU m).run n=_;simp only[uU,G.run,aI,FE];by_cases h:m≤281474976710655
  ·simp only[h,decide_true,if_true,Bool.true_and];rfl
  ·simp only[h,decide_false,if_false,Bool.false_and,Bool.false_eq_true];rfl
 rw[this];rfl
theorem Ih(m:Int)(k:nk.sh.El→Option β):(nk.S n m).bind k=if vo m=true then k (Go.IntKind.wrap .i64 (Go.IntKind.wrap .u64 (m - 2199023255552)),true)else k (0,false):=by
 have:nk.S n m=some (if vo m=true then(Go.IntKind.wrap .i64 (Go.IntKind.wrap .u64 (m - 2199023255552)),true)else(0,false)):=by
  show(tT m).run n=_;simp only[tT,G.run,aI,vo];by_cases h:m<2199023255552
  ·simp[h];rfl
  ·by_cases h2:m≥2199023255584
   ·simp[h,h2];rfl
   ·simp only[h,h2,decide_false,Bool.not_false,Bool.and_self,Bool.false_eq_true,if_false,if_true];rfl
 rw[this];split<;>rfl
theorem GM(b:BD)(ip:Int)(hb:b.bC≠0→fD b.bT=true)(k:mu.sh.El→Option β):(mu.S n (b,ip)).bind k=k (nA b ip):=by
 have:mu.S n (b,ip)=some (nA b ip):=by
  show(sU b ip).run n=_;simp only[sU,G.run,aI,nA];cases e1:(ip==0)with
  |true=>simp only[if_true,Bool.true_or];rfl
  |false=>
   cases e2:(b.bC != 0)with
   |false=>simp only[Bool.false_eq_true,if_false,Bool.false_or,Bool.false_and];rfl
   |true=>
    cases e3:(ip != b.bC)with
    |false=>simp only[Bool.false_eq_true,if_false,if_true,Bool.false_or,Bool.true_and,Bool.false_and];rfl
    |true=>
     simp only[Bool.false_eq_true,if_false,if_true,Bool.false_or,Bool.true_and];rw[E6 n b.bT ip (hb (by simpa using e2))];rfl
 rw[this];rfl
end
def E7(f:bH)(b:Int):BD:=(gi f.bB b).getD ⟨0,0,0,⟨0,0⟩,0⟩
def CS(f:bH)(s:Int):List Int:=((gi f.aF s).map (·.bB)).getD []
theorem WC(n:Int)(h:0≤n)(h2:n≤4000):Go.IntKind.wrap .i64 (n - 1)=n - 1:=wrap_i64 (by omega) (by omega)
def FF(f:bH)(f1 f2:List Bool)(i:Nat)(h:Host):Int:=
 if(h.dM==0)=true then 2 else if decide (281474976710655<h.dM)=true then 2 else if FE h.dM=true then 2
 else if(!(decide (0≤h.BD)&&decide (h.BD<(f.bB.length:Int))))=true then 2 else if out h.aO (-1) ((f.aF.length:Int) - 1)=true then 2
 else if(h.aO != -1&& !(CS f h.aO).any fun x=>h.BD==x)=true then 8
 else if(h.dM==1577058561)=true then 3 else if vo h.dM=true then 3 else if(!nA (E7 f h.BD) h.IP)=true then 3
 else if f1.getD i false=true then 11 else if(h.IP != 0&&f2.getD i false)=true then 11 else 0
theorem TQ(n:Nat)(f:bH)(hn:f.ff.length<n)(hseg:f.aF.length≤64)(hsn:∀s∈f.aF,s.bB.length<n∧s.bB.length≤4000)(hsub:∀b∈f.bB,b.bC≠0→fD b.bT=true):
 lU.S n ⟨f⟩=some (outcome Mn 128 (decide (128<(f.ff.length:Int))) (bY (FF f (bM (fun x:Host=>(⟨x.BD,x.dM⟩:aS)) [] f.ff) (bM (fun x:Host=>(⟨x.BD,Go.IntKind.wrap .u64 x.IP⟩:aS)) [] f.ff)) 0 f.ff)):=by
 show(pe ⟨f⟩).run n=_;simp only[pe,G.run,aI,bD,eH,Sum.elim,gt_iff_lt,decide_eq_true_eq];by_cases hfull:(128:Int)<f.ff.length
 ·simp[hfull,outcome];rfl
 ·simp only[hfull,if_false,decide_false];rw[zD n f.ff hn (by omega)]
  rw[yu n f.ff hn (by omega)]
  simp only[G.run,aI,bD,if_true,cn,kQ,iY,eH,Sum.elim,Jh,Ih];generalize hf1:bM (fun x:Host=>(⟨x.BD,x.dM⟩:aS)) [] f.ff=f1
  generalize hf2:bM (fun x:Host=>(⟨x.BD,Go.IntKind.wrap .u64 x.IP⟩:aS)) [] f.ff=f2
  refine tE f.ff (FF f f1 f2) (fun i e=>Sum.inl (e,Mn,(i:Int))) (Sum.inr ()) hn (fun i x hx=>?_) ?_ ?_
  ·have hi:=(List.getElem?_eq_some_iff.1 hx).1;obtain⟨y,hy⟩:∃y,f1[i]? =some y:=⟨_,List.getElem?_eq_getElem (by rw[← hf1,fh];exact hi)⟩
   obtain⟨z,hz⟩:∃y,f2[i]? =some y:=⟨_,List.getElem?_eq_getElem (by rw[← hf2,fh];exact hi)⟩
   have hlt:(i:Int)<f.ff.length:=by omega
   have hw:=WC (f.aF.length:Int) (by omega) (by omega)
   simp only[bQ,hx,Option.bind_some,hlt,decide_true,if_true,hy,hz,FF,List.getD_eq_getElem?_getD,Option.getD_some,eu (show i<9223372036854775807 by omega),hw]
   clear hf1 hf2 hy hz hx;cases(x.dM==0)
   case true=>rfl
   by_cases hm:(281474976710655:Int)<x.dM
   ·simp only[hm,if_true,decide_true,Bool.false_eq_true,if_false];rfl
   simp only[hm,if_false,decide_false,Bool.false_eq_true];cases FE x.dM
   case true=>rfl
   cases hbd:(decide (0≤x.BD)&&decide (x.BD<(f.bB.length:Int)))
   case false=>rfl
   have e:(decide (x.aO< -1)||decide ((f.aF.length:Int) - 1<x.aO))=out x.aO (-1) ((f.aF.length:Int) - 1):=rfl;simp only[e];cases hsg:out x.aO (-1) ((f.aF.length:Int) - 1)
   case true=>rfl
   obtain⟨b,hb⟩:∃b,gi f.bB x.BD=some b:=by
    simp only[Bool.and_eq_true,decide_eq_true_eq]at hbd;exact⟨_,by unfold gi;rw[if_pos hbd.1];exact List.getElem?_eq_getElem (by omega)⟩
   have hbm:b∈f.bB:=by
    unfold gi at hb;split at hb
    ·exact List.mem_of_getElem? hb
    ·cases hb
   have hbd2:E7 f x.BD=b:=by simp[E7,hb]
   simp only[Bool.not_true,Bool.false_eq_true,if_false,hb,hbd2,Option.bind_some,GM n b x.IP (hsub b hbm)];cases hs1:(x.aO != -1)
   ·simp only[Bool.false_and,Bool.false_eq_true,if_false];cases(x.dM==1577058561)<;>cases vo x.dM<;>cases nA b x.IP<;>cases y<;>cases(x.IP != 0)<;>cases z<;>rfl
   ·obtain⟨s,hs⟩:∃s,gi f.aF x.aO=some s:=by
     simp only[out,Bool.or_eq_false_iff,decide_eq_false_iff_not]at hsg;have:x.aO≠ -1:=by simpa using hs1
     exact⟨_,by unfold gi;rw[if_pos (by omega)];exact List.getElem?_eq_getElem (by omega)⟩
    have hsm:s∈f.aF:=by
     unfold gi at hs;split at hs
     ·exact List.mem_of_getElem? hs
     ·cases hs
    have hsb:CS f x.aO=s.bB:=by simp[CS,hs]
    simp only[if_true,hs,Option.bind_some,hsb,Bool.true_and,Ml n s.bB x.BD (hsn s hsm).1 (hsn s hsm).2];cases(s.bB.any fun y=>x.BD==y)<;>cases(x.dM==1577058561)<;>cases vo x.dM<;>cases nA b x.IP<;>cases y<;>cases(x.IP != 0)<;>cases z<;>rfl
  ·simp;rfl
  ·cases bY (FF f f1 f2) 0 f.ff with
   |none=>rfl
   |some p=>rfl
end Go.L
namespace Go.L
open Go.AM
set_option maxRecDepth 100000
set_option linter.unusedSimpArgs false
set_option linter.unusedVariables false
def tG(t ip len:Int)(x:BD):Bool:=x.aJ==t&&(x.bC != 0&&(gF x.bT ip||gF ⟨ip,len⟩ x.bT.IP))
theorem V4{β:Type}(n:Nat)(x:BD)(x2 x3 x4 x5 x6 x7:Int)(k:jG.sh.El→Option β):(jG.S n (x,x2,x3,x4,x5,x6,x7)).bind k=k (tG x2 x5 x6 x):=by
 have:jG.S n (x,x2,x3,x4,x5,x6,x7)=some (tG x2 x5 x6 x):=by
  show(mV x x2 x3 x4 x5 x6 x7).run n=_;simp only[mV,G.run,aI,uA,tG,if_true];cases(x.aJ==x2)<;>cases(x.bC != 0)<;>cases gF x.bT x5<;>cases gF ⟨x5,x6⟩ x.bT.IP<;>rfl
 rw[this];rfl
theorem P9{β:Type}(n:Nat)(l:List BD)(x2 x3 x4 x5 x6 x7:Int)(hn:l.length<n)(hs:l.length≤4000)(k:kH.sh.El→Option β):
 (kH.S n (l,x2,x3,x4,x5,x6,x7)).bind k=k (idxOf (tG x2 x5 x6) l):=by
 have:kH.S n (l,x2,x3,x4,x5,x6,x7)=some (idxOf (tG x2 x5 x6) l):=by
  show(nR l x2 x3 x4 x5 x6 x7).run n=_;simp only[nR,G.run,aI,bD,cn,V4,if_true];refine tF l (tG x2 x5 x6) hn (fun i x hx=>?_) ?_ ?_
  ·have hi:=(List.getElem?_eq_some_iff.1 hx).1;have hlt:(i:Int)<l.length:=by omega
   simp only[bQ,hx,Option.bind_some,hlt,decide_true,if_true,eu (show i<9223372036854775807 by omega)]
   split<;>rfl
  ·simp;rfl
  ·unfold idxOf;cases l.findIdx? (tG x2 x5 x6)<;>rfl
 rw[this];rfl
theorem Kt{β:Type}(n:Nat)(l:List BD)(x2 x3 x4 x5 x6 x7:Int)(hn:l.length<n)(hs:l.length≤4000)(k:jj.sh.El→Option β):
 (jj.S n (l,x2,x3,x4,x5,x6,x7)).bind k=k (l.any (tG x2 x5 x6)):=by
 have:jj.S n (l,x2,x3,x4,x5,x6,x7)=some (l.any (tG x2 x5 x6)):=by
  show(mg l x2 x3 x4 x5 x6 x7).run n=_;simp only[mg,G.run,aI,if_true];rw[P9 n l x2 x3 x4 x5 x6 x7 hn hs];simp only[vm];rfl
 rw[this];rfl
theorem R6{X β:Type}(l:List X)(e:X→List AVal)(m:Nat)(i:Nat)(hi:i≤l.length)(k:Nat×Nat→Option β):(SX l e m none (some (i:Int))).run.bind k=k (0,i):=by
 have:(SX l e m none (some (i:Int))).run=some (0,i):=by
  show((Ad l.length l.length (some (i:Int))).bind fun h=>(Ad 0 h none).map fun k=>(k,h))=_
  simp only[Ad];rw[if_pos (by omega)];simp
 rw[this];rfl
def GN:ByteArray:=⟨⟨[100,111,109,97,105,110,115]⟩⟩
def GO(f:bH)(f1 f2:List Bool)(i:Nat)(b:BD):Int:=
 if(!(decide (0≤b.aJ)&&decide (b.aJ<(f.bq.length:Int))))=true then 2 else if decide (b.gy<1)=true then 2 else if decide (16777215<b.gy)=true then 2 else if(b.Target==0)=true then 2
 else if f1.getD i false=true then 11 else if f2.getD i false=true then 11 else if(f.bq.any fun x=>x.gy==b.gy)=true then 11 else if(f.bq.any fun x=>x.Target==b.Target)=true then 11
 else if(b.bC==0)=true then(if(!(b.bT.IP==0&&(b.bT.Len==0&&true)))=true then 3 else 0)
 else if(!qY b.bT)=true then 3 else if out b.bT.Len 8 30=true then 3 else if(!AU b.bT b.bC)=true then 3
 else if((f.bB.take i).any (tG b.aJ b.bT.IP b.bT.Len))=true then 11 else 0
theorem Qa(n:Nat)(f:bH)(hn:f.bB.length<n)(hnt:f.bq.length<n)(ht:f.bq.length≤4000):
 kI.S n ⟨f⟩=some (outcome GN 32 (decide (32<(f.bB.length:Int))) (bY (GO f (bM (fun x:BD=>x.gy) [] f.bB) (bM (fun x:BD=>x.Target) [] f.bB)) 0 f.bB)):=by
 show(nS ⟨f⟩).run n=_;simp only[nS,G.run,aI,bD,eH,Sum.elim,gt_iff_lt,decide_eq_true_eq];by_cases hfull:(32:Int)<f.bB.length
 ·simp[hfull,outcome];rfl
 ·simp only[hfull,if_false,decide_false];rw[FK n f.bB hn (by omega)]
  rw[DY n f.bB hn (by omega)]
  simp only[G.run,aI,bD,if_true,cn,kQ,iY,eH,Sum.elim,AV];generalize hf1:bM (fun x:BD=>x.gy) [] f.bB=f1
  generalize hf2:bM (fun x:BD=>x.Target) [] f.bB=f2
  refine tE f.bB (GO f f1 f2) (fun i e=>Sum.inl (e,GN,(i:Int))) (Sum.inr ()) hn (fun i x hx=>?_) ?_ ?_
  ·have hi:=(List.getElem?_eq_some_iff.1 hx).1;obtain⟨y,hy⟩:∃y,f1[i]? =some y:=⟨_,List.getElem?_eq_getElem (by rw[← hf1,fh];exact hi)⟩
   obtain⟨z,hz⟩:∃y,f2[i]? =some y:=⟨_,List.getElem?_eq_getElem (by rw[← hf2,fh];exact hi)⟩
   have hlt:(i:Int)<f.bB.length:=by omega
   simp only[bQ,hx,Option.bind_some,hlt,decide_true,if_true,hy,hz,GO,List.getD_eq_getElem?_getD,Option.getD_some,eu (show i<9223372036854775807 by omega)]
   clear hf1 hf2 hy hz hx;rw[P6 n f.bq x.gy hnt ht];rw[Kr n f.bq x.Target hnt ht];simp only[G.run,aI,bD,if_true,eH,Sum.elim,AV,iY,Bool.false_eq_true,if_false];cases(decide (0≤x.aJ)&&decide (x.aJ<(f.bq.length:Int)))
   case false=>rfl
   by_cases h1:x.gy<1
   ·simp only[h1,if_true,decide_true];rfl
   by_cases h2:(16777215:Int)<x.gy
   ·simp only[h1,h2,if_true,decide_true,if_false,decide_false,Bool.false_eq_true];rfl
   simp only[h1,h2,if_false,decide_false,Bool.false_eq_true];cases(x.Target==0)
   case true=>rfl
   cases y
   case true=>rfl
   cases z
   case true=>rfl
   cases(f.bq.any fun y=>y.gy==x.gy)
   case true=>rfl
   cases(f.bq.any fun y=>y.Target==x.Target)
   case true=>rfl
   cases(x.bC==0)
   case true=>cases(x.bT.IP==0&&(x.bT.Len==0&&true))<;>rfl
   cases hc:qY x.bT
   case false=>rfl
   have hok:fD x.bT=true:=by
    simp only[qY,Bool.and_eq_true]at hc;exact hc.1
   simp only[E6 n x.bT x.bC hok,R6 f.bB fB 6 i (by omega),List.drop_zero]
   rw[Kt n (f.bB.take i) x.aJ x.gy x.Target x.bT.IP x.bT.Len x.bC (by simp;omega) (by simp;omega)]
   have e:(decide (x.bT.Len<8)||decide (30<x.bT.Len))=out x.bT.Len 8 30:=rfl;simp only[e];cases out x.bT.Len 8 30<;>cases AU x.bT x.bC<;>cases(f.bB.take i).any (tG x.aJ x.bT.IP x.bT.Len)<;>rfl
  ·simp;rfl
  ·cases bY (GO f f1 f2) 0 f.bB with
   |none=>rfl
   |some p=>rfl
end Go.L
namespace Go.L
open Go.AM
set_option maxRecDepth 100000
set_option linter.unusedSimpArgs false
set_option linter.unusedVariables false
def yY(l:List Int):Bool:=(l.zip l.tail).all fun p=>decide (p.1<p.2)
theorem W4(l:List (Int×Int))(j:Nat):(match bY (fun _ (p:Int×Int)=>if p.2≤p.1 then 1 else 0) j l with |none=>some true |some (_,_)=>some false)=some (l.all fun p=>decide (p.1<p.2)):=by
 induction l generalizing j with
 |nil=>rfl
 |cons p ps ih=>
  simp only[bY,List.all_cons];by_cases h:p.2≤p.1
  ·have:¬p.1<p.2:=by omega
   simp[h,this]
  ·have:p.1<p.2:=by omega
   simp only[h,if_false,ne_eq,not_true_eq_false,this,decide_true,Bool.true_and];exact ih (j+1)
theorem AX{β:Type}(n:Nat)(l:List Int)(hn:l.length<n)(hs:l.length≤4000)(k:mq.sh.El→Option β):(mq.S n l).bind k=k (yY l):=by
 have:mq.S n l=some (yY l):=by
  show(sR l).run n=_;simp only[sR,G.run,aI,bD,cn,if_true];have hzl:(l.zip l.tail).length=l.length - 1:=by simp
  refine Eq.trans (Cb (fun i=>((i:Int)+1)) (l.zip l.tail) (fun _ (p:Int×Int)=>if p.2≤p.1 then 1 else 0) (fun _ _=>some false) (some true) (by omega) (fun i x hx hp hE=>?_) (fun i x hx hp hE=>?_) (fun hp=>?_)) (W4 (l.zip l.tail) 0)
  ·have hi:=(List.getElem?_eq_some_iff.1 hx).1;rw[hzl]at hi;have h1:l[i]? =some x.1:=by
    rw[List.getElem?_zip_eq_some]at hx;exact hx.1
   have h2:l[i+1]? =some x.2:=by
    rw[List.getElem?_zip_eq_some]at hx;simpa using hx.2
   have hle:x.2≤x.1:=by
    by_cases h:x.2≤x.1
    ·exact h
    ·simp[h]at hE
   have hlt:(i:Int)+1<l.length:=by omega
   have e1:gi l ((i:Int)+1)=some x.2:=by rw[show(i:Int)+1=((i+1:Nat):Int)by omega,bQ,h2]
   have e2:gi l (Go.IntKind.wrap .i64 ((i:Int)+1 - 1))=some x.1:=by
    rw[wrap_i64 (by omega) (by omega),show(i:Int)+1 - 1=(i:Int)by omega,bQ,h1]
   refine⟨.inl (),?_,rfl⟩;simp only[hlt,decide_true,if_true,e1,e2,Option.bind_some,hle]
  ·have hi:=(List.getElem?_eq_some_iff.1 hx).1;rw[hzl]at hi;have h1:l[i]? =some x.1:=by
    rw[List.getElem?_zip_eq_some]at hx;exact hx.1
   have h2:l[i+1]? =some x.2:=by
    rw[List.getElem?_zip_eq_some]at hx;simpa using hx.2
   have hle:¬x.2≤x.1:=by
    intro h;simp[h]at hE
   have hlt:(i:Int)+1<l.length:=by omega
   have e1:gi l ((i:Int)+1)=some x.2:=by rw[show(i:Int)+1=((i+1:Nat):Int)by omega,bQ,h2]
   have e2:gi l (Go.IntKind.wrap .i64 ((i:Int)+1 - 1))=some x.1:=by
    rw[wrap_i64 (by omega) (by omega),show(i:Int)+1 - 1=(i:Int)by omega,bQ,h1]
   have e3:Go.IntKind.wrap .i64 ((i:Int)+1+1)=((i+1:Nat):Int)+1:=by rw[wrap_i64 (by omega) (by omega)];omega
   simp only[hlt,decide_true,if_true,e1,e2,e3,Option.bind_some,hle,decide_false,Bool.false_eq_true,if_false]
  ·refine⟨.inr (),?_,rfl⟩;have hlt:¬((((l.zip l.tail).length:Nat):Int)+1<l.length):=by rw[hzl];omega
   simp only[hlt,decide_false,Bool.false_eq_true,if_false]
 rw[this];rfl
def jo(p:List Int):List Int→List Int
 | []=>p
 |x::xs=>jo (p.set x.toNat (p[x.toNat]?.getD 0+1)) xs
theorem J6:∀(l p:List Int),(jo p l).length=p.length
 | [],_=>rfl
 |x::xs,p=>by simp[jo,J6 xs]
theorem Ii:∀(l p:List Int) (x:Int),jo p (l++[x])=(jo p l).set x.toNat ((jo p l)[x.toNat]?.getD 0+1)
 | [],_,_=>rfl
 |y::l,p,x=>by simp only[List.cons_append,jo];exact Ii l _ x
theorem E8:∀(l p:List Int) (m:Nat),(∀x∈l,0≤x)→l.Nodup→(jo p l)[m]? =(p[m]?).map fun v=>if(m:Int)∈l then v+1 else v
 | [],p,m,_,_=>by simp[jo]
 |x::xs,p,m,h0,hd=>by
  have hx:=h0 x (by simp)
  have hd':=List.nodup_cons.1 hd;simp only[jo];rw[E8 xs _ m (fun y hy=>h0 y (by simp[hy])) hd'.2]
  by_cases hm:m=x.toNat
  ·subst hm;have e:((x.toNat:Nat):Int)=x:=by omega
   rw[e];by_cases hp:x.toNat<p.length
   ·rw[List.getElem?_set_self hp,List.getElem?_eq_getElem hp];simp[hd'.1]
   ·rw[List.getElem?_eq_none (by simp;omega),List.getElem?_eq_none (by omega)];rfl
  ·rw[List.getElem?_set_ne (Ne.symm hm)];have:¬(m:Int)=x:=by omega
   simp[this]
def kL(l:List aO):List Int:=(List.range 32).map fun m=>((l.countP fun s=>s.Leaves.contains (m:Int):Nat):Int)
theorem Ns:kL []=List.replicate 32 0:=by decide
theorem xW(l:List aO){m:Nat}(h:m<32):(kL l)[m]? =some ((l.countP fun s=>s.Leaves.contains (m:Int):Nat):Int):=by
 simp[kL,h]
theorem Cc(l:List aO):(kL l).length=32:=by simp[kL]
theorem Mo(l:List aO)(s:aO)(h0:∀x∈s.Leaves,0≤x)(hd:s.Leaves.Nodup):jo (kL l) s.Leaves=kL (l++[s]):=by
 apply List.ext_getElem?;intro m;rw[E8 _ _ m h0 hd];by_cases h:m<32
 ·rw[xW _ h,xW _ h];simp only[Option.map_some,List.countP_append,List.countP_cons,List.countP_nil,Nat.zero_add,List.contains_iff_mem];split<;>simp_all
 ·rw[List.getElem?_eq_none (by rw[Cc];omega),List.getElem?_eq_none (by rw[Cc];omega)];rfl
theorem Qb:∀(l:List Int),yY l=true→l.Nodup∧∀(i j:Nat) x y,i<j→l[i]? =some x→l[j]? =some y→x<y:=by
 intro l h;have hadj:∀(i:Nat) x y,l[i]? =some x→l[i+1]? =some y→x<y:=by
  intro i x y hx hy;simp only[yY,List.all_eq_true,decide_eq_true_eq]at h;exact h (x,y) (List.mem_of_getElem? (i:=i) (by rw[List.getElem?_zip_eq_some];exact⟨hx,by simpa using hy⟩))
 have hlt:∀(d i:Nat) x y,l[i]? =some x→l[i+d+1]? =some y→x<y:=by
  intro d;induction d with
  |zero=>intro i x y hx hy;exact hadj i x y hx (by simpa using hy)
  |succ d ih=>
   intro i x y hx hy;have hlt:=(List.getElem?_eq_some_iff.1 hy).1;have h1:=hadj i x l[i+1] hx (List.getElem?_eq_getElem (by omega))
   have h2:=ih (i+1) l[i+1] y (List.getElem?_eq_getElem (by omega)) (by rw[← hy];congr 1;omega)
   omega
 have hall:∀(i j:Nat) x y,i<j→l[i]? =some x→l[j]? =some y→x<y:=by
  intro i j x y hij hx hy;exact hlt (j - i - 1) i x y hx (by rw[← hy];congr 1;omega)
 refine⟨?_,hall⟩;rw[List.nodup_iff_pairwise_ne,List.pairwise_iff_getElem];intro i j hi hj hij he;have:=hall i j l[i] l[j] hij (List.getElem?_eq_getElem hi) (List.getElem?_eq_getElem hj);omega
end Go.L
namespace Go.L
open Go.AM
set_option maxRecDepth 100000
set_option linter.unusedSimpArgs false
set_option linter.unusedVariables false
theorem J7{β:Type}(b ai j o n s:Nat)(i:Int)(k:Unit→Option β):(Pk b ai j o n s i).run.bind k=if 0≤i∧i<n then k ()else none:=by
 show(if 0≤i∧i<n then some ()else none).bind k=_
 split<;>rfl
theorem Mp{X β:Type}(l:List X)(c:X→AVal)(b ai sz o:Nat)(k:X→Option β):(Va l c b ai sz o).run.bind k=(l[o]?).bind k:=rfl
theorem Mq{X β:Type}(l:List X)(c:X→AVal)(b ai sz o:Nat)(y:X)(k:Unit→Option β):(Ew l c b ai sz o y).run.bind k=if o<l.length then k ()else none:=by
 show(if o<l.length then some ()else none).bind k=_
 split<;>rfl
def mA:ByteArray:=⟨⟨[115,101,103,109,101,110,116,115]⟩⟩
def Ji(f:bH)(i:Nat)(x:aO):Int:=
 if((x.Leaves.length:Int)==0)=true then 3 else if((x.bB.length:Int)==0)=true then 3
 else if(x.Leaves.any fun n=> !(decide (0≤n)&&decide (n<f.Leaves)))=true then 2 else if(x.bB.any fun n=> !(decide (0≤n)&&decide (n<(f.bB.length:Int))))=true then 2
 else if(!yY x.Leaves)=true then 10 else if(!yY x.bB)=true then 10
 else if(x.Leaves.any fun n=>decide (32<(((f.aF.take i).countP fun s=>s.Leaves.contains n:Nat):Int)+1))=true then 7 else 0
theorem Mr{α τ γ ST:Type}{f:ST→Option (ST⊕τ)}{s0:ST}(mk:Nat→ST)(l:List α)(E:Nat→α→Int){k:τ→Option γ}(bad:Nat→Int→Option γ)(fin:Option γ){n:Nat}(h0:s0=mk 0)(hn:l.length<n)
 (hb:∀(i:Nat) x,l[i]? =some x→(∀(j:Nat) y,j<i→l[j]? =some y→E j y=0)→E i x≠0→∃t,f (mk i)=some (.inr t)∧k t=bad i (E i x))
 (hg:∀(i:Nat) x,l[i]? =some x→(∀(j:Nat) y,j<i→l[j]? =some y→E j y=0)→E i x=0→f (mk i)=some (.inl (mk (i+1))))
 (he:(∀(j:Nat) y,l[j]? =some y→E j y=0)→∃t,f (mk l.length)=some (.inr t)∧k t=fin):
 (bZ f n s0).bind k=(match bY E 0 l with |none=>fin |some (e,i)=>bad i e):=by
 subst h0;exact Cb mk l E bad fin hn hb hg he
theorem R7{γ:Type}{n:Nat}(L ports:List Int)(i:Int)(hn:L.length<n)(hp:ports.length=32)(h0:∀x∈L,0≤x∧x<32)(hd:L.Nodup)(hs:L.length≤4000)(hv:∀v∈ports,0≤v∧v≤1000)
 {k:(List Int×Int×ByteArray×Int)⊕List Int→Option γ} {bad fin:Option γ} (hbad:∀p,k (.inl (p,7,mA,i))=bad) (hfin:k (.inr (jo ports L))=fin)
 {f:Int×List Int→Option ((Int×List Int)⊕((List Int×Int×ByteArray×Int)⊕List Int))}
 (hf:∀a,f a=if decide (a.1<(L.length:Int))=true then(gi L a.1).bind fun x=>if 0≤x∧x<(32:Nat)then(a.2[0+x.toNat*1]?).bind fun v=>if 0≤x∧x<(32:Nat)then if 0+x.toNat*1<a.2.length then if 0≤x∧x<(32:Nat)then((a.2.set (0+x.toNat*1) (Go.IntKind.wrap .i64 (v+1)))[0+x.toNat*1]?).bind fun w=>
  if decide (32<w)=true then some (.inr (.inl (a.2.set (0+x.toNat*1) (Go.IntKind.wrap .i64 (v+1)),7,mA,i)))else some (.inl (Go.IntKind.wrap .i64 (a.1+1),a.2.set (0+x.toNat*1) (Go.IntKind.wrap .i64 (v+1))))else none else none else none else none
  else some (.inr (.inr a.2))):
 (bZ f n (0,ports)).bind k=if(L.any fun x=>decide (32<ports[x.toNat]?.getD 0+1))=true then bad else fin:=by
 have step:∀(j:Nat) x,L[j]? =some x→∃v,ports[x.toNat]? =some v∧f ((j:Int),jo ports (L.take j))=if decide (32<v+1)=true then some (.inr (.inl (jo ports (L.take (j+1)),7,mA,i)))else some (.inl (((j+1:Nat):Int),jo ports (L.take (j+1)))):=by
  intro j x hx;have hj:=(List.getElem?_eq_some_iff.1 hx).1;have hx0:=h0 x (List.mem_of_getElem? hx);have hlt:x.toNat<ports.length:=by omega
  refine⟨ports[x.toNat],List.getElem?_eq_getElem hlt,?_⟩;have hvv:=hv ports[x.toNat] (List.getElem_mem hlt);have htake:L.take (j+1)=L.take j++[x]:=by rw[List.take_add_one,hx];rfl
  have hnot:¬((x.toNat:Nat):Int)∈L.take j:=by
   intro hm;rw[show((x.toNat:Nat):Int)=x by omega]at hm
   obtain⟨q,hq⟩:=List.getElem?_of_mem hm;have hq2:=(List.getElem?_eq_some_iff.1 hq).1;simp only[List.length_take]at hq2;rw[List.getElem?_take,if_pos (by omega)]at hq
   have:=List.nodup_iff_pairwise_ne.1 hd;rw[List.pairwise_iff_getElem]at this;have hne:=this q j (by omega) hj (by omega)
   rw[List.getElem?_eq_getElem (by omega)]at hq hx
   simp only[Option.some.injEq]at hq hx;exact hne (hq.trans hx.symm)
  have hB:(jo ports (L.take j))[x.toNat]? =some ports[x.toNat]:=by
   rw[E8 _ _ _ (fun y hy=>(h0 y (List.mem_of_mem_take hy)).1) (hd.sublist (List.take_sublist _ _)),List.getElem?_eq_getElem hlt]
   simp only[Option.map_some,if_neg hnot]
  have hBl:(jo ports (L.take j)).length=32:=by rw[J6,hp]
  have hset:(jo ports (L.take j)).set x.toNat (ports[x.toNat]+1)=jo ports (L.take (j+1)):=by
   rw[htake,Ii,hB];rfl
  have hw:Go.IntKind.wrap .i64 (ports[x.toNat]+1)=ports[x.toNat]+1:=wrap_i64 (by omega) (by omega)
  rw[hf];have hlt2:(j:Int)<(L.length:Int):=by omega
  have hx1:(0:Int)≤x∧x<((32:Nat):Int):=by omega
  simp only[hlt2,decide_true,if_true,bQ,hx,Option.bind_some,hx1,and_self,Nat.zero_add,Nat.mul_one,hB,hw,hset];rw[if_pos (by rw[hBl];omega)]
  have hget:(jo ports (L.take (j+1)))[x.toNat]? =some (ports[x.toNat]+1):=by
   rw[← hset,List.getElem?_set_self (by rw[hBl];omega)]
  simp only[hget,Option.bind_some,eu (show j<9223372036854775807 by omega)]
 have main:=Cb (f:=f) (fun j=>((j:Int),jo ports (L.take j))) L (fun _ x=>if 32<ports[x.toNat]?.getD 0+1 then 7 else 0) (k:=k) (fun _ _=>bad) fin hn ?_ ?_ ?_
 ·have e:(match bY (fun _ x=>if 32<ports[x.toNat]?.getD 0+1 then(7:Int)else 0) 0 L with |none=>fin |some (_,_)=>bad)=if(L.any fun x=>decide (32<ports[x.toNat]?.getD 0+1))=true then bad else fin:=by
   have key:∀(L:List Int) (j:Nat),(match bY (fun _ x=>if 32<ports[x.toNat]?.getD 0+1 then(7:Int)else 0) j L with |none=>fin |some (_,_)=>bad)=if(L.any fun x=>decide (32<ports[x.toNat]?.getD 0+1))=true then bad else fin:=by
    intro L;induction L with
    |nil=>intro j;rfl
    |cons x xs ih=>
     intro j;simp only[bY,List.any_cons];by_cases h:32<ports[x.toNat]?.getD 0+1
     ·simp[h]
     ·simp only[h,if_false,ne_eq,not_true_eq_false,decide_false,Bool.false_or];exact ih (j+1)
   exact key L 0
  rw[← e];exact main
 ·intro j x hx _ hE;obtain⟨v,h1,h2⟩:=step j x hx;have:32<v+1:=by
   rw[h1]at hE;simp only[Option.getD_some]at hE;by_cases h:32<v+1
   ·exact h
   ·simp[h]at hE
  refine⟨_,by rw[h2];simp only[this,decide_true,if_true];rfl,hbad _⟩
 ·intro j x hx _ hE;obtain⟨v,h1,h2⟩:=step j x hx;have:¬32<v+1:=by
   rw[h1]at hE;simp only[Option.getD_some]at hE;intro h;simp[h]at hE
  rw[h2];simp only[this,decide_false,Bool.false_eq_true,if_false]
 ·intro _;refine⟨.inr (jo ports L),?_,hfin⟩;rw[hf];simp
theorem Ms{n:Nat}(L ports:List Int)(i:Int)(hn:L.length<n)(hp:ports.length=32)(h0:∀x∈L,0≤x∧x<32)(hd:L.Nodup)(hs:L.length≤4000)(hv:∀v∈ports,0≤v∧v≤1000)
 {f:Int×List Int→Option ((Int×List Int)⊕((List Int×Int×ByteArray×Int)⊕List Int))}
 (hf:∀a,f a=if decide (a.1<(L.length:Int))=true then(gi L a.1).bind fun x=>if 0≤x∧x<(32:Nat)then(a.2[0+x.toNat*1]?).bind fun v=>if 0≤x∧x<(32:Nat)then if 0+x.toNat*1<a.2.length then if 0≤x∧x<(32:Nat)then((a.2.set (0+x.toNat*1) (Go.IntKind.wrap .i64 (v+1)))[0+x.toNat*1]?).bind fun w=>
  if decide (32<w)=true then some (.inr (.inl (a.2.set (0+x.toNat*1) (Go.IntKind.wrap .i64 (v+1)),7,mA,i)))else some (.inl (Go.IntKind.wrap .i64 (a.1+1),a.2.set (0+x.toNat*1) (Go.IntKind.wrap .i64 (v+1))))else none else none else none else none
  else some (.inr (.inr a.2))):
 ∃p,bZ f n (0,ports)=some (if(L.any fun x=>decide (32<ports[x.toNat]?.getD 0+1))=true then .inl (p,7,mA,i)else .inr (jo ports L)):=by
 have main:=R7 L ports i hn hp h0 hd hs hv (k:=fun t=>some (match t with | .inl q=>(Sum.inl q.2:(Int×ByteArray×Int)⊕List Int) | .inr q=>.inr q)) (bad:=some (.inl (7,mA,i))) (fin:=some (.inr (jo ports L))) (fun p=>rfl) rfl hf
 cases hany:(L.any fun x=>decide (32<ports[x.toNat]?.getD 0+1))with
 |true=>
  rw[hany]at main;cases hit:bZ f n (0,ports)with
  |none=>rw[hit]at main;simp at main
  |some t=>
   rw[hit]at main;cases t with
   |inl q=>
    obtain⟨p,q⟩:=q;refine⟨p,?_⟩;simp at main;rw[main];rfl
   |inr q=>simp at main
 |false=>
  rw[hany]at main;cases hit:bZ f n (0,ports)with
  |none=>rw[hit]at main;simp at main
  |some t=>
   rw[hit]at main;cases t with
   |inl q=>simp at main
   |inr q=>
    refine⟨[],?_⟩;simp at main;rw[main];rfl
theorem Mt{n:Nat}{γ ST τ:Type}(L ports:List Int)(i:Int)(hn:L.length<n)(hp:ports.length=32)(h0:∀x∈L,0≤x∧x<32)(hd:L.Nodup)(hs:L.length≤4000)(hv:∀v∈ports,0≤v∧v≤1000)
 {f:Int×List Int→Option ((Int×List Int)⊕((List Int×Int×ByteArray×Int)⊕List Int))}
 (hf:∀a,f a=if decide (a.1<(L.length:Int))=true then(gi L a.1).bind fun x=>if 0≤x∧x<(32:Nat)then(a.2[0+x.toNat*1]?).bind fun v=>if 0≤x∧x<(32:Nat)then if 0+x.toNat*1<a.2.length then if 0≤x∧x<(32:Nat)then((a.2.set (0+x.toNat*1) (Go.IntKind.wrap .i64 (v+1)))[0+x.toNat*1]?).bind fun w=>
  if decide (32<w)=true then some (.inr (.inl (a.2.set (0+x.toNat*1) (Go.IntKind.wrap .i64 (v+1)),7,mA,i)))else some (.inl (Go.IntKind.wrap .i64 (a.1+1),a.2.set (0+x.toNat*1) (Go.IntKind.wrap .i64 (v+1))))else none else none else none else none
  else some (.inr (.inr a.2))) {k:(List Int×Int×ByteArray×Int)⊕List Int→Option (ST⊕τ)} {A:ST} {kk:τ→Option γ} {B:Option γ} {Ev:Int}
 (hEv:Ev=if(L.any fun x=>decide (32<ports[x.toNat]?.getD 0+1))=true then 7 else 0) (hk1:Ev=7→∀p,∃t,k (.inl (p,7,mA,i))=some (.inr t)∧kk t=B) (hk2:k (.inr (jo ports L))=some (.inl A)):
 (Ev=0∧(bZ f n (0,ports)).bind k=some (.inl A))∨(Ev≠0∧∃t,(bZ f n (0,ports)).bind k=some (.inr t)∧kk t=B):=by
 obtain⟨p,hit⟩:=Ms L ports i hn hp h0 hd hs hv hf;rw[hit];cases hany:(L.any fun x=>decide (32<ports[x.toNat]?.getD 0+1))with
 |true=>
  rw[hany]at hEv;right;refine⟨by rw[hEv];decide,?_⟩
  simp only[if_true,Option.bind_some];exact hk1 (by rw[hEv];rfl) p
 |false=>
  rw[hany]at hEv;left;refine⟨by rw[hEv];rfl,?_⟩
  simp only[Bool.false_eq_true,if_false,Option.bind_some];exact hk2
theorem Nt{α τ γ ST:Type}{f:ST→Option (ST⊕τ)}{s0:ST}(mk:Nat→ST)(l:List α)(E:Nat→α→Int){k:τ→Option γ}(bad:Nat→Int→Option γ)(fin:Option γ){n:Nat}(h0:s0=mk 0)(hn:l.length<n)
 (hr:∀(i:Nat) x,l[i]? =some x→(∀(j:Nat) y,j<i→l[j]? =some y→E j y=0)→(E i x=0∧f (mk i)=some (.inl (mk (i+1))))∨(E i x≠0∧∃t,f (mk i)=some (.inr t)∧k t=bad i (E i x)))
 (he:(∀(j:Nat) y,l[j]? =some y→E j y=0)→∃t,f (mk l.length)=some (.inr t)∧k t=fin):
 (bZ f n s0).bind k=(match bY E 0 l with |none=>fin |some (e,i)=>bad i e):=by
 refine Mr mk l E bad fin h0 hn (fun i x hx hp hE=>?_) (fun i x hx hp hE=>?_) he
 ·rcases hr i x hx hp with⟨h,_⟩ |⟨_,h⟩
  ·exact absurd h hE
  ·exact h
 ·rcases hr i x hx hp with⟨_,h⟩ |⟨h,_⟩
  ·exact h
  ·exact absurd hE h
theorem Nu(n:Nat)(f:bH)(hn:f.aF.length<n)(hL:f.Leaves≤32)(hB:f.bB.length≤4000)(hsn:∀s∈f.aF,(s.bB.length<n∧s.bB.length≤4000)∧s.Leaves.length<n∧s.Leaves.length≤4000):
 jU.S n ⟨f⟩=some (outcome mA 64 (decide (64<(f.aF.length:Int))) (bY (Ji f) 0 f.aF)):=by
 show(ny ⟨f⟩).run n=_;simp only[ny,G.run,aI,bD,eH,Sum.elim,gt_iff_lt,decide_eq_true_eq];by_cases hfull:(64:Int)<f.aF.length
 ·simp[hfull,outcome];rfl
 ·simp only[hfull,if_false,decide_false];simp only[G.run,aI,bD,if_true,cn,kQ,iY,eH,Sum.elim,J7,Mp,Mq];refine Eq.trans (Nt (fun i=>((i:Int),kL (f.aF.take i))) f.aF (Ji f) (fun i e=>some (.inr (e,mA,(i:Int)))) (some (.inl ())) (by simp[Ns]) hn (fun i x hx hp=>?_) (fun hp=>?_)) ?_
  ·have hi:=(List.getElem?_eq_some_iff.1 hx).1;have hxm:=List.mem_of_getElem? hx;have hlt:(i:Int)<f.aF.length:=by omega
   simp only[hlt,if_true,bQ,hx,Option.bind_some];rw[Ig n x.Leaves _ _ _ _ _ _ _ _ _ _ _ _ _ _ _ _ _ _ _ (hsn x hxm).2.1 (hsn x hxm).2.2];rw[Ks n x.bB _ _ _ _ _ _ _ _ _ _ _ _ _ _ _ _ _ _ _ (hsn x hxm).1.1 (hsn x hxm).1.2];simp only[G.run,aI,bD,if_true,eH,Sum.elim];rw[AX n x.Leaves (hsn x hxm).2.1 (hsn x hxm).2.2,AX n x.bB (hsn x hxm).1.1 (hsn x hxm).1.2];simp only[G.run,aI,bD,if_true,eH,Sum.elim,cn,J7,Mp,Mq,gt_iff_lt];unfold Ji;cases hc1:((x.Leaves.length:Int)==0)
   case true=>exact .inr ⟨by simp,_,rfl,rfl⟩
   cases hc2:((x.bB.length:Int)==0)
   case true=>exact .inr ⟨by simp,_,rfl,rfl⟩
   cases hc3:(x.Leaves.any fun n=> !(decide (0≤n)&&decide (n<f.Leaves)))
   case true=>exact .inr ⟨by simp,_,rfl,rfl⟩
   cases hc4:(x.bB.any fun n=> !(decide (0≤n)&&decide (n<(f.bB.length:Int))))
   case true=>exact .inr ⟨by simp,_,rfl,rfl⟩
   cases hc5:yY x.Leaves
   case false=>exact .inr ⟨by simp,_,rfl,rfl⟩
   cases hc6:yY x.bB
   case false=>exact .inr ⟨by simp,_,rfl,rfl⟩
   simp only[Bool.not_true,Bool.false_eq_true,if_false];have hrange:∀y∈x.Leaves,0≤y∧y<32:=by
    intro y hy;rw[List.any_eq_false]at hc3;have:=hc3 y hy;simp at this;omega
   obtain⟨hnd,_⟩:=Qb x.Leaves hc5;have hcnt:∀v∈kL (f.aF.take i),0≤v∧v≤1000:=by
    intro v hv;simp only[kL,List.mem_map,List.mem_range]at hv;obtain⟨m,_,rfl⟩:=hv;have:=List.countP_le_length (p:=fun s:aO=>s.Leaves.contains (m:Int)) (l:=f.aF.take i)
    simp only[List.length_take]at this;omega
   refine Mt x.Leaves (kL (f.aF.take i)) (i:Int) (hsn x hxm).2.1 (Cc _) hrange hnd (hsn x hxm).2.2 hcnt (fun a=>rfl) ?_ (fun h7 p=>⟨_,rfl,by rw[h7];rfl⟩) ?_
   ·have:(x.Leaves.any fun n=>decide (32<(((f.aF.take i).countP fun s=>s.Leaves.contains n:Nat):Int)+1))=x.Leaves.any fun y=>decide (32<(kL (f.aF.take i))[y.toNat]?.getD 0+1):=by
     apply Bool.eq_iff_iff.2;simp only[List.any_eq_true];constructor
     ·rintro⟨y,hy,h⟩;have hr:=hrange y hy;refine⟨y,hy,?_⟩;rw[xW _ (by omega),show((y.toNat:Nat):Int)=y by omega]
      exact h
     ·rintro⟨y,hy,h⟩;have hr:=hrange y hy;refine⟨y,hy,?_⟩;rw[xW _ (by omega),show((y.toNat:Nat):Int)=y by omega]at h
      exact h
    rw[this]
   ·have htake:f.aF.take (i+1)=f.aF.take i++[x]:=by rw[List.take_add_one,hx];rfl
    have e:jo (kL (f.aF.take i)) x.Leaves=kL (f.aF.take (i+1)):=by rw[htake];exact Mo _ _ (fun y hy=>(hrange y hy).1) hnd
    rw[e];have hw:=eu (show i<9223372036854775807 by omega)
    show some (Sum.inl (Go.IntKind.wrap .i64 ((i:Int)+1),kL (f.aF.take (i+1))))=_;rw[hw]
  ·refine⟨.inr (kL f.aF),?_,rfl⟩;simp
  ·cases bY (Ji f) 0 f.aF<;>rfl
end Go.L
namespace Go.L
open Go.AM
set_option maxRecDepth 100000
set_option linter.unusedSimpArgs false
set_option linter.unusedVariables false
structure Small(f:bH):Prop where
 links:f.Links.length≤4000
 xI:f.bq.length≤4000
 vp:f.bB.length≤4000
 segments:f.aF.length≤4000
 KL:f.ff.length≤4000
 KM:f.gJ.length≤4000
 seg:∀s∈f.aF,s.Leaves.length≤4000∧s.bB.length≤4000
abbrev Ij:=Unit⊕(Int×ByteArray×Int)
def xJ(f:bH):Ij:=if vn f=true then .inr (2,Ox,0)else .inl ()
def CT(f:bH):Ij:=if yw f.cq=true then .inr (2,Oy,0)else .inl ()
def Ik(f:bH):Ij:=outcome Mi 128 (decide (128<(f.Links.length:Int))) (bY (FC f (bM (fun x:cK=>(⟨x.A,x.B⟩:V2 Int)) [] f.Links)) 0 f.Links)
def DB(f:bH):Ij:=outcome GL 16 (decide (16<(f.bq.length:Int))) (bY (zP (bM (fun x:aJ=>x.gy) [] f.bq) (bM (fun x:aJ=>x.Target) [] f.bq)) 0 f.bq)
def AY(f:bH):Ij:=outcome GN 32 (decide (32<(f.bB.length:Int))) (bY (GO f (bM (fun x:BD=>x.gy) [] f.bB) (bM (fun x:BD=>x.Target) [] f.bB)) 0 f.bB)
def BH(f:bH):Ij:=outcome mA 64 (decide (64<(f.aF.length:Int))) (bY (Ji f) 0 f.aF)
def Il(f:bH):Ij:=outcome Mn 128 (decide (128<(f.ff.length:Int))) (bY (FF f (bM (fun x:Host=>(⟨x.BD,x.dM⟩:aS)) [] f.ff) (bM (fun x:Host=>(⟨x.BD,Go.IntKind.wrap .u64 x.IP⟩:aS)) [] f.ff)) 0 f.ff)
def Im(f:bH):Ij:=outcome Mm 256 (decide (256<(f.gJ.length:Int))) (bY (FD f (bM (fun x:cW=>x) [] f.gJ)) 0 f.gJ)
def zF(a:Ij)(b:Int×ByteArray×Int):Int×ByteArray×Int:=match a with
 | .inl _=>b
 | .inr t=>t
def CU(f:bH):Int×ByteArray×Int:=
 zF (xJ f)<|zF (CT f)<|zF (Ik f)<|zF (DB f)<|zF (AY f)<|zF (BH f)<|zF (Il f)<|zF (Im f) (0,⟨⟨[]⟩⟩,0)
theorem Io{p:ByteArray}{m:Int}{b:Bool}{r:Option (Int×Nat)}{u:Unit}(h:outcome p m b r=.inl u):b=false∧r=none:=by
 unfold outcome at h;split at h
 ·cases h
 ·rename_i hb;split at h
  ·exact⟨by simpa using hb,rfl⟩
  ·cases h
theorem V5{f:bH}{u:Unit}(h:AY f=.inl u):∀b∈f.bB,b.bC≠0→fD b.bT=true:=by
 intro b hb hg;have:=(Io h).2;rw[uC]at this;obtain⟨i,hi⟩:=List.getElem?_of_mem hb;have:=this i b hi;have hg':(b.bC==0)=false:=by simpa using hg
 have hcl:qY b.bT=true:=by
  cases hc:qY b.bT with
  |true=>rfl
  |false=>
   unfold GO at this;simp only[hg',hc,Bool.not_false,if_true,Bool.false_eq_true,if_false]at this
   repeat' split at this
   all_goals cases this
 simp only[qY,Bool.and_eq_true]at hcl;exact hcl.1
theorem R8{f:bH}{u:Unit}(h:xJ f=.inl u):1≤f.Leaves∧f.Leaves≤32∧0≤f.iy∧f.iy≤32:=by
 unfold xJ at h;split at h
 ·cases h
 ·rename_i hb;simp only[vn,out,Bool.not_eq_true,Bool.or_eq_false_iff,decide_eq_false_iff_not]at hb;omega
theorem Mu{β:Type}(n:Nat)(hn:5000≤n)(f:bH)(hs:Small f)(k:lG.sh.El→Option β):(lG.S n f).bind k=k (CU f):=by
 have b1:∀{γ:Type} (k:kW.sh.El→Option γ),(kW.S n ⟨f⟩).bind k=k (xJ f):=fun k=>by rw[R4];rfl
 have b2:∀{γ:Type} (k:kX.sh.El→Option γ),(kX.S n ⟨f⟩).bind k=k (CT f):=fun k=>by rw[R5];rfl
 have b3:∀{γ:Type} (k:lT.sh.El→Option γ),(lT.S n ⟨f⟩).bind k=k (Ik f):=fun k=>by rw[TJ n f (by have:=hs.links;omega) (by omega)];rfl
 have b4:∀{γ:Type} (k:kF.sh.El→Option γ),(kF.S n ⟨f⟩).bind k=k (DB f):=fun k=>by rw[P8 n f (by have:=hs.xI;omega)];rfl
 have b5:∀{γ:Type} (k:kI.sh.El→Option γ),(kI.S n ⟨f⟩).bind k=k (AY f):=fun k=>by rw[Qa n f (by have:=hs.vp;omega) (by have:=hs.xI;omega) hs.xI];rfl
 have b8:∀{γ:Type} (k:lV.sh.El→Option γ),(lV.S n ⟨f⟩).bind k=k (Im f):=fun k=>by rw[TP n f (by have:=hs.KM;omega)];rfl
 have hseg:∀s∈f.aF,(s.bB.length<n∧s.bB.length≤4000)∧s.Leaves.length<n∧s.Leaves.length≤4000:=fun s h=>by
  have:=hs.seg s h;omega
 have:lG.S n f=some (CU f):=by
  show(xG f).run n=_;have b0:∀{γ:Type} (k:wD.sh.El→Option γ),(wD.S n ()).bind k=k ():=fun k=>rfl
  simp only[xG,G.run,aI,b0,b1];unfold CU;cases h1:xJ f with
  |inr t=>rfl
  |inl u=>
   simp only[Sum.elim,G.run,b2];cases h2:CT f with
   |inr t=>rfl
   |inl u=>
    simp only[Sum.elim,G.run,b3];cases h3:Ik f with
    |inr t=>rfl
    |inl u=>
     simp only[Sum.elim,G.run,b4];cases h4:DB f with
     |inr t=>rfl
     |inl u=>
      simp only[Sum.elim,G.run,b5];cases h5:AY f with
      |inr t=>rfl
      |inl u=>
       have b6:∀{γ:Type} (k:jU.sh.El→Option γ),(jU.S n ⟨f⟩).bind k=k (BH f):=fun k=>by rw[Nu n f (by have:=hs.segments;omega) (R8 h1).2.1 hs.vp hseg];rfl
       simp only[Sum.elim,G.run,b6];cases h6:BH f with
       |inr t=>rfl
       |inl u=>
        have hle:f.aF.length≤64:=by
         have:=(Io h6).1;simp only[decide_eq_false_iff_not]at this;omega
        have b7:∀{γ:Type} (k:lU.sh.El→Option γ),(lU.S n ⟨f⟩).bind k=k (Il f):=fun k=>by rw[TQ n f (by have:=hs.KL;omega) hle (fun s h=>(hseg s h).1) (V5 h5)];rfl
        simp only[Sum.elim,G.run,b7];cases h7:Il f with
        |inr t=>rfl
        |inl u=>
         simp only[Sum.elim,G.run,b8];cases h8:Im f with
         |inr t=>rfl
         |inl u=>rfl
 rw[this];rfl
end Go.L
