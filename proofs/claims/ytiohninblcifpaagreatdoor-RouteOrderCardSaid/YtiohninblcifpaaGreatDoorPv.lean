/- Put together out of parts: TenantChecks: Check answers as the reference does, for any configuration. No conditions. -/
import Derived.Test.YtiohninblcifpaaGreatDoorWb
import Derived.Test.YtiohninblcifpaaGreatDoorAd
import Derived.Test.YtiohninblcifpaaGreatDoorWf
set_option linter.unusedSectionVars false
set_option linter.unusedSimpArgs false
set_option linter.unusedVariables false
set_option maxRecDepth 100000
section
namespace Go.AM
theorem My{α σ τ ST:Type}{f:ST→Option (ST⊕τ)}(mk:Nat→σ→ST)(l:List α)(S:Nat→σ)(fin:τ)
 (hs:∀i x,l[i]? =some x→f (mk i (S i))=some (.inl (mk (i+1) (S (i+1))))) (he:f (mk l.length (S l.length))=some (.inr fin)) (n:Nat) (hn:l.length<n):cG f n (mk 0 (S 0))=some fin:=by
 have key:∀(k i n:Nat),i+k=l.length→k<n→cG f n (mk i (S i))=some fin:=by
  intro k;induction k with
  |zero=>
   intro i n hi hn;obtain⟨n,rfl⟩:∃m,n=m+1:=⟨n - 1,by omega⟩
   have:i=l.length:=by omega
   subst this;simp only[cG,he]
  |succ k ih=>
   intro i n hi hn;obtain⟨n,rfl⟩:∃m,n=m+1:=⟨n - 1,by omega⟩
   simp only[cG,hs i _ (List.getElem?_eq_getElem (show i<l.length by omega))]
   exact ih (i+1) n (by omega) (by omega)
 exact key l.length 0 n (by omega) hn
def bH{α K:Type}[DecidableEq K](key:α→K):List K→List α→List Bool
 |_,[]=>[]
 |seen,x::xs=>decide (key x∈seen)::bH key (seen++[key x]) xs
section
variable {α K:Type} [DecidableEq K] (key:α→K)
theorem EA:∀(l:List α) (seen:List K) (x:α),bH key seen (l++[x])=bH key seen l++[decide (key x∈seen++l.map key)]
 | [],seen,x=>by simp[bH]
 |y::l,seen,x=>by
  simp only[List.cons_append,bH,EA l,List.map_cons,List.append_assoc,List.nil_append]
theorem fT:∀(l:List α) (seen:List K),(bH key seen l).length=l.length
 | [],_=>rfl
 |_::l,seen=>by simp[bH,fT l]
theorem F7:∀(l:List α) (seen:List K) (i:Nat),(bH key seen l)[i]? =(l[i]?).map fun x=>decide (key x∈seen++(l.take i).map key)
 | [],_,_=>by simp[bH]
 |y::l,seen,0=>by simp[bH]
 |y::l,seen,i+1=>by
  simp only[bH,List.getElem?_cons_succ,F7 l,List.take_succ_cons,List.map_cons,List.append_assoc,List.singleton_append]
variable {eq:K→K→Bool}
def Ac(m:List (K×Bool))(ks:List K):Prop:=(∀p∈m,p.2=true)∧∀k,k∈m.map (·.1)↔k∈ks
theorem Ca(heq:∀a b,eq a b=decide (a=b)):∀(m:List (K×Bool)) (k:K) (j i:Nat) (v:Bool),bh eq k m j=some (i,v)→j≤i∧m[i - j]? =some (k,v)
 | [],_,_,_,_,h=>by simp[bh]at h
 |p::ps,k,j,i,v,h=>by
  simp only[bh,heq,decide_eq_true_eq]at h;split at h
  ·rename_i hk;simp only[Option.some.injEq,Prod.mk.injEq]at h;obtain⟨rfl,rfl⟩:=h;exact⟨Nat.le_refl _,by simp[hk]⟩
  ·obtain⟨h1,h2⟩:=Ca heq ps k (j+1) i v h;refine⟨by omega,?_⟩
   rw[show i - j=(i - (j+1))+1 by omega]
   simpa using h2
theorem F8(heq:∀a b,eq a b=decide (a=b)):∀(m:List (K×Bool)) (k:K) (j:Nat),bh eq k m j=none→k∉m.map (·.1)
 | [],_,_,_=>by simp
 |p::ps,k,j,h=>by
  simp only[bh,heq,decide_eq_true_eq]at h;split at h
  ·cases h
  ·rename_i hk;have:=F8 heq ps k (j+1) h;simp only[List.map_cons,List.mem_cons,not_or];exact⟨hk,this⟩
theorem Ac.get(heq:∀a b,eq a b=decide (a=b)){m:List (K×Bool)}{ks:List K}(h:Ac m ks)(k:K):((bh eq k m 0).map (·.2)).getD false=decide (k∈ks):=by
 cases hf:bh eq k m 0 with
 |none=>
  have:=F8 heq m k 0 hf;rw[h.2]at this;simp[this]
 |some q=>
  obtain⟨i,v⟩:=q;obtain⟨_,h2⟩:=Ca heq m k 0 i v hf;have hm:=List.mem_of_getElem? h2;have hv:=h.1 _ hm;have:k∈ks:=(h.2 k).1 (List.mem_map.2 ⟨_,hm,rfl⟩);simp only at hv;simp[this,hv]
theorem Ac.put(heq:∀a b,eq a b=decide (a=b)){m:List (K×Bool)}{ks:List K}(h:Ac m ks)(k:K):Ac (bL eq k true m) (ks++[k]):=by
 unfold bL;split
 ·rename_i i v hf;obtain⟨_,h2⟩:=Ca heq m k 0 i v hf;rw[Nat.sub_zero]at h2;refine⟨fun p hp=>?_,fun q=>?_⟩
  ·rcases List.mem_or_eq_of_mem_set hp with hp |rfl
   ·exact h.1 p hp
   ·rfl
  ·have hs:(m.set i (k,true)).map (·.1)=m.map (·.1):=by
    rw[List.map_set];apply List.ext_getElem?;intro j;by_cases hj:i=j
    ·subst hj;have hlt:=(List.getElem?_eq_some_iff.1 h2).1;rw[List.getElem?_set_self (by simpa using hlt),List.getElem?_map,h2];rfl
    ·rw[List.getElem?_set_ne hj]
   rw[hs,h.2];have hk:k∈ks:=(h.2 k).1 (List.mem_map.2 ⟨_,List.mem_of_getElem? h2,rfl⟩);simp only[List.mem_append,List.mem_singleton];constructor
   ·exact .inl
   ·rintro(h |rfl)
    ·exact h
    ·exact hk
 ·refine⟨fun p hp=>?_,fun q=>?_⟩
  ·rcases List.mem_append.1 hp with hp |hp
   ·exact h.1 p hp
   ·simp at hp;subst hp;rfl
  ·simp only[List.map_append,List.map_cons,List.map_nil,List.mem_append,h.2 q]
theorem Ih(heq:∀a b,eq a b=decide (a=b))(l:List α){f:(Int×List (K×Bool)×List Bool)→Option ((Int×List (K×Bool)×List Bool)⊕(List (K×Bool)×List Bool))}
 (hs:∀(i:Nat) x m t,l[i]? =some x→i<t.length→f ((i:Int),m,t)=some (.inl (((i+1:Nat):Int),bL eq (key x) true m,t.set i (((bh eq (key x) m 0).map (·.2)).getD false))))
 (he:∀m t,f ((l.length:Int),m,t)=some (.inr (m,t))) (n:Nat) (hn:l.length<n):∃m,cG f n (0,[],List.replicate l.length false)=some (m,bH key [] l):=by
 refine⟨l.foldl (fun m x=>bL eq (key x) true m) [],?_⟩
 have hM:∀i,Ac ((l.take i).foldl (fun m x=>bL eq (key x) true m) []) ((l.take i).map key):=by
  have:∀(l:List α) (m:List (K×Bool)) (ks:List K),Ac m ks→Ac (l.foldl (fun m x=>bL eq (key x) true m) m) (ks++l.map key):=by
   intro l;induction l with
   |nil=>intro m ks h;simpa using h
   |cons x xs ih=>
    intro m ks h;have:=ih _ _ (h.put heq (key x));simpa using this
  intro i;simpa using this (l.take i) [] [] ⟨by simp,by simp⟩
 have:=My (f:=f) (fun i (s:List (K×Bool)×List Bool)=>((i:Int),s.1,s.2)) l
  (fun i=>((l.take i).foldl (fun m x=>bL eq (key x) true m) [],bH key [] (l.take i)++List.replicate (l.length - i) false))
  (l.foldl (fun m x=>bL eq (key x) true m) [],bH key [] l) (fun i x hx=>?_) ?_ n hn
 ·simpa[bH]using this
 ·have hlt:=(List.getElem?_eq_some_iff.1 hx).1;have htake:l.take (i+1)=l.take i++[x]:=by
   rw[List.take_add_one,hx];rfl
  have hfl:(bH key [] (l.take i)).length=i:=by rw[fT];simp;omega
  simp only
  rw[hs i x _ _ hx (by simp[hfl];omega),(hM i).get heq]
  congr 2;refine Prod.ext rfl (Prod.ext ?_ ?_)
  ·simp only[htake,List.foldl_append,List.foldl_cons,List.foldl_nil]
  ·simp only[htake,EA,List.nil_append];rw[List.set_append_right _ _ (by omega),hfl,Nat.sub_self,show l.length - i=(l.length - (i+1))+1 by omega,List.replicate_succ,List.set_cons_zero]
   simp
 ·simp only[List.take_length,Nat.sub_self,List.replicate_zero,List.append_nil];exact he _ _
end
section
variable {α K:Type} [DecidableEq K]
theorem l9(key:α→K){eq:K→K→Bool}(heq:∀a b,eq a b=decide (a=b))(l:List α){f:(Int×List (K×Bool)×List Bool)→Option ((Int×List (K×Bool)×List Bool)⊕(List (K×Bool)×List Bool))}{γ:Type}{k:List (K×Bool)×List Bool→Option γ}{r:Option γ}{n:Nat}(hn:l.length<n)
 (hs:∀(i:Nat) x m t,l[i]? =some x→i<t.length→f ((i:Int),m,t)=some (.inl (((i+1:Nat):Int),bL eq (key x) true m,t.set i (((bh eq (key x) m 0).map (·.2)).getD false))))
 (he:∀m t,f ((l.length:Int),m,t)=some (.inr (m,t))) (hk:∀m,k (m,bH key [] l)=r):(cG f n (0,[],List.replicate l.length false)).bind k=r:=by
 obtain⟨m,hm⟩:=Ih key heq l hs he n hn;rw[hm];exact hk m
end
def bZ{α:Type}(E:Nat→α→Int):Nat→List α→Option (Int×Nat)
 |_,[]=>none
 |i,x::xs=>if E i x≠0 then some (E i x,i)else bZ E (i+1) xs
theorem KG{α τ:Type}{f:Int→Option (Int⊕τ)}(l:List α)(E:Nat→α→Int)(bad:Nat→Int→τ)(fin:τ)
 (hs:∀(i:Nat) x,l[i]? =some x→f (i:Int)=some (if E i x≠0 then .inr (bad i (E i x))else .inl ((i+1:Nat):Int))) (he:f (l.length:Int)=some (.inr fin)) (n:Nat) (hn:l.length<n):
 cG f n 0=some (match bZ E 0 l with |none=>fin |some (e,i)=>bad i e):=by
 have:=Mb (f:=f) (fun i (_:Unit)=>(i:Int)) (fun i x (_:Unit)=>if E i x≠0 then Sum.inr (bad i (E i x))else Sum.inl ()) (fun _=>fin) l
  (fun i x s hx=>by rw[hs i x hx];split<;>rfl) (fun _=>he) n () hn
 have key:∀(l:List α) (i:Nat),(match scan (fun i x (_:Unit)=>if E i x≠0 then Sum.inr (bad i (E i x))else Sum.inl ()) i l ()with | .inl _=>fin | .inr t=>t)=(match bZ E i l with |none=>fin |some (e,i)=>bad i e):=by
  intro l;induction l with
  |nil=>intro i;rfl
  |cons x xs ih=>
   intro i;simp only[scan,bZ];by_cases h:E i x≠0
   ·simp only[if_pos h]
   ·simp only[if_neg h];exact ih (i+1)
 rw[← key l 0];simp only[Int.natCast_zero]at this;rw[this];cases scan (fun i x (_:Unit)=>if E i x≠0 then Sum.inr (bad i (E i x))else Sum.inl ()) 0 l ()<;>rfl
theorem s9{α τ γ:Type}{f:Int→Option (Int⊕τ)}(l:List α)(E:Nat→α→Int)(bad:Nat→Int→τ)(fin:τ){k:τ→Option γ}{r:Option γ}{n:Nat}(hn:l.length<n)
 (hs:∀(i:Nat) x,l[i]? =some x→f (i:Int)=some (if E i x≠0 then .inr (bad i (E i x))else .inl ((i+1:Nat):Int))) (he:f (l.length:Int)=some (.inr fin))
 (hk:(match bZ E 0 l with |none=>k fin |some (e,i)=>k (bad i e))=r):(cG f n 0).bind k=r:=by
 rw[KG l E bad fin hs he n hn,← hk];cases bZ E 0 l with
 |none=>rfl
 |some p=>rfl
theorem AE{α τ γ ST:Type}{f:ST→Option (ST⊕τ)}(mk:Nat→ST)(l:List α)(E:Nat→α→Int){k:τ→Option γ}(bad:Nat→Int→Option γ)(fin:Option γ){n:Nat}(hn:l.length<n)
 (hb:∀(i:Nat) x,l[i]? =some x→(∀(j:Nat) y,j<i→l[j]? =some y→E j y=0)→E i x≠0→∃t,f (mk i)=some (.inr t)∧k t=bad i (E i x))
 (hg:∀(i:Nat) x,l[i]? =some x→(∀(j:Nat) y,j<i→l[j]? =some y→E j y=0)→E i x=0→f (mk i)=some (.inl (mk (i+1))))
 (he:(∀(j:Nat) y,l[j]? =some y→E j y=0)→∃t,f (mk l.length)=some (.inr t)∧k t=fin):
 (cG f n (mk 0)).bind k=(match bZ E 0 l with |none=>fin |some (e,i)=>bad i e):=by
 have key:∀(m i n:Nat),i+m=l.length→m<n→(∀(j:Nat) y,j<i→l[j]? =some y→E j y=0)→(cG f n (mk i)).bind k=(match bZ E i (l.drop i)with |none=>fin |some (e,i)=>bad i e):=by
  intro m;induction m with
  |zero=>
   intro i n hi hn hp;obtain⟨n,rfl⟩:∃m,n=m+1:=⟨n - 1,by omega⟩
   have:i=l.length:=by omega
   subst this;obtain⟨t,h1,h2⟩:=he fun j y hj=>hp j y (List.getElem?_eq_some_iff.1 hj).1 hj
   simp only[cG,h1,Option.bind_some,h2,List.drop_length,bZ]
  |succ m ih=>
   intro i n hi hn hp;obtain⟨n,rfl⟩:∃m,n=m+1:=⟨n - 1,by omega⟩
   have hlt:i<l.length:=by omega
   have hx:=List.getElem?_eq_getElem hlt;rw[List.drop_eq_getElem_cons hlt];simp only[bZ];by_cases hE:E i l[i]=0
   ·rw[if_neg (by simpa using hE)]
    simp only[cG,hg i _ hx hp hE];refine ih (i+1) n (by omega) (by omega) fun j y hj hy=>?_
    by_cases hji:j=i
    ·subst hji;rw[hx]at hy;cases hy;exact hE
    ·exact hp j y (by omega) hy
   ·rw[if_pos hE];obtain⟨t,h1,h2⟩:=hb i _ hx hp hE;simp only[cG,h1,Option.bind_some,h2]
 have:=key l.length 0 n (by omega) hn fun j y hj=>absurd hj (by omega)
 simpa using this
theorem uv{α:Type}{E:Nat→α→Int}:∀(l:List α) (i:Nat),bZ E i l=none↔∀(j:Nat) x,l[j]? =some x→E (i+j) x=0
 | [],i=>by simp[bZ]
 |x::xs,i=>by
  simp only[bZ];constructor
  ·intro h;split at h
   ·cases h
   ·rename_i h0;have ih:=(uv xs (i+1)).1 h;intro j y hj;cases j with
    |zero=>simp at hj;subst hj;simpa using h0
    |succ j=>have:=ih j y (by simpa using hj);rw[show i+(j+1)=i+1+j by omega];exact this
  ·intro h;have h0:=h 0 x rfl;simp only[Nat.add_zero]at h0;rw[if_neg (by simpa using h0)]
   exact(uv xs (i+1)).2 fun j y hj=>by
    have:=h (j+1) y (by simpa using hj)
    rw[show i+1+j=i+(j+1)by omega];exact this
theorem Dg{α:Type}(p:α→Bool):∀(l:List α) (j:Nat),bZ (fun _ x=>if p x=true then 1 else 0) j l=(l.findIdx? p).map fun i=>(1,i+j)
 | [],_=>rfl
 |x::xs,j=>by
  simp only[bZ,List.findIdx?_cons];cases h:p x with
  |true=>simp
  |false=>
   simp only[Bool.false_eq_true,if_false,ne_eq,not_true_eq_false,Dg p xs (j+1),Option.map_map];congr 1;funext i;simp[Nat.add_assoc,Nat.add_comm 1]
theorem ta{α γ:Type}(l:List α)(p:α→Bool){f:Int→Option (Int⊕(Int⊕Unit))}{k:Int⊕Unit→Option γ}{r:Option γ}{n:Nat}(hn:l.length<n)
 (hs:∀(i:Nat) x,l[i]? =some x→f (i:Int)=some (if p x=true then .inr (.inl (i:Int))else .inl ((i+1:Nat):Int))) (he:f (l.length:Int)=some (.inr (.inr ())))
 (hk:k (match l.findIdx? p with |some i=>.inl (i:Int) |none=>.inr ())=r):(cG f n 0).bind k=r:=by
 refine s9 l (fun _ x=>if p x=true then 1 else 0) (fun i _=>.inl (i:Int)) (.inr ()) hn (fun i x hx=>?_) he ?_
 ·rw[hs i x hx];cases p x<;>simp
 ·rw[Dg,← hk];cases l.findIdx? p with
  |none=>rfl
  |some i=>rfl
def idxOf{α:Type}(p:α→Bool)(l:List α):Int:=match l.findIdx? p with
 |some i=>(i:Int)
 |none=> -1
theorem uS{α:Type}(p:α→Bool)(l:List α):decide (idxOf p l≥0)=l.any p:=by
 unfold idxOf;cases h:l.findIdx? p with
 |none=>
  rw[List.findIdx?_eq_none_iff]at h;have:l.any p=false:=by rw[List.any_eq_false];intro x hx;simp[h x hx]
  rw[this];rfl
 |some i=>
  have:l.any p=true:=by
   have h2:=List.findIdx?_eq_some_iff_getElem.1 h;obtain⟨hlt,hp,_⟩:=h2;exact List.any_eq_true.2 ⟨_,List.getElem_mem hlt,hp⟩
  rw[this];simp
theorem gb{X β:Type}(l:List X)(enc:X→List AVal)(n b ak i o:Nat)(y:X→X)(k:X→Option β):(ig l enc n b ak i o y).run.bind k=(l[i]?).bind k:=rfl
end Go.AM
namespace Go.L
open Go.AM
section leaves
variable {β:Type} (n:Nat)
theorem iU(x lo hi:Int)(k:cN.sh.El→Option β):(cN.S n (x,lo,hi)).bind k=k (decide (x<lo)||decide (hi<x)):=by
 have:cN.S n (x,lo,hi)=some (decide (x<lo)||decide (hi<x)):=by
  show(uA x lo hi).run n=_;simp only[uA,G.run,aZ];by_cases h:x<lo<;>simp[h]<;>rfl
 rw[this];rfl
theorem fG(b:Bool)(e:Int)(p:ByteArray)(i:Int)(k:az.sh.El→Option β):(az.S n (b,e,p,i)).bind k=if b=true then k (.inr (e,p,i))else k (.inl ()):=by
 have:az.S n (b,e,p,i)=some (if b=true then Sum.inr (e,p,i)else Sum.inl ()):=by
  show(xU b e p i).run n=_;simp only[xU,G.run,aZ];cases b<;>simp<;>rfl
 rw[this];cases b<;>rfl
theorem kM(x m:Int)(k:fO.sh.El→Option β):(fO.S n (x,m)).bind k=k (decide (0≤x)&&decide (x<m)):=by
 have:fO.S n (x,m)=some (decide (0≤x)&&decide (x<m)):=by
  show(oA x m).run n=_;simp only[oA,G.run,aZ];by_cases h:0≤x<;>simp[h]<;>rfl
 rw[this];rfl
end leaves
instance :DecidableEq (V2 Int):=fun a b=>decidable_of_iff (a.a0=b.a0∧a.a1=b.a1) ⟨fun h=>by cases a;cases b;simp_all,fun h=>by simp[h]⟩
instance :DecidableEq ah:=fun a b=>decidable_of_iff (a.IP=b.IP∧a.Len=b.Len) ⟨fun h=>by cases a;cases b;simp_all,fun h=>by simp[h]⟩
instance :DecidableEq aN:=fun a b=>decidable_of_iff (a.bd=b.bd∧a.addr=b.addr) ⟨fun h=>by cases a;cases b;simp_all,fun h=>by simp[h]⟩
instance :DecidableEq bP:=fun a b=>decidable_of_iff (a.From=b.From∧a.To=b.To∧a.ah=b.ah) ⟨fun h=>by cases a;cases b;simp_all,fun h=>by simp[h]⟩
theorem KH{β:Type}(n:Nat)(x:au)(k:oB.sh.El→Option β):(oB.S n x).bind k=k (x.dM):=rfl
theorem Bf{β:Type}(n:Nat)(l:List au)(hn:l.length<n)(hs:l.length≤4000)(k:iq.sh.El→Option β):
 (iq.S n l).bind k=k (bH (fun x:au=>x.dM) [] l):=by
 have:iq.S n l=some (bH (fun x:au=>x.dM) [] l):=by
  show(ku l).run n=_;have hroom:roomy (Int.toNat (l.length:Int)) 1=true:=by simp[roomy];omega
  simp only[ku,G.run,aZ,cg,qf,dH,ox,oy,er,gb,KH,if_true,Int.toNat_natCast];rw[if_pos ⟨by omega,by simpa using hroom⟩]
  refine l9 (fun x:au=>x.dM) (eq:=fun a b=>(a==b&&true)) (fun a b=>?_) l hn (fun i x m t hx ht=>?_) (fun m t=>?_) (fun m=>?_)
  ·rw[Bool.eq_iff_iff];simp
  ·have hi:=(List.getElem?_eq_some_iff.1 hx).1;have h1:(0:Int)≤i∧(i:Int)<((List.replicate l.length false).length:Nat):=by simp;omega
   obtain⟨y,hy⟩:∃y,t[i]? =some y:=⟨_,List.getElem?_eq_getElem ht⟩;simp only[cK,hx,Option.bind_some,Int.toNat_natCast,hy,h1,and_self,if_true,fk (show i<9223372036854775807 by omega)]
   simp[hi];rfl
  ·simp;rfl
  ·simp[eR,fT];rfl
 rw[this];rfl
theorem GS{β:Type}(n:Nat)(x:au)(k:mj.sh.El→Option β):(mj.S n x).bind k=k (x.Target):=rfl
theorem zO{β:Type}(n:Nat)(l:List au)(hn:l.length<n)(hs:l.length≤4000)(k:gP.sh.El→Option β):
 (gP.S n l).bind k=k (bH (fun x:au=>x.Target) [] l):=by
 have:gP.S n l=some (bH (fun x:au=>x.Target) [] l):=by
  show(jN l).run n=_;have hroom:roomy (Int.toNat (l.length:Int)) 1=true:=by simp[roomy];omega
  simp only[jN,G.run,aZ,cg,qf,dH,ox,oy,er,gb,GS,if_true,Int.toNat_natCast];rw[if_pos ⟨by omega,by simpa using hroom⟩]
  refine l9 (fun x:au=>x.Target) (eq:=fun a b=>(a==b&&true)) (fun a b=>?_) l hn (fun i x m t hx ht=>?_) (fun m t=>?_) (fun m=>?_)
  ·rw[Bool.eq_iff_iff];simp
  ·have hi:=(List.getElem?_eq_some_iff.1 hx).1;have h1:(0:Int)≤i∧(i:Int)<((List.replicate l.length false).length:Nat):=by simp;omega
   obtain⟨y,hy⟩:∃y,t[i]? =some y:=⟨_,List.getElem?_eq_getElem ht⟩;simp only[cK,hx,Option.bind_some,Int.toNat_natCast,hy,h1,and_self,if_true,fk (show i<9223372036854775807 by omega)]
   simp[hi];rfl
  ·simp;rfl
  ·simp[eR,fT];rfl
 rw[this];rfl
theorem KI{β:Type}(n:Nat)(x:BD)(k:rS.sh.El→Option β):(rS.S n x).bind k=k (x.dM):=rfl
theorem D3{β:Type}(n:Nat)(l:List BD)(hn:l.length<n)(hs:l.length≤4000)(k:jD.sh.El→Option β):
 (jD.S n l).bind k=k (bH (fun x:BD=>x.dM) [] l):=by
 have:jD.S n l=some (bH (fun x:BD=>x.dM) [] l):=by
  show(mE l).run n=_;have hroom:roomy (Int.toNat (l.length:Int)) 1=true:=by simp[roomy];omega
  simp only[mE,G.run,aZ,cg,qf,dH,ox,oy,er,gb,KI,if_true,Int.toNat_natCast];rw[if_pos ⟨by omega,by simpa using hroom⟩]
  refine l9 (fun x:BD=>x.dM) (eq:=fun a b=>(a==b&&true)) (fun a b=>?_) l hn (fun i x m t hx ht=>?_) (fun m t=>?_) (fun m=>?_)
  ·rw[Bool.eq_iff_iff];simp
  ·have hi:=(List.getElem?_eq_some_iff.1 hx).1;have h1:(0:Int)≤i∧(i:Int)<((List.replicate l.length false).length:Nat):=by simp;omega
   obtain⟨y,hy⟩:∃y,t[i]? =some y:=⟨_,List.getElem?_eq_getElem ht⟩;simp only[cK,hx,Option.bind_some,Int.toNat_natCast,hy,h1,and_self,if_true,fk (show i<9223372036854775807 by omega)]
   simp[hi];rfl
  ·simp;rfl
  ·simp[eR,fT];rfl
 rw[this];rfl
theorem GU{β:Type}(n:Nat)(x:BD)(k:pS.sh.El→Option β):(pS.S n x).bind k=k (x.Target):=rfl
theorem Cq{β:Type}(n:Nat)(l:List BD)(hn:l.length<n)(hs:l.length≤4000)(k:iO.sh.El→Option β):
 (iO.S n l).bind k=k (bH (fun x:BD=>x.Target) [] l):=by
 have:iO.S n l=some (bH (fun x:BD=>x.Target) [] l):=by
  show(k8 l).run n=_;have hroom:roomy (Int.toNat (l.length:Int)) 1=true:=by simp[roomy];omega
  simp only[k8,G.run,aZ,cg,qf,dH,ox,oy,er,gb,GU,if_true,Int.toNat_natCast];rw[if_pos ⟨by omega,by simpa using hroom⟩]
  refine l9 (fun x:BD=>x.Target) (eq:=fun a b=>(a==b&&true)) (fun a b=>?_) l hn (fun i x m t hx ht=>?_) (fun m t=>?_) (fun m=>?_)
  ·rw[Bool.eq_iff_iff];simp
  ·have hi:=(List.getElem?_eq_some_iff.1 hx).1;have h1:(0:Int)≤i∧(i:Int)<((List.replicate l.length false).length:Nat):=by simp;omega
   obtain⟨y,hy⟩:∃y,t[i]? =some y:=⟨_,List.getElem?_eq_getElem ht⟩;simp only[cK,hx,Option.bind_some,Int.toNat_natCast,hy,h1,and_self,if_true,fk (show i<9223372036854775807 by omega)]
   simp[hi];rfl
  ·simp;rfl
  ·simp[eR,fT];rfl
 rw[this];rfl
theorem Pz{β:Type}(n:Nat)(x:Host)(k:nQ.sh.El→Option β):(nQ.S n x).bind k=k ((⟨x.BD,x.bO⟩:aN)):=rfl
theorem yC{β:Type}(n:Nat)(l:List Host)(hn:l.length<n)(hs:l.length≤4000)(k:gE.sh.El→Option β):
 (gE.S n l).bind k=k (bH (fun x:Host=>(⟨x.BD,x.bO⟩:aN)) [] l):=by
 have:gE.S n l=some (bH (fun x:Host=>(⟨x.BD,x.bO⟩:aN)) [] l):=by
  show(iY l).run n=_;have hroom:roomy (Int.toNat (l.length:Int)) 1=true:=by simp[roomy];omega
  simp only[iY,G.run,aZ,cg,qf,dH,ox,oy,er,gb,Pz,if_true,Int.toNat_natCast];rw[if_pos ⟨by omega,by simpa using hroom⟩]
  refine l9 (fun x:Host=>(⟨x.BD,x.bO⟩:aN)) (eq:=fun a b=>(a.bd==b.bd&&(a.addr==b.addr&&true))) (fun a b=>?_) l hn (fun i x m t hx ht=>?_) (fun m t=>?_) (fun m=>?_)
  ·rw[Bool.eq_iff_iff];cases a;cases b;simp
  ·have hi:=(List.getElem?_eq_some_iff.1 hx).1;have h1:(0:Int)≤i∧(i:Int)<((List.replicate l.length false).length:Nat):=by simp;omega
   obtain⟨y,hy⟩:∃y,t[i]? =some y:=⟨_,List.getElem?_eq_getElem ht⟩;simp only[cK,hx,Option.bind_some,Int.toNat_natCast,hy,h1,and_self,if_true,fk (show i<9223372036854775807 by omega)]
   simp[hi];rfl
  ·simp;rfl
  ·simp[eR,fT];rfl
 rw[this];rfl
theorem PA{β:Type}(n:Nat)(x:Host)(k:nR.sh.El→Option β):(nR.S n x).bind k=k ((⟨x.BD,(Go.IntKind.wrap .u64 x.IP)⟩:aN)):=rfl
theorem xJ{β:Type}(n:Nat)(l:List Host)(hn:l.length<n)(hs:l.length≤4000)(k:gp.sh.El→Option β):
 (gp.S n l).bind k=k (bH (fun x:Host=>(⟨x.BD,(Go.IntKind.wrap .u64 x.IP)⟩:aN)) [] l):=by
 have:gp.S n l=some (bH (fun x:Host=>(⟨x.BD,(Go.IntKind.wrap .u64 x.IP)⟩:aN)) [] l):=by
  show(iH l).run n=_;have hroom:roomy (Int.toNat (l.length:Int)) 1=true:=by simp[roomy];omega
  simp only[iH,G.run,aZ,cg,qf,dH,ox,oy,er,gb,PA,if_true,Int.toNat_natCast];rw[if_pos ⟨by omega,by simpa using hroom⟩]
  refine l9 (fun x:Host=>(⟨x.BD,(Go.IntKind.wrap .u64 x.IP)⟩:aN)) (eq:=fun a b=>(a.bd==b.bd&&(a.addr==b.addr&&true))) (fun a b=>?_) l hn (fun i x m t hx ht=>?_) (fun m t=>?_) (fun m=>?_)
  ·rw[Bool.eq_iff_iff];cases a;cases b;simp
  ·have hi:=(List.getElem?_eq_some_iff.1 hx).1;have h1:(0:Int)≤i∧(i:Int)<((List.replicate l.length false).length:Nat):=by simp;omega
   obtain⟨y,hy⟩:∃y,t[i]? =some y:=⟨_,List.getElem?_eq_getElem ht⟩;simp only[cK,hx,Option.bind_some,Int.toNat_natCast,hy,h1,and_self,if_true,fk (show i<9223372036854775807 by omega)]
   simp[hi];rfl
  ·simp;rfl
  ·simp[eR,fT];rfl
 rw[this];rfl
theorem PB{β:Type}(n:Nat)(x:bP)(k:nS.sh.El→Option β):(nS.S n x).bind k=k (x):=rfl
theorem D4{β:Type}(n:Nat)(l:List bP)(hn:l.length<n)(hs:l.length≤4000)(k:jH.sh.El→Option β):
 (jH.S n l).bind k=k (bH (fun x:bP=>x) [] l):=by
 have:jH.S n l=some (bH (fun x:bP=>x) [] l):=by
  show(mI l).run n=_;have hroom:roomy (Int.toNat (l.length:Int)) 1=true:=by simp[roomy];omega
  simp only[mI,G.run,aZ,cg,qf,dH,ox,oy,er,gb,PB,if_true,Int.toNat_natCast];rw[if_pos ⟨by omega,by simpa using hroom⟩]
  refine l9 (fun x:bP=>x) (eq:=fun a b=>(a.From==b.From&&(a.To==b.To&&(a.ah.IP==b.ah.IP&&(a.ah.Len==b.ah.Len&&true))))) (fun a b=>?_) l hn (fun i x m t hx ht=>?_) (fun m t=>?_) (fun m=>?_)
  ·rw[Bool.eq_iff_iff];rcases a with⟨_,_,⟨_,_⟩⟩;rcases b with⟨_,_,⟨_,_⟩⟩;simp
  ·have hi:=(List.getElem?_eq_some_iff.1 hx).1;have h1:(0:Int)≤i∧(i:Int)<((List.replicate l.length false).length:Nat):=by simp;omega
   obtain⟨y,hy⟩:∃y,t[i]? =some y:=⟨_,List.getElem?_eq_getElem ht⟩;simp only[cK,hx,Option.bind_some,Int.toNat_natCast,hy,h1,and_self,if_true,fk (show i<9223372036854775807 by omega)]
   simp[hi];rfl
  ·simp;rfl
  ·simp[eR,fT];rfl
 rw[this];rfl
theorem PC{β:Type}(n:Nat)(x:cV)(k:nM.sh.El→Option β):(nM.S n x).bind k=k ((⟨x.A,x.B⟩:V2 Int)):=rfl
theorem Dh{β:Type}(n:Nat)(l:List cV)(hn:l.length<n)(hs:l.length≤4000)(k:jf.sh.El→Option β):
 (jf.S n l).bind k=k (bH (fun x:cV=>(⟨x.A,x.B⟩:V2 Int)) [] l):=by
 have:jf.S n l=some (bH (fun x:cV=>(⟨x.A,x.B⟩:V2 Int)) [] l):=by
  show(lT l).run n=_;have hroom:roomy (Int.toNat (l.length:Int)) 1=true:=by simp[roomy];omega
  simp only[lT,G.run,aZ,cg,qf,dH,ox,oy,er,gb,PC,if_true,Int.toNat_natCast];rw[if_pos ⟨by omega,by simpa using hroom⟩]
  refine l9 (fun x:cV=>(⟨x.A,x.B⟩:V2 Int)) (eq:=fun a b=>(a.a0==b.a0&&(a.a1==b.a1&&true))) (fun a b=>?_) l hn (fun i x m t hx ht=>?_) (fun m t=>?_) (fun m=>?_)
  ·rw[Bool.eq_iff_iff];cases a;cases b;simp
  ·have hi:=(List.getElem?_eq_some_iff.1 hx).1;have h1:(0:Int)≤i∧(i:Int)<((List.replicate l.length false).length:Nat):=by simp;omega
   obtain⟨y,hy⟩:∃y,t[i]? =some y:=⟨_,List.getElem?_eq_getElem ht⟩;simp only[cK,hx,Option.bind_some,Int.toNat_natCast,hy,h1,and_self,if_true,fk (show i<9223372036854775807 by omega)]
   simp[hi];rfl
  ·simp;rfl
  ·simp[eR,fT];rfl
 rw[this];rfl
end Go.L
namespace Go.L
open Go.AM
def outcome(part:ByteArray)(most:Int)(full:Bool)(r:Option (Int×Nat)):Unit⊕(Int×ByteArray×Int):=
 if full=true then .inr (7,part,most)else match r with
 |none=>.inl ()
 |some (e,i)=>.inr (e,part,(i:Int))
def JQ:ByteArray:=⟨⟨[108,105,110,107,115]⟩⟩
def DV(f:aG)(fl:List Bool)(i:Nat)(x:cV):Int:=
 if(decide (0≤x.A)&&decide (x.A<f.Leaves))=true then
  if decide (x.B≥f.Leaves)=true then
   if(!decide (x.B<Go.IntKind.wrap .i64 (f.Leaves+f.ij)))=true then 2
   else if(decide (x.CV<1)||decide (1000<x.CV))=true then 2
   else if fl.getD i false=true then 11 else 0
  else 2
 else 2
theorem PD(n:Nat)(f:aG)(hn:f.Links.length<n)(hs:f.Links.length≤128∨128<f.Links.length):
 lI.S n ⟨f⟩=some (outcome JQ 128 (decide (128<(f.Links.length:Int))) (bZ (DV f (bH (fun x:cV=>(⟨x.A,x.B⟩:V2 Int)) [] f.Links)) 0 f.Links)):=by
 show(oR ⟨f⟩).run n=_;simp only[oR,G.run,aZ,cg,fG,Sum.elim,gt_iff_lt,decide_eq_true_eq];by_cases hfull:(128:Int)<f.Links.length
 ·simp[hfull,outcome];rfl
 ·simp only[hfull,if_false,decide_false];rw[Dh n f.Links hn (by omega)]
  simp only[G.run,aZ,cg,if_true,dH,kM,iU,fG,Sum.elim];refine s9 f.Links (DV f (bH (fun x:cV=>(⟨x.A,x.B⟩:V2 Int)) [] f.Links)) (fun i e=>Sum.inl (e,JQ,(i:Int))) (Sum.inr ()) hn (fun i x hx=>?_) ?_ ?_
  ·have hi:=(List.getElem?_eq_some_iff.1 hx).1;obtain⟨y,hy⟩:∃y,(bH (fun x:cV=>(⟨x.A,x.B⟩:V2 Int)) [] f.Links)[i]? =some y:=⟨_,List.getElem?_eq_getElem (by rw[fT];exact hi)⟩
   have hlt:(i:Int)<f.Links.length:=by omega
   simp only[cK,hx,Option.bind_some,hlt,decide_true,if_true,hy,DV,List.getD_eq_getElem?_getD,Option.getD_some,fk (show i<9223372036854775807 by omega)]
   repeat' split
   all_goals first |rfl | (simp_all<;>omega)
  ·simp;rfl
  ·cases bZ (DV f (bH (fun x:cV=>(⟨x.A,x.B⟩:V2 Int)) [] f.Links)) 0 f.Links with
   |none=>rfl
   |some p=>rfl
end Go.L
namespace Go.L
open Go.AM
theorem PE{β:Type}(n:Nat)(x:au)(v:Int)(k:k9.sh.El→Option β):(k9.S n (x,v)).bind k=k (x.dM==v):=rfl
theorem KJ{β:Type}(n:Nat)(x:au)(v:Int)(k:kB.sh.El→Option β):(kB.S n (x,v)).bind k=k (x.Target==v):=rfl
theorem JR{β:Type}(n:Nat)(l:List au)(v:Int)(hn:l.length<n)(hs:l.length≤4000)(k:gQ.sh.El→Option β):
 (gQ.S n (l,v)).bind k=k (idxOf (fun x:au=>x.dM==v) l):=by
 have:gQ.S n (l,v)=some (idxOf (fun x:au=>x.dM==v) l):=by
  show(jO l v).run n=_;simp only[jO,G.run,aZ,cg,dH,PE,if_true];refine ta l (fun x:au=>x.dM==v) hn (fun i x hx=>?_) ?_ ?_
  ·have hi:=(List.getElem?_eq_some_iff.1 hx).1;have hlt:(i:Int)<l.length:=by omega
   simp only[cK,hx,Option.bind_some,hlt,decide_true,if_true,fk (show i<9223372036854775807 by omega)]
   split<;>rfl
  ·simp;rfl
  ·unfold idxOf;cases l.findIdx? (fun x:au=>x.dM==v)<;>rfl
 rw[this];rfl
theorem F9{β:Type}(n:Nat)(l:List au)(v:Int)(hn:l.length<n)(hs:l.length≤4000)(k:gx.sh.El→Option β):
 (gx.S n (l,v)).bind k=k (l.any (fun x:au=>x.dM==v)):=by
 have:gx.S n (l,v)=some (l.any (fun x:au=>x.dM==v)):=by
  show(iP l v).run n=_;simp only[iP,G.run,aZ,if_true];rw[JR n l v hn hs];simp only[uS];rfl
 rw[this];rfl
theorem Mz{β:Type}(n:Nat)(l:List au)(v:Int)(hn:l.length<n)(hs:l.length≤4000)(k:jE.sh.El→Option β):(jE.S n (l,v)).bind k=k (l.any (fun x:au=>x.dM==v)):=by
 have:jE.S n (l,v)=some (l.any (fun x:au=>x.dM==v)):=by
  show(mF l v).run n=_;simp only[mF,G.run,aZ,if_true];rw[F9 n l v hn hs];rfl
 rw[this];rfl
theorem Ga{β:Type}(n:Nat)(l:List au)(v:Int)(hn:l.length<n)(hs:l.length≤4000)(k:gD.sh.El→Option β):
 (gD.S n (l,v)).bind k=k (idxOf (fun x:au=>x.Target==v) l):=by
 have:gD.S n (l,v)=some (idxOf (fun x:au=>x.Target==v) l):=by
  show(iX l v).run n=_;simp only[iX,G.run,aZ,cg,dH,KJ,if_true];refine ta l (fun x:au=>x.Target==v) hn (fun i x hx=>?_) ?_ ?_
  ·have hi:=(List.getElem?_eq_some_iff.1 hx).1;have hlt:(i:Int)<l.length:=by omega
   simp only[cK,hx,Option.bind_some,hlt,decide_true,if_true,fk (show i<9223372036854775807 by omega)]
   split<;>rfl
  ·simp;rfl
  ·unfold idxOf;cases l.findIdx? (fun x:au=>x.Target==v)<;>rfl
 rw[this];rfl
theorem Di{β:Type}(n:Nat)(l:List au)(v:Int)(hn:l.length<n)(hs:l.length≤4000)(k:fZ.sh.El→Option β):
 (fZ.S n (l,v)).bind k=k (l.any (fun x:au=>x.Target==v)):=by
 have:fZ.S n (l,v)=some (l.any (fun x:au=>x.Target==v)):=by
  show(iA l v).run n=_;simp only[iA,G.run,aZ,if_true];rw[Ga n l v hn hs];simp only[uS];rfl
 rw[this];rfl
theorem Ii{β:Type}(n:Nat)(l:List au)(v:Int)(hn:l.length<n)(hs:l.length≤4000)(k:iQ.sh.El→Option β):(iQ.S n (l,v)).bind k=k (l.any (fun x:au=>x.Target==v)):=by
 have:iQ.S n (l,v)=some (l.any (fun x:au=>x.Target==v)):=by
  show(lg l v).run n=_;simp only[lg,G.run,aZ,if_true];rw[Di n l v hn hs];rfl
 rw[this];rfl
theorem PF{β:Type}(n:Nat)(x:Int)(x2:Int)(x3:Int)(x4:List cV)(x5:List au)(x6:List BD)(x7:List bq)(x8:List Host)(x9:List bP)(x10:Int)(x11:Int)(x12:Int)(x13:Bool)(x14:Bool)(x15:Int)(x16:Int)(x17:Int)(x18:Int)(x19:Int)(x20:Int)(k:jh.sh.El→Option β):(jh.S n (x,x2,x3,x4,x5,x6,x7,x8,x9,x10,x11,x12,x13,x14,x15,x16,x17,x18,x19,x20)).bind k=k ((fun x:Int=> !(decide (0≤x)&&decide (x<x2))) x):=by
 have:jh.S n (x,x2,x3,x4,x5,x6,x7,x8,x9,x10,x11,x12,x13,x14,x15,x16,x17,x18,x19,x20)=some ((fun x:Int=> !(decide (0≤x)&&decide (x<x2))) x):=by
  show(lX x x2 x3 x4 x5 x6 x7 x8 x9 x10 x11 x12 x13 x14 x15 x16 x17 x18 x19 x20).run n=_;simp only[lX,G.run,aZ,cg,kM,if_true];rfl
 rw[this];rfl
theorem JS{β:Type}(n:Nat)(l:List Int)(x2:Int)(x3:Int)(x4:List cV)(x5:List au)(x6:List BD)(x7:List bq)(x8:List Host)(x9:List bP)(x10:Int)(x11:Int)(x12:Int)(x13:Bool)(x14:Bool)(x15:Int)(x16:Int)(x17:Int)(x18:Int)(x19:Int)(x20:Int)(hn:l.length<n)(hs:l.length≤4000)(k:jG.sh.El→Option β):
 (jG.S n (l,x2,x3,x4,x5,x6,x7,x8,x9,x10,x11,x12,x13,x14,x15,x16,x17,x18,x19,x20)).bind k=k (idxOf (fun x:Int=> !(decide (0≤x)&&decide (x<x2))) l):=by
 have:jG.S n (l,x2,x3,x4,x5,x6,x7,x8,x9,x10,x11,x12,x13,x14,x15,x16,x17,x18,x19,x20)=some (idxOf (fun x:Int=> !(decide (0≤x)&&decide (x<x2))) l):=by
  show(mH l x2 x3 x4 x5 x6 x7 x8 x9 x10 x11 x12 x13 x14 x15 x16 x17 x18 x19 x20).run n=_;simp only[mH,G.run,aZ,cg,dH,PF,if_true];refine ta l (fun x:Int=> !(decide (0≤x)&&decide (x<x2))) hn (fun i x hx=>?_) ?_ ?_
  ·have hi:=(List.getElem?_eq_some_iff.1 hx).1;have hlt:(i:Int)<l.length:=by omega
   simp only[cK,hx,Option.bind_some,hlt,decide_true,if_true,fk (show i<9223372036854775807 by omega)]
   split<;>rfl
  ·simp;rfl
  ·unfold idxOf;cases l.findIdx? (fun x:Int=> !(decide (0≤x)&&decide (x<x2)))<;>rfl
 rw[this];rfl
theorem Gb{β:Type}(n:Nat)(l:List Int)(x2:Int)(x3:Int)(x4:List cV)(x5:List au)(x6:List BD)(x7:List bq)(x8:List Host)(x9:List bP)(x10:Int)(x11:Int)(x12:Int)(x13:Bool)(x14:Bool)(x15:Int)(x16:Int)(x17:Int)(x18:Int)(x19:Int)(x20:Int)(hn:l.length<n)(hs:l.length≤4000)(k:iD.sh.El→Option β):
 (iD.S n (l,x2,x3,x4,x5,x6,x7,x8,x9,x10,x11,x12,x13,x14,x15,x16,x17,x18,x19,x20)).bind k=k (l.any (fun x:Int=> !(decide (0≤x)&&decide (x<x2)))):=by
 have:iD.S n (l,x2,x3,x4,x5,x6,x7,x8,x9,x10,x11,x12,x13,x14,x15,x16,x17,x18,x19,x20)=some (l.any (fun x:Int=> !(decide (0≤x)&&decide (x<x2)))):=by
  show(kN l x2 x3 x4 x5 x6 x7 x8 x9 x10 x11 x12 x13 x14 x15 x16 x17 x18 x19 x20).run n=_;simp only[kN,G.run,aZ,if_true];rw[JS n l x2 x3 x4 x5 x6 x7 x8 x9 x10 x11 x12 x13 x14 x15 x16 x17 x18 x19 x20 hn hs];simp only[uS];rfl
 rw[this];rfl
theorem RP{β:Type}(n:Nat)(x:Int)(x2:Int)(x3:Int)(x4:List cV)(x5:List au)(x6:List BD)(x7:List bq)(x8:List Host)(x9:List bP)(x10:Int)(x11:Int)(x12:Int)(x13:Bool)(x14:Bool)(x15:Int)(x16:Int)(x17:Int)(x18:Int)(x19:Int)(x20:Int)(k:ji.sh.El→Option β):(ji.S n (x,x2,x3,x4,x5,x6,x7,x8,x9,x10,x11,x12,x13,x14,x15,x16,x17,x18,x19,x20)).bind k=k ((fun x:Int=> !(decide (0≤x)&&decide (x<(x6.length:Int)))) x):=by
 have:ji.S n (x,x2,x3,x4,x5,x6,x7,x8,x9,x10,x11,x12,x13,x14,x15,x16,x17,x18,x19,x20)=some ((fun x:Int=> !(decide (0≤x)&&decide (x<(x6.length:Int)))) x):=by
  show(lY x x2 x3 x4 x5 x6 x7 x8 x9 x10 x11 x12 x13 x14 x15 x16 x17 x18 x19 x20).run n=_;simp only[lY,G.run,aZ,cg,kM,if_true];rfl
 rw[this];rfl
theorem MA{β:Type}(n:Nat)(l:List Int)(x2:Int)(x3:Int)(x4:List cV)(x5:List au)(x6:List BD)(x7:List bq)(x8:List Host)(x9:List bP)(x10:Int)(x11:Int)(x12:Int)(x13:Bool)(x14:Bool)(x15:Int)(x16:Int)(x17:Int)(x18:Int)(x19:Int)(x20:Int)(hn:l.length<n)(hs:l.length≤4000)(k:iR.sh.El→Option β):
 (iR.S n (l,x2,x3,x4,x5,x6,x7,x8,x9,x10,x11,x12,x13,x14,x15,x16,x17,x18,x19,x20)).bind k=k (idxOf (fun x:Int=> !(decide (0≤x)&&decide (x<(x6.length:Int)))) l):=by
 have:iR.S n (l,x2,x3,x4,x5,x6,x7,x8,x9,x10,x11,x12,x13,x14,x15,x16,x17,x18,x19,x20)=some (idxOf (fun x:Int=> !(decide (0≤x)&&decide (x<(x6.length:Int)))) l):=by
  show(lq l x2 x3 x4 x5 x6 x7 x8 x9 x10 x11 x12 x13 x14 x15 x16 x17 x18 x19 x20).run n=_;simp only[lq,G.run,aZ,cg,dH,RP,if_true];refine ta l (fun x:Int=> !(decide (0≤x)&&decide (x<(x6.length:Int)))) hn (fun i x hx=>?_) ?_ ?_
  ·have hi:=(List.getElem?_eq_some_iff.1 hx).1;have hlt:(i:Int)<l.length:=by omega
   simp only[cK,hx,Option.bind_some,hlt,decide_true,if_true,fk (show i<9223372036854775807 by omega)]
   split<;>rfl
  ·simp;rfl
  ·unfold idxOf;cases l.findIdx? (fun x:Int=> !(decide (0≤x)&&decide (x<(x6.length:Int))))<;>rfl
 rw[this];rfl
theorem Ij{β:Type}(n:Nat)(l:List Int)(x2:Int)(x3:Int)(x4:List cV)(x5:List au)(x6:List BD)(x7:List bq)(x8:List Host)(x9:List bP)(x10:Int)(x11:Int)(x12:Int)(x13:Bool)(x14:Bool)(x15:Int)(x16:Int)(x17:Int)(x18:Int)(x19:Int)(x20:Int)(hn:l.length<n)(hs:l.length≤4000)(k:gU.sh.El→Option β):
 (gU.S n (l,x2,x3,x4,x5,x6,x7,x8,x9,x10,x11,x12,x13,x14,x15,x16,x17,x18,x19,x20)).bind k=k (l.any (fun x:Int=> !(decide (0≤x)&&decide (x<(x6.length:Int))))):=by
 have:gU.S n (l,x2,x3,x4,x5,x6,x7,x8,x9,x10,x11,x12,x13,x14,x15,x16,x17,x18,x19,x20)=some (l.any (fun x:Int=> !(decide (0≤x)&&decide (x<(x6.length:Int))))):=by
  show(jW l x2 x3 x4 x5 x6 x7 x8 x9 x10 x11 x12 x13 x14 x15 x16 x17 x18 x19 x20).run n=_;simp only[jW,G.run,aZ,if_true];rw[MA n l x2 x3 x4 x5 x6 x7 x8 x9 x10 x11 x12 x13 x14 x15 x16 x17 x18 x19 x20 hn hs];simp only[uS];rfl
 rw[this];rfl
theorem N8{β:Type}(n:Nat)(l:List Int)(v:Int)(hn:l.length<n)(hs:l.length≤4000)(k:jv.sh.El→Option β):
 (jv.S n (l,v)).bind k=k (idxOf (fun x:Int=>v==x) l):=by
 have:jv.S n (l,v)=some (idxOf (fun x:Int=>v==x) l):=by
  show(jt l v).run n=_;simp only[jt,G.run,aZ,cg,dH,if_true,if_true];refine ta l (fun x:Int=>v==x) hn (fun i x hx=>?_) ?_ ?_
  ·have hi:=(List.getElem?_eq_some_iff.1 hx).1;have hlt:(i:Int)<l.length:=by omega
   simp only[cK,hx,Option.bind_some,hlt,decide_true,if_true,fk (show i<9223372036854775807 by omega)]
   split<;>rfl
  ·simp;rfl
  ·unfold idxOf;cases l.findIdx? (fun x:Int=>v==x)<;>rfl
 rw[this];rfl
theorem JT{β:Type}(n:Nat)(l:List Int)(v:Int)(hn:l.length<n)(hs:l.length≤4000)(k:eu.sh.El→Option β):
 (eu.S n (l,v)).bind k=k (l.any (fun x:Int=>v==x)):=by
 have:eu.S n (l,v)=some (l.any (fun x:Int=>v==x)):=by
  show(iu l v).run n=_;simp only[iu,G.run,aZ,if_true];rw[N8 n l v hn hs];simp only[uS];rfl
 rw[this];rfl
end Go.L
namespace Go.L
open Go.AM
theorem HM{β:Type}(k1 k2:Go.IntKind)(a b:Int)(k:Unit→Option β):(GH k1 k2 a b).run.bind k=if decide (0≤b)=true then k ()else none:=by
 show(if decide (0≤b)=true then some ()else none).bind k=_
 split<;>rfl
def nX(p:ah):Bool:=decide (0≤p.Len)&&decide (p.Len≤32)
def MB(a b:Int):Int:=Go.IntKind.wrap .u32 (((BitVec.ofInt 32 a)&&& (BitVec.ofInt 32 b)).toNat:Int)
def Tj(a b:Int):Int:=Go.IntKind.wrap .u32 (((BitVec.ofInt 32 a)||| (BitVec.ofInt 32 b)).toNat:Int)
def S1(a b:Int):Int:=Go.IntKind.wrap .u32 (((BitVec.ofInt 32 a) ^^^ (BitVec.ofInt 32 b)).toNat:Int)
def Cb(n:Int):Int:=Go.IntKind.wrap .u32 ((4294967295:Int)*((2:Int) ^ (min (Int.toNat (Go.IntKind.wrap .i64 ((32:Int) - n))) (Go.IntKind.bits .u32))))
def S2(n:Int):Int:=Go.IntKind.wrap .u32 ((Go.IntKind.wrap .u32 ((1:Int)*((2:Int) ^ (min (Int.toNat (Go.IntKind.wrap .i64 ((32:Int) - n))) (Go.IntKind.bits .u32))))) - (1:Int))
def qQ(p:ah):Bool:=nX p&&(MB p.IP (Cb p.Len)==p.IP)
def oF(p:ah)(ip:Int):Bool:=nX p&&(MB (S1 p.IP ip) (Cb p.Len)==0)
def zB(p:ah)(ip:Int):Bool:=oF p ip&&(ip != p.IP&&ip != Tj p.IP (S2 p.Len))
section
variable {β:Type} (n:Nat)
theorem Gc(p:ah)(k:lU.sh.El→Option β):(lU.S n p).bind k=k (nX p):=by
 have:lU.S n p=some (nX p):=by
  show(rT p).run n=_;simp only[rT,G.run,aZ,nX,ge_iff_le];by_cases h:0≤p.Len<;>simp[h]<;>rfl
 rw[this];rfl
theorem wrap32{x:Int}(h0:0≤x)(h1:x≤32):Go.IntKind.wrap .i64 (32 - x)=32 - x:=wrap_i64 (by omega) (by omega)
theorem HN(x:Int)(h0:0≤x)(h1:x≤32)(k:ri.sh.El→Option β):(ri.S n x).bind k=k (Cb x):=by
 have:ri.S n x=some (Cb x):=by
  show(ua x).run n=_;simp only[ua,G.run,aZ,HM,Cb];rw[if_pos (by rw[wrap32 h0 h1];simp;omega)]
  rfl
 rw[this];rfl
theorem zC(p:ah)(k:pT.sh.El→Option β):(pT.S n p).bind k=k (qQ p):=by
 have:pT.S n p=some (qQ p):=by
  show(wB p).run n=_;have hc:∀{γ:Type} (k:vw.sh.El→Option γ),(vw.S n p).bind k=if nX p=true then k (⟨MB p.IP (Cb p.Len),p.Len⟩,0)else k (⟨0,0⟩,2):=by
   intro γ k;have:vw.S n p=some (if nX p=true then(⟨MB p.IP (Cb p.Len),p.Len⟩,0)else(⟨0,0⟩,2)):=by
    show(zh p).run n=_;simp only[zh,G.run,aZ,Gc];by_cases h:nX p=true
    ·simp only[h,Bool.not_true,Bool.false_eq_true,if_false,if_true];simp only[nX,Bool.and_eq_true,decide_eq_true_eq]at h;rw[HN n p.Len h.1 h.2];rfl
    ·simp[h];rfl
   rw[this];split<;>rfl
  simp only[wB,G.run,aZ,hc,qQ];by_cases h:nX p=true<;>simp[h]<;>rfl
 rw[this];rfl
theorem Cm(p:ah)(ip:Int)(k:dQ.sh.El→Option β):(dQ.S n (p,ip)).bind k=k (oF p ip):=by
 have:dQ.S n (p,ip)=some (oF p ip):=by
  show(oC p ip).run n=_;simp only[oC,G.run,aZ,Gc,oF];by_cases h:nX p=true
  ·simp only[h,if_true,Bool.true_and];simp only[nX,Bool.and_eq_true,decide_eq_true_eq]at h;rw[HN n p.Len h.1 h.2];rfl
  ·simp[h];rfl
 rw[this];rfl
theorem Dj(p:ah)(ip:Int)(hp:nX p=true)(k:pU.sh.El→Option β):(pU.S n (p,ip)).bind k=k (zB p ip):=by
 have:pU.S n (p,ip)=some (zB p ip):=by
  show(wC p ip).run n=_;have h:=hp;simp only[nX,Bool.and_eq_true,decide_eq_true_eq]at h;simp only[wC,G.run,aZ,Cm,HM];rw[if_pos (by rw[wrap32 h.1 h.2];simp;omega)]
  simp only[zB,if_true];by_cases h1:oF p ip=true
  ·by_cases h2:(ip != p.IP)=true
   ·simp only[h1,h2,if_true,Bool.true_and];rfl
   ·simp only[h1,h2,if_true,Bool.true_and,Bool.false_eq_true,if_false];simp at h2;simp[h2];rfl
  ·simp[h1];rfl
 rw[this];rfl
end
end Go.L
namespace Go.L
open Go.AM
def E0:ByteArray:=⟨⟨[116,101,110,97,110,116,115]⟩⟩
def JU:ByteArray:=⟨⟨[108,101,97,107,115]⟩⟩
def yK(f1 f2:List Bool)(i:Nat)(x:au):Int:=
 if decide (x.dM<1)=true then 2 else if decide (16777215<x.dM)=true then 2 else if(x.Target==0)=true then 2
 else if f1.getD i false=true then 11 else if f2.getD i false=true then 11 else 0
theorem MC(n:Nat)(f:aG)(hn:f.bf.length<n):
 kA.S n ⟨f⟩=some (outcome E0 16 (decide (16<(f.bf.length:Int))) (bZ (yK (bH (fun x:au=>x.dM) [] f.bf) (bH (fun x:au=>x.Target) [] f.bf)) 0 f.bf)):=by
 show(nN ⟨f⟩).run n=_;simp only[nN,G.run,aZ,cg,fG,Sum.elim,gt_iff_lt,decide_eq_true_eq];by_cases hfull:(16:Int)<f.bf.length
 ·simp[hfull,outcome];rfl
 ·simp only[hfull,if_false,decide_false];rw[Bf n f.bf hn (by omega)]
  rw[zO n f.bf hn (by omega)]
  simp only[G.run,aZ,cg,if_true,dH,kM,iU,fG,Sum.elim];generalize hf1:bH (fun x:au=>x.dM) [] f.bf=f1
  generalize hf2:bH (fun x:au=>x.Target) [] f.bf=f2
  refine s9 f.bf (yK f1 f2) (fun i e=>Sum.inl (e,E0,(i:Int))) (Sum.inr ()) hn (fun i x hx=>?_) ?_ ?_
  ·have hi:=(List.getElem?_eq_some_iff.1 hx).1;obtain⟨y,hy⟩:∃y,f1[i]? =some y:=⟨_,List.getElem?_eq_getElem (by rw[← hf1,fT];exact hi)⟩
   obtain⟨z,hz⟩:∃y,f2[i]? =some y:=⟨_,List.getElem?_eq_getElem (by rw[← hf2,fT];exact hi)⟩
   have hlt:(i:Int)<f.bf.length:=by omega
   simp only[cK,hx,Option.bind_some,hlt,decide_true,if_true,hy,hz,yK,List.getD_eq_getElem?_getD,Option.getD_some,fk (show i<9223372036854775807 by omega)]
   clear hf1 hf2 hy hz hx
   repeat' split
   all_goals first |rfl | (simp_all<;>omega)
  ·simp;rfl
  ·cases bZ (yK f1 f2) 0 f.bf with
   |none=>rfl
   |some p=>rfl
def DW(f:aG)(f1:List Bool)(i:Nat)(x:bP):Int:=
 if(!(decide (0≤x.From)&&decide (x.From<(f.bf.length:Int))))=true then 2 else if(!(decide (0≤x.To)&&decide (x.To<(f.bf.length:Int))))=true then 2
 else if(x.From==x.To)=true then 3 else if(!qQ x.ah)=true then 3 else if f1.getD i false=true then 11 else 0
theorem PG(n:Nat)(f:aG)(hn:f.Leaks.length<n):
 lK.S n ⟨f⟩=some (outcome JU 256 (decide (256<(f.Leaks.length:Int))) (bZ (DW f (bH (fun x:bP=>x) [] f.Leaks)) 0 f.Leaks)):=by
 show(oT ⟨f⟩).run n=_;simp only[oT,G.run,aZ,cg,fG,Sum.elim,gt_iff_lt,decide_eq_true_eq];by_cases hfull:(256:Int)<f.Leaks.length
 ·simp[hfull,outcome];rfl
 ·simp only[hfull,if_false,decide_false];rw[D4 n f.Leaks hn (by omega)]
  simp only[G.run,aZ,cg,if_true,dH,kM,iU,fG,Sum.elim,zC];generalize hf1:bH (fun x:bP=>x) [] f.Leaks=f1
  refine s9 f.Leaks (DW f f1) (fun i e=>Sum.inl (e,JU,(i:Int))) (Sum.inr ()) hn (fun i x hx=>?_) ?_ ?_
  ·have hi:=(List.getElem?_eq_some_iff.1 hx).1;obtain⟨y,hy⟩:∃y,f1[i]? =some y:=⟨_,List.getElem?_eq_getElem (by rw[← hf1,fT];exact hi)⟩
   have hlt:(i:Int)<f.Leaks.length:=by omega
   simp only[cK,hx,Option.bind_some,hlt,decide_true,if_true,hy,DW,List.getD_eq_getElem?_getD,Option.getD_some,fk (show i<9223372036854775807 by omega)]
   clear hf1 hy hx
   repeat' split
   all_goals first |rfl | (simp_all<;>omega)
  ·simp;rfl
  ·cases bZ (DW f f1) 0 f.Leaks with
   |none=>rfl
   |some p=>rfl
end Go.L
namespace Go.L
open Go.AM
def Ln:ByteArray:=⟨⟨[102,97,98,114,105,99]⟩⟩
def Lo:ByteArray:=⟨⟨[116,105,109,101,114,115]⟩⟩
def JV:ByteArray:=⟨⟨[104,111,115,116,115]⟩⟩
def out(x lo hi:Int):Bool:=decide (x<lo)||decide (hi<x)
def uT(f:aG):Bool:=out f.Leaves 1 32||out f.ij 0 32||decide (32<Go.IntKind.wrap .i64 (f.Leaves+f.ij))||out f.xk 0 2||out f.qZ 0 1||out f.dP 0 1
def xK(t:cw):Bool:=out t.tZ 1 100||out t.BS 3 1000||out t.Er 1 10000||out t.sZ 0 1000||out t.yy 1 100||out t.Window 1 10000
theorem N9(n:Nat)(f:aG):kS.S n ⟨f⟩=some (if uT f=true then Sum.inr (2,Ln,0)else Sum.inl ()):=by
 show(nY ⟨f⟩).run n=_;simp only[nY,G.run,aZ,iU,fG,Sum.elim,if_true];unfold uT;have e:∀x lo hi,(decide (x<lo)||decide (hi<x))=out x lo hi:=fun _ _ _=>rfl
 simp only[e,gt_iff_lt,Bool.or_eq_true];cases out f.Leaves 1 32<;>cases out f.ij 0 32<;>cases decide (32<Go.IntKind.wrap .i64 (f.Leaves+f.ij))<;>cases out f.xk 0 2<;>cases out f.qZ 0 1<;>cases out f.dP 0 1<;>rfl
theorem Oa(n:Nat)(f:aG):kT.S n ⟨f⟩=some (if xK f.cw=true then Sum.inr (2,Lo,0)else Sum.inl ()):=by
 show(nZ ⟨f⟩).run n=_;simp only[nZ,G.run,aZ,iU,fG,Sum.elim,if_true];unfold xK;have e:∀x lo hi,(decide (x<lo)||decide (hi<x))=out x lo hi:=fun _ _ _=>rfl
 simp only[e,gt_iff_lt,Bool.or_eq_true];cases out f.cw.tZ 1 100<;>cases out f.cw.BS 3 1000<;>cases out f.cw.Er 1 10000<;>cases out f.cw.sZ 0 1000<;>cases out f.cw.yy 1 100<;>cases out f.cw.Window 1 10000<;>rfl
def DX(m:Int):Bool:=decide (m≤281474976710655)&&(Go.IntKind.wrap .u64 (((BitVec.ofInt 64 (Int.fdiv m ((2:Int) ^ (min (Int.toNat (40:Int)) (Go.IntKind.bits .u64)))))&&& (BitVec.ofInt 64 1)).toNat:Int) != 0)
def uU(m:Int):Bool:= !decide (m<2199023255552)&& !decide (m≥2199023255584)
def nk(b:BD)(ip:Int):Bool:=ip==0||(b.aS != 0&&(ip != b.aS&&zB b.bt ip))
section
variable {β:Type} (n:Nat)
theorem GV(m:Int)(k:qw.sh.El→Option β):(qw.S n m).bind k=k (DX m):=by
 have:qw.S n m=some (DX m):=by
  show(uB m).run n=_;simp only[uB,G.run,aZ,DX];by_cases h:m≤281474976710655
  ·simp only[h,decide_true,if_true,Bool.true_and];rfl
  ·simp only[h,decide_false,if_false,Bool.false_and,Bool.false_eq_true];rfl
 rw[this];rfl
theorem Gd(m:Int)(k:mN.sh.El→Option β):(mN.S n m).bind k=if uU m=true then k (Go.IntKind.wrap .i64 (Go.IntKind.wrap .u64 (m - 2199023255552)),true)else k (0,false):=by
 have:mN.S n m=some (if uU m=true then(Go.IntKind.wrap .i64 (Go.IntKind.wrap .u64 (m - 2199023255552)),true)else(0,false)):=by
  show(tC m).run n=_;simp only[tC,G.run,aZ,uU];by_cases h:m<2199023255552
  ·simp[h];rfl
  ·by_cases h2:m≥2199023255584
   ·simp[h,h2];rfl
   ·simp only[h,h2,decide_false,Bool.not_false,Bool.and_self,Bool.false_eq_true,if_false,if_true];rfl
 rw[this];split<;>rfl
theorem E1(b:BD)(ip:Int)(hb:b.aS≠0→nX b.bt=true)(k:l5.sh.El→Option β):(l5.S n (b,ip)).bind k=k (nk b ip):=by
 have:l5.S n (b,ip)=some (nk b ip):=by
  show(rV b ip).run n=_;simp only[rV,G.run,aZ,nk];cases e1:(ip==0)with
  |true=>simp only[if_true,Bool.true_or];rfl
  |false=>
   cases e2:(b.aS != 0)with
   |false=>simp only[Bool.false_eq_true,if_false,Bool.false_or,Bool.false_and];rfl
   |true=>
    cases e3:(ip != b.aS)with
    |false=>simp only[Bool.false_eq_true,if_false,if_true,Bool.false_or,Bool.true_and,Bool.false_and];rfl
    |true=>
     simp only[Bool.false_eq_true,if_false,if_true,Bool.false_or,Bool.true_and];rw[Dj n b.bt ip (hb (by simpa using e2))];rfl
 rw[this];rfl
end
def Dk(f:aG)(b:Int):BD:=(jd f.aR b).getD ⟨0,0,0,⟨0,0⟩,0⟩
def Bg(f:aG)(s:Int):List Int:=((jd f.aH s).map (·.aR)).getD []
theorem SA(n:Int)(h:0≤n)(h2:n≤4000):Go.IntKind.wrap .i64 (n - 1)=n - 1:=wrap_i64 (by omega) (by omega)
def DY(f:aG)(f1 f2:List Bool)(i:Nat)(h:Host):Int:=
 if(h.bO==0)=true then 2 else if decide (281474976710655<h.bO)=true then 2 else if DX h.bO=true then 2
 else if(!(decide (0≤h.BD)&&decide (h.BD<(f.aR.length:Int))))=true then 2 else if out h.bq (-1) ((f.aH.length:Int) - 1)=true then 2
 else if(h.bq != -1&& !(Bg f h.bq).any fun x=>h.BD==x)=true then 8
 else if(h.bO==1577058561)=true then 3 else if uU h.bO=true then 3 else if(!nk (Dk f h.BD) h.IP)=true then 3
 else if f1.getD i false=true then 11 else if(h.IP != 0&&f2.getD i false)=true then 11 else 0
theorem PI(n:Nat)(f:aG)(hn:f.Hosts.length<n)(hseg:f.aH.length≤64)(hsn:∀s∈f.aH,s.aR.length<n∧s.aR.length≤4000)(hsub:∀b∈f.aR,b.aS≠0→nX b.bt=true):
 lJ.S n ⟨f⟩=some (outcome JV 128 (decide (128<(f.Hosts.length:Int))) (bZ (DY f (bH (fun x:Host=>(⟨x.BD,x.bO⟩:aN)) [] f.Hosts) (bH (fun x:Host=>(⟨x.BD,Go.IntKind.wrap .u64 x.IP⟩:aN)) [] f.Hosts)) 0 f.Hosts)):=by
 show(oS ⟨f⟩).run n=_;simp only[oS,G.run,aZ,cg,fG,Sum.elim,gt_iff_lt,decide_eq_true_eq];by_cases hfull:(128:Int)<f.Hosts.length
 ·simp[hfull,outcome];rfl
 ·simp only[hfull,if_false,decide_false];rw[yC n f.Hosts hn (by omega)]
  rw[xJ n f.Hosts hn (by omega)]
  simp only[G.run,aZ,cg,if_true,dH,kM,iU,fG,Sum.elim,GV,Gd];generalize hf1:bH (fun x:Host=>(⟨x.BD,x.bO⟩:aN)) [] f.Hosts=f1
  generalize hf2:bH (fun x:Host=>(⟨x.BD,Go.IntKind.wrap .u64 x.IP⟩:aN)) [] f.Hosts=f2
  refine s9 f.Hosts (DY f f1 f2) (fun i e=>Sum.inl (e,JV,(i:Int))) (Sum.inr ()) hn (fun i x hx=>?_) ?_ ?_
  ·have hi:=(List.getElem?_eq_some_iff.1 hx).1;obtain⟨y,hy⟩:∃y,f1[i]? =some y:=⟨_,List.getElem?_eq_getElem (by rw[← hf1,fT];exact hi)⟩
   obtain⟨z,hz⟩:∃y,f2[i]? =some y:=⟨_,List.getElem?_eq_getElem (by rw[← hf2,fT];exact hi)⟩
   have hlt:(i:Int)<f.Hosts.length:=by omega
   have hw:=SA (f.aH.length:Int) (by omega) (by omega)
   simp only[cK,hx,Option.bind_some,hlt,decide_true,if_true,hy,hz,DY,List.getD_eq_getElem?_getD,Option.getD_some,fk (show i<9223372036854775807 by omega),hw]
   clear hf1 hf2 hy hz hx;cases(x.bO==0)
   case true=>rfl
   by_cases hm:(281474976710655:Int)<x.bO
   ·simp only[hm,if_true,decide_true,Bool.false_eq_true,if_false];rfl
   simp only[hm,if_false,decide_false,Bool.false_eq_true];cases DX x.bO
   case true=>rfl
   cases hbd:(decide (0≤x.BD)&&decide (x.BD<(f.aR.length:Int)))
   case false=>rfl
   have e:(decide (x.bq< -1)||decide ((f.aH.length:Int) - 1<x.bq))=out x.bq (-1) ((f.aH.length:Int) - 1):=rfl;simp only[e];cases hsg:out x.bq (-1) ((f.aH.length:Int) - 1)
   case true=>rfl
   obtain⟨b,hb⟩:∃b,jd f.aR x.BD=some b:=by
    simp only[Bool.and_eq_true,decide_eq_true_eq]at hbd;exact⟨_,by unfold jd;rw[if_pos hbd.1];exact List.getElem?_eq_getElem (by omega)⟩
   have hbm:b∈f.aR:=by
    unfold jd at hb;split at hb
    ·exact List.mem_of_getElem? hb
    ·cases hb
   have hbd2:Dk f x.BD=b:=by simp[Dk,hb]
   simp only[Bool.not_true,Bool.false_eq_true,if_false,hb,hbd2,Option.bind_some,E1 n b x.IP (hsub b hbm)];cases hs1:(x.bq != -1)
   ·simp only[Bool.false_and,Bool.false_eq_true,if_false];cases(x.bO==1577058561)<;>cases uU x.bO<;>cases nk b x.IP<;>cases y<;>cases(x.IP != 0)<;>cases z<;>rfl
   ·obtain⟨s,hs⟩:∃s,jd f.aH x.bq=some s:=by
     simp only[out,Bool.or_eq_false_iff,decide_eq_false_iff_not]at hsg;have:x.bq≠ -1:=by simpa using hs1
     exact⟨_,by unfold jd;rw[if_pos (by omega)];exact List.getElem?_eq_getElem (by omega)⟩
    have hsm:s∈f.aH:=by
     unfold jd at hs;split at hs
     ·exact List.mem_of_getElem? hs
     ·cases hs
    have hsb:Bg f x.bq=s.aR:=by simp[Bg,hs]
    simp only[if_true,hs,Option.bind_some,hsb,Bool.true_and,JT n s.aR x.BD (hsn s hsm).1 (hsn s hsm).2];cases(s.aR.any fun y=>x.BD==y)<;>cases(x.bO==1577058561)<;>cases uU x.bO<;>cases nk b x.IP<;>cases y<;>cases(x.IP != 0)<;>cases z<;>rfl
  ·simp;rfl
  ·cases bZ (DY f f1 f2) 0 f.Hosts with
   |none=>rfl
   |some p=>rfl
end Go.L
namespace Go.L
open Go.AM
def tc(t ip len:Int)(x:BD):Bool:=x.au==t&&(x.aS != 0&&(oF x.bt ip||oF ⟨ip,len⟩ x.bt.IP))
theorem RQ{β:Type}(n:Nat)(x:BD)(x2 x3 x4 x5 x6 x7:Int)(k:jF.sh.El→Option β):(jF.S n (x,x2,x3,x4,x5,x6,x7)).bind k=k (tc x2 x5 x6 x):=by
 have:jF.S n (x,x2,x3,x4,x5,x6,x7)=some (tc x2 x5 x6 x):=by
  show(mG x x2 x3 x4 x5 x6 x7).run n=_;simp only[mG,G.run,aZ,Cm,tc,if_true];cases(x.au==x2)<;>cases(x.aS != 0)<;>cases oF x.bt x5<;>cases oF ⟨x5,x6⟩ x.bt.IP<;>rfl
 rw[this];rfl
theorem MD{β:Type}(n:Nat)(l:List BD)(x2 x3 x4 x5 x6 x7:Int)(hn:l.length<n)(hs:l.length≤4000)(k:kC.sh.El→Option β):
 (kC.S n (l,x2,x3,x4,x5,x6,x7)).bind k=k (idxOf (tc x2 x5 x6) l):=by
 have:kC.S n (l,x2,x3,x4,x5,x6,x7)=some (idxOf (tc x2 x5 x6) l):=by
  show(nO l x2 x3 x4 x5 x6 x7).run n=_;simp only[nO,G.run,aZ,cg,dH,RQ,if_true];refine ta l (tc x2 x5 x6) hn (fun i x hx=>?_) ?_ ?_
  ·have hi:=(List.getElem?_eq_some_iff.1 hx).1;have hlt:(i:Int)<l.length:=by omega
   simp only[cK,hx,Option.bind_some,hlt,decide_true,if_true,fk (show i<9223372036854775807 by omega)]
   split<;>rfl
  ·simp;rfl
  ·unfold idxOf;cases l.findIdx? (tc x2 x5 x6)<;>rfl
 rw[this];rfl
theorem Ik{β:Type}(n:Nat)(l:List BD)(x2 x3 x4 x5 x6 x7:Int)(hn:l.length<n)(hs:l.length≤4000)(k:jg.sh.El→Option β):
 (jg.S n (l,x2,x3,x4,x5,x6,x7)).bind k=k (l.any (tc x2 x5 x6)):=by
 have:jg.S n (l,x2,x3,x4,x5,x6,x7)=some (l.any (tc x2 x5 x6)):=by
  show(lV l x2 x3 x4 x5 x6 x7).run n=_;simp only[lV,G.run,aZ,if_true];rw[MD n l x2 x3 x4 x5 x6 x7 hn hs];simp only[uS];rfl
 rw[this];rfl
theorem Ob{X β:Type}(l:List X)(e:X→List AVal)(m:Nat)(i:Nat)(hi:i≤l.length)(k:Nat×Nat→Option β):(BK l e m none (some (i:Int))).run.bind k=k (0,i):=by
 have:(BK l e m none (some (i:Int))).run=some (0,i):=by
  show((vp l.length l.length (some (i:Int))).bind fun h=>(vp 0 h none).map fun k=>(k,h))=_
  simp only[vp];rw[if_pos (by omega)];simp
 rw[this];rfl
def E2:ByteArray:=⟨⟨[100,111,109,97,105,110,115]⟩⟩
def E3(f:aG)(f1 f2:List Bool)(i:Nat)(b:BD):Int:=
 if(!(decide (0≤b.au)&&decide (b.au<(f.bf.length:Int))))=true then 2 else if decide (b.dM<1)=true then 2 else if decide (16777215<b.dM)=true then 2 else if(b.Target==0)=true then 2
 else if f1.getD i false=true then 11 else if f2.getD i false=true then 11 else if(f.bf.any fun x=>x.dM==b.dM)=true then 11 else if(f.bf.any fun x=>x.Target==b.Target)=true then 11
 else if(b.aS==0)=true then(if(!(b.bt.IP==0&&(b.bt.Len==0&&true)))=true then 3 else 0)
 else if(!qQ b.bt)=true then 3 else if out b.bt.Len 8 30=true then 3 else if(!zB b.bt b.aS)=true then 3
 else if((f.aR.take i).any (tc b.au b.bt.IP b.bt.Len))=true then 11 else 0
theorem ME(n:Nat)(f:aG)(hn:f.aR.length<n)(hnt:f.bf.length<n)(ht:f.bf.length≤4000):
 kD.S n ⟨f⟩=some (outcome E2 32 (decide (32<(f.aR.length:Int))) (bZ (E3 f (bH (fun x:BD=>x.dM) [] f.aR) (bH (fun x:BD=>x.Target) [] f.aR)) 0 f.aR)):=by
 show(nP ⟨f⟩).run n=_;simp only[nP,G.run,aZ,cg,fG,Sum.elim,gt_iff_lt,decide_eq_true_eq];by_cases hfull:(32:Int)<f.aR.length
 ·simp[hfull,outcome];rfl
 ·simp only[hfull,if_false,decide_false];rw[D3 n f.aR hn (by omega)]
  rw[Cq n f.aR hn (by omega)]
  simp only[G.run,aZ,cg,if_true,dH,kM,iU,fG,Sum.elim,zC];generalize hf1:bH (fun x:BD=>x.dM) [] f.aR=f1
  generalize hf2:bH (fun x:BD=>x.Target) [] f.aR=f2
  refine s9 f.aR (E3 f f1 f2) (fun i e=>Sum.inl (e,E2,(i:Int))) (Sum.inr ()) hn (fun i x hx=>?_) ?_ ?_
  ·have hi:=(List.getElem?_eq_some_iff.1 hx).1;obtain⟨y,hy⟩:∃y,f1[i]? =some y:=⟨_,List.getElem?_eq_getElem (by rw[← hf1,fT];exact hi)⟩
   obtain⟨z,hz⟩:∃y,f2[i]? =some y:=⟨_,List.getElem?_eq_getElem (by rw[← hf2,fT];exact hi)⟩
   have hlt:(i:Int)<f.aR.length:=by omega
   simp only[cK,hx,Option.bind_some,hlt,decide_true,if_true,hy,hz,E3,List.getD_eq_getElem?_getD,Option.getD_some,fk (show i<9223372036854775807 by omega)]
   clear hf1 hf2 hy hz hx;rw[Mz n f.bf x.dM hnt ht];rw[Ii n f.bf x.Target hnt ht];simp only[G.run,aZ,cg,if_true,fG,Sum.elim,zC,iU,Bool.false_eq_true,if_false];cases(decide (0≤x.au)&&decide (x.au<(f.bf.length:Int)))
   case false=>rfl
   by_cases h1:x.dM<1
   ·simp only[h1,if_true,decide_true];rfl
   by_cases h2:(16777215:Int)<x.dM
   ·simp only[h1,h2,if_true,decide_true,if_false,decide_false,Bool.false_eq_true];rfl
   simp only[h1,h2,if_false,decide_false,Bool.false_eq_true];cases(x.Target==0)
   case true=>rfl
   cases y
   case true=>rfl
   cases z
   case true=>rfl
   cases(f.bf.any fun y=>y.dM==x.dM)
   case true=>rfl
   cases(f.bf.any fun y=>y.Target==x.Target)
   case true=>rfl
   cases(x.aS==0)
   case true=>cases(x.bt.IP==0&&(x.bt.Len==0&&true))<;>rfl
   cases hc:qQ x.bt
   case false=>rfl
   have hok:nX x.bt=true:=by
    simp only[qQ,Bool.and_eq_true]at hc;exact hc.1
   simp only[Dj n x.bt x.aS hok,Ob f.aR eY 6 i (by omega),List.drop_zero]
   rw[Ik n (f.aR.take i) x.au x.dM x.Target x.bt.IP x.bt.Len x.aS (by simp;omega) (by simp;omega)]
   have e:(decide (x.bt.Len<8)||decide (30<x.bt.Len))=out x.bt.Len 8 30:=rfl;simp only[e];cases out x.bt.Len 8 30<;>cases zB x.bt x.aS<;>cases(f.aR.take i).any (tc x.au x.bt.IP x.bt.Len)<;>rfl
  ·simp;rfl
  ·cases bZ (E3 f f1 f2) 0 f.aR with
   |none=>rfl
   |some p=>rfl
end Go.L
namespace Go.L
open Go.AM
def xY(l:List Int):Bool:=(l.zip l.tail).all fun p=>decide (p.1<p.2)
theorem S3(l:List (Int×Int))(j:Nat):(match bZ (fun _ (p:Int×Int)=>if p.2≤p.1 then 1 else 0) j l with |none=>some true |some (_,_)=>some false)=some (l.all fun p=>decide (p.1<p.2)):=by
 induction l generalizing j with
 |nil=>rfl
 |cons p ps ih=>
  simp only[bZ,List.all_cons];by_cases h:p.2≤p.1
  ·have:¬p.1<p.2:=by omega
   simp[h,this]
  ·have:p.1<p.2:=by omega
   simp only[h,if_false,ne_eq,not_true_eq_false,this,decide_true,Bool.true_and];exact ih (j+1)
theorem zD{β:Type}(n:Nat)(l:List Int)(hn:l.length<n)(hs:l.length≤4000)(k:lZ.sh.El→Option β):(lZ.S n l).bind k=k (xY l):=by
 have:lZ.S n l=some (xY l):=by
  show(rU l).run n=_;simp only[rU,G.run,aZ,cg,dH,if_true];have hzl:(l.zip l.tail).length=l.length - 1:=by simp
  refine Eq.trans (AE (fun i=>((i:Int)+1)) (l.zip l.tail) (fun _ (p:Int×Int)=>if p.2≤p.1 then 1 else 0) (fun _ _=>some false) (some true) (by omega) (fun i x hx hp hE=>?_) (fun i x hx hp hE=>?_) (fun hp=>?_)) (S3 (l.zip l.tail) 0)
  ·have hi:=(List.getElem?_eq_some_iff.1 hx).1;rw[hzl]at hi;have h1:l[i]? =some x.1:=by
    rw[List.getElem?_zip_eq_some]at hx;exact hx.1
   have h2:l[i+1]? =some x.2:=by
    rw[List.getElem?_zip_eq_some]at hx;simpa using hx.2
   have hle:x.2≤x.1:=by
    by_cases h:x.2≤x.1
    ·exact h
    ·simp[h]at hE
   have hlt:(i:Int)+1<l.length:=by omega
   have e1:jd l ((i:Int)+1)=some x.2:=by rw[show(i:Int)+1=((i+1:Nat):Int)by omega,cK,h2]
   have e2:jd l (Go.IntKind.wrap .i64 ((i:Int)+1 - 1))=some x.1:=by
    rw[wrap_i64 (by omega) (by omega),show(i:Int)+1 - 1=(i:Int)by omega,cK,h1]
   refine⟨.inl (),?_,rfl⟩;simp only[hlt,decide_true,if_true,e1,e2,Option.bind_some,hle]
  ·have hi:=(List.getElem?_eq_some_iff.1 hx).1;rw[hzl]at hi;have h1:l[i]? =some x.1:=by
    rw[List.getElem?_zip_eq_some]at hx;exact hx.1
   have h2:l[i+1]? =some x.2:=by
    rw[List.getElem?_zip_eq_some]at hx;simpa using hx.2
   have hle:¬x.2≤x.1:=by
    intro h;simp[h]at hE
   have hlt:(i:Int)+1<l.length:=by omega
   have e1:jd l ((i:Int)+1)=some x.2:=by rw[show(i:Int)+1=((i+1:Nat):Int)by omega,cK,h2]
   have e2:jd l (Go.IntKind.wrap .i64 ((i:Int)+1 - 1))=some x.1:=by
    rw[wrap_i64 (by omega) (by omega),show(i:Int)+1 - 1=(i:Int)by omega,cK,h1]
   have e3:Go.IntKind.wrap .i64 ((i:Int)+1+1)=((i+1:Nat):Int)+1:=by rw[wrap_i64 (by omega) (by omega)];omega
   simp only[hlt,decide_true,if_true,e1,e2,e3,Option.bind_some,hle,decide_false,Bool.false_eq_true,if_false]
  ·refine⟨.inr (),?_,rfl⟩;have hlt:¬((((l.zip l.tail).length:Nat):Int)+1<l.length):=by rw[hzl];omega
   simp only[hlt,decide_false,Bool.false_eq_true,if_false]
 rw[this];rfl
def jj(p:List Int):List Int→List Int
 | []=>p
 |x::xs=>jj (p.set x.toNat (p[x.toNat]?.getD 0+1)) xs
theorem HO:∀(l p:List Int),(jj p l).length=p.length
 | [],_=>rfl
 |x::xs,p=>by simp[jj,HO xs]
theorem Ge:∀(l p:List Int) (x:Int),jj p (l++[x])=(jj p l).set x.toNat ((jj p l)[x.toNat]?.getD 0+1)
 | [],_,_=>rfl
 |y::l,p,x=>by simp only[List.cons_append,jj];exact Ge l _ x
theorem Dl:∀(l p:List Int) (m:Nat),(∀x∈l,0≤x)→l.Nodup→(jj p l)[m]? =(p[m]?).map fun v=>if(m:Int)∈l then v+1 else v
 | [],p,m,_,_=>by simp[jj]
 |x::xs,p,m,h0,hd=>by
  have hx:=h0 x (by simp)
  have hd':=List.nodup_cons.1 hd;simp only[jj];rw[Dl xs _ m (fun y hy=>h0 y (by simp[hy])) hd'.2]
  by_cases hm:m=x.toNat
  ·subst hm;have e:((x.toNat:Nat):Int)=x:=by omega
   rw[e];by_cases hp:x.toNat<p.length
   ·rw[List.getElem?_set_self hp,List.getElem?_eq_getElem hp];simp[hd'.1]
   ·rw[List.getElem?_eq_none (by simp;omega),List.getElem?_eq_none (by omega)];rfl
  ·rw[List.getElem?_set_ne (Ne.symm hm)];have:¬(m:Int)=x:=by omega
   simp[this]
def kJ(l:List bq):List Int:=(List.range 32).map fun m=>((l.countP fun s=>s.Leaves.contains (m:Int):Nat):Int)
theorem KK:kJ []=List.replicate 32 0:=by decide
theorem xw(l:List bq){m:Nat}(h:m<32):(kJ l)[m]? =some ((l.countP fun s=>s.Leaves.contains (m:Int):Nat):Int):=by
 simp[kJ,h]
theorem AF(l:List bq):(kJ l).length=32:=by simp[kJ]
theorem JW(l:List bq)(s:bq)(h0:∀x∈s.Leaves,0≤x)(hd:s.Leaves.Nodup):jj (kJ l) s.Leaves=kJ (l++[s]):=by
 apply List.ext_getElem?;intro m;rw[Dl _ _ m h0 hd];by_cases h:m<32
 ·rw[xw _ h,xw _ h];simp only[Option.map_some,List.countP_append,List.countP_cons,List.countP_nil,Nat.zero_add,List.contains_iff_mem];split<;>simp_all
 ·rw[List.getElem?_eq_none (by rw[AF];omega),List.getElem?_eq_none (by rw[AF];omega)];rfl
theorem MF:∀(l:List Int),xY l=true→l.Nodup∧∀(i j:Nat) x y,i<j→l[i]? =some x→l[j]? =some y→x<y:=by
 intro l h;have hadj:∀(i:Nat) x y,l[i]? =some x→l[i+1]? =some y→x<y:=by
  intro i x y hx hy;simp only[xY,List.all_eq_true,decide_eq_true_eq]at h;exact h (x,y) (List.mem_of_getElem? (i:=i) (by rw[List.getElem?_zip_eq_some];exact⟨hx,by simpa using hy⟩))
 have hlt:∀(d i:Nat) x y,l[i]? =some x→l[i+d+1]? =some y→x<y:=by
  intro d;induction d with
  |zero=>intro i x y hx hy;exact hadj i x y hx (by simpa using hy)
  |succ d ih=>
   intro i x y hx hy;have hlt:=(List.getElem?_eq_some_iff.1 hy).1;have h1:=hadj i x l[i+1] hx (List.getElem?_eq_getElem (by omega))
   have h2:=ih (i+1) l[i+1] y (List.getElem?_eq_getElem (by omega)) (by rw[← hy];congr 1;omega)
   omega
 have hall:∀(i j:Nat) x y,i<j→l[i]? =some x→l[j]? =some y→x<y:=by
  intro i j x y hij hx hy;exact hlt (j - i - 1) i x y hx (by rw[← hy];congr 1;omega)
 refine⟨?_,hall⟩;rw[List.nodup_iff_pairwise_ne,List.pairwise_iff_getElem];intro i j hi hj hij he;have:=hall i j l[i] l[j] hij (List.getElem?_eq_getElem hi) (List.getElem?_eq_getElem hj);omega
end Go.L
namespace Go.L
open Go.AM
theorem HP{β:Type}(b ak j o n s:Nat)(i:Int)(k:Unit→Option β):(L9 b ak j o n s i).run.bind k=if 0≤i∧i<n then k ()else none:=by
 show(if 0≤i∧i<n then some ()else none).bind k=_
 split<;>rfl
theorem JX{X β:Type}(l:List X)(c:X→AVal)(b ak sz o:Nat)(k:X→Option β):(Rw l c b ak sz o).run.bind k=(l[o]?).bind k:=rfl
theorem JY{X β:Type}(l:List X)(c:X→AVal)(b ak sz o:Nat)(y:X)(k:Unit→Option β):(SL l c b ak sz o y).run.bind k=if o<l.length then k ()else none:=by
 show(if o<l.length then some ()else none).bind k=_
 split<;>rfl
def mc:ByteArray:=⟨⟨[115,101,103,109,101,110,116,115]⟩⟩
def GW(f:aG)(i:Nat)(x:bq):Int:=
 if((x.Leaves.length:Int)==0)=true then 3 else if((x.aR.length:Int)==0)=true then 3
 else if(x.Leaves.any fun n=> !(decide (0≤n)&&decide (n<f.Leaves)))=true then 2 else if(x.aR.any fun n=> !(decide (0≤n)&&decide (n<(f.aR.length:Int))))=true then 2
 else if(!xY x.Leaves)=true then 10 else if(!xY x.aR)=true then 10
 else if(x.Leaves.any fun n=>decide (32<(((f.aH.take i).countP fun s=>s.Leaves.contains n:Nat):Int)+1))=true then 7 else 0
theorem JZ{α τ γ ST:Type}{f:ST→Option (ST⊕τ)}{s0:ST}(mk:Nat→ST)(l:List α)(E:Nat→α→Int){k:τ→Option γ}(bad:Nat→Int→Option γ)(fin:Option γ){n:Nat}(h0:s0=mk 0)(hn:l.length<n)
 (hb:∀(i:Nat) x,l[i]? =some x→(∀(j:Nat) y,j<i→l[j]? =some y→E j y=0)→E i x≠0→∃t,f (mk i)=some (.inr t)∧k t=bad i (E i x))
 (hg:∀(i:Nat) x,l[i]? =some x→(∀(j:Nat) y,j<i→l[j]? =some y→E j y=0)→E i x=0→f (mk i)=some (.inl (mk (i+1))))
 (he:(∀(j:Nat) y,l[j]? =some y→E j y=0)→∃t,f (mk l.length)=some (.inr t)∧k t=fin):
 (cG f n s0).bind k=(match bZ E 0 l with |none=>fin |some (e,i)=>bad i e):=by
 subst h0;exact AE mk l E bad fin hn hb hg he
theorem Oc{γ:Type}{n:Nat}(L ports:List Int)(i:Int)(hn:L.length<n)(hp:ports.length=32)(h0:∀x∈L,0≤x∧x<32)(hd:L.Nodup)(hs:L.length≤4000)(hv:∀v∈ports,0≤v∧v≤1000)
 {k:(List Int×Int×ByteArray×Int)⊕List Int→Option γ} {bad fin:Option γ} (hbad:∀p,k (.inl (p,7,mc,i))=bad) (hfin:k (.inr (jj ports L))=fin)
 {f:Int×List Int→Option ((Int×List Int)⊕((List Int×Int×ByteArray×Int)⊕List Int))}
 (hf:∀a,f a=if decide (a.1<(L.length:Int))=true then(jd L a.1).bind fun x=>if 0≤x∧x<(32:Nat)then(a.2[0+x.toNat*1]?).bind fun v=>if 0≤x∧x<(32:Nat)then if 0+x.toNat*1<a.2.length then if 0≤x∧x<(32:Nat)then((a.2.set (0+x.toNat*1) (Go.IntKind.wrap .i64 (v+1)))[0+x.toNat*1]?).bind fun w=>
  if decide (32<w)=true then some (.inr (.inl (a.2.set (0+x.toNat*1) (Go.IntKind.wrap .i64 (v+1)),7,mc,i)))else some (.inl (Go.IntKind.wrap .i64 (a.1+1),a.2.set (0+x.toNat*1) (Go.IntKind.wrap .i64 (v+1))))else none else none else none else none
  else some (.inr (.inr a.2))):
 (cG f n (0,ports)).bind k=if(L.any fun x=>decide (32<ports[x.toNat]?.getD 0+1))=true then bad else fin:=by
 have step:∀(j:Nat) x,L[j]? =some x→∃v,ports[x.toNat]? =some v∧f ((j:Int),jj ports (L.take j))=if decide (32<v+1)=true then some (.inr (.inl (jj ports (L.take (j+1)),7,mc,i)))else some (.inl (((j+1:Nat):Int),jj ports (L.take (j+1)))):=by
  intro j x hx;have hj:=(List.getElem?_eq_some_iff.1 hx).1;have hx0:=h0 x (List.mem_of_getElem? hx);have hlt:x.toNat<ports.length:=by omega
  refine⟨ports[x.toNat],List.getElem?_eq_getElem hlt,?_⟩;have hvv:=hv ports[x.toNat] (List.getElem_mem hlt);have htake:L.take (j+1)=L.take j++[x]:=by rw[List.take_add_one,hx];rfl
  have hnot:¬((x.toNat:Nat):Int)∈L.take j:=by
   intro hm;rw[show((x.toNat:Nat):Int)=x by omega]at hm
   obtain⟨q,hq⟩:=List.getElem?_of_mem hm;have hq2:=(List.getElem?_eq_some_iff.1 hq).1;simp only[List.length_take]at hq2;rw[List.getElem?_take,if_pos (by omega)]at hq
   have:=List.nodup_iff_pairwise_ne.1 hd;rw[List.pairwise_iff_getElem]at this;have hne:=this q j (by omega) hj (by omega)
   rw[List.getElem?_eq_getElem (by omega)]at hq hx
   simp only[Option.some.injEq]at hq hx;exact hne (hq.trans hx.symm)
  have hB:(jj ports (L.take j))[x.toNat]? =some ports[x.toNat]:=by
   rw[Dl _ _ _ (fun y hy=>(h0 y (List.mem_of_mem_take hy)).1) (hd.sublist (List.take_sublist _ _)),List.getElem?_eq_getElem hlt]
   simp only[Option.map_some,if_neg hnot]
  have hBl:(jj ports (L.take j)).length=32:=by rw[HO,hp]
  have hset:(jj ports (L.take j)).set x.toNat (ports[x.toNat]+1)=jj ports (L.take (j+1)):=by
   rw[htake,Ge,hB];rfl
  have hw:Go.IntKind.wrap .i64 (ports[x.toNat]+1)=ports[x.toNat]+1:=wrap_i64 (by omega) (by omega)
  rw[hf];have hlt2:(j:Int)<(L.length:Int):=by omega
  have hx1:(0:Int)≤x∧x<((32:Nat):Int):=by omega
  simp only[hlt2,decide_true,if_true,cK,hx,Option.bind_some,hx1,and_self,Nat.zero_add,Nat.mul_one,hB,hw,hset];rw[if_pos (by rw[hBl];omega)]
  have hget:(jj ports (L.take (j+1)))[x.toNat]? =some (ports[x.toNat]+1):=by
   rw[← hset,List.getElem?_set_self (by rw[hBl];omega)]
  simp only[hget,Option.bind_some,fk (show j<9223372036854775807 by omega)]
 have main:=AE (f:=f) (fun j=>((j:Int),jj ports (L.take j))) L (fun _ x=>if 32<ports[x.toNat]?.getD 0+1 then 7 else 0) (k:=k) (fun _ _=>bad) fin hn ?_ ?_ ?_
 ·have e:(match bZ (fun _ x=>if 32<ports[x.toNat]?.getD 0+1 then(7:Int)else 0) 0 L with |none=>fin |some (_,_)=>bad)=if(L.any fun x=>decide (32<ports[x.toNat]?.getD 0+1))=true then bad else fin:=by
   have key:∀(L:List Int) (j:Nat),(match bZ (fun _ x=>if 32<ports[x.toNat]?.getD 0+1 then(7:Int)else 0) j L with |none=>fin |some (_,_)=>bad)=if(L.any fun x=>decide (32<ports[x.toNat]?.getD 0+1))=true then bad else fin:=by
    intro L;induction L with
    |nil=>intro j;rfl
    |cons x xs ih=>
     intro j;simp only[bZ,List.any_cons];by_cases h:32<ports[x.toNat]?.getD 0+1
     ·simp[h]
     ·simp only[h,if_false,ne_eq,not_true_eq_false,decide_false,Bool.false_or];exact ih (j+1)
   exact key L 0
  rw[← e];exact main
 ·intro j x hx _ hE;obtain⟨v,h1,h2⟩:=step j x hx;have:32<v+1:=by
   rw[h1]at hE;simp only[Option.getD_some]at hE;by_cases h:32<v+1
   ·exact h
   ·simp[h]at hE
  refine⟨_,by rw[h2];simp only[this,decide_true,if_true];rfl,hbad _⟩
 ·intro j x hx _ hE;obtain⟨v,h1,h2⟩:=step j x hx;have:¬32<v+1:=by
   rw[h1]at hE;simp only[Option.getD_some]at hE;intro h;simp[h]at hE
  rw[h2];simp only[this,decide_false,Bool.false_eq_true,if_false]
 ·intro _;refine⟨.inr (jj ports L),?_,hfin⟩;rw[hf];simp
theorem J1{n:Nat}(L ports:List Int)(i:Int)(hn:L.length<n)(hp:ports.length=32)(h0:∀x∈L,0≤x∧x<32)(hd:L.Nodup)(hs:L.length≤4000)(hv:∀v∈ports,0≤v∧v≤1000)
 {f:Int×List Int→Option ((Int×List Int)⊕((List Int×Int×ByteArray×Int)⊕List Int))}
 (hf:∀a,f a=if decide (a.1<(L.length:Int))=true then(jd L a.1).bind fun x=>if 0≤x∧x<(32:Nat)then(a.2[0+x.toNat*1]?).bind fun v=>if 0≤x∧x<(32:Nat)then if 0+x.toNat*1<a.2.length then if 0≤x∧x<(32:Nat)then((a.2.set (0+x.toNat*1) (Go.IntKind.wrap .i64 (v+1)))[0+x.toNat*1]?).bind fun w=>
  if decide (32<w)=true then some (.inr (.inl (a.2.set (0+x.toNat*1) (Go.IntKind.wrap .i64 (v+1)),7,mc,i)))else some (.inl (Go.IntKind.wrap .i64 (a.1+1),a.2.set (0+x.toNat*1) (Go.IntKind.wrap .i64 (v+1))))else none else none else none else none
  else some (.inr (.inr a.2))):
 ∃p,cG f n (0,ports)=some (if(L.any fun x=>decide (32<ports[x.toNat]?.getD 0+1))=true then .inl (p,7,mc,i)else .inr (jj ports L)):=by
 have main:=Oc L ports i hn hp h0 hd hs hv (k:=fun t=>some (match t with | .inl q=>(Sum.inl q.2:(Int×ByteArray×Int)⊕List Int) | .inr q=>.inr q)) (bad:=some (.inl (7,mc,i))) (fin:=some (.inr (jj ports L))) (fun p=>rfl) rfl hf
 cases hany:(L.any fun x=>decide (32<ports[x.toNat]?.getD 0+1))with
 |true=>
  rw[hany]at main;cases hit:cG f n (0,ports)with
  |none=>rw[hit]at main;simp at main
  |some t=>
   rw[hit]at main;cases t with
   |inl q=>
    obtain⟨p,q⟩:=q;refine⟨p,?_⟩;simp at main;rw[main];rfl
   |inr q=>simp at main
 |false=>
  rw[hany]at main;cases hit:cG f n (0,ports)with
  |none=>rw[hit]at main;simp at main
  |some t=>
   rw[hit]at main;cases t with
   |inl q=>simp at main
   |inr q=>
    refine⟨[],?_⟩;simp at main;rw[main];rfl
theorem J2{n:Nat}{γ ST τ:Type}(L ports:List Int)(i:Int)(hn:L.length<n)(hp:ports.length=32)(h0:∀x∈L,0≤x∧x<32)(hd:L.Nodup)(hs:L.length≤4000)(hv:∀v∈ports,0≤v∧v≤1000)
 {f:Int×List Int→Option ((Int×List Int)⊕((List Int×Int×ByteArray×Int)⊕List Int))}
 (hf:∀a,f a=if decide (a.1<(L.length:Int))=true then(jd L a.1).bind fun x=>if 0≤x∧x<(32:Nat)then(a.2[0+x.toNat*1]?).bind fun v=>if 0≤x∧x<(32:Nat)then if 0+x.toNat*1<a.2.length then if 0≤x∧x<(32:Nat)then((a.2.set (0+x.toNat*1) (Go.IntKind.wrap .i64 (v+1)))[0+x.toNat*1]?).bind fun w=>
  if decide (32<w)=true then some (.inr (.inl (a.2.set (0+x.toNat*1) (Go.IntKind.wrap .i64 (v+1)),7,mc,i)))else some (.inl (Go.IntKind.wrap .i64 (a.1+1),a.2.set (0+x.toNat*1) (Go.IntKind.wrap .i64 (v+1))))else none else none else none else none
  else some (.inr (.inr a.2))) {k:(List Int×Int×ByteArray×Int)⊕List Int→Option (ST⊕τ)} {A:ST} {kk:τ→Option γ} {B:Option γ} {Ev:Int}
 (hEv:Ev=if(L.any fun x=>decide (32<ports[x.toNat]?.getD 0+1))=true then 7 else 0) (hk1:Ev=7→∀p,∃t,k (.inl (p,7,mc,i))=some (.inr t)∧kk t=B) (hk2:k (.inr (jj ports L))=some (.inl A)):
 (Ev=0∧(cG f n (0,ports)).bind k=some (.inl A))∨(Ev≠0∧∃t,(cG f n (0,ports)).bind k=some (.inr t)∧kk t=B):=by
 obtain⟨p,hit⟩:=J1 L ports i hn hp h0 hd hs hv hf;rw[hit];cases hany:(L.any fun x=>decide (32<ports[x.toNat]?.getD 0+1))with
 |true=>
  rw[hany]at hEv;right;refine⟨by rw[hEv];decide,?_⟩
  simp only[if_true,Option.bind_some];exact hk1 (by rw[hEv];rfl) p
 |false=>
  rw[hany]at hEv;left;refine⟨by rw[hEv];rfl,?_⟩
  simp only[Bool.false_eq_true,if_false,Option.bind_some];exact hk2
theorem KL{α τ γ ST:Type}{f:ST→Option (ST⊕τ)}{s0:ST}(mk:Nat→ST)(l:List α)(E:Nat→α→Int){k:τ→Option γ}(bad:Nat→Int→Option γ)(fin:Option γ){n:Nat}(h0:s0=mk 0)(hn:l.length<n)
 (hr:∀(i:Nat) x,l[i]? =some x→(∀(j:Nat) y,j<i→l[j]? =some y→E j y=0)→(E i x=0∧f (mk i)=some (.inl (mk (i+1))))∨(E i x≠0∧∃t,f (mk i)=some (.inr t)∧k t=bad i (E i x)))
 (he:(∀(j:Nat) y,l[j]? =some y→E j y=0)→∃t,f (mk l.length)=some (.inr t)∧k t=fin):
 (cG f n s0).bind k=(match bZ E 0 l with |none=>fin |some (e,i)=>bad i e):=by
 refine JZ mk l E bad fin h0 hn (fun i x hx hp hE=>?_) (fun i x hx hp hE=>?_) he
 ·rcases hr i x hx hp with⟨h,_⟩ |⟨_,h⟩
  ·exact absurd h hE
  ·exact h
 ·rcases hr i x hx hp with⟨_,h⟩ |⟨h,_⟩
  ·exact h
  ·exact absurd hE h
theorem KM(n:Nat)(f:aG)(hn:f.aH.length<n)(hL:f.Leaves≤32)(hB:f.aR.length≤4000)(hsn:∀s∈f.aH,(s.aR.length<n∧s.aR.length≤4000)∧s.Leaves.length<n∧s.Leaves.length≤4000):
 jU.S n ⟨f⟩=some (outcome mc 64 (decide (64<(f.aH.length:Int))) (bZ (GW f) 0 f.aH)):=by
 show(ng ⟨f⟩).run n=_;simp only[ng,G.run,aZ,cg,fG,Sum.elim,gt_iff_lt,decide_eq_true_eq];by_cases hfull:(64:Int)<f.aH.length
 ·simp[hfull,outcome];rfl
 ·simp only[hfull,if_false,decide_false];simp only[G.run,aZ,cg,if_true,dH,kM,iU,fG,Sum.elim,HP,JX,JY];refine Eq.trans (KL (fun i=>((i:Int),kJ (f.aH.take i))) f.aH (GW f) (fun i e=>some (.inr (e,mc,(i:Int)))) (some (.inl ())) (by simp[KK]) hn (fun i x hx hp=>?_) (fun hp=>?_)) ?_
  ·have hi:=(List.getElem?_eq_some_iff.1 hx).1;have hxm:=List.mem_of_getElem? hx;have hlt:(i:Int)<f.aH.length:=by omega
   simp only[hlt,if_true,cK,hx,Option.bind_some];rw[Gb n x.Leaves _ _ _ _ _ _ _ _ _ _ _ _ _ _ _ _ _ _ _ (hsn x hxm).2.1 (hsn x hxm).2.2];rw[Ij n x.aR _ _ _ _ _ _ _ _ _ _ _ _ _ _ _ _ _ _ _ (hsn x hxm).1.1 (hsn x hxm).1.2];simp only[G.run,aZ,cg,if_true,fG,Sum.elim];rw[zD n x.Leaves (hsn x hxm).2.1 (hsn x hxm).2.2,zD n x.aR (hsn x hxm).1.1 (hsn x hxm).1.2];simp only[G.run,aZ,cg,if_true,fG,Sum.elim,dH,HP,JX,JY,gt_iff_lt];unfold GW;cases hc1:((x.Leaves.length:Int)==0)
   case true=>exact .inr ⟨by simp,_,rfl,rfl⟩
   cases hc2:((x.aR.length:Int)==0)
   case true=>exact .inr ⟨by simp,_,rfl,rfl⟩
   cases hc3:(x.Leaves.any fun n=> !(decide (0≤n)&&decide (n<f.Leaves)))
   case true=>exact .inr ⟨by simp,_,rfl,rfl⟩
   cases hc4:(x.aR.any fun n=> !(decide (0≤n)&&decide (n<(f.aR.length:Int))))
   case true=>exact .inr ⟨by simp,_,rfl,rfl⟩
   cases hc5:xY x.Leaves
   case false=>exact .inr ⟨by simp,_,rfl,rfl⟩
   cases hc6:xY x.aR
   case false=>exact .inr ⟨by simp,_,rfl,rfl⟩
   simp only[Bool.not_true,Bool.false_eq_true,if_false];have hrange:∀y∈x.Leaves,0≤y∧y<32:=by
    intro y hy;rw[List.any_eq_false]at hc3;have:=hc3 y hy;simp at this;omega
   obtain⟨hnd,_⟩:=MF x.Leaves hc5;have hcnt:∀v∈kJ (f.aH.take i),0≤v∧v≤1000:=by
    intro v hv;simp only[kJ,List.mem_map,List.mem_range]at hv;obtain⟨m,_,rfl⟩:=hv;have:=List.countP_le_length (p:=fun s:bq=>s.Leaves.contains (m:Int)) (l:=f.aH.take i)
    simp only[List.length_take]at this;omega
   refine J2 x.Leaves (kJ (f.aH.take i)) (i:Int) (hsn x hxm).2.1 (AF _) hrange hnd (hsn x hxm).2.2 hcnt (fun a=>rfl) ?_ (fun h7 p=>⟨_,rfl,by rw[h7];rfl⟩) ?_
   ·have:(x.Leaves.any fun n=>decide (32<(((f.aH.take i).countP fun s=>s.Leaves.contains n:Nat):Int)+1))=x.Leaves.any fun y=>decide (32<(kJ (f.aH.take i))[y.toNat]?.getD 0+1):=by
     apply Bool.eq_iff_iff.2;simp only[List.any_eq_true];constructor
     ·rintro⟨y,hy,h⟩;have hr:=hrange y hy;refine⟨y,hy,?_⟩;rw[xw _ (by omega),show((y.toNat:Nat):Int)=y by omega]
      exact h
     ·rintro⟨y,hy,h⟩;have hr:=hrange y hy;refine⟨y,hy,?_⟩;rw[xw _ (by omega),show((y.toNat:Nat):Int)=y by omega]at h
      exact h
    rw[this]
   ·have htake:f.aH.take (i+1)=f.aH.take i++[x]:=by rw[List.take_add_one,hx];rfl
    have e:jj (kJ (f.aH.take i)) x.Leaves=kJ (f.aH.take (i+1)):=by rw[htake];exact JW _ _ (fun y hy=>(hrange y hy).1) hnd
    rw[e];have hw:=fk (show i<9223372036854775807 by omega)
    show some (Sum.inl (Go.IntKind.wrap .i64 ((i:Int)+1),kJ (f.aH.take (i+1))))=_;rw[hw]
  ·refine⟨.inr (kJ f.aH),?_,rfl⟩;simp
  ·cases bZ (GW f) 0 f.aH<;>rfl
end Go.L
namespace Go.L
open Go.AM
structure Small(f:aG):Prop where
 links:f.Links.length≤4000
 uV:f.bf.length≤4000
 sA:f.aR.length≤4000
 segments:f.aH.length≤4000
 IB:f.Hosts.length≤4000
 leaks:f.Leaks.length≤4000
 seg:∀s∈f.aH,s.Leaves.length≤4000∧s.aR.length≤4000
abbrev Gf:=Unit⊕(Int×ByteArray×Int)
def wM(f:aG):Gf:=if uT f=true then .inr (2,Ln,0)else .inl ()
def Bh(f:aG):Gf:=if xK f.cw=true then .inr (2,Lo,0)else .inl ()
def Gg(f:aG):Gf:=outcome JQ 128 (decide (128<(f.Links.length:Int))) (bZ (DV f (bH (fun x:cV=>(⟨x.A,x.B⟩:V2 Int)) [] f.Links)) 0 f.Links)
def Cc(f:aG):Gf:=outcome E0 16 (decide (16<(f.bf.length:Int))) (bZ (yK (bH (fun x:au=>x.dM) [] f.bf) (bH (fun x:au=>x.Target) [] f.bf)) 0 f.bf)
def zF(f:aG):Gf:=outcome E2 32 (decide (32<(f.aR.length:Int))) (bZ (E3 f (bH (fun x:BD=>x.dM) [] f.aR) (bH (fun x:BD=>x.Target) [] f.aR)) 0 f.aR)
def Ad(f:aG):Gf:=outcome mc 64 (decide (64<(f.aH.length:Int))) (bZ (GW f) 0 f.aH)
def Gi(f:aG):Gf:=outcome JV 128 (decide (128<(f.Hosts.length:Int))) (bZ (DY f (bH (fun x:Host=>(⟨x.BD,x.bO⟩:aN)) [] f.Hosts) (bH (fun x:Host=>(⟨x.BD,Go.IntKind.wrap .u64 x.IP⟩:aN)) [] f.Hosts)) 0 f.Hosts)
def Gj(f:aG):Gf:=outcome JU 256 (decide (256<(f.Leaks.length:Int))) (bZ (DW f (bH (fun x:bP=>x) [] f.Leaks)) 0 f.Leaks)
def yD(a:Gf)(b:Int×ByteArray×Int):Int×ByteArray×Int:=match a with
 | .inl _=>b
 | .inr t=>t
def Bi(f:aG):Int×ByteArray×Int:=
 yD (wM f)<|yD (Bh f)<|yD (Gg f)<|yD (Cc f)<|yD (zF f)<|yD (Ad f)<|yD (Gi f)<|yD (Gj f) (0,⟨⟨[]⟩⟩,0)
theorem Gk{p:ByteArray}{m:Int}{b:Bool}{r:Option (Int×Nat)}{u:Unit}(h:outcome p m b r=.inl u):b=false∧r=none:=by
 unfold outcome at h;split at h
 ·cases h
 ·rename_i hb;split at h
  ·exact⟨by simpa using hb,rfl⟩
  ·cases h
theorem RS{f:aG}{u:Unit}(h:zF f=.inl u):∀b∈f.aR,b.aS≠0→nX b.bt=true:=by
 intro b hb hg;have:=(Gk h).2;rw[uv]at this;obtain⟨i,hi⟩:=List.getElem?_of_mem hb;have:=this i b hi;have hg':(b.aS==0)=false:=by simpa using hg
 have hcl:qQ b.bt=true:=by
  cases hc:qQ b.bt with
  |true=>rfl
  |false=>
   unfold E3 at this;simp only[hg',hc,Bool.not_false,if_true,Bool.false_eq_true,if_false]at this
   repeat' split at this
   all_goals cases this
 simp only[qQ,Bool.and_eq_true]at hcl;exact hcl.1
theorem Od{f:aG}{u:Unit}(h:wM f=.inl u):1≤f.Leaves∧f.Leaves≤32∧0≤f.ij∧f.ij≤32:=by
 unfold wM at h;split at h
 ·cases h
 ·rename_i hb;simp only[uT,out,Bool.not_eq_true,Bool.or_eq_false_iff,decide_eq_false_iff_not]at hb;omega
theorem J3{β:Type}(n:Nat)(hn:5000≤n)(f:aG)(hs:Small f)(k:gm.sh.El→Option β):(gm.S n f).bind k=k (Bi f):=by
 have b1:∀{γ:Type} (k:kS.sh.El→Option γ),(kS.S n ⟨f⟩).bind k=k (wM f):=fun k=>by rw[N9];rfl
 have b2:∀{γ:Type} (k:kT.sh.El→Option γ),(kT.S n ⟨f⟩).bind k=k (Bh f):=fun k=>by rw[Oa];rfl
 have b3:∀{γ:Type} (k:lI.sh.El→Option γ),(lI.S n ⟨f⟩).bind k=k (Gg f):=fun k=>by rw[PD n f (by have:=hs.links;omega) (by omega)];rfl
 have b4:∀{γ:Type} (k:kA.sh.El→Option γ),(kA.S n ⟨f⟩).bind k=k (Cc f):=fun k=>by rw[MC n f (by have:=hs.uV;omega)];rfl
 have b5:∀{γ:Type} (k:kD.sh.El→Option γ),(kD.S n ⟨f⟩).bind k=k (zF f):=fun k=>by rw[ME n f (by have:=hs.sA;omega) (by have:=hs.uV;omega) hs.uV];rfl
 have b8:∀{γ:Type} (k:lK.sh.El→Option γ),(lK.S n ⟨f⟩).bind k=k (Gj f):=fun k=>by rw[PG n f (by have:=hs.leaks;omega)];rfl
 have hseg:∀s∈f.aH,(s.aR.length<n∧s.aR.length≤4000)∧s.Leaves.length<n∧s.Leaves.length≤4000:=fun s h=>by
  have:=hs.seg s h;omega
 have:gm.S n f=some (Bi f):=by
  show(wD f).run n=_;have b0:∀{γ:Type} (k:vu.sh.El→Option γ),(vu.S n ()).bind k=k ():=fun k=>rfl
  simp only[wD,G.run,aZ,b0,b1];unfold Bi;cases h1:wM f with
  |inr t=>rfl
  |inl u=>
   simp only[Sum.elim,G.run,b2];cases h2:Bh f with
   |inr t=>rfl
   |inl u=>
    simp only[Sum.elim,G.run,b3];cases h3:Gg f with
    |inr t=>rfl
    |inl u=>
     simp only[Sum.elim,G.run,b4];cases h4:Cc f with
     |inr t=>rfl
     |inl u=>
      simp only[Sum.elim,G.run,b5];cases h5:zF f with
      |inr t=>rfl
      |inl u=>
       have b6:∀{γ:Type} (k:jU.sh.El→Option γ),(jU.S n ⟨f⟩).bind k=k (Ad f):=fun k=>by rw[KM n f (by have:=hs.segments;omega) (Od h1).2.1 hs.sA hseg];rfl
       simp only[Sum.elim,G.run,b6];cases h6:Ad f with
       |inr t=>rfl
       |inl u=>
        have hle:f.aH.length≤64:=by
         have:=(Gk h6).1;simp only[decide_eq_false_iff_not]at this;omega
        have b7:∀{γ:Type} (k:lJ.sh.El→Option γ),(lJ.S n ⟨f⟩).bind k=k (Gi f):=fun k=>by rw[PI n f (by have:=hs.IB;omega) hle (fun s h=>(hseg s h).1) (RS h5)];rfl
        simp only[Sum.elim,G.run,b7];cases h7:Gi f with
        |inr t=>rfl
        |inl u=>
         simp only[Sum.elim,G.run,b8];cases h8:Gj f with
         |inr t=>rfl
         |inl u=>rfl
 rw[this];rfl
end Go.L
end
section
namespace Go.L
open Go.AM
def Good{γ:Type}(o:Option γ)(Q:γ→Prop):Prop:=∃v,o=some v∧Q v
theorem Good.bind{γ δ:Type}{o:Option γ}{Q:γ→Prop}{k:γ→Option δ}{R:δ→Prop}(h:Good o Q)(hk:∀v,Q v→Good (k v) R):Good (o.bind k) R:=by
 obtain⟨v,rfl,hv⟩:=h;exact hk v hv
theorem Good.mono{γ:Type}{o:Option γ}{Q R:γ→Prop}(h:Good o Q)(hk:∀v,Q v→R v):Good o R:=by
 obtain⟨v,e,hv⟩:=h;exact⟨v,e,hk v hv⟩
theorem Good.some{γ:Type}{v:γ}{Q:γ→Prop}(h:Q v):Good (some v) Q:=⟨v,rfl,h⟩
theorem oG{ST τ:Type}{f:ST→Option (ST⊕τ)}{Q:τ→Prop}(I:Nat→ST→Prop)(N:Nat)
 (hf:∀j s,j<N→I j s→Good (f s) fun r=>match r with | .inl s'=>I (j+1) s' | .inr t=>Q t)
 (he:∀s,I N s→Good (f s) fun r=>match r with | .inl _=>False | .inr t=>Q t) {n:Nat} (hn:N<n) {s0:ST} (h0:I 0 s0):Good (cG f n s0) Q:=by
 have key:∀(k j n:Nat) (s:ST),j+k=N→k<n→I j s→Good (cG f n s) Q:=by
  intro k;induction k with
  |zero=>
   intro j n s hj hn hs;obtain⟨n,rfl⟩:∃m,n=m+1:=⟨n - 1,by omega⟩
   have:j=N:=by omega
   subst this;obtain⟨r,hr,h⟩:=he s hs;cases r with
   |inl s'=>exact h.elim
   |inr t=>exact⟨t,by simp only[cG,hr],h⟩
  |succ k ih=>
   intro j n s hj hn hs;obtain⟨n,rfl⟩:∃m,n=m+1:=⟨n - 1,by omega⟩
   obtain⟨r,hr,h⟩:=hf j s (by omega) hs
   cases r with
   |inl s'=>
    obtain⟨t,ht,hq⟩:=ih (j+1) n s' (by omega) (by omega) h
    exact⟨t,by simp only[cG,hr];exact ht,hq⟩
   |inr t=>exact⟨t,by simp only[cG,hr],h⟩
 exact key N 0 n s0 (by omega) hn h0
def vL(c:Int)(x:ay):Prop:=0≤x.at_∧x.at_≤c
end Go.L
namespace Go.L
open Go.AM
theorem QY(n:Nat)(x k:Int)(hk:0<k)(hk2:k≤4000000000000000000):Ab.S n (x,k)=some (x % k):=by
 show(Dc x k).run n=_;have h1:¬k≤0:=by omega
 have h2:k≠0:=by omega
 simp only[Dc,G.run,aZ,BL,GG,decide_eq_true_eq,h1,if_false,h2,ne_eq,not_false_eq_true,decide_true,if_true,Option.bind_some,NI hk hk2,NH hk]<;>rfl
section
variable {n:Nat}
theorem cO(x:ay)(m c:Int)(hx:vL c x)(hc:c≤1000000)(h1:1≤m)(h2:m≤1000000):
 Good (γ:=Int×ay) (bp.S n (x,m)) fun r=>0≤r.1∧r.1<m∧vL (c+1) r.2:=by
 obtain⟨ha,hb⟩:=hx;show Good (γ:=Int×ay) ((uG x m).run n) _;have w1:Go.IntKind.wrap .i64 (x.at_+1)=x.at_+1:=wrap_i64 (by omega) (by omega)
 have w2:Go.IntKind.wrap .i64 (x.at_+1 - 1)=x.at_:=by rw[wrap_i64 (by omega) (by omega)];omega
 have eM:∀{γ:Type} (a:Int) (k:Ab.sh.El→Option γ),(Ab.S n (a,m)).bind k=k (a % m):=fun a k=>by rw[QY n a m (by omega) (by omega)];rfl
 simp only[uG,G.run,aZ,cg,dH,w1,w2,eM,if_true,decide_eq_true_eq];by_cases h:x.at_≥(x.l.length:Int)
 ·rw[if_pos h];exact .some ⟨by show(0:Int)≤0;omega,by show(0:Int)<m;omega,ha,by show x.at_≤c+1;omega⟩
 ·rw[if_neg h];obtain⟨i,hi⟩:∃i:Nat,x.at_=(i:Int):=⟨x.at_.toNat,by omega⟩
  have hlt:i<x.l.length:=by omega
  rw[hi,cK,List.getElem?_eq_getElem hlt,Option.bind_some];exact .some ⟨Int.emod_nonneg _ (by omega),Int.emod_lt_of_pos _ (by omega),by show(0:Int)≤(i:Int)+1;omega,by show(i:Int)+1≤c+1;omega⟩
end
end Go.L
namespace Go.L
open Go.AM
def MG(L S:Int)(x:cV):Prop:=0≤x.A∧x.A<L∧L≤x.B∧x.B<L+S∧1≤x.CV∧x.CV≤2
def Cd(x:cV):V2 Int:=⟨x.A,x.B⟩
def J4(L S:Int)(l:List cV):Prop:=l.length≤32∧(∀x∈l,MG L S x)∧(l.map Cd).Nodup
def qR(L S j i:Int)(l:List cV):Prop:=(∀x∈l,MG L S x∧(x.A<j∨x.A=j∧x.B<L+i))∧(l.map Cd).Nodup
theorem KN{L S j i c:Int}{l:List cV}(h:qR L S j i l)(hj:0≤j∧j<L)(hi:0≤i∧i<S)(hc:1≤c∧c≤2):qR L S j (i+1) (l++[⟨j,L+i,c⟩]):=by
 refine⟨fun x hx=>?_,?_⟩
 ·rcases List.mem_append.1 hx with hx |hx
  ·obtain⟨h1,h2⟩:=h.1 x hx;exact⟨h1,by omega⟩
  ·simp only[List.mem_singleton]at hx;subst hx;refine⟨⟨?_,?_,?_,?_,?_,?_⟩,.inr ⟨rfl,?_⟩⟩<;>simp only<;>omega
 ·rw[List.map_append,List.nodup_append];refine⟨h.2,by simp,?_⟩
  intro a ha b hb;simp only[List.map_cons,List.map_nil,List.mem_singleton]at hb;subst hb;obtain⟨x,hx,rfl⟩:=List.mem_map.1 ha;obtain⟨h1,h2⟩:=h.1 x hx;intro e;simp only[Cd,V2.mk.injEq]at e;omega
theorem KO{L S j i:Int}{l:List cV}(h:qR L S j i l):qR L S j (i+1) l:=
 ⟨fun x hx=>⟨(h.1 x hx).1,by have:=(h.1 x hx).2;omega⟩,h.2⟩
theorem MH{L S j:Int}{i:Int}{l:List cV}(h:qR L S j i l)(hi:S≤i):qR L S (j+1) 0 l:=
 ⟨fun x hx=>⟨(h.1 x hx).1,by have:=(h.1 x hx).2;have:=(h.1 x hx).1;unfold MG at this;omega⟩,h.2⟩
section
variable {n:Nat}
theorem KP(x:ay)(L S c:Int)(hx:vL c x)(hc:c≤100000)(hL:0≤L∧L≤8)(hS:0≤S∧S≤4)(hn:5000≤n):
 Good (γ:=List cV×ay) (Ez.S n (x,L,S)) fun r=>J4 L S r.1∧vL (c+64) r.2:=by
 show Good (γ:=List cV×ay) ((AD x L S).run n) _;simp only[AD,G.run,aZ,xE,if_true,decide_eq_true_eq];refine Good.bind (γ:=List Int×Int×List cV) (Q:=fun t=>J4 L S t.2.2∧0≤t.2.1∧t.2.1≤c+64) ?_ (fun t ht=>?_)
 ·refine oG (fun j (s:Int×List Int×Int×List cV)=>s.1=(j:Int)∧0≤s.2.2.1∧s.2.2.1≤c+8*(j:Int)∧(s.2.2.2.length:Int)≤4*(j:Int)∧qR L S (j:Int) 0 s.2.2.2) L.toNat (fun j s hj hs=>?_) (fun s hs=>?_) (by omega) ⟨rfl,hx.1,by have:=hx.2;simp;omega,by simp,by simp[qR]⟩
  ·obtain⟨h1,h2,h3,h4,h5⟩:=hs;have hlt:s.1<L:=by omega
   simp only[hlt,if_true];refine Good.bind (γ:=List Int×Int×List cV) (Q:=fun t=>0≤t.2.1∧t.2.1≤c+8*((j:Int)+1)∧(t.2.2.length:Int)≤4*((j:Int)+1)∧qR L S ((j:Int)+1) 0 t.2.2) ?_ (fun t ht=>?_)
   ·refine oG (fun i (q:Int×List Int×Int×List cV)=>q.1=(i:Int)∧0≤q.2.2.1∧q.2.2.1≤c+8*(j:Int)+2*(i:Int)∧(q.2.2.2.length:Int)≤4*(j:Int)+(i:Int)∧qR L S (j:Int) (i:Int) q.2.2.2) S.toNat (fun i q hi hq=>?_) (fun q hq=>?_) (by omega) ⟨rfl,h2,by simp;omega,by simp;omega,h5⟩
    ·obtain⟨g1,g2,g3,g4,g5⟩:=hq;have hlt:q.1<S:=by omega
     simp only[hlt,if_true];refine Good.bind (cO _ 8 (c+8*(j:Int)+2*(i:Int)) ⟨g2,g3⟩ (by omega) (by decide) (by decide)) (fun r hr=>?_)
     obtain⟨r1,r2,r3⟩:=hr;by_cases h7:(r.1 != 7)=true
     ·simp only[h7,if_true];refine Good.bind (cO r.2 2 (c+8*(j:Int)+2*(i:Int)+1) r3 (by omega) (by decide) (by decide)) (fun r' hr'=>?_)
      obtain⟨s1,s2,s3⟩:=hr';obtain⟨s3,s4⟩:=s3;have w:Go.IntKind.wrap .i64 (q.1+1)=q.1+1:=wrap_i64 (by omega) (by omega)
      have w2:Go.IntKind.wrap .i64 (L+q.1)=L+q.1:=wrap_i64 (by omega) (by omega)
      have w3:Go.IntKind.wrap .i64 (1+r'.1)=1+r'.1:=wrap_i64 (by omega) (by omega)
      have hroom:roomy (q.2.2.2.length+1) 24=true:=by simp[roomy];omega
      rw[if_pos ⟨trivial,hroom⟩,w,w2,w3];have hsn:qR L S (j:Int) ((i:Int)+1) (q.2.2.2++[⟨(j:Int),L+(i:Int),1+r'.1⟩]):=KN g5 ⟨by omega,by omega⟩ ⟨by omega,by omega⟩ ⟨by omega,by omega⟩
      refine .some ⟨?_,?_,?_,?_,?_⟩
      ·show q.1+1=((i+1:Nat):Int);omega
      ·omega
      ·show r'.2.at_≤c+8*(j:Int)+2*((i+1:Nat):Int);omega
      ·simp only[List.length_append,List.length_cons,List.length_nil];omega
      ·show qR L S (j:Int) ((i+1:Nat):Int) (q.2.2.2++[⟨s.1,L+q.1,1+r'.1⟩]);rw[h1,g1];exact hsn
     ·simp only[h7,Bool.false_eq_true,if_false];obtain⟨s3,s4⟩:=r3;have w:Go.IntKind.wrap .i64 (q.1+1)=q.1+1:=wrap_i64 (by omega) (by omega)
      rw[w];exact .some ⟨by show q.1+1=((i+1:Nat):Int);omega,s3,by show r.2.at_≤c+8*(j:Int)+2*((i+1:Nat):Int);omega,by show(q.2.2.2.length:Int)≤4*(j:Int)+((i+1:Nat):Int);omega,KO g5⟩
    ·obtain⟨g1,g2,g3,g4,g5⟩:=hq;have hlt:¬q.1<S:=by omega
     simp only[hlt,if_false];exact .some ⟨g2,by show q.2.2.1≤c+8*((j:Int)+1);omega,by show(q.2.2.2.length:Int)≤4*((j:Int)+1);omega,MH g5 (by omega)⟩
   ·obtain⟨t1,t2,t3,t4⟩:=ht;have w:Go.IntKind.wrap .i64 (s.1+1)=s.1+1:=wrap_i64 (by omega) (by omega)
    rw[w];exact .some ⟨by show s.1+1=((j+1:Nat):Int);omega,t1,by show t.2.1≤c+8*((j+1:Nat):Int);omega,by show(t.2.2.length:Int)≤4*((j+1:Nat):Int);omega,t4⟩
  ·obtain⟨h1,h2,h3,h4,h5⟩:=hs;have hlt:¬s.1<L:=by omega
   simp only[hlt,if_false];exact .some ⟨⟨by show s.2.2.2.length≤32;omega,fun x hx=>(h5.1 x hx).1,h5.2⟩,h2,by show s.2.2.1≤c+64;omega⟩
 ·obtain⟨h1,h2,h3⟩:=ht;simp[eR];refine .some ⟨h1,h2,h3⟩
def Dm(l:List Int):Prop:=l.Pairwise (· < ·)
theorem PJ{l:List Int}{y:Int}(h:Dm l)(hy:∀x∈l,x<y):Dm (l++[y]):=by
 unfold Dm at*;rw[List.pairwise_append];exact⟨h,by simp,fun a ha b hb=>by simp only[List.mem_singleton]at hb;subst hb;exact hy a ha⟩
def MI(m q:Int)(l:List Int):Prop:=1≤l.length∧(l.length:Int)≤q∧(∀y∈l,0≤y∧y<m)∧Dm l
theorem Gl(x:ay)(m q c:Int)(hx:vL c x)(hc:c≤100000)(hm:1≤m∧m≤8)(hq:1≤q)(hn:5000≤n):
 Good (γ:=List Int×ay) (B8.S n (x,m,q)) fun r=>MI m q r.1∧vL (c+9) r.2:=by
 show Good (γ:=List Int×ay) ((B7 x m q).run n) _;simp only[B7,G.run,aZ,xE,if_true,decide_eq_true_eq];refine Good.bind (cO x m c hx (by omega) (by omega) (by omega)) (fun r hr=>?_)
 obtain⟨r1,r2,r3,r4⟩:=hr;refine Good.bind (γ:=List Int×Int×List Int) (Q:=fun t=>(t.2.2.length:Int)≤q∧(∀y∈t.2.2,0≤y∧y<m)∧Dm t.2.2∧0≤t.2.1∧t.2.1≤c+9) ?_ (fun t ht=>?_)
 ·refine oG (fun j (s:Int×List Int×Int×List Int)=>s.1=(j:Int)∧0≤s.2.2.1∧s.2.2.1≤c+1+(j:Int)∧(s.2.2.2.length:Int)≤(j:Int)∧(s.2.2.2.length:Int)≤q∧(∀y∈s.2.2.2,0≤y∧y<(j:Int))∧Dm s.2.2.2) m.toNat (fun j s hj hs=>?_) (fun s hs=>?_) (by omega) ⟨rfl,r3,by simp;omega,by simp,by simp;omega,by simp,by simp[Dm]⟩
  ·obtain⟨h1,h2,h3,h4,h4',h5,h5'⟩:=hs;have hlt:s.1<m:=by omega
   have w:Go.IntKind.wrap .i64 (s.1+1)=s.1+1:=wrap_i64 (by omega) (by omega)
   have hroom:roomy (s.2.2.2.length+1) 8=true:=by simp[roomy];omega
   have h6:∀y∈s.2.2.2++[s.1],0≤y∧y<((j+1:Nat):Int):=by
    intro y hy;rcases List.mem_append.1 hy with hy |hy
    ·have:=h5 y hy;omega
    ·simp only[List.mem_singleton]at hy;subst hy;omega
   have h7:∀y∈s.2.2.2,0≤y∧y<((j+1:Nat):Int):=fun y hy=>by have:=h5 y hy;omega
   have h8:Dm (s.2.2.2++[s.1]):=PJ h5' fun y hy=>by have:=h5 y hy;omega
   simp only[hlt,if_true,w];by_cases hq:(s.2.2.2.length:Int)<q
   ·simp only[hq,if_true];by_cases he:(s.1==r.1)=true
    ·simp only[he,if_true];rw[if_pos ⟨trivial,hroom⟩];refine .some ⟨?_,?_,?_,?_,?_,h6,h8⟩<;>(try simp only[List.length_append,List.length_cons,List.length_nil])<;>omega
    ·simp only[he,Bool.false_eq_true,if_false];refine Good.bind (cO _ 3 (c+1+(j:Int)) ⟨h2,h3⟩ (by omega) (by decide) (by decide)) (fun r' hr'=>?_)
     obtain⟨s1,s2,s3,s4⟩:=hr';by_cases hz:(r'.1==1)=true
     ·simp only[hz,if_true];rw[if_pos ⟨trivial,hroom⟩];refine .some ⟨?_,?_,?_,?_,?_,h6,h8⟩<;>(try simp only[List.length_append,List.length_cons,List.length_nil])<;>omega
     ·simp only[hz,Bool.false_eq_true,if_false];refine .some ⟨?_,?_,?_,?_,?_,h7,h5'⟩<;>(try simp only[List.length_append,List.length_cons,List.length_nil])<;>omega
   ·simp only[hq,if_false];refine .some ⟨?_,fun y hy=>?_,h5',?_,?_⟩
    ·exact h4'
    ·have:=h5 y hy;omega
    ·exact h2
    ·show s.2.2.1≤c+9;omega
  ·obtain⟨h1,h2,h3,h4,h4',h5,h5'⟩:=hs;have hlt:¬s.1<m:=by omega
   simp only[hlt,if_false];refine .some ⟨?_,fun y hy=>?_,h5',?_,?_⟩
   ·exact h4'
   ·have:=h5 y hy;omega
   ·exact h2
   ·show s.2.2.1≤c+9;omega
 ·obtain⟨t1,t2,t2',t3,t4⟩:=ht;by_cases hz:((t.2.2.length:Int)==0)=true
  ·simp only[hz,if_true];simp[eR];refine .some ⟨⟨?_,?_,?_,?_⟩,t3,t4⟩
   ·simp
   ·simp;omega
   ·simp;omega
   ·simp[Dm]
  ·simp only[hz,Bool.false_eq_true,if_false];simp[eR];refine .some ⟨⟨?_,t1,t2,t2'⟩,t3,t4⟩;simp only[beq_iff_eq]at hz;show 1≤t.2.2.length;omega
end
end Go.L
namespace Go.L
open Go.AM
theorem Oe{β:Type}(a b:Int)(hb:b≠0)(k:Unit→Option β):(BL .i64 a b).run.bind k=k ():=by
 simp only[BL,GG,ne_eq,hb,not_false_eq_true,decide_true,if_true,Option.bind_some]
theorem RT:((2:Int) ^ (@Min.min Nat instMinNat (Int.toNat (16:Int)) (Go.IntKind.bits .i64)))=65536:=by decide
theorem wrap_u32'{a:Int}(h0:0≤a)(h1:a<4294967296):Go.IntKind.wrap .u32 a=a:=by
 simp only[Go.IntKind.wrap,Go.IntKind.bits,Go.IntKind.signed];simp
 omega
def Og(nt:Int)(i:Int)(b:BD):Prop:=0≤b.au∧b.au<nt∧b.dM=10+i∧b.Target=500+i∧(b.bt=⟨0,0⟩∧b.aS=0∨b.bt=⟨167772160+i*65536,24⟩∧b.aS=167772161+i*65536)
def Gm(nt:Int)(x:bP):Prop:=0≤x.From∧x.From<nt∧0≤x.To∧x.To<nt∧x.From≠x.To∧(x.ah=⟨0,0⟩∨∃t,0≤t∧t<4∧x.ah=⟨167772160+t*65536,16⟩)
def MJ(L nb:Int)(s:bq):Prop:=MI L 3 s.Leaves∧MI nb 4 s.aR
def MK(sA:List BD)(segs:List bq)(i:Int)(h:Host):Prop:=
 h.bO=2199023951872+i∧0≤h.BD∧h.BD<(sA.length:Int)∧(h.bq= -1∨∃s,jd segs h.bq=some s∧h.BD∈s.aR)∧
 (h.IP=0∨∃b,jd sA h.BD=some b∧b.aS≠0∧h.IP=b.bt.IP+(10+i))
section
variable {n:Nat}
theorem J5(x:ay)(i m c:Int)(hx:vL c x)(hc:c≤100000)(hm:1≤m∧m≤8)(hi:0≤i∧i≤8):
 Good (γ:=BD×ay) (Dd.S n (x,i,m)) fun r=>Og m i r.1∧vL (c+2) r.2:=by
 show Good (γ:=BD×ay) ((zy x i m).run n) _;have w1:Go.IntKind.wrap .i64 (10+i)=10+i:=wrap_i64 (by omega) (by omega)
 have w2:Go.IntKind.wrap .u32 (10+i)=10+i:=wrap_u32' (by omega) (by omega)
 have w3:Go.IntKind.wrap .i64 (500+i)=500+i:=wrap_i64 (by omega) (by omega)
 have w4:Go.IntKind.wrap .u32 (500+i)=500+i:=wrap_u32' (by omega) (by omega)
 have w5:Go.IntKind.wrap .i64 (i*65536)=i*65536:=wrap_i64 (by omega) (by omega)
 have w6:Go.IntKind.wrap .i64 (167772160+i*65536)=167772160+i*65536:=wrap_i64 (by omega) (by omega)
 have w7:Go.IntKind.wrap .u32 (167772160+i*65536)=167772160+i*65536:=wrap_u32' (by omega) (by omega)
 have w8:Go.IntKind.wrap .u32 (167772160+i*65536+1)=167772161+i*65536:=by rw[wrap_u32' (by omega) (by omega)];omega
 simp only[zy,G.run,aZ,if_true,decide_eq_true_eq,RT,w1,w2,w3,w4,w5,w6,w7,w8];refine Good.bind (cO x m c hx (by omega) (by omega) (by omega)) (fun r hr=>?_)
 refine Good.bind (cO r.2 4 (c+1) hr.2.2 (by omega) (by decide) (by decide)) (fun r' hr'=>?_)
 have h:vL (c+2) r'.2:=by have:=hr'.2.2;unfold vL at*;omega
 split
 ·exact .some ⟨⟨hr.1,hr.2.1,rfl,rfl,.inr ⟨rfl,rfl⟩⟩,h⟩
 ·exact .some ⟨⟨hr.1,hr.2.1,rfl,rfl,.inl ⟨rfl,rfl⟩⟩,h⟩
theorem ML(x:ay)(m c:Int)(hx:vL c x)(hc:c≤100000)(hm:2≤m∧m≤8):
 Good (γ:=bP×ay) (F5.S n (x,m)) fun r=>Gm m r.1∧vL (c+4) r.2:=by
 show Good (γ:=bP×ay) ((B9 x m).run n) _;have w:Go.IntKind.wrap .i64 (m - 1)=m - 1:=wrap_i64 (by omega) (by omega)
 have e:=fun {γ:Type} (a:Int) (k:Unit→Option γ)=>Oe a m (by omega) k
 simp only[B9,G.run,aZ,if_true,decide_eq_true_eq,w,e,RT];refine Good.bind (cO x m c hx (by omega) (by omega) (by omega)) (fun r hr=>?_)
 refine Good.bind (cO r.2 (m - 1) (c+1) hr.2.2 (by omega) (by omega) (by omega)) (fun r' hr'=>?_)
 refine Good.bind (cO r'.2 2 (c+1+1) hr'.2.2 (by omega) (by decide) (by decide)) (fun q hq=>?_)
 obtain⟨a1,a2,a3⟩:=hr;obtain⟨b1,b2,b3⟩:=hr';have v1:Go.IntKind.wrap .i64 (r.1+1)=r.1+1:=wrap_i64 (by omega) (by omega)
 have v2:Go.IntKind.wrap .i64 (r.1+1+r'.1)=r.1+1+r'.1:=wrap_i64 (by omega) (by omega)
 have v3:Int.tmod (r.1+1+r'.1) m=(r.1+1+r'.1) % m:=Int.tmod_eq_emod_of_nonneg (by omega)
 have v4:0≤(r.1+1+r'.1) % m:=Int.emod_nonneg _ (by omega)
 have v5:(r.1+1+r'.1) % m<m:=Int.emod_lt_of_pos _ (by omega)
 have v6:r.1≠(r.1+1+r'.1) % m:=by
  by_cases hlt:r.1+1+r'.1<m
  ·rw[Int.emod_eq_of_lt (by omega) hlt];omega
  ·have e1:(r.1+1+r'.1) % m=(r.1+1+r'.1 - m) % m:=by rw[Int.sub_emod_right]
   rw[e1,Int.emod_eq_of_lt (by omega) (by omega)];omega
 rw[v1,v2,v3];split
 ·refine Good.bind (cO q.2 4 (c+1+1+1) hq.2.2 (by omega) (by decide) (by decide)) (fun p hp=>?_)
  have w5:Go.IntKind.wrap .i64 (p.1*65536)=p.1*65536:=wrap_i64 (by omega) (by omega)
  have w6:Go.IntKind.wrap .i64 (167772160+p.1*65536)=167772160+p.1*65536:=wrap_i64 (by omega) (by omega)
  have w7:Go.IntKind.wrap .u32 (167772160+p.1*65536)=167772160+p.1*65536:=wrap_u32' (by omega) (by omega)
  rw[w5,w6,w7];exact .some ⟨⟨a1,a2,v4,v5,v6,.inr ⟨p.1,hp.1,hp.2.1,rfl⟩⟩,by have:=hp.2.2;unfold vL at*;show 0≤p.2.at_∧p.2.at_≤c+4;omega⟩
 ·exact .some ⟨⟨a1,a2,v4,v5,v6,.inl rfl⟩,by have:=hq.2.2;unfold vL at*;show 0≤q.2.at_∧q.2.at_≤c+4;omega⟩
theorem MM{α:Type}(l:List α)(i:Int)(h0:0≤i)(h1:i<(l.length:Int)):∃x,jd l i=some x∧x∈l:=by
 obtain⟨j,rfl⟩:∃j:Nat,i=(j:Int):=⟨i.toNat,by omega⟩
 have hj:j<l.length:=by omega
 exact⟨l[j],by rw[cK];exact List.getElem?_eq_getElem hj,List.getElem_mem hj⟩
theorem er{β:Type}(len m b ak:Nat)(i:Int)(k:Unit→Option β)(h0:0≤i)(h1:i<(len:Int)):(aM len m b ak i).run.bind k=k ():=by
 simp[aM,h0,h1]
theorem DZ{c d:Int}{x:ay}(h:vL c x)(hd:c≤d):vL d x:=⟨h.1,Int.le_trans h.2 hd⟩
def J6(nt:Int)(l:List BD):Prop:=∀(i:Nat) b,l[i]? =some b→Og nt (i:Int) b
theorem RU{nt i:Int}{b:BD}(h:Og nt i b)(hi:0≤i∧i≤8)(hg:b.aS≠0):b.bt.IP=167772160+i*65536:=by
 obtain⟨-,-,-,-,h |h⟩:=h
 ·exact absurd h.2 hg
 ·rw[h.1]
theorem MN(x:ay)(L S:Int)(links:List cV)(Lp:List au)(sA:List BD)(segs:List bq)(a8 a9 a10:Int)(b11 b12:Bool)(a13 a14 a15 a16 a17 a18 i c nt:Int)(hx:vL c x)(hc:c≤100000)
 (h1:1≤segs.length∧segs.length≤8) (h2:∀s∈segs,MJ L (sA.length:Int) s) (h3:J6 nt sA) (h4:sA.length≤8) (hi:0≤i∧i≤8):
 Good (γ:=Host×ay) (De.S n (x,L,S,links,Lp,sA,segs,a8,a9,a10,b11,b12,a13,a14,a15,a16,a17,a18,i)) fun r=>MK sA segs i r.1∧vL (c+4) r.2:=by
 show Good (γ:=Host×ay) ((zz x L S links Lp sA segs a8 a9 a10 b11 b12 a13 a14 a15 a16 a17 a18 i).run n) _;have w1:Go.IntKind.wrap .i64 (2199023951872+i)=2199023951872+i:=wrap_i64 (by omega) (by omega)
 have w2:Go.IntKind.wrap .u64 (2199023951872+i)=2199023951872+i:=by
  simp only[Go.IntKind.wrap,Go.IntKind.bits,Go.IntKind.signed];simp
  omega
 have w3:Go.IntKind.wrap .i64 (10+i)=10+i:=wrap_i64 (by omega) (by omega)
 have w4:Go.IntKind.wrap .u32 (10+i)=10+i:=wrap_u32' (by omega) (by omega)
 simp only[zz,G.run,aZ,cg,dH,if_true,decide_eq_true_eq,w1,w2,w3,w4];refine Good.bind (cO x (segs.length:Int) c hx (by omega) (by omega) (by omega)) (fun r hr=>?_)
 obtain⟨s,hs,hm⟩:=MM segs r.1 hr.1 hr.2.1;have hso:=(h2 s hm).2;obtain⟨so1,so2,so3,-⟩:=hso;rw[hs,Option.bind_some];refine Good.bind (cO r.2 (s.aR.length:Int) (c+1) hr.2.2 (by omega) (by omega) (by omega)) (fun r' hr'=>?_)
 obtain⟨d,hd,hdm⟩:=MM s.aR r'.1 hr'.1 hr'.2.1;rw[hd,Option.bind_some];obtain⟨b,hb,_⟩:=MM sA d (so3 d hdm).1 (so3 d hdm).2;rw[hb,Option.bind_some];have h3':vL (c+1+1) r'.2:=hr'.2.2;have hbd:=so3 d hdm;have hbv:Og nt d b:=by
  obtain⟨j,rfl⟩:∃j:Nat,d=(j:Int):=⟨d.toNat,by omega⟩
  rw[cK]at hb;exact h3 j b hb
 have hseg:∀{v:Int},(v= -1∨v=r.1)→(v= -1∨∃s,jd segs v=some s∧d∈s.aR):=by
  rintro v (rfl |rfl)
  ·exact .inl rfl
  ·exact .inr ⟨s,hs,hdm⟩
 by_cases hg:(b.aS != 0)=true
 ·have hg':b.aS≠0:=by simpa using hg
  have hip:=RU hbv ⟨hbd.1,by omega⟩ hg'
  have w5:Go.IntKind.wrap .u32 (b.bt.IP+(10+i))=b.bt.IP+(10+i):=wrap_u32' (by omega) (by omega)
  rw[if_pos hg];refine Good.bind (cO r'.2 6 (c+1+1) h3' (by omega) (by decide) (by decide)) (fun q hq=>?_)
  split
  ·rw[Option.bind_some,w5];refine Good.bind (cO q.2 10 (c+1+1+1) hq.2.2 (by omega) (by decide) (by decide)) (fun p hp=>?_)
   split
   ·exact .some ⟨⟨rfl,hbd.1,hbd.2,hseg (.inl rfl),.inr ⟨b,hb,hg',rfl⟩⟩,DZ hp.2.2 (by omega)⟩
   ·exact .some ⟨⟨rfl,hbd.1,hbd.2,hseg (.inr rfl),.inr ⟨b,hb,hg',rfl⟩⟩,DZ hp.2.2 (by omega)⟩
  ·refine Good.bind (cO q.2 10 (c+1+1+1) hq.2.2 (by omega) (by decide) (by decide)) (fun p hp=>?_)
   split
   ·exact .some ⟨⟨rfl,hbd.1,hbd.2,hseg (.inl rfl),.inl rfl⟩,DZ hp.2.2 (by omega)⟩
   ·exact .some ⟨⟨rfl,hbd.1,hbd.2,hseg (.inr rfl),.inl rfl⟩,DZ hp.2.2 (by omega)⟩
 ·rw[if_neg hg];refine Good.bind (cO r'.2 10 (c+1+1) h3' (by omega) (by decide) (by decide)) (fun p hp=>?_)
  split
  ·exact .some ⟨⟨rfl,hbd.1,hbd.2,hseg (.inl rfl),.inl rfl⟩,DZ hp.2.2 (by omega)⟩
  ·exact .some ⟨⟨rfl,hbd.1,hbd.2,hseg (.inr rfl),.inl rfl⟩,DZ hp.2.2 (by omega)⟩
def IC(l:List au):Prop:=∀(i:Nat) t,l[i]? =some t→t=⟨100+(i:Int),900+(i:Int)⟩
def Gn(sA:List BD)(segs:List bq)(l:List Host):Prop:=∀(i:Nat) h,l[i]? =some h→MK sA segs (i:Int) h
structure Vf(f:aG):Prop where
 leaves:2≤f.Leaves∧f.Leaves≤4
 J7:1≤f.ij∧f.ij≤3
 links:J4 f.Leaves f.ij f.Links
 uV:1≤f.bf.length∧f.bf.length≤3
 Lp:IC f.bf
 sA:1≤f.aR.length∧f.aR.length≤4
 bd:J6 (f.bf.length:Int) f.aR
 segments:2≤f.aH.length∧f.aH.length≤6
 seg:∀s∈f.aH,MJ f.Leaves (f.aR.length:Int) s
 IB:f.Hosts.length≤8
 host:Gn f.aR f.aH f.Hosts
 leaks:f.Leaks.length≤2
 S4:∀x∈f.Leaks,Gm (f.bf.length:Int) x
 SB:f.Leaks.Nodup
 SC:0≤f.xk∧f.xk≤2
 QZ:0≤f.qZ∧f.qZ≤1
 RV:0≤f.dP∧f.dP≤1
 timers:1≤f.cw.tZ∧f.cw.tZ≤3∧f.cw.BS=9∧40≤f.cw.Er∧f.cw.Er≤69∧f.cw.sZ=20∧f.cw.yy=5∧f.cw.Window=30
theorem E4{α:Type}{P:Nat→α→Prop}{l:List α}{y:α}(h:∀(i:Nat) x,l[i]? =some x→P i x)(hy:P l.length y):∀(i:Nat) x,(l++[y])[i]? =some x→P i x:=by
 intro i x hx;rw[List.getElem?_append]at hx;split at hx
 ·exact h i x hx
 ·rename_i hge;have:i - l.length=0:=by
   rcases Nat.eq_zero_or_pos (i - l.length)with h0 |h0
   ·exact h0
   ·rw[List.getElem?_eq_none (by simp;omega)]at hx;cases hx
  have:i=l.length:=by omega
  subst this;simp at hx;subst hx;exact hy
theorem J8(l:List Int)(hn:5000≤n):Good (γ:=aG) (Df.S n l) Vf:=by
 show Good (γ:=aG) ((zA l).run n) _;simp only[zA,G.run,aZ,cg,dH,xE,if_true,decide_eq_true_eq];refine Good.bind (cO (n:=n) (Go.L.ay.mk l 0) 3 0 ⟨Int.le_refl _,Int.le_refl _⟩ (by decide) (by decide) (by decide)) (fun r2 h2=>?_)
 refine Good.bind (cO r2.2 3 1 h2.2.2 (by decide) (by decide) (by decide)) (fun r3 h3=>?_)
 refine Good.bind (cO r3.2 3 2 h3.2.2 (by decide) (by decide) (by decide)) (fun r4 h4=>?_)
 refine Good.bind (cO r4.2 2 3 h4.2.2 (by decide) (by decide) (by decide)) (fun r5 h5=>?_)
 refine Good.bind (cO r5.2 2 4 h5.2.2 (by decide) (by decide) (by decide)) (fun r6 h6=>?_)
 refine Good.bind (cO r6.2 2 5 h6.2.2 (by decide) (by decide) (by decide)) (fun r7 h7=>?_)
 refine Good.bind (cO r7.2 3 6 h7.2.2 (by decide) (by decide) (by decide)) (fun r8 h8=>?_)
 refine Good.bind (cO r8.2 3 7 h8.2.2 (by decide) (by decide) (by decide)) (fun r9 h9=>?_)
 refine Good.bind (cO r9.2 30 8 h9.2.2 (by decide) (by decide) (by decide)) (fun r10 h10=>?_)
 obtain⟨l1,l2,-⟩:=h2;obtain⟨p1,p2,-⟩:=h3;obtain⟨e1,e2,-⟩:=h4;obtain⟨e3,e4,-⟩:=h5;obtain⟨e5,e6,-⟩:=h6;obtain⟨e7,e8,-⟩:=h9;obtain⟨e9,e10,h10'⟩:=h10;have wl:Go.IntKind.wrap .i64 (2+r2.1)=2+r2.1:=wrap_i64 (by omega) (by omega)
 have wp:Go.IntKind.wrap .i64 (1+r3.1)=1+r3.1:=wrap_i64 (by omega) (by omega)
 have wd:Go.IntKind.wrap .i64 (1+r9.1)=1+r9.1:=wrap_i64 (by omega) (by omega)
 have wa:Go.IntKind.wrap .i64 (40+r10.1)=40+r10.1:=wrap_i64 (by omega) (by omega)
 rw[wl,wp,wd,wa];refine Good.bind (KP r10.2 (2+r2.1) (1+r3.1) 9 h10' (by decide) (by omega) (by omega) hn) (fun r11 h11=>?_)
 refine Good.bind (γ:=List Int×Int×List au) (Q:=fun t=>1≤t.2.2.length∧t.2.2.length≤3∧0≤t.2.1∧t.2.1≤77∧IC t.2.2) ?_ (fun t1 ht1=>?_)
 ·obtain⟨k1,k2⟩:=h11.2;refine oG (fun j (s:Int×List Int×Int×List au)=>s.1=(j:Int)∧0≤s.2.2.1∧s.2.2.1≤73+(j:Int)∧(s.2.2.2.length:Int)=(j:Int)∧IC s.2.2.2) 3 (fun j s hj hs=>?_) (fun s hs=>?_) (by omega) ⟨rfl,k1,by simp;omega,by simp,by simp[IC]⟩
  ·obtain⟨g1,g2,g3,g4,g5⟩:=hs;refine Good.bind (cO (n:=n) (Go.L.ay.mk s.2.1 s.2.2.1) 3 (73+(j:Int)) ⟨g2,g3⟩ (by omega) (by decide) (by decide)) (fun r hr=>?_)
   obtain⟨s1,s2,s3,s4⟩:=hr;have w:Go.IntKind.wrap .i64 (s.1+1)=s.1+1:=wrap_i64 (by omega) (by omega)
   have w1:Go.IntKind.wrap .i64 (100+s.1)=100+s.1:=wrap_i64 (by omega) (by omega)
   have w2:Go.IntKind.wrap .u32 (100+s.1)=100+s.1:=wrap_u32' (by omega) (by omega)
   have w3:Go.IntKind.wrap .i64 (900+s.1)=900+s.1:=wrap_i64 (by omega) (by omega)
   have w4:Go.IntKind.wrap .u32 (900+s.1)=900+s.1:=wrap_u32' (by omega) (by omega)
   have hroom:roomy (s.2.2.2.length+1) 8=true:=by simp[roomy];omega
   by_cases hle:s.1≤r.1
   ·rw[if_pos hle,if_pos ⟨trivial,hroom⟩,w,w1,w2,w3,w4];refine .some ⟨?_,?_,?_,?_,?_⟩
    ·show s.1+1=((j+1:Nat):Int);omega
    ·exact s3
    ·show r.2.at_≤73+((j+1:Nat):Int);omega
    ·simp only[List.length_append,List.length_cons,List.length_nil];omega
    ·refine E4 (P:=fun i t=>t=(⟨100+(i:Int),900+(i:Int)⟩:au)) g5 ?_
     rw[g4,g1]
   ·rw[if_neg hle];refine .some ⟨?_,?_,?_,?_,g5⟩
    ·show 1≤s.2.2.2.length;omega
    ·show s.2.2.2.length≤3;omega
    ·exact s3
    ·show r.2.at_≤77;omega
  ·obtain⟨g1,g2,g3,g4,g5⟩:=hs;refine Good.bind (cO (n:=n) (Go.L.ay.mk s.2.1 s.2.2.1) 3 76 ⟨g2,by simpa using g3⟩ (by omega) (by decide) (by decide)) (fun r hr=>?_)
   obtain⟨s1,s2,s3,s4⟩:=hr;have hle:¬s.1≤r.1:=by omega
   rw[if_neg hle];refine .some ⟨?_,?_,?_,?_,g5⟩
   ·show 1≤s.2.2.2.length;omega
   ·show s.2.2.2.length≤3;omega
   ·exact s3
   ·show r.2.at_≤77;omega
 obtain⟨u1,u2,u3,u4,u5⟩:=ht1;refine Good.bind (cO (n:=n) (Go.L.ay.mk t1.1 t1.2.1) 4 77 ⟨u3,u4⟩ (by decide) (by decide) (by decide)) (fun r25 h25=>?_)
 obtain⟨q1,q2,q3⟩:=h25;have w25:Go.IntKind.wrap .i64 (1+r25.1)=1+r25.1:=wrap_i64 (by omega) (by omega)
 rw[w25];simp[eR];refine Good.bind (γ:=List Int×Int×List BD) (Q:=fun t=>1≤t.2.2.length∧t.2.2.length≤4∧0≤t.2.1∧t.2.1≤86∧J6 (t1.2.2.length:Int) t.2.2) ?_ (fun t2 ht2=>?_)
 ·refine oG (fun j (s:Int×List Int×Int×List BD)=>s.1=(j:Int)∧0≤s.2.2.1∧s.2.2.1≤78+2*(j:Int)∧(s.2.2.2.length:Int)=(j:Int)∧J6 (t1.2.2.length:Int) s.2.2.2) (1+r25.1).toNat (fun j s hj hs=>?_) (fun s hs=>?_) (by omega) ⟨rfl,q3.1,by have:=q3.2;simp;omega,by simp,by simp[J6]⟩
  ·obtain⟨g1,g2,g3,g4,g5⟩:=hs;have hlt:s.1<1+r25.1:=by omega
   rw[if_pos hlt];refine Good.bind (J5 (n:=n) (Go.L.ay.mk s.2.1 s.2.2.1) s.1 (t1.2.2.length:Int) (78+2*(j:Int)) ⟨g2,g3⟩ (by omega) (by omega) (by omega)) (fun r hr=>?_)
   obtain⟨hb,s3,s4⟩:=hr;have w:Go.IntKind.wrap .i64 (s.1+1)=s.1+1:=wrap_i64 (by omega) (by omega)
   have hroom:roomy (s.2.2.2.length+1) 40=true:=by simp[roomy];omega
   rw[if_pos hroom,w];refine .some ⟨?_,?_,?_,?_,?_⟩
   ·show s.1+1=((j+1:Nat):Int);omega
   ·exact s3
   ·show r.2.at_≤78+2*((j+1:Nat):Int);omega
   ·simp only[List.length_append,List.length_cons,List.length_nil];omega
   ·refine E4 (P:=fun i b=>Og (t1.2.2.length:Int) (i:Int) b) g5 ?_
    rw[g4,← g1];exact hb
  ·obtain⟨g1,g2,g3,g4,g5⟩:=hs;have hlt:¬s.1<1+r25.1:=by omega
   rw[if_neg hlt];refine .some ⟨?_,?_,?_,?_,g5⟩
   ·show 1≤s.2.2.2.length;omega
   ·show s.2.2.2.length≤4;omega
   ·exact g2
   ·show s.2.2.1≤86;omega
 obtain⟨b1,b2,b3,b4,b5⟩:=ht2;refine Good.bind (cO (n:=n) (Go.L.ay.mk t2.1 t2.2.1) 5 86 ⟨b3,b4⟩ (by decide) (by decide) (by decide)) (fun r39 h39=>?_)
 obtain⟨q1',q2',q3'⟩:=h39;have w39:Go.IntKind.wrap .i64 (2+r39.1)=2+r39.1:=wrap_i64 (by omega) (by omega)
 rw[w39];refine Good.bind (γ:=List Int×Int×List bq) (Q:=fun t=>2≤t.2.2.length∧t.2.2.length≤6∧(∀y∈t.2.2,MJ (2+r2.1) (t2.2.2.length:Int) y)∧0≤t.2.1∧t.2.1≤195) ?_ (fun t3 ht3=>?_)
 ·refine oG (fun j (s:Int×List Int×Int×List bq)=>s.1=(j:Int)∧0≤s.2.2.1∧s.2.2.1≤87+18*(j:Int)∧(s.2.2.2.length:Int)=(j:Int)∧∀y∈s.2.2.2,MJ (2+r2.1) (t2.2.2.length:Int) y) (2+r39.1).toNat (fun j s hj hs=>?_) (fun s hs=>?_) (by omega) ⟨rfl,q3'.1,by have:=q3'.2;simp;omega,by simp,by simp⟩
  ·obtain⟨g1,g2,g3,g4,g5⟩:=hs;have hlt:s.1<2+r39.1:=by omega
   rw[if_pos hlt];refine Good.bind (Gl (n:=n) (Go.L.ay.mk s.2.1 s.2.2.1) (2+r2.1) 3 (87+18*(j:Int)) ⟨g2,g3⟩ (by omega) (by omega) (by omega) hn) (fun r hr=>?_)
   obtain⟨m1,m4⟩:=hr;refine Good.bind (Gl (n:=n) r.2 (t2.2.2.length:Int) 4 (87+18*(j:Int)+9) m4 (by omega) (by omega) (by omega) hn) (fun r' hr'=>?_)
   obtain⟨m5,m8,m9⟩:=hr';have w:Go.IntKind.wrap .i64 (s.1+1)=s.1+1:=wrap_i64 (by omega) (by omega)
   have hroom:roomy (s.2.2.2.length+1) 48=true:=by simp[roomy];omega
   rw[if_pos hroom,w];refine .some ⟨?_,?_,?_,?_,fun y hy=>?_⟩
   ·show s.1+1=((j+1:Nat):Int);omega
   ·exact m8
   ·show r'.2.at_≤87+18*((j+1:Nat):Int);omega
   ·simp only[List.length_append,List.length_cons,List.length_nil];omega
   ·rcases List.mem_append.1 hy with hy |hy
    ·exact g5 y hy
    ·simp only[List.mem_singleton]at hy;subst hy;exact⟨m1,m5⟩
  ·obtain⟨g1,g2,g3,g4,g5⟩:=hs;have hlt:¬s.1<2+r39.1:=by omega
   rw[if_neg hlt];refine .some ⟨?_,?_,g5,g2,?_⟩
   ·show 2≤s.2.2.2.length;omega
   ·show s.2.2.2.length≤6;omega
   ·show s.2.2.1≤195;omega
 obtain⟨c1,c2,c3,c4,c5⟩:=ht3;refine Good.bind (cO (n:=n) (Go.L.ay.mk t3.1 t3.2.1) 9 195 ⟨c4,c5⟩ (by decide) (by decide) (by decide)) (fun r56 h56=>?_)
 obtain⟨v1,v2,v3⟩:=h56;refine Good.bind (γ:=List Int×Int×List Host) (Q:=fun t=>t.2.2.length≤8∧0≤t.2.1∧t.2.1≤228∧Gn t2.2.2 t3.2.2 t.2.2) ?_ (fun t4 ht4=>?_)
 ·refine oG (fun j (s:Int×List Int×Int×List Host)=>s.1=(j:Int)∧0≤s.2.2.1∧s.2.2.1≤196+4*(j:Int)∧(s.2.2.2.length:Int)=(j:Int)∧Gn t2.2.2 t3.2.2 s.2.2.2) r56.1.toNat (fun j s hj hs=>?_) (fun s hs=>?_) (by omega) ⟨rfl,v3.1,by have:=v3.2;simp;omega,by simp,by simp[Gn]⟩
  ·obtain⟨g1,g2,g3,g4,g5⟩:=hs;have hlt:s.1<r56.1:=by omega
   rw[if_pos hlt];refine Good.bind (MN (n:=n) (Go.L.ay.mk s.2.1 s.2.2.1) _ _ _ _ t2.2.2 t3.2.2 _ _ _ _ _ _ _ _ _ _ _ s.1 (196+4*(j:Int)) (t1.2.2.length:Int) ⟨g2,g3⟩ (by omega) (by omega) c3 b5 (by omega) (by omega)) (fun r hr=>?_)
   obtain⟨hh,s3,s4⟩:=hr;have w:Go.IntKind.wrap .i64 (s.1+1)=s.1+1:=wrap_i64 (by omega) (by omega)
   have hroom:roomy (s.2.2.2.length+1) 32=true:=by simp[roomy];omega
   rw[if_pos hroom,w];refine .some ⟨?_,?_,?_,?_,?_⟩
   ·show s.1+1=((j+1:Nat):Int);omega
   ·exact s3
   ·show r.2.at_≤196+4*((j+1:Nat):Int);omega
   ·simp only[List.length_append,List.length_cons,List.length_nil];omega
   ·refine E4 (P:=fun i b=>MK t2.2.2 t3.2.2 (i:Int) b) g5 ?_
    rw[g4,← g1];exact hh
  ·obtain⟨g1,g2,g3,g4,g5⟩:=hs;have hlt:¬s.1<r56.1:=by omega
   rw[if_neg hlt];refine .some ⟨?_,?_,?_,g5⟩
   ·show s.2.2.2.length≤8;omega
   ·exact g2
   ·show s.2.2.1≤228;omega
 obtain⟨d1,d2,d3,d4⟩:=ht4;have hsz:∀lk:List bP,lk.length≤2→(∀x∈lk,Gm (t1.2.2.length:Int) x)→lk.Nodup→Vf {Leaves:=2+r2.1,ij:=1+r3.1,Links:=r11.1,bf:=t1.2.2,aR:=t2.2.2,aH:=t3.2.2,Hosts:=t4.2.2,Leaks:=lk,xk:=r4.1,qZ:=r5.1,dP:=r6.1,zc:=r7.1==0,FO:=r8.1==1,cw:={tZ:=1+r9.1,BS:=9,Er:=40+r10.1,sZ:=20,yy:=5,Window:=30}}:=fun lk hlk hlv hld=>
  ⟨⟨by show 2≤2+r2.1;omega,by show 2+r2.1≤4;omega⟩,⟨by show 1≤1+r3.1;omega,by show 1+r3.1≤3;omega⟩,h11.1,⟨u1,u2⟩,u5,⟨b1,b2⟩,b5,⟨c1,c2⟩,c3,d1,d4,hlk,hlv,hld,
   ⟨e1,by show r4.1≤2;omega⟩,⟨e3,by show r5.1≤1;omega⟩,⟨e5,by show r6.1≤1;omega⟩,by show 1≤1+r9.1;omega,by show 1+r9.1≤3;omega,rfl,by show 40≤40+r10.1;omega,by show 40+r10.1≤69;omega,rfl,rfl,rfl⟩
 by_cases hm:(1:Int)<(t1.2.2.length:Int)
 ·rw[if_pos (by simpa using hm)]
  refine Good.bind (cO (n:=n) (Go.L.ay.mk t4.1 t4.2.1) 3 228 ⟨d2,d3⟩ (by decide) (by decide) (by decide)) (fun r70 h70=>?_)
  obtain⟨v1',v2',v3'⟩:=h70;refine Good.bind (γ:=List Int×Int×List bP) (Q:=fun t=>t.2.2.length≤2∧(∀x∈t.2.2,Gm (t1.2.2.length:Int) x)∧t.2.2.Nodup) ?_ (fun t5 ht5=>?_)
  ·refine oG (fun j (s:Int×List Int×Int×List bP)=>s.1=(j:Int)∧0≤s.2.2.1∧s.2.2.1≤229+4*(j:Int)∧(s.2.2.2.length:Int)≤(j:Int)∧(∀x∈s.2.2.2,Gm (t1.2.2.length:Int) x)∧s.2.2.2.Nodup) r70.1.toNat (fun j s hj hs=>?_) (fun s hs=>?_) (by omega) ⟨rfl,v3'.1,by have:=v3'.2;simp;omega,by simp,by simp,by simp⟩
   ·obtain⟨g1,g2,g3,g4,g5,g6⟩:=hs;have hlt:s.1<r70.1:=by omega
    rw[if_pos hlt];refine Good.bind (ML (n:=n) (Go.L.ay.mk s.2.1 s.2.2.1) (t1.2.2.length:Int) (229+4*(j:Int)) ⟨g2,g3⟩ (by omega) (by omega)) (fun r hr=>?_)
    obtain⟨hk,s3,s4⟩:=hr;have w:Go.IntKind.wrap .i64 (s.1+1)=s.1+1:=wrap_i64 (by omega) (by omega)
    have hroom:roomy (s.2.2.2.length+1) 32=true:=by simp[roomy];omega
    refine Good.bind (γ:=Unit⊕Unit) (Q:=fun t=>match t with | .inl _=>True | .inr _=>r.1∉s.2.2.2) ?_ (fun t ht=>?_)
    ·refine oG (fun i (q:Int)=>q=(i:Int)∧∀j<i,∀y,s.2.2.2[j]? =some y→y≠r.1) s.2.2.2.length (fun i q hi hq=>?_) (fun q hq=>?_) (by omega) ⟨rfl,by simp⟩
     ·obtain⟨rfl,hq⟩:=hq;have hlt:(i:Int)<(s.2.2.2.length:Int):=by omega
      rw[if_pos hlt,er _ _ _ _ _ _ (by omega) hlt]
      simp only[jM,Int.toNat_natCast,List.getElem?_eq_getElem hi,Option.bind_some];split
      ·exact .some trivial
      ·rename_i hne;refine .some ⟨fk (by omega),fun k hk y hy=>?_⟩
       rcases Nat.lt_or_ge k i with hki |hki
       ·exact hq k hki y hy
       ·have:k=i:=by omega
        subst this;rw[List.getElem?_eq_getElem hi]at hy;simp only[Option.some.injEq]at hy;subst hy;intro e;apply hne;simp[e]
     ·obtain⟨rfl,hq⟩:=hq;simp only[Int.lt_irrefl,if_false];refine .some fun hmem=>?_
      obtain⟨k,hk⟩:=List.getElem?_of_mem hmem;exact hq k (List.getElem?_eq_some_iff.1 hk).1 _ hk rfl
    ·cases t with
     |inl _=>
      simp only[Sum.elim,G.run,aZ,if_true];rw[w];refine .some ⟨?_,s3,?_,?_,g5,g6⟩
      ·show s.1+1=((j+1:Nat):Int);omega
      ·show r.2.at_≤229+4*((j+1:Nat):Int);omega
      ·show(s.2.2.2.length:Int)≤((j+1:Nat):Int);omega
     |inr _=>
      simp only[Sum.elim,G.run,aZ,xE,if_true];rw[if_pos ⟨trivial,hroom⟩,w];refine .some ⟨?_,s3,?_,?_,fun x hx=>?_,?_⟩
      ·show s.1+1=((j+1:Nat):Int);omega
      ·show r.2.at_≤229+4*((j+1:Nat):Int);omega
      ·simp only[List.length_append,List.length_cons,List.length_nil];omega
      ·rcases List.mem_append.1 hx with hx |hx
       ·exact g5 x hx
       ·simp only[List.mem_singleton]at hx;subst hx;exact hk
      ·rw[List.nodup_append];refine⟨g6,by simp,fun a ha b hb=>?_⟩
       simp only[List.mem_singleton]at hb;subst hb;rintro rfl;exact ht ha
   ·obtain⟨g1,g2,g3,g4,g5,g6⟩:=hs;have hlt:¬s.1<r70.1:=by omega
    rw[if_neg hlt];exact .some ⟨by show s.2.2.2.length≤2;omega,g5,g6⟩
  ·exact .some (hsz _ ht5.1 ht5.2.1 ht5.2.2)
 ·rw[if_neg (by simpa using hm)]
  exact .some (hsz [] (by simp) (by simp) (by simp))
end
end Go.L
namespace Go.L
open Go.AM
theorem oH{α K:Type}[DecidableEq K](key:α→K)(l:List α)(i:Nat)(x:α)(hx:l[i]? =some x)(h:∀(j:Nat) y,j<i→l[j]? =some y→key y≠key x):(bH key [] l).getD i false=false:=by
 rw[List.getD_eq_getElem?_getD,F7,hx];simp only[Option.map_some,Option.getD_some,List.nil_append,decide_eq_false_iff_not,List.mem_map,not_exists,not_and];intro y hy e;obtain⟨j,hj⟩:=List.getElem?_of_mem hy;rw[List.getElem?_take]at hj;split at hj
 ·rename_i hlt;exact h j y hlt hj e
 ·cases hj
theorem rj{p:ByteArray}{m:Int}{b:Bool}{r:Option (Int×Nat)}(hb:b=false)(hr:r=none):outcome p m b r=.inl ():=by
 subst hb;subst hr;rfl
theorem qb{α:Type}{E:Nat→α→Int}{l:List α}(h:∀(j:Nat) x,l[j]? =some x→E j x=0):bZ E 0 l=none:=
 (uv l 0).2 fun j x hx=>by rw[Nat.zero_add];exact h j x hx
theorem MO:∀{l:List Int},Dm l→xY l=true
 | [],_=>rfl
 | [_],_=>rfl
 |x::y::l,h=>by
  have h':Dm (y::l):=(List.pairwise_cons.1 h).2;have hxy:x<y:=(List.pairwise_cons.1 h).1 y (by simp)
  have ih:=MO h';simp only[xY,List.tail_cons,List.zip_cons_cons,List.all_cons,Bool.and_eq_true,decide_eq_true_eq]at ih ⊢;exact⟨hxy,ih⟩
theorem Oh{α:Type}{l:List α}(h:l.Nodup){i j:Nat}{x y:α}(hx:l[i]? =some x)(hy:l[j]? =some y)(hij:j<i):y≠x:=by
 obtain⟨h1,rfl⟩:=List.getElem?_eq_some_iff.1 hx;obtain⟨h2,rfl⟩:=List.getElem?_eq_some_iff.1 hy;exact(List.pairwise_iff_getElem.1 h) j i h2 h1 hij
section
variable {f:aG} (hv:Vf f)
include hv
theorem PL:Gg f=.inl ():=by
 obtain⟨h1,h2,h3⟩:=hv.links;refine rj (by simp;omega) (qb fun i x hx=>?_)
 obtain⟨a1,a2,a3,a4,a5,a6⟩:=h2 x (List.mem_of_getElem? hx);have hf:=oH (fun x:cV=>(⟨x.A,x.B⟩:V2 Int)) f.Links i x hx fun j y hj hy e=>by
  have e1:(f.Links.map Cd)[i]? =some (Cd x):=by rw[List.getElem?_map,hx];rfl
  have e2:(f.Links.map Cd)[j]? =some (Cd y):=by rw[List.getElem?_map,hy];rfl
  exact Oh h3 e1 e2 hj e
 have hw:Go.IntKind.wrap .i64 (f.Leaves+f.ij)=f.Leaves+f.ij:=wrap_i64 (by have:=hv.leaves;have:=hv.J7;omega) (by have:=hv.leaves;have:=hv.J7;omega)
 have c1:(decide (0≤x.A)&&decide (x.A<f.Leaves))=true:=by simp[a1,a2]
 have c2:decide (x.B≥f.Leaves)=true:=by simp;omega
 have c3:¬(!decide (x.B<Go.IntKind.wrap .i64 (f.Leaves+f.ij)))=true:=by rw[hw];simp;omega
 have c4:¬(decide (x.CV<1)||decide (1000<x.CV))=true:=by simp;omega
 rw[DV,if_pos c1,if_pos c2,if_neg c3,if_neg c4,hf,if_neg (by decide)]
theorem MP:Cc f=.inl ():=by
 obtain⟨h1,h2⟩:=hv.uV;have ht:=hv.Lp;refine rj (by simp;omega) (qb fun i x hx=>?_)
 have hi:=(List.getElem?_eq_some_iff.1 hx).1;have e:=ht i x hx;have hf1:=oH (fun x:au=>x.dM) f.bf i x hx fun j y hj hy e'=>by
  have e2:=ht j y hy;subst e2;subst e;simp at e';omega
 have hf2:=oH (fun x:au=>x.Target) f.bf i x hx fun j y hj hy e'=>by
  have e2:=ht j y hy;subst e2;subst e;simp at e';omega
 subst e;have c1:¬decide ((100+(i:Int))<1)=true:=by simp;omega
 have c2:¬decide (16777215<(100+(i:Int)))=true:=by simp;omega
 have c3:¬(((900+(i:Int))==0)=true):=by simp;omega
 rw[yK,if_neg c1,if_neg c2,if_neg c3,hf1,if_neg (by decide),hf2,if_neg (by decide)]
theorem PM:Gj f=.inl ():=by
 refine rj (by have:=hv.leaks;simp;omega) (qb fun i x hx=>?_)
 obtain⟨a1,a2,a3,a4,a5,a6⟩:=hv.S4 x (List.mem_of_getElem? hx);have hf:=oH (fun x:bP=>x) f.Leaks i x hx fun j y hj hy e=>Oh hv.SB hx hy hj e
 have c1:¬(!(decide (0≤x.From)&&decide (x.From<(f.bf.length:Int))))=true:=by simp[a1,a2]
 have c2:¬(!(decide (0≤x.To)&&decide (x.To<(f.bf.length:Int))))=true:=by simp[a3,a4]
 have c3:¬(x.From==x.To)=true:=by simp[a5]
 have c4:¬(!qQ x.ah)=true:=by
  rcases a6 with e |⟨t,t0,t4,e⟩
  ·rw[e];decide
  ·rw[e];rcases(by omega:t=0∨t=1∨t=2∨t=3)with rfl |rfl |rfl |rfl<;>decide
 rw[DW,if_neg c1,if_neg c2,if_neg c3,if_neg c4,hf,if_neg (by decide)]
theorem MQ:zF f=.inl ():=by
 obtain⟨h1,h2⟩:=hv.sA;obtain⟨h3,h4⟩:=hv.uV;have hb:=hv.bd;refine rj (by simp;omega) (qb fun i b hx=>?_)
 have hi:=(List.getElem?_eq_some_iff.1 hx).1;obtain⟨a1,a2,a3,a4,a5⟩:=hb i b hx;have hf1:=oH (fun x:BD=>x.dM) f.aR i b hx fun j y hj hy e=>by
  have:=(hb j y hy).2.2.1;have e':y.dM=b.dM:=e;omega
 have hf2:=oH (fun x:BD=>x.Target) f.aR i b hx fun j y hj hy e=>by
  have:=(hb j y hy).2.2.2.1;have e':y.Target=b.Target:=e;omega
 have c1:¬(!(decide (0≤b.au)&&decide (b.au<(f.bf.length:Int))))=true:=by simp[a1,a2]
 have c2:¬decide (b.dM<1)=true:=by simp;omega
 have c3:¬decide (16777215<b.dM)=true:=by simp;omega
 have c4:¬(b.Target==0)=true:=by simp;omega
 have c5:¬(f.bf.any fun x=>x.dM==b.dM)=true:=by
  simp only[List.any_eq_true,beq_iff_eq,not_exists,not_and];intro t ht e;obtain⟨j,hj⟩:=List.getElem?_of_mem ht;have:=hv.Lp j t hj;have hjl:=(List.getElem?_eq_some_iff.1 hj).1;rw[this]at e;simp only at e;omega
 have c6:¬(f.bf.any fun x=>x.Target==b.Target)=true:=by
  simp only[List.any_eq_true,beq_iff_eq,not_exists,not_and];intro t ht e;obtain⟨j,hj⟩:=List.getElem?_of_mem ht;have:=hv.Lp j t hj;have hjl:=(List.getElem?_eq_some_iff.1 hj).1;rw[this]at e;simp only at e;omega
 rw[E3,if_neg c1,if_neg c2,if_neg c3,if_neg c4,hf1,if_neg (by decide),hf2,if_neg (by decide),if_neg c5,if_neg c6]
 rcases a5 with⟨e1,e2⟩ |⟨e1,e2⟩
 ·rw[e1,e2,if_pos (by decide),if_neg (by decide)]
 ·have c7:¬(b.aS==0)=true:=by simp;omega
  have c11:¬((f.aR.take i).any (tc b.au b.bt.IP b.bt.Len))=true:=by
   simp only[List.any_eq_true,not_exists,not_and];intro y hy ho;obtain⟨j,hj⟩:=List.getElem?_of_mem hy;rw[List.getElem?_take]at hj;split at hj
   ·rename_i hlt;obtain⟨-,-,-,-,a6⟩:=hb j y hj;simp only[tc,Bool.and_eq_true,bne_iff_ne]at ho;obtain⟨-,hg,hc⟩:=ho;rcases a6 with⟨e3,e4⟩ |⟨e3,e4⟩
    ·exact hg e4
    ·rw[e1,e3]at hc;simp only at hc;rcases(by omega:(j=0∧i=1)∨(j=0∧i=2)∨(j=0∧i=3)∨(j=1∧i=2)∨(j=1∧i=3)∨(j=2∧i=3))with⟨rfl,rfl⟩ |⟨rfl,rfl⟩ |⟨rfl,rfl⟩ |⟨rfl,rfl⟩ |⟨rfl,rfl⟩ |⟨rfl,rfl⟩<;>revert hc<;>decide
   ·cases hj
  have c8:¬(!qQ b.bt)=true:=by
   rw[e1];rcases(by omega:i=0∨i=1∨i=2∨i=3)with rfl |rfl |rfl |rfl<;>decide
  have c9:¬out b.bt.Len 8 30=true:=by rw[e1];show ¬out 24 8 30=true;decide
  have c10:¬(!zB b.bt b.aS)=true:=by
   rw[e1,e2];rcases(by omega:i=0∨i=1∨i=2∨i=3)with rfl |rfl |rfl |rfl<;>decide
  rw[if_neg c7,if_neg c8,if_neg c9,if_neg c10,if_neg c11]
theorem KQ:Ad f=.inl ():=by
 obtain⟨h1,h2⟩:=hv.segments;refine rj (by simp;omega) (qb fun i x hx=>?_)
 have hi:=(List.getElem?_eq_some_iff.1 hx).1;obtain⟨⟨a1,a2,a3,a4⟩,⟨b1,b2,b3,b4⟩⟩:=hv.seg x (List.mem_of_getElem? hx);have c1:¬((x.Leaves.length:Int)==0)=true:=by simp only[beq_iff_eq];omega
 have c2:¬((x.aR.length:Int)==0)=true:=by simp only[beq_iff_eq];omega
 have c3:¬(x.Leaves.any fun n=> !(decide (0≤n)&&decide (n<f.Leaves)))=true:=by
  simp only[List.any_eq_true,not_exists,not_and];intro y hy;have:=a3 y hy;simp[this.1,this.2]
 have c4:¬(x.aR.any fun n=> !(decide (0≤n)&&decide (n<(f.aR.length:Int))))=true:=by
  simp only[List.any_eq_true,not_exists,not_and];intro y hy;have:=b3 y hy;simp[this.1,this.2]
 have c5:¬(!xY x.Leaves)=true:=by rw[MO a4];decide
 have c6:¬(!xY x.aR)=true:=by rw[MO b4];decide
 have c7:¬(x.Leaves.any fun n=>decide (32<(((f.aH.take i).countP fun s=>s.Leaves.contains n:Nat):Int)+1))=true:=by
  simp only[List.any_eq_true,not_exists,not_and,decide_eq_true_eq];intro y hy;have h3:((f.aH.take i).countP fun s=>s.Leaves.contains y)≤(f.aH.take i).length:=List.countP_le_length
  have h4:(f.aH.take i).length≤f.aH.length:=by simp;omega
  omega
 rw[GW,if_neg c1,if_neg c2,if_neg c3,if_neg c4,if_neg c5,if_neg c6,if_neg c7]
theorem PN:Gi f=.inl ():=by
 have h1:=hv.IB;have hh:=hv.host;refine rj (by simp;omega) (qb fun i h hx=>?_)
 have hi:=(List.getElem?_eq_some_iff.1 hx).1;obtain⟨a1,a2,a3,a4,a5⟩:=hh i h hx;have hf1:=oH (fun x:Host=>(⟨x.BD,x.bO⟩:aN)) f.Hosts i h hx fun j y hj hy e=>by
  have:=(hh j y hy).1;simp only[aN.mk.injEq]at e;omega
 have c1:¬(h.bO==0)=true:=by simp;omega
 have c2:¬decide (281474976710655<h.bO)=true:=by simp;omega
 have c3:¬DX h.bO=true:=by
  rw[a1];rcases(by omega:i=0∨i=1∨i=2∨i=3∨i=4∨i=5∨i=6∨i=7)with rfl |rfl |rfl |rfl |rfl |rfl |rfl |rfl<;>decide
 have c4:¬(!(decide (0≤h.BD)&&decide (h.BD<(f.aR.length:Int))))=true:=by simp[a2,a3]
 have hsr:h.bq= -1∨0≤h.bq∧h.bq<(f.aH.length:Int):=by
  rcases a4 with e |⟨s,hs,-⟩
  ·exact .inl e
  ·right;unfold jd at hs;split at hs
   ·have:=(List.getElem?_eq_some_iff.1 hs).1;omega
   ·cases hs
 have c5:¬out h.bq (-1) ((f.aH.length:Int) - 1)=true:=by
  simp only[out,Bool.or_eq_true,decide_eq_true_eq,not_or];have:=hv.segments;omega
 have c6:¬(h.bq != -1&& !(Bg f h.bq).any fun x=>h.BD==x)=true:=by
  rcases a4 with e |⟨s,hs,hm⟩
  ·rw[e];simp
  ·have:((Bg f h.bq).any fun x=>h.BD==x)=true:=by
    unfold Bg;rw[hs];simp only[Option.map_some,Option.getD_some,List.any_eq_true];exact⟨h.BD,hm,by simp⟩
   rw[this];simp
 have c7:¬(h.bO==1577058561)=true:=by simp;omega
 have c8:¬uU h.bO=true:=by
  simp only[uU,Bool.and_eq_true,Bool.not_eq_true',decide_eq_false_iff_not,not_and];omega
 have hbd:=hv.sA;have key:h.IP≠0→∃d:Nat,d<4∧h.BD=(d:Int)∧h.IP=167772160+(d:Int)*65536+(10+(i:Int))∧(Dk f h.BD).aS=167772161+(d:Int)*65536∧(Dk f h.BD).bt=⟨167772160+(d:Int)*65536,24⟩:=by
  intro h0;rcases a5 with e |⟨b,hb,hg,e⟩
  ·exact absurd e h0
  ·obtain⟨d,hd⟩:∃d:Nat,h.BD=(d:Int):=⟨h.BD.toNat,by omega⟩
   have hbv:=hv.bd d b (by rw[hd,cK]at hb;exact hb)
   obtain⟨-,-,-,-,e3 |e3⟩:=hbv
   ·exact absurd e3.2 hg
   ·refine⟨d,by omega,hd,?_,?_,?_⟩
    ·rw[e,e3.1]
    ·unfold Dk;rw[hb];exact e3.2
    ·unfold Dk;rw[hb];exact e3.1
 have c9:¬(!nk (Dk f h.BD) h.IP)=true:=by
  by_cases h0:h.IP=0
  ·rw[h0];simp[nk]
  ·obtain⟨d,hd,-,e1,e2,e3⟩:=key h0;rw[nk,e1,e2,e3];have hi8:i<8:=by omega
   clear key a5 a4 c6 c5 hsr c8 c7 c4 c3 c2 c1 hf1 a1 a2 a3 hx hh hbd h1 hv e1 e2 e3 h0;rcases(by omega:d=0∨d=1∨d=2∨d=3)with rfl |rfl |rfl |rfl<;>
    rcases(by omega:i=0∨i=1∨i=2∨i=3∨i=4∨i=5∨i=6∨i=7)with rfl |rfl |rfl |rfl |rfl |rfl |rfl |rfl<;>decide
 have c10:¬(h.IP != 0&&(bH (fun x:Host=>(⟨x.BD,Go.IntKind.wrap .u64 x.IP⟩:aN)) [] f.Hosts).getD i false)=true:=by
  by_cases h0:h.IP=0
  ·rw[h0];simp
  ·obtain⟨d,hd,ed,e1,-,-⟩:=key h0;rw[oH (fun x:Host=>(⟨x.BD,Go.IntKind.wrap .u64 x.IP⟩:aN)) f.Hosts i h hx fun j y hj hy e=>by
    simp only[aN.mk.injEq]at e;obtain⟨eb,ei⟩:=e;obtain⟨-,-,-,-,y5⟩:=hh j y hy;rcases y5 with y5 |⟨b,hb,hg,y5⟩
    ·rw[y5,e1]at ei;rcases(by omega:d=0∨d=1∨d=2∨d=3)with rfl |rfl |rfl |rfl<;>(simp only[Go.IntKind.wrap,Go.IntKind.bits,Go.IntKind.signed]at ei;simp at ei;omega)
    ·have hbv:=hv.bd d b (by rw[eb,ed,cK]at hb;exact hb)
     obtain⟨-,-,-,-,e3 |e3⟩:=hbv
     ·exact absurd e3.2 hg
     ·rw[y5,e3.1,e1]at ei;simp only[Go.IntKind.wrap,Go.IntKind.bits,Go.IntKind.signed]at ei;simp at ei;omega]
   simp
 rw[DY,if_neg c1,if_neg c2,if_neg c3,if_neg c4,if_neg c5,if_neg c6,if_neg c7,if_neg c8,if_neg c9,hf1,if_neg (by decide),if_neg c10]
theorem Oi:wM f=.inl ():=by
 have hL:=hv.leaves;have hS:=hv.J7;have hw:Go.IntKind.wrap .i64 (f.Leaves+f.ij)=f.Leaves+f.ij:=wrap_i64 (by omega) (by omega)
 have e1:=hv.SC;have e2:=hv.QZ;have e3:=hv.RV;have:uT f=false:=by
  simp only[uT,out,hw,Bool.or_eq_false_iff,decide_eq_false_iff_not];omega
 rw[wM,this];rfl
theorem Oj:Bh f=.inl ():=by
 obtain⟨t1,t2,t3,t4,t5,t6,t7,t8⟩:=hv.timers;have:xK f.cw=false:=by
  simp only[xK,out,Bool.or_eq_false_iff,decide_eq_false_iff_not];omega
 rw[Bh,this];rfl
theorem PO:Bi f=(0,⟨⟨[]⟩⟩,0):=by
 simp only[Bi,Oi hv,Oj hv,PL hv,MP hv,MQ hv,KQ hv,PN hv,PM hv,yD]
theorem PS:Small f:=by
 refine⟨?_,?_,?_,?_,?_,?_,fun s hs=>?_⟩
 ·have:=hv.links.1;omega
 ·have:=hv.uV;omega
 ·have:=hv.sA;omega
 ·have:=hv.segments;omega
 ·have:=hv.IB;omega
 ·have:=hv.leaks;omega
 ·obtain⟨⟨a1,a2,-⟩,⟨b1,b2,-⟩⟩:=hv.seg s hs;omega
end
end Go.L
end
