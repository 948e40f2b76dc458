/- Parts put together. No conditions. -/
import Derived.Test.YtiohninblcifpaaGreatDoorWb
import Derived.Test.YtiohninblcifpaaGreatDoorAd
import Derived.Test.YtiohninblcifpaaGreatDoorWf
set_option linter.unusedSectionVars false
set_option linter.unusedSimpArgs false
set_option linter.unusedVariables false
set_option maxRecDepth 100000
section
namespace Go.AM
theorem GF{α σ τ ST:Type}{f:ST→Option (ST⊕τ)}(mk:Nat→σ→ST)(l:List α)(S:Nat→σ)(fin:τ)
 (hs:∀i x,l[i]? =some x→f (mk i (S i))=some (.inl (mk (i+1) (S (i+1))))) (he:f (mk l.length (S l.length))=some (.inr fin)) (n:Nat) (hn:l.length<n):bV f n (mk 0 (S 0))=some fin:=by
 have key:∀(k i n:Nat),i+k=l.length→k<n→bV f n (mk i (S i))=some fin:=by
  intro k;induction k with
  |zero=>
   intro i n hi hn;obtain⟨n,rfl⟩:∃m,n=m+1:=⟨n - 1,by omega⟩
   grind [bV]
  |succ k ih=>
   intro i n hi hn;obtain⟨n,rfl⟩:∃m,n=m+1:=⟨n - 1,by omega⟩
   simp only[bV,hs i _ (List.getElem?_eq_getElem (show i<l.length by omega))]
   grind
 exact key l.length 0 n (by omega) hn
def bg{α K:Type}[DecidableEq K](key:α→K):List K→List α→List Bool
 |_,[]=>[]
 |seen,x::xs=>decide (key x∈seen)::bg key (seen++[key x]) xs
section
variable {α K:Type} [DecidableEq K] (key:α→K)
theorem E2:∀(l:List α) (seen:List K) (x:α),bg key seen (l++[x])=bg key seen l++[decide (key x∈seen++l.map key)]
 | [],seen,x=>by simp[bg]
 |y::l,seen,x=>by
  simp only[List.cons_append,bg,E2 l,List.map_cons,List.append_assoc,List.nil_append]
theorem kf:∀(l:List α) (seen:List K),(bg key seen l).length=l.length
 | [],_=>rfl
 |_::l,seen=>by simp[bg,kf l]
theorem CE:∀(l:List α) (seen:List K) (i:Nat),(bg key seen l)[i]? =(l[i]?).map fun x=>decide (key x∈seen++(l.take i).map key)
 | [],_,_=>by simp[bg]
 |y::l,seen,0=>by simp[bg]
 |y::l,seen,i+1=>by
  simp only[bg,List.getElem?_cons_succ,CE l,List.take_succ_cons,List.map_cons,List.append_assoc,List.singleton_append]
variable {eq:K→K→Bool}
def AG(m:List (K×Bool))(ks:List K):Prop:=(∀p∈m,p.2=true)∧∀k,k∈m.map (·.1)↔k∈ks
theorem CF(heq:∀a b,eq a b=decide (a=b)):∀(m:List (K×Bool)) (k:K) (j i:Nat) (v:Bool),bt eq k m j=some (i,v)→j≤i∧m[i - j]? =some (k,v)
 | [],_,_,_,_,h=>by simp[bt]at h
 |p::ps,k,j,i,v,h=>by
  simp only[bt,heq,decide_eq_true_eq]at h;split at h
  ·grind
  ·obtain⟨h1,h2⟩:=CF heq ps k (j+1) i v h;grind
theorem GG(heq:∀a b,eq a b=decide (a=b)):∀(m:List (K×Bool)) (k:K) (j:Nat),bt eq k m j=none→k∉m.map (·.1)
 | [],_,_,_=>by simp
 |p::ps,k,j,h=>by
  simp only[bt,heq,decide_eq_true_eq]at h;split at h
  ·cases h
  ·rename_i hk;have:=GG heq ps k (j+1) h;grind
theorem AG.get(heq:∀a b,eq a b=decide (a=b)){m:List (K×Bool)}{ks:List K}(h:AG m ks)(k:K):((bt eq k m 0).map (·.2)).getD false=decide (k∈ks):=by
 cases hf:bt eq k m 0 with
 |none=>
  have:=GG heq m k 0 hf;rw[h.2]at this;simp[this]
 |some q=>
  obtain⟨i,v⟩:=q;obtain⟨_,h2⟩:=CF heq m k 0 i v hf;have hm:=List.mem_of_getElem? h2;have hv:=h.1 _ hm;have:k∈ks:=(h.2 k).1 (List.mem_map.2 ⟨_,hm,rfl⟩);simp only at hv;simp[this,hv]
theorem AG.put(heq:∀a b,eq a b=decide (a=b)){m:List (K×Bool)}{ks:List K}(h:AG m ks)(k:K):AG (cm eq k true m) (ks++[k]):=by
 unfold cm;split
 ·rename_i i v hf;obtain⟨_,h2⟩:=CF heq m k 0 i v hf;rw[Nat.sub_zero]at h2;refine⟨fun p hp=>?_,fun q=>?_⟩
  ·rcases List.mem_or_eq_of_mem_set hp with hp |rfl
   ·exact h.1 p hp
   ·rfl
  ·have hs:(m.set i (k,true)).map (·.1)=m.map (·.1):=by
    rw[List.map_set];apply List.ext_getElem?;intro j;by_cases hj:i=j
    ·grind
    ·rw[List.getElem?_set_ne hj]
   rw[hs,h.2];have hk:k∈ks:=(h.2 k).1 (List.mem_map.2 ⟨_,List.mem_of_getElem? h2,rfl⟩);grind
 ·refine⟨fun p hp=>?_,fun q=>?_⟩
  ·rcases List.mem_append.1 hp with hp |hp
   ·exact h.1 p hp
   ·simp at hp;subst hp;rfl
  ·simp only[List.map_append,List.map_cons,List.map_nil,List.mem_append,h.2 q]
theorem I4(heq:∀a b,eq a b=decide (a=b))(l:List α){f:(Int×List (K×Bool)×List Bool)→Option ((Int×List (K×Bool)×List Bool)⊕(List (K×Bool)×List Bool))}
 (hs:∀(i:Nat) x m t,l[i]? =some x→i<t.length→f ((i:Int),m,t)=some (.inl (((i+1:Nat):Int),cm eq (key x) true m,t.set i (((bt eq (key x) m 0).map (·.2)).getD false))))
 (he:∀m t,f ((l.length:Int),m,t)=some (.inr (m,t))) (n:Nat) (hn:l.length<n):∃m,bV f n (0,[],List.replicate l.length false)=some (m,bg key [] l):=by
 refine⟨l.foldl (fun m x=>cm eq (key x) true m) [],?_⟩
 have hM:∀i,AG ((l.take i).foldl (fun m x=>cm eq (key x) true m) []) ((l.take i).map key):=by
  have:∀(l:List α) (m:List (K×Bool)) (ks:List K),AG m ks→AG (l.foldl (fun m x=>cm eq (key x) true m) m) (ks++l.map key):=by
   intro l;induction l with
   |nil=>intro m ks h;simpa using h
   |cons x xs ih=>
    intro m ks h;have:=ih _ _ (h.put heq (key x));simpa using this
  intro i;simpa using this (l.take i) [] [] ⟨by simp,by simp⟩
 have:=GF (f:=f) (fun i (s:List (K×Bool)×List Bool)=>((i:Int),s.1,s.2)) l
  (fun i=>((l.take i).foldl (fun m x=>cm eq (key x) true m) [],bg key [] (l.take i)++List.replicate (l.length - i) false))
  (l.foldl (fun m x=>cm eq (key x) true m) [],bg key [] l) (fun i x hx=>?_) ?_ n hn
 ·simpa[bg]using this
 ·have hlt:=(List.getElem?_eq_some_iff.1 hx).1;have htake:l.take (i+1)=l.take i++[x]:=by
   rw[List.take_add_one,hx];rfl
  have hfl:(bg key [] (l.take i)).length=i:=by rw[kf];simp;omega
  simp only
  rw[hs i x _ _ hx (by simp[hfl];omega),(hM i).get heq]
  congr 2;refine Prod.ext rfl (Prod.ext ?_ ?_)
  ·grind
  ·simp only[htake,E2,List.nil_append];rw[List.set_append_right _ _ (by omega),hfl,Nat.sub_self,show l.length - i=(l.length - (i+1))+1 by omega,List.replicate_succ,List.set_cons_zero]
   simp
 grind
end
section
variable {α K:Type} [DecidableEq K]
theorem KF(key:α→K){eq:K→K→Bool}(heq:∀a b,eq a b=decide (a=b))(l:List α){f:(Int×List (K×Bool)×List Bool)→Option ((Int×List (K×Bool)×List Bool)⊕(List (K×Bool)×List Bool))}{γ:Type}{k:List (K×Bool)×List Bool→Option γ}{r:Option γ}{n:Nat}(hn:l.length<n)
 (hs:∀(i:Nat) x m t,l[i]? =some x→i<t.length→f ((i:Int),m,t)=some (.inl (((i+1:Nat):Int),cm eq (key x) true m,t.set i (((bt eq (key x) m 0).map (·.2)).getD false))))
 (he:∀m t,f ((l.length:Int),m,t)=some (.inr (m,t))) (hk:∀m,k (m,bg key [] l)=r):(bV f n (0,[],List.replicate l.length false)).bind k=r:=by
 obtain⟨m,hm⟩:=I4 key heq l hs he n hn;rw[hm];exact hk m
end
def bI{α:Type}(E:Nat→α→Int):Nat→List α→Option (Int×Nat)
 |_,[]=>none
 |i,x::xs=>if E i x≠0 then some (E i x,i)else bI E (i+1) xs
theorem LI{α τ:Type}{f:Int→Option (Int⊕τ)}(l:List α)(E:Nat→α→Int)(bad:Nat→Int→τ)(fin:τ)
 (hs:∀(i:Nat) x,l[i]? =some x→f (i:Int)=some (if E i x≠0 then .inr (bad i (E i x))else .inl ((i+1:Nat):Int))) (he:f (l.length:Int)=some (.inr fin)) (n:Nat) (hn:l.length<n):
 bV f n 0=some (match bI E 0 l with |none=>fin |some (e,i)=>bad i e):=by
 have:=Nd (f:=f) (fun i (_:Unit)=>(i:Int)) (fun i x (_:Unit)=>if E i x≠0 then Sum.inr (bad i (E i x))else Sum.inl ()) (fun _=>fin) l
  (fun i x s hx=>by rw[hs i x hx];split<;>rfl) (fun _=>he) n () hn
 have key:∀(l:List α) (i:Nat),(match scan (fun i x (_:Unit)=>if E i x≠0 then Sum.inr (bad i (E i x))else Sum.inl ()) i l ()with | .inl _=>fin | .inr t=>t)=(match bI E i l with |none=>fin |some (e,i)=>bad i e):=by
  intro l;induction l with
  |nil=>intro i;rfl
  |cons x xs ih=>
   grind [scan,bI]
 grind
theorem sV{α τ γ:Type}{f:Int→Option (Int⊕τ)}(l:List α)(E:Nat→α→Int)(bad:Nat→Int→τ)(fin:τ){k:τ→Option γ}{r:Option γ}{n:Nat}(hn:l.length<n)
 (hs:∀(i:Nat) x,l[i]? =some x→f (i:Int)=some (if E i x≠0 then .inr (bad i (E i x))else .inl ((i+1:Nat):Int))) (he:f (l.length:Int)=some (.inr fin))
 (hk:(match bI E 0 l with |none=>k fin |some (e,i)=>k (bad i e))=r):(bV f n 0).bind k=r:=by
 rw[LI l E bad fin hs he n hn,← hk];grind
theorem Bg{α τ γ ST:Type}{f:ST→Option (ST⊕τ)}(mk:Nat→ST)(l:List α)(E:Nat→α→Int){k:τ→Option γ}(bad:Nat→Int→Option γ)(fin:Option γ){n:Nat}(hn:l.length<n)
 (hb:∀(i:Nat) x,l[i]? =some x→(∀(j:Nat) y,j<i→l[j]? =some y→E j y=0)→E i x≠0→∃t,f (mk i)=some (.inr t)∧k t=bad i (E i x))
 (hg:∀(i:Nat) x,l[i]? =some x→(∀(j:Nat) y,j<i→l[j]? =some y→E j y=0)→E i x=0→f (mk i)=some (.inl (mk (i+1))))
 (he:(∀(j:Nat) y,l[j]? =some y→E j y=0)→∃t,f (mk l.length)=some (.inr t)∧k t=fin):
 (bV f n (mk 0)).bind k=(match bI E 0 l with |none=>fin |some (e,i)=>bad i e):=by
 have key:∀(m i n:Nat),i+m=l.length→m<n→(∀(j:Nat) y,j<i→l[j]? =some y→E j y=0)→(bV f n (mk i)).bind k=(match bI E i (l.drop i)with |none=>fin |some (e,i)=>bad i e):=by
  intro m;induction m with
  |zero=>
   intro i n hi hn hp;obtain⟨n,rfl⟩:∃m,n=m+1:=⟨n - 1,by omega⟩
   grind [bV,bI]
  |succ m ih=>
   intro i n hi hn hp;obtain⟨n,rfl⟩:∃m,n=m+1:=⟨n - 1,by omega⟩
   have hlt:i<l.length:=by omega
   have hx:=List.getElem?_eq_getElem hlt;rw[List.drop_eq_getElem_cons hlt];grind [bI,bV]
 grind
theorem qw{α:Type}{E:Nat→α→Int}:∀(l:List α) (i:Nat),bI E i l=none↔∀(j:Nat) x,l[j]? =some x→E (i+j) x=0
 | [],i=>by simp[bI]
 |x::xs,i=>by
  simp only[bI];constructor
  ·intro h;split at h
   ·cases h
   ·rename_i h0;have ih:=(qw xs (i+1)).1 h;grind
  ·intro h;have h0:=h 0 x rfl;simp only[Nat.add_zero]at h0;rw[if_neg (by simpa using h0)]
   exact(qw xs (i+1)).2 fun j y hj=>by
    have:=h (j+1) y (by simpa using hj)
    grind
theorem DO{α:Type}(p:α→Bool):∀(l:List α) (j:Nat),bI (fun _ x=>if p x=true then 1 else 0) j l=(l.findIdx? p).map fun i=>(1,i+j)
 | [],_=>rfl
 |x::xs,j=>by
  simp only[bI,List.findIdx?_cons];cases h:p x with
  |true=>simp
  |false=>
   simp only[Bool.false_eq_true,if_false,ne_eq,not_true_eq_false,DO p xs (j+1),Option.map_map];congr 1;grind
theorem GH{α γ:Type}(l:List α)(p:α→Bool){f:Int→Option (Int⊕(Int⊕Unit))}{k:Int⊕Unit→Option γ}{r:Option γ}{n:Nat}(hn:l.length<n)
 (hs:∀(i:Nat) x,l[i]? =some x→f (i:Int)=some (if p x=true then .inr (.inl (i:Int))else .inl ((i+1:Nat):Int))) (he:f (l.length:Int)=some (.inr (.inr ())))
 (hk:k (match l.findIdx? p with |some i=>.inl (i:Int) |none=>.inr ())=r):(bV f n 0).bind k=r:=by
 refine sV l (fun _ x=>if p x=true then 1 else 0) (fun i _=>.inl (i:Int)) (.inr ()) hn (fun i x hx=>?_) he ?_
 ·rw[hs i x hx];cases p x<;>simp
 grind [DO]
def idxOf{α:Type}(p:α→Bool)(l:List α):Int:=match l.findIdx? p with
 |some i=>(i:Int)
 |none=> -1
theorem Iv{α:Type}(p:α→Bool)(l:List α):decide (idxOf p l≥0)=l.any p:=by
 grind [idxOf]
theorem jC{X β:Type}(l:List X)(enc:X→List AVal)(n b ak i o:Nat)(y:X→X)(k:X→Option β):(OS l enc n b ak i o y).run.bind k=(l[i]?).bind k:=rfl
end Go.AM
namespace Go.L
open Go.AM
section leaves
variable {β:Type} (n:Nat)
theorem iK(x lo hi:Int)(k:cD.sh.El→Option β):(cD.S n (x,lo,hi)).bind k=k (decide (x<lo)||decide (hi<x)):=by
 have:cD.S n (x,lo,hi)=some (decide (x<lo)||decide (hi<x)):=by
  show(uw x lo hi).run n=_;simp only[uw,G.run,aO];by_cases h:x<lo<;>simp[h]<;>rfl
 rw[this];rfl
theorem fh(b:Bool)(e:Int)(p:ByteArray)(i:Int)(k:ay.sh.El→Option β):(ay.S n (b,e,p,i)).bind k=if b=true then k (.inr (e,p,i))else k (.inl ()):=by
 have:ay.S n (b,e,p,i)=some (if b=true then Sum.inr (e,p,i)else Sum.inl ()):=by
  show(yj b e p i).run n=_;simp only[yj,G.run,aO];cases b<;>simp<;>rfl
 rw[this];cases b<;>rfl
theorem kB(x m:Int)(k:eC.sh.El→Option β):(eC.S n (x,m)).bind k=k (decide (0≤x)&&decide (x<m)):=by
 have:eC.S n (x,m)=some (decide (0≤x)&&decide (x<m)):=by
  show(jW x m).run n=_;simp only[jW,G.run,aO];by_cases h:0≤x<;>simp[h]<;>rfl
 rw[this];rfl
end leaves
instance :DecidableEq (V2 Int):=fun a b=>decidable_of_iff (a.a0=b.a0∧a.a1=b.a1) ⟨fun h=>by cases a;cases b;simp_all,fun h=>by simp[h]⟩
instance :DecidableEq ah:=fun a b=>decidable_of_iff (a.IP=b.IP∧a.Len=b.Len) ⟨fun h=>by cases a;cases b;simp_all,fun h=>by simp[h]⟩
instance :DecidableEq bp:=fun a b=>decidable_of_iff (a.bd=b.bd∧a.addr=b.addr) ⟨fun h=>by cases a;cases b;simp_all,fun h=>by simp[h]⟩
instance :DecidableEq dH:=fun a b=>decidable_of_iff (a.From=b.From∧a.To=b.To∧a.ah=b.ah) ⟨fun h=>by cases a;cases b;simp_all,fun h=>by simp[h]⟩
section
variable {α K β:Type} [DecidableEq K]
theorem xW{e:α→List AVal}{sz fn jm:Nat}{c:aD prog}{ar:α→c.X}{rs:c.sh.El→K}{ek:K→AVal}{eq:K→K→Bool}{ks:List Kd}{ag:Bool}{hk:∀v,(ek v).pure=true}(heq:∀a b,eq a b=true↔a=b)(key:α→K)(hc:∀n x,∃y,c.S n (ar x)=some y∧rs y=key x)(n:Nat)(l:List α)(hn:l.length<n)(hs:l.length≤4000)(k:List Bool→Option β):
 ((zD e sz fn jm c ar rs ek eq ks ag hk l).run n).bind k=k (bg key [] l):=by
 have:(zD e sz fn jm c ar rs ek eq ks ag hk l).run n=some (bg key [] l):=by
  have hroom:roomy (Int.toNat (l.length:Int)) 1=true:=by simp[roomy];omega
  simp only[zD,G.run,aO,bY,OW,cw,Nf,Ng,fS,jC,if_true,Int.toNat_natCast];rw[if_pos ⟨by omega,by simpa using hroom⟩]
  refine KF key (eq:=eq) (fun a b=>by rw[Bool.eq_iff_iff,heq];simp) l hn (fun i x m t hx ht=>?_) (fun m t=>?_) (fun m=>?_)
  ·have hi:=(List.getElem?_eq_some_iff.1 hx).1;have h1:(0:Int)≤i∧(i:Int)<((List.replicate l.length false).length:Nat):=by simp;omega
   obtain⟨y,hy⟩:∃y,t[i]? =some y:=⟨_,List.getElem?_eq_getElem ht⟩;obtain⟨z,hz,hk⟩:=hc n x;simp only[bN,hx,Option.bind_some,Int.toNat_natCast,hy,hz,hk,h1,and_self,if_true,ep (show i<9223372036854775807 by omega)]
   simp[hi];rfl
  ·simp;rfl
  ·simp[k6,kf];rfl
 rw[this];rfl
theorem DP{e:α→List AVal}{sz:Nat}{fv:AVal}{c:aD prog}{ar:α→c.X}{rs:c.sh.El→Bool}(p:α→Bool)(hc:∀n x,∃y,c.S n (ar x)=some y∧rs y=p x)(n:Nat)(l:List α)(hn:l.length<n)(hs:l.length≤4000):
 (Fv e sz fv c ar rs l).run n=some (idxOf p l):=by
 simp only[Fv,G.run,aO,bY,cw,if_true];refine GH l p hn (fun i x hx=>?_) ?_ ?_
 ·have hi:=(List.getElem?_eq_some_iff.1 hx).1;have hlt:(i:Int)<l.length:=by omega
  obtain⟨y,hy,hp⟩:=hc n x;simp only[bN,hx,Option.bind_some,hlt,decide_true,if_true,hy,hp,ep (show i<9223372036854775807 by omega)]
  split<;>rfl
 ·simp;rfl
 ·unfold idxOf;cases l.findIdx? p<;>rfl
theorem DQ{c:aD prog}{x:c.X}{rs:c.sh.El→Int}{y:c.sh.El}(p:α→Bool)(l:List α)(n:Nat)(hc:c.S n x=some y)(hy:rs y=idxOf p l)(k:Bool→Option β):
 ((Dz c x rs).run n).bind k=k (l.any p):=by
 have:(Dz c x rs).run n=some (l.any p):=by
  simp only[Dz,G.run,aO,if_true,hc,Option.bind_some,hy,Iv];rfl
 rw[this];rfl
end
theorem BP{β:Type}(n:Nat)(l:List av)(hn:l.length<n)(hs:l.length≤4000)(k:gZ.sh.El→Option β):(gZ.S n l).bind k=k (bg (fun x:av=>x.bL) [] l):=by
 dsimp only[gZ,aD.of];exact xW (K:=Int) (fun a b=>by simp) _ (fun _ _=>⟨_,rfl,rfl⟩) n l hn hs k
theorem Am{β:Type}(n:Nat)(l:List av)(hn:l.length<n)(hs:l.length≤4000)(k:gM.sh.El→Option β):(gM.S n l).bind k=k (bg (fun x:av=>x.Target) [] l):=by
 dsimp only[gM,aD.of];exact xW (K:=Int) (fun a b=>by simp) _ (fun _ _=>⟨_,rfl,rfl⟩) n l hn hs k
theorem EA{β:Type}(n:Nat)(l:List BD)(hn:l.length<n)(hs:l.length≤4000)(k:jj.sh.El→Option β):(jj.S n l).bind k=k (bg (fun x:BD=>x.bL) [] l):=by
 dsimp only[jj,aD.of];exact xW (K:=Int) (fun a b=>by simp) _ (fun _ _=>⟨_,rfl,rfl⟩) n l hn hs k
theorem C0{β:Type}(n:Nat)(l:List BD)(hn:l.length<n)(hs:l.length≤4000)(k:iG.sh.El→Option β):(iG.S n l).bind k=k (bg (fun x:BD=>x.Target) [] l):=by
 dsimp only[iG,aD.of];exact xW (K:=Int) (fun a b=>by simp) _ (fun _ _=>⟨_,rfl,rfl⟩) n l hn hs k
theorem yV{β:Type}(n:Nat)(l:List Host)(hn:l.length<n)(hs:l.length≤4000)(k:gA.sh.El→Option β):(gA.S n l).bind k=k (bg (fun x:Host=>(⟨x.BD,x.bq⟩:bp)) [] l):=by
 dsimp only[gA,aD.of];exact xW (K:=bp) (fun a b=>by cases a;cases b;simp) _ (fun _ _=>⟨_,rfl,rfl⟩) n l hn hs k
theorem xX{β:Type}(n:Nat)(l:List Host)(hn:l.length<n)(hs:l.length≤4000)(k:fT.sh.El→Option β):(fT.S n l).bind k=k (bg (fun x:Host=>(⟨x.BD,(IntKind.wrap .u64 x.IP)⟩:bp)) [] l):=by
 dsimp only[fT,aD.of];exact xW (K:=bp) (fun a b=>by cases a;cases b;simp) _ (fun _ _=>⟨_,rfl,rfl⟩) n l hn hs k
theorem EB{β:Type}(n:Nat)(l:List dH)(hn:l.length<n)(hs:l.length≤4000)(k:jo.sh.El→Option β):(jo.S n l).bind k=k (bg (fun x:dH=>x) [] l):=by
 dsimp only[jo,aD.of];exact xW (K:=dH) (fun a b=>by rcases a with⟨_,_,⟨_,_⟩⟩;rcases b with⟨_,_,⟨_,_⟩⟩;simp) _ (fun _ _=>⟨_,rfl,rfl⟩) n l hn hs k
theorem DR{β:Type}(n:Nat)(l:List eV)(hn:l.length<n)(hs:l.length≤4000)(k:iW.sh.El→Option β):(iW.S n l).bind k=k (bg (fun x:eV=>(⟨x.A,x.B⟩:V2 Int)) [] l):=by
 dsimp only[iW,aD.of];exact xW (K:=V2 Int) (fun a b=>by cases a;cases b;simp) _ (fun _ _=>⟨_,rfl,rfl⟩) n l hn hs k
end Go.L
namespace Go.L
open Go.AM
def outcome(part:ByteArray)(most:Int)(full:Bool)(r:Option (Int×Nat)):Unit⊕(Int×ByteArray×Int):=
 if full=true then .inr (7,part,most)else match r with
 |none=>.inl ()
 |some (e,i)=>.inr (e,part,(i:Int))
def KG:ByteArray:=⟨⟨[108,105,110,107,115]⟩⟩
def yW(f:au)(fl:List Bool)(i:Nat)(x:eV):Int:=
 if(decide (0≤x.A)&&decide (x.A<f.Leaves))=true then
  if decide (x.B≥f.Leaves)=true then
   if(!decide (x.B<IntKind.wrap .i64 (f.Leaves+f.dK)))=true then 2
   else if(decide (x.wH<1)||decide (1000<x.wH))=true then 2
   else if fl.getD i false=true then 11 else 0
  else 2
 else 2
theorem Q3(n:Nat)(f:au)(hn:f.Links.length<n)(hs:f.Links.length≤128∨128<f.Links.length):
 k7.S n ⟨f⟩=some (outcome KG 128 (decide (128<(f.Links.length:Int))) (bI (yW f (bg (fun x:eV=>(⟨x.A,x.B⟩:V2 Int)) [] f.Links)) 0 f.Links)):=by
 show(om ⟨f⟩).run n=_;simp only[om,G.run,aO,bY,fh,Sum.elim,gt_iff_lt,decide_eq_true_eq];by_cases hfull:(128:Int)<f.Links.length
 ·simp[hfull,outcome];rfl
 ·simp only[hfull,if_false,decide_false];rw[DR n f.Links hn (by omega)]
  simp only[G.run,aO,bY,if_true,cw,kB,iK,fh,Sum.elim];refine sV f.Links (yW f (bg (fun x:eV=>(⟨x.A,x.B⟩:V2 Int)) [] f.Links)) (fun i e=>Sum.inl (e,KG,(i:Int))) (Sum.inr ()) hn (fun i x hx=>?_) ?_ ?_
  ·have hi:=(List.getElem?_eq_some_iff.1 hx).1;obtain⟨y,hy⟩:∃y,(bg (fun x:eV=>(⟨x.A,x.B⟩:V2 Int)) [] f.Links)[i]? =some y:=⟨_,List.getElem?_eq_getElem (by rw[kf];exact hi)⟩
   have hlt:(i:Int)<f.Links.length:=by omega
   simp only[bN,hx,Option.bind_some,hlt,decide_true,if_true,hy,yW,List.getD_eq_getElem?_getD,Option.getD_some,ep (show i<9223372036854775807 by omega)]
   repeat' split
   all_goals first |rfl | (simp_all<;>omega)
  ·simp;rfl
  ·cases bI (yW f (bg (fun x:eV=>(⟨x.A,x.B⟩:V2 Int)) [] f.Links)) 0 f.Links with
   |none=>rfl
   |some p=>rfl
end Go.L
namespace Go.L
open Go.AM
theorem GI{β:Type}(n:Nat)(l:List av)(v:Int)(hn:l.length<n)(hs:l.length≤4000)(k:gm.sh.El→Option β):(gm.S n (l,v)).bind k=k (l.any fun x=>x.bL==v):=by
 have h:jy.S n (l,v)=some (idxOf (fun x=>x.bL==v) l):=by dsimp only[jy,aD.of];exact DP _ (fun _ _=>⟨_,rfl,rfl⟩) n l hn hs
 dsimp only[gm,aD.of];exact DQ _ l n h rfl k
theorem NJ{β:Type}(n:Nat)(l:List av)(v:Int)(hn:l.length<n)(hs:l.length≤4000)(k:jk.sh.El→Option β):(jk.S n (l,v)).bind k=k (l.any fun x=>x.bL==v):=by
 have:jk.S n (l,v)=some (l.any fun x=>x.bL==v):=GI n l v hn hs _
 rw[this];rfl
theorem DS{β:Type}(n:Nat)(l:List av)(v:Int)(hn:l.length<n)(hs:l.length≤4000)(k:fO.sh.El→Option β):(fO.S n (l,v)).bind k=k (l.any fun x=>x.Target==v):=by
 have h:iP.S n (l,v)=some (idxOf (fun x=>x.Target==v) l):=by dsimp only[iP,aD.of];exact DP _ (fun _ _=>⟨_,rfl,rfl⟩) n l hn hs
 dsimp only[fO,aD.of];exact DQ _ l n h rfl k
theorem I5{β:Type}(n:Nat)(l:List av)(v:Int)(hn:l.length<n)(hs:l.length≤4000)(k:iH.sh.El→Option β):(iH.S n (l,v)).bind k=k (l.any fun x=>x.Target==v):=by
 have:iH.S n (l,v)=some (l.any fun x=>x.Target==v):=DS n l v hn hs _
 rw[this];rfl
theorem GJ{β:Type}(n:Nat)(l:List Int)(f:au)(hn:l.length<n)(hs:l.length≤4000)(k:iw.sh.El→Option β):(iw.S n (l,f)).bind k=k (l.any fun y=> !(decide (0≤y)&&decide (y<f.Leaves))):=by
 have h:l5.S n (l,f)=some (idxOf (fun y=> !(decide (0≤y)&&decide (y<f.Leaves))) l):=by dsimp only[l5,aD.of];exact DP _ (fun n y=>⟨_,(kB n y _ _:pG.S n (y,f)=some _),rfl⟩) n l hn hs
 dsimp only[iw,aD.of];exact DQ _ l n h rfl k
theorem I6{β:Type}(n:Nat)(l:List Int)(f:au)(hn:l.length<n)(hs:l.length≤4000)(k:gO.sh.El→Option β):(gO.S n (l,f)).bind k=k (l.any fun y=> !(decide (0≤y)&&decide (y<(f.aI.length:Int)))):=by
 have h:kR.S n (l,f)=some (idxOf (fun y=> !(decide (0≤y)&&decide (y<(f.aI.length:Int)))) l):=by dsimp only[kR,aD.of];exact DP _ (fun n y=>⟨_,(kB n y _ _:pH.S n (y,f)=some _),rfl⟩) n l hn hs
 dsimp only[gO,aD.of];exact DQ _ l n h rfl k
theorem Pm{β:Type}(n:Nat)(l:List Int)(v:Int)(hn:l.length<n)(hs:l.length≤4000)(k:jd.sh.El→Option β):
 (jd.S n (l,v)).bind k=k (idxOf (fun x:Int=>v==x) l):=by
 have:jd.S n (l,v)=some (idxOf (fun x:Int=>v==x) l):=by
  show(jc l v).run n=_;simp only[jc,G.run,aO,bY,cw,if_true,if_true];refine GH l (fun x:Int=>v==x) hn (fun i x hx=>?_) ?_ ?_
  ·have hi:=(List.getElem?_eq_some_iff.1 hx).1;have hlt:(i:Int)<l.length:=by omega
   simp only[bN,hx,Option.bind_some,hlt,decide_true,if_true,ep (show i<9223372036854775807 by omega)]
   split<;>rfl
  ·simp;rfl
  ·unfold idxOf;cases l.findIdx? (fun x:Int=>v==x)<;>rfl
 rw[this];rfl
theorem KH{β:Type}(n:Nat)(l:List Int)(v:Int)(hn:l.length<n)(hs:l.length≤4000)(k:dY.sh.El→Option β):
 (dY.S n (l,v)).bind k=k (l.any (fun x:Int=>v==x)):=by
 have:dY.S n (l,v)=some (l.any (fun x:Int=>v==x)):=by
  show(hG l v).run n=_;simp only[hG,G.run,aO,if_true];rw[Pm n l v hn hs];simp only[Iv];rfl
 rw[this];rfl
end Go.L
namespace Go.L
open Go.AM
theorem AH{β:Type}(k1 k2:Go.IntKind)(a b:Int)(k:Unit→Option β):(Du k1 k2 a b).run.bind k=if decide (0≤b)=true then k ()else none:=by
 show(if decide (0≤b)=true then some ()else none).bind k=_
 split<;>rfl
def gB(p:ah):Bool:=decide (0≤p.Len)&&decide (p.Len≤32)
def zZ(a b:Int):Int:=IntKind.wrap .u32 (((BitVec.ofInt 32 a)&&& (BitVec.ofInt 32 b)).toNat:Int)
def Tu(a b:Int):Int:=IntKind.wrap .u32 (((BitVec.ofInt 32 a)||| (BitVec.ofInt 32 b)).toNat:Int)
def Q4(a b:Int):Int:=IntKind.wrap .u32 (((BitVec.ofInt 32 a) ^^^ (BitVec.ofInt 32 b)).toNat:Int)
def um(n:Int):Int:=IntKind.wrap .u32 ((4294967295:Int)*((2:Int) ^ (min (Int.toNat (IntKind.wrap .i64 ((32:Int) - n))) (IntKind.bits .u32))))
def z6(n:Int):Int:=IntKind.wrap .u32 ((IntKind.wrap .u32 ((1:Int)*((2:Int) ^ (min (Int.toNat (IntKind.wrap .i64 ((32:Int) - n))) (IntKind.bits .u32))))) - (1:Int))
def GL(n:Int):Int:=IntKind.wrap .u32 (((BitVec.ofInt 32 4294967295) ^^^ (BitVec.ofInt 32 (z6 n))).toNat:Int)
theorem Mn{n:Int}(h0:0≤n)(h1:n≤32):GL n=um n:=by
 have key:((List.range 33).all fun k=>GL (k:Int)==um (k:Int))=true:=by decide+kernel
 have:=List.all_eq_true.1 key n.toNat (List.mem_range.2 (by omega))
 grind
def gF(p:ah):Bool:=gB p&&(zZ p.IP (um p.Len)==p.IP)
def fk(p:ah)(ip:Int):Bool:=gB p&&(zZ (Q4 p.IP ip) (um p.Len)==0)
def xY(p:ah)(ip:Int):Bool:=fk p ip&&(ip != p.IP&&ip != Tu p.IP (z6 p.Len))
section
variable {β:Type} (n:Nat)
theorem GM(p:ah)(k:lE.sh.El→Option β):(lE.S n p).bind k=k (gB p):=by
 have:lE.S n p=some (gB p):=by
  show(rF p).run n=_;simp only[rF,G.run,aO,gB,ge_iff_le];by_cases h:0≤p.Len<;>simp[h]<;>rfl
 rw[this];rfl
theorem wrap32{x:Int}(h0:0≤x)(h1:x≤32):IntKind.wrap .i64 (32 - x)=32 - x:=wrap_i64 (by omega) (by omega)
theorem Iw(x:Int)(h0:0≤x)(h1:x≤32)(k:qI.sh.El→Option β):(qI.S n x).bind k=k (um x):=by
 have:qI.S n x=some (um x):=by
  show(tQ x).run n=_;simp only[tQ,G.run,aO,AH,um];rw[if_pos (by rw[wrap32 h0 h1];simp;omega)]
  rfl
 rw[this];rfl
theorem z7(p:ah)(k:oZ.sh.El→Option β):(oZ.S n p).bind k=k (gF p):=by
 have:oZ.S n p=some (gF p):=by
  show(wL p).run n=_;have hc:∀{γ:Type} (k:vw.sh.El→Option γ),(vw.S n p).bind k=if gB p=true then k (⟨zZ p.IP (um p.Len),p.Len⟩,0)else k (⟨0,0⟩,2):=by
   intro γ k;have:vw.S n p=some (if gB p=true then(⟨zZ p.IP (um p.Len),p.Len⟩,0)else(⟨0,0⟩,2)):=by
    show(zF p).run n=_;simp only[zF,G.run,aO,GM];by_cases h:gB p=true
    ·simp only[h,Bool.not_true,Bool.false_eq_true,if_false,if_true];simp only[gB,Bool.and_eq_true,decide_eq_true_eq]at h;rw[Iw n p.Len h.1 h.2];rfl
    ·simp[h];rfl
   rw[this];split<;>rfl
  simp only[wL,G.run,aO,hc,gF];by_cases h:gB p=true<;>simp[h]<;>rfl
 rw[this];rfl
theorem CS(p:ah)(ip:Int)(k:dL.sh.El→Option β):(dL.S n (p,ip)).bind k=k (fk p ip):=by
 have:dL.S n (p,ip)=some (fk p ip):=by
  show(nP p ip).run n=_;simp only[nP,G.run,aO,GM,fk];by_cases h:gB p=true
  ·simp only[h,if_true,Bool.true_and];simp only[gB,Bool.and_eq_true,decide_eq_true_eq]at h;rw[Iw n p.Len h.1 h.2];rfl
  ·simp[h];rfl
 rw[this];rfl
theorem DU(p:ah)(ip:Int)(hp:gB p=true)(k:o5.sh.El→Option β):(o5.S n (p,ip)).bind k=k (xY p ip):=by
 have:o5.S n (p,ip)=some (xY p ip):=by
  show(wM p ip).run n=_;have h:=hp;simp only[gB,Bool.and_eq_true,decide_eq_true_eq]at h;simp only[wM,G.run,aO,CS,AH];rw[if_pos (by rw[wrap32 h.1 h.2];simp;omega)]
  simp only[xY,if_true];by_cases h1:fk p ip=true
  ·by_cases h2:(ip != p.IP)=true
   ·simp only[h1,h2,if_true,Bool.true_and];rfl
   ·simp only[h1,h2,if_true,Bool.true_and,Bool.false_eq_true,if_false];simp at h2;simp[h2];rfl
  ·simp[h1];rfl
 rw[this];rfl
end
end Go.L
namespace Go.L
open Go.AM
def FA:ByteArray:=⟨⟨[116,101,110,97,110,116,115]⟩⟩
def KI:ByteArray:=⟨⟨[108,101,97,107,115]⟩⟩
def sW(f1 f2:List Bool)(i:Nat)(x:av):Int:=
 if decide (x.bL<1)=true then 2 else if decide (16777215<x.bL)=true then 2 else if(x.Target==0)=true then 2
 else if f1.getD i false=true then 11 else if f2.getD i false=true then 11 else 0
theorem NK(n:Nat)(f:au)(hn:f.aA.length<n):
 jX.S n ⟨f⟩=some (outcome FA 16 (decide (16<(f.aA.length:Int))) (bI (sW (bg (fun x:av=>x.bL) [] f.aA) (bg (fun x:av=>x.Target) [] f.aA)) 0 f.aA)):=by
 show(mX ⟨f⟩).run n=_;simp only[mX,G.run,aO,bY,fh,Sum.elim,gt_iff_lt,decide_eq_true_eq];by_cases hfull:(16:Int)<f.aA.length
 ·simp[hfull,outcome];rfl
 ·simp only[hfull,if_false,decide_false];rw[BP n f.aA hn (by omega)]
  rw[Am n f.aA hn (by omega)]
  simp only[G.run,aO,bY,if_true,cw,kB,iK,fh,Sum.elim];generalize hf1:bg (fun x:av=>x.bL) [] f.aA=f1
  generalize hf2:bg (fun x:av=>x.Target) [] f.aA=f2
  refine sV f.aA (sW f1 f2) (fun i e=>Sum.inl (e,FA,(i:Int))) (Sum.inr ()) hn (fun i x hx=>?_) ?_ ?_
  ·have hi:=(List.getElem?_eq_some_iff.1 hx).1;obtain⟨y,hy⟩:∃y,f1[i]? =some y:=⟨_,List.getElem?_eq_getElem (by rw[← hf1,kf];exact hi)⟩
   obtain⟨z,hz⟩:∃y,f2[i]? =some y:=⟨_,List.getElem?_eq_getElem (by rw[← hf2,kf];exact hi)⟩
   have hlt:(i:Int)<f.aA.length:=by omega
   simp only[bN,hx,Option.bind_some,hlt,decide_true,if_true,hy,hz,sW,List.getD_eq_getElem?_getD,Option.getD_some,ep (show i<9223372036854775807 by omega)]
   clear hf1 hf2 hy hz hx
   repeat' split
   all_goals first |rfl | (simp_all<;>omega)
  ·simp;rfl
  ·cases bI (sW f1 f2) 0 f.aA with
   |none=>rfl
   |some p=>rfl
def yX(f:au)(f1:List Bool)(i:Nat)(x:dH):Int:=
 if(!(decide (0≤x.From)&&decide (x.From<(f.aA.length:Int))))=true then 2 else if(!(decide (0≤x.To)&&decide (x.To<(f.aA.length:Int))))=true then 2
 else if(x.From==x.To)=true then 3 else if(!gF x.ah)=true then 3 else if f1.getD i false=true then 11 else 0
theorem Q5(n:Nat)(f:au)(hn:f.Leaks.length<n):
 k9.S n ⟨f⟩=some (outcome KI 256 (decide (256<(f.Leaks.length:Int))) (bI (yX f (bg (fun x:dH=>x) [] f.Leaks)) 0 f.Leaks)):=by
 show(ot ⟨f⟩).run n=_;simp only[ot,G.run,aO,bY,fh,Sum.elim,gt_iff_lt,decide_eq_true_eq];by_cases hfull:(256:Int)<f.Leaks.length
 ·simp[hfull,outcome];rfl
 ·simp only[hfull,if_false,decide_false];rw[EB n f.Leaks hn (by omega)]
  simp only[G.run,aO,bY,if_true,cw,kB,iK,fh,Sum.elim,z7];generalize hf1:bg (fun x:dH=>x) [] f.Leaks=f1
  refine sV f.Leaks (yX f f1) (fun i e=>Sum.inl (e,KI,(i:Int))) (Sum.inr ()) hn (fun i x hx=>?_) ?_ ?_
  ·have hi:=(List.getElem?_eq_some_iff.1 hx).1;obtain⟨y,hy⟩:∃y,f1[i]? =some y:=⟨_,List.getElem?_eq_getElem (by rw[← hf1,kf];exact hi)⟩
   have hlt:(i:Int)<f.Leaks.length:=by omega
   simp only[bN,hx,Option.bind_some,hlt,decide_true,if_true,hy,yX,List.getD_eq_getElem?_getD,Option.getD_some,ep (show i<9223372036854775807 by omega)]
   clear hf1 hy hx
   repeat' split
   all_goals first |rfl | (simp_all<;>omega)
  ·simp;rfl
  ·cases bI (yX f f1) 0 f.Leaks with
   |none=>rfl
   |some p=>rfl
end Go.L
namespace Go.L
open Go.AM
def Mo:ByteArray:=⟨⟨[102,97,98,114,105,99]⟩⟩
def Mp:ByteArray:=⟨⟨[116,105,109,101,114,115]⟩⟩
def KJ:ByteArray:=⟨⟨[104,111,115,116,115]⟩⟩
def out(x lo hi:Int):Bool:=decide (x<lo)||decide (hi<x)
def ez(f:au):Bool:=out f.Leaves 1 32||out f.dK 0 32||decide (32<IntKind.wrap .i64 (f.Leaves+f.dK))||out f.xy 0 2||out f.qH 0 1||out f.cW 0 1
def eF(t:cC):Bool:=out t.rE 1 100||out t.A8 3 1000||out t.Dy 1 10000||out t.qG 0 1000||out t.xx 1 100||out t.Window 1 10000
theorem Pn(n:Nat)(f:au):kF.S n ⟨f⟩=some (if ez f=true then Sum.inr (2,Mo,0)else Sum.inl ()):=by
 show(nu ⟨f⟩).run n=_;simp only[nu,G.run,aO,iK,fh,Sum.elim,if_true];unfold ez;have e:∀x lo hi,(decide (x<lo)||decide (hi<x))=out x lo hi:=fun _ _ _=>rfl
 simp only[e,gt_iff_lt,Bool.or_eq_true];cases out f.Leaves 1 32<;>cases out f.dK 0 32<;>cases decide (32<IntKind.wrap .i64 (f.Leaves+f.dK))<;>cases out f.xy 0 2<;>cases out f.qH 0 1<;>cases out f.cW 0 1<;>rfl
theorem Po(n:Nat)(f:au):kG.S n ⟨f⟩=some (if eF f.cC=true then Sum.inr (2,Mp,0)else Sum.inl ()):=by
 show(nv ⟨f⟩).run n=_;simp only[nv,G.run,aO,iK,fh,Sum.elim,if_true];unfold eF;have e:∀x lo hi,(decide (x<lo)||decide (hi<x))=out x lo hi:=fun _ _ _=>rfl
 simp only[e,gt_iff_lt,Bool.or_eq_true];cases out f.cC.rE 1 100<;>cases out f.cC.A8 3 1000<;>cases out f.cC.Dy 1 10000<;>cases out f.cC.qG 0 1000<;>cases out f.cC.xx 1 100<;>cases out f.cC.Window 1 10000<;>rfl
def xD(m:Int):Bool:=decide (m≤281474976710655)&&(IntKind.wrap .u64 (((BitVec.ofInt 64 (Int.fdiv m ((2:Int) ^ (min (Int.toNat (40:Int)) (IntKind.bits .u64)))))&&& (BitVec.ofInt 64 1)).toNat:Int) != 0)
def lS(m:Int):Bool:= !decide (m<2199023255552)&& !decide (m≥2199023255584)
def gC(b:BD)(ip:Int):Bool:=ip==0||(b.aL != 0&&(ip != b.aL&&xY b.aJ ip))
section
variable {β:Type} (n:Nat)
theorem Hz(m:Int)(k:pY.sh.El→Option β):(pY.S n m).bind k=k (xD m):=by
 have:pY.S n m=some (xD m):=by
  show(ux m).run n=_;simp only[ux,G.run,aO,xD];by_cases h:m≤281474976710655
  ·simp only[h,decide_true,if_true,Bool.true_and];rfl
  ·simp only[h,decide_false,if_false,Bool.false_and,Bool.false_eq_true];rfl
 rw[this];rfl
theorem GN(m:Int)(k:me.sh.El→Option β):(me.S n m).bind k=if lS m=true then k (IntKind.wrap .i64 (IntKind.wrap .u64 (m - 2199023255552)),true)else k (0,false):=by
 have:me.S n m=some (if lS m=true then(IntKind.wrap .i64 (IntKind.wrap .u64 (m - 2199023255552)),true)else(0,false)):=by
  show(tf m).run n=_;simp only[tf,G.run,aO,lS];by_cases h:m<2199023255552
  ·simp[h];rfl
  ·by_cases h2:m≥2199023255584
   ·simp[h,h2];rfl
   ·simp only[h,h2,decide_false,Bool.not_false,Bool.and_self,Bool.false_eq_true,if_false,if_true];rfl
 rw[this];split<;>rfl
theorem FB(b:BD)(ip:Int)(hb:b.aL≠0→gB b.aJ=true)(k:lF.sh.El→Option β):(lF.S n (b,ip)).bind k=k (gC b ip):=by
 have:lF.S n (b,ip)=some (gC b ip):=by
  show(rH b ip).run n=_;simp only[rH,G.run,aO,gC];cases e1:(ip==0)with
  |true=>simp only[if_true,Bool.true_or];rfl
  |false=>
   cases e2:(b.aL != 0)with
   |false=>simp only[Bool.false_eq_true,if_false,Bool.false_or,Bool.false_and];rfl
   |true=>
    cases e3:(ip != b.aL)with
    |false=>simp only[Bool.false_eq_true,if_false,if_true,Bool.false_or,Bool.true_and,Bool.false_and];rfl
    |true=>
     simp only[Bool.false_eq_true,if_false,if_true,Bool.false_or,Bool.true_and];rw[DU n b.aJ ip (hb (by simpa using e2))];rfl
 rw[this];rfl
end
def Bh(f:au)(b:Int):BD:=(gv f.aI b).getD ⟨0,0,0,⟨0,0⟩,0⟩
def xZ(f:au)(s:Int):List Int:=((gv f.az s).map (·.aI)).getD []
theorem NL(n:Int)(h:0≤n)(h2:n≤4000):IntKind.wrap .i64 (n - 1)=n - 1:=wrap_i64 (by omega) (by omega)
def yY(f:au)(f1 f2:List Bool)(i:Nat)(h:Host):Int:=
 if(h.bq==0)=true then 2 else if decide (281474976710655<h.bq)=true then 2 else if xD h.bq=true then 2
 else if(!(decide (0≤h.BD)&&decide (h.BD<(f.aI.length:Int))))=true then 2 else if out h.bf (-1) ((f.az.length:Int) - 1)=true then 2
 else if(h.bf != -1&& !(xZ f h.bf).any fun x=>h.BD==x)=true then 8
 else if(h.bq==1577058561)=true then 3 else if lS h.bq=true then 3 else if(!gC (Bh f h.BD) h.IP)=true then 3
 else if f1.getD i false=true then 11 else if(h.IP != 0&&f2.getD i false)=true then 11 else 0
theorem Q6(n:Nat)(f:au)(hn:f.Hosts.length<n)(hseg:f.az.length≤64)(hsn:∀s∈f.az,s.aI.length<n∧s.aI.length≤4000)(hsub:∀b∈f.aI,b.aL≠0→gB b.aJ=true):
 k8.S n ⟨f⟩=some (outcome KJ 128 (decide (128<(f.Hosts.length:Int))) (bI (yY f (bg (fun x:Host=>(⟨x.BD,x.bq⟩:bp)) [] f.Hosts) (bg (fun x:Host=>(⟨x.BD,IntKind.wrap .u64 x.IP⟩:bp)) [] f.Hosts)) 0 f.Hosts)):=by
 show(oq ⟨f⟩).run n=_;simp only[oq,G.run,aO,bY,fh,Sum.elim,gt_iff_lt,decide_eq_true_eq];by_cases hfull:(128:Int)<f.Hosts.length
 ·simp[hfull,outcome];rfl
 ·simp only[hfull,if_false,decide_false];rw[yV n f.Hosts hn (by omega)]
  rw[xX n f.Hosts hn (by omega)]
  simp only[G.run,aO,bY,if_true,cw,kB,iK,fh,Sum.elim,Hz,GN];generalize hf1:bg (fun x:Host=>(⟨x.BD,x.bq⟩:bp)) [] f.Hosts=f1
  generalize hf2:bg (fun x:Host=>(⟨x.BD,IntKind.wrap .u64 x.IP⟩:bp)) [] f.Hosts=f2
  refine sV f.Hosts (yY f f1 f2) (fun i e=>Sum.inl (e,KJ,(i:Int))) (Sum.inr ()) hn (fun i x hx=>?_) ?_ ?_
  ·have hi:=(List.getElem?_eq_some_iff.1 hx).1;obtain⟨y,hy⟩:∃y,f1[i]? =some y:=⟨_,List.getElem?_eq_getElem (by rw[← hf1,kf];exact hi)⟩
   obtain⟨z,hz⟩:∃y,f2[i]? =some y:=⟨_,List.getElem?_eq_getElem (by rw[← hf2,kf];exact hi)⟩
   have hlt:(i:Int)<f.Hosts.length:=by omega
   have hw:=NL (f.az.length:Int) (by omega) (by omega)
   simp only[bN,hx,Option.bind_some,hlt,decide_true,if_true,hy,hz,yY,List.getD_eq_getElem?_getD,Option.getD_some,ep (show i<9223372036854775807 by omega),hw]
   clear hf1 hf2 hy hz hx;cases(x.bq==0)
   case true=>rfl
   by_cases hm:(281474976710655:Int)<x.bq
   ·simp only[hm,if_true,decide_true,Bool.false_eq_true,if_false];rfl
   simp only[hm,if_false,decide_false,Bool.false_eq_true];cases xD x.bq
   case true=>rfl
   cases hbd:(decide (0≤x.BD)&&decide (x.BD<(f.aI.length:Int)))
   case false=>rfl
   have e:(decide (x.bf< -1)||decide ((f.az.length:Int) - 1<x.bf))=out x.bf (-1) ((f.az.length:Int) - 1):=rfl;simp only[e];cases hsg:out x.bf (-1) ((f.az.length:Int) - 1)
   case true=>rfl
   obtain⟨b,hb⟩:∃b,gv f.aI x.BD=some b:=by
    simp only[Bool.and_eq_true,decide_eq_true_eq]at hbd;exact⟨_,by unfold gv;rw[if_pos hbd.1];exact List.getElem?_eq_getElem (by omega)⟩
   have hbm:b∈f.aI:=by
    unfold gv at hb;split at hb
    ·exact List.mem_of_getElem? hb
    ·cases hb
   have hbd2:Bh f x.BD=b:=by simp[Bh,hb]
   simp only[Bool.not_true,Bool.false_eq_true,if_false,hb,hbd2,Option.bind_some,FB n b x.IP (hsub b hbm)];cases hs1:(x.bf != -1)
   ·simp only[Bool.false_and,Bool.false_eq_true,if_false];cases(x.bq==1577058561)<;>cases lS x.bq<;>cases gC b x.IP<;>cases y<;>cases(x.IP != 0)<;>cases z<;>rfl
   ·obtain⟨s,hs⟩:∃s,gv f.az x.bf=some s:=by
     simp only[out,Bool.or_eq_false_iff,decide_eq_false_iff_not]at hsg;have:x.bf≠ -1:=by simpa using hs1
     exact⟨_,by unfold gv;rw[if_pos (by omega)];exact List.getElem?_eq_getElem (by omega)⟩
    have hsm:s∈f.az:=by
     unfold gv at hs;split at hs
     ·exact List.mem_of_getElem? hs
     ·cases hs
    have hsb:xZ f x.bf=s.aI:=by simp[xZ,hs]
    simp only[if_true,hs,Option.bind_some,hsb,Bool.true_and,KH n s.aI x.BD (hsn s hsm).1 (hsn s hsm).2];cases(s.aI.any fun y=>x.BD==y)<;>cases(x.bq==1577058561)<;>cases lS x.bq<;>cases gC b x.IP<;>cases y<;>cases(x.IP != 0)<;>cases z<;>rfl
  ·simp;rfl
  ·cases bI (yY f f1 f2) 0 f.Hosts with
   |none=>rfl
   |some p=>rfl
end Go.L
namespace Go.L
open Go.AM
def vL(t ip len:Int)(x:BD):Bool:=x.av==t&&(x.aL != 0&&(fk x.aJ ip||fk ⟨ip,len⟩ x.aJ.IP))
theorem Tv(n:Nat)(x:BD)(x2 x3 x4 x5 x6 x7:Int):qq.S n (x,x2,x3,x4,x5,x6,x7)=some (vL x2 x5 x6 x):=by
 show(lZ x x2 x3 x4 x5 x6 x7).run n=_;simp only[lZ,G.run,aO,CS,vL,if_true];cases(x.av==x2)<;>cases(x.aL != 0)<;>cases fk x.aJ x5<;>cases fk ⟨x5,x6⟩ x.aJ.IP<;>rfl
theorem I7{β:Type}(n:Nat)(l:List BD)(x2 x3 x4 x5 x6 x7:Int)(hn:l.length<n)(hs:l.length≤4000)(k:iX.sh.El→Option β):(iX.S n (l,x2,x3,x4,x5,x6,x7)).bind k=k (l.any (vL x2 x5 x6)):=by
 have h:mY.S n (l,x2,x3,x4,x5,x6,x7)=some (idxOf (vL x2 x5 x6) l):=by dsimp only[mY,aD.of];exact DP _ (fun n y=>⟨_,Tv n y x2 x3 x4 x5 x6 x7,rfl⟩) n l hn hs
 dsimp only[iX,aD.of];exact DQ _ l n h rfl k
theorem Pp{X β:Type}(l:List X)(e:X→List AVal)(m:Nat)(i:Nat)(hi:i≤l.length)(k:Nat×Nat→Option β):(QA l e m none (some (i:Int))).run.bind k=k (0,i):=by
 grind [QA,Dt]
def FC:ByteArray:=⟨⟨[100,111,109,97,105,110,115]⟩⟩
def z8(f:au)(f1 f2:List Bool)(i:Nat)(b:BD):Int:=
 if(!(decide (0≤b.av)&&decide (b.av<(f.aA.length:Int))))=true then 2 else if decide (b.bL<1)=true then 2 else if decide (16777215<b.bL)=true then 2 else if(b.Target==0)=true then 2
 else if f1.getD i false=true then 11 else if f2.getD i false=true then 11 else if(f.aA.any fun x=>x.bL==b.bL)=true then 11 else if(f.aA.any fun x=>x.Target==b.Target)=true then 11
 else if(b.aL==0)=true then(if(!(b.aJ.IP==0&&(b.aJ.Len==0&&true)))=true then 3 else 0)
 else if(!gF b.aJ)=true then 3 else if out b.aJ.Len 8 30=true then 3 else if(!xY b.aJ b.aL)=true then 3
 else if((f.aI.take i).any (vL b.av b.aJ.IP b.aJ.Len))=true then 11 else 0
theorem NM(n:Nat)(f:au)(hn:f.aI.length<n)(hnt:f.aA.length<n)(ht:f.aA.length≤4000):
 jY.S n ⟨f⟩=some (outcome FC 32 (decide (32<(f.aI.length:Int))) (bI (z8 f (bg (fun x:BD=>x.bL) [] f.aI) (bg (fun x:BD=>x.Target) [] f.aI)) 0 f.aI)):=by
 show(mZ ⟨f⟩).run n=_;simp only[mZ,G.run,aO,bY,fh,Sum.elim,gt_iff_lt,decide_eq_true_eq];by_cases hfull:(32:Int)<f.aI.length
 ·simp[hfull,outcome];rfl
 ·simp only[hfull,if_false,decide_false];rw[EA n f.aI hn (by omega)]
  rw[C0 n f.aI hn (by omega)]
  simp only[G.run,aO,bY,if_true,cw,kB,iK,fh,Sum.elim,z7];generalize hf1:bg (fun x:BD=>x.bL) [] f.aI=f1
  generalize hf2:bg (fun x:BD=>x.Target) [] f.aI=f2
  refine sV f.aI (z8 f f1 f2) (fun i e=>Sum.inl (e,FC,(i:Int))) (Sum.inr ()) hn (fun i x hx=>?_) ?_ ?_
  ·have hi:=(List.getElem?_eq_some_iff.1 hx).1;obtain⟨y,hy⟩:∃y,f1[i]? =some y:=⟨_,List.getElem?_eq_getElem (by rw[← hf1,kf];exact hi)⟩
   obtain⟨z,hz⟩:∃y,f2[i]? =some y:=⟨_,List.getElem?_eq_getElem (by rw[← hf2,kf];exact hi)⟩
   have hlt:(i:Int)<f.aI.length:=by omega
   simp only[bN,hx,Option.bind_some,hlt,decide_true,if_true,hy,hz,z8,List.getD_eq_getElem?_getD,Option.getD_some,ep (show i<9223372036854775807 by omega)]
   clear hf1 hf2 hy hz hx;rw[NJ n f.aA x.bL hnt ht];rw[I5 n f.aA x.Target hnt ht];simp only[G.run,aO,bY,if_true,fh,Sum.elim,z7,iK,Bool.false_eq_true,if_false];cases(decide (0≤x.av)&&decide (x.av<(f.aA.length:Int)))
   case false=>rfl
   by_cases h1:x.bL<1
   ·simp only[h1,if_true,decide_true];rfl
   by_cases h2:(16777215:Int)<x.bL
   ·simp only[h1,h2,if_true,decide_true,if_false,decide_false,Bool.false_eq_true];rfl
   simp only[h1,h2,if_false,decide_false,Bool.false_eq_true];cases(x.Target==0)
   case true=>rfl
   cases y
   case true=>rfl
   cases z
   case true=>rfl
   cases(f.aA.any fun y=>y.bL==x.bL)
   case true=>rfl
   cases(f.aA.any fun y=>y.Target==x.Target)
   case true=>rfl
   cases(x.aL==0)
   case true=>cases(x.aJ.IP==0&&(x.aJ.Len==0&&true))<;>rfl
   cases hc:gF x.aJ
   case false=>rfl
   have hok:gB x.aJ=true:=by
    simp only[gF,Bool.and_eq_true]at hc;exact hc.1
   simp only[DU n x.aJ x.aL hok,Pp f.aI dX 6 i (by omega),List.drop_zero]
   rw[I7 n (f.aI.take i) x.av x.bL x.Target x.aJ.IP x.aJ.Len x.aL (by simp;omega) (by simp;omega)]
   have e:(decide (x.aJ.Len<8)||decide (30<x.aJ.Len))=out x.aJ.Len 8 30:=rfl;simp only[e];cases out x.aJ.Len 8 30<;>cases xY x.aJ x.aL<;>cases(f.aI.take i).any (vL x.av x.aJ.IP x.aJ.Len)<;>rfl
  ·simp;rfl
  ·cases bI (z8 f f1 f2) 0 f.aI with
   |none=>rfl
   |some p=>rfl
end Go.L
namespace Go.L
open Go.AM
def uE(l:List Int):Bool:=(l.zip l.tail).all fun p=>decide (p.1<p.2)
theorem UD(l:List (Int×Int))(j:Nat):(match bI (fun _ (p:Int×Int)=>if p.2≤p.1 then 1 else 0) j l with |none=>some true |some (_,_)=>some false)=some (l.all fun p=>decide (p.1<p.2)):=by
 induction l generalizing j with
 |nil=>rfl
 |cons p ps ih=>
  grind [bI]
theorem uF{β:Type}(n:Nat)(l:List Int)(hn:l.length<n)(hs:l.length≤4000)(k:jG.sh.El→Option β):(jG.S n l).bind k=k (uE l):=by
 have:jG.S n l=some (uE l):=by
  show(rG l).run n=_;simp only[rG,G.run,aO,bY,cw,if_true];have hzl:(l.zip l.tail).length=l.length - 1:=by simp
  refine Eq.trans (Bg (fun i=>((i:Int)+1)) (l.zip l.tail) (fun _ (p:Int×Int)=>if p.2≤p.1 then 1 else 0) (fun _ _=>some false) (some true) (by omega) (fun i x hx hp hE=>?_) (fun i x hx hp hE=>?_) (fun hp=>?_)) (UD (l.zip l.tail) 0)
  ·have hi:=(List.getElem?_eq_some_iff.1 hx).1;rw[hzl]at hi;have h1:l[i]? =some x.1:=by
    rw[List.getElem?_zip_eq_some]at hx;exact hx.1
   have h2:l[i+1]? =some x.2:=by
    rw[List.getElem?_zip_eq_some]at hx;simpa using hx.2
   have hle:x.2≤x.1:=by
    by_cases h:x.2≤x.1
    ·exact h
    ·simp[h]at hE
   have hlt:(i:Int)+1<l.length:=by omega
   have e1:gv l ((i:Int)+1)=some x.2:=by rw[show(i:Int)+1=((i+1:Nat):Int)by omega,bN,h2]
   have e2:gv l (IntKind.wrap .i64 ((i:Int)+1 - 1))=some x.1:=by
    rw[wrap_i64 (by omega) (by omega),show(i:Int)+1 - 1=(i:Int)by omega,bN,h1]
   refine⟨.inl (),?_,rfl⟩;grind
  ·grind [gv,bN,wrap_i64]
  ·refine⟨.inr (),?_,rfl⟩;grind
 rw[this];rfl
def jq(p:List Int):List Int→List Int
 | []=>p
 |x::xs=>jq (p.set x.toNat (p[x.toNat]?.getD 0+1)) xs
theorem Iy:∀(l p:List Int),(jq p l).length=p.length
 | [],_=>rfl
 |x::xs,p=>by simp[jq,Iy xs]
theorem GO:∀(l p:List Int) (x:Int),jq p (l++[x])=(jq p l).set x.toNat ((jq p l)[x.toNat]?.getD 0+1)
 | [],_,_=>rfl
 |y::l,p,x=>by simp only[List.cons_append,jq];exact GO l _ x
theorem DV:∀(l p:List Int) (m:Nat),(∀x∈l,0≤x)→l.Nodup→(jq p l)[m]? =(p[m]?).map fun v=>if(m:Int)∈l then v+1 else v
 | [],p,m,_,_=>by simp[jq]
 |x::xs,p,m,h0,hd=>by
  have hx:=h0 x (by simp)
  have hd':=List.nodup_cons.1 hd;simp only[jq];rw[DV xs _ m (fun y hy=>h0 y (by simp[hy])) hd'.2]
  grind
def kq(l:List bf):List Int:=(List.range 32).map fun m=>((l.countP fun s=>s.Leaves.contains (m:Int):Nat):Int)
theorem LJ:kq []=List.replicate 32 0:=by decide
theorem xE(l:List bf){m:Nat}(h:m<32):(kq l)[m]? =some ((l.countP fun s=>s.Leaves.contains (m:Int):Nat):Int):=by
 simp[kq,h]
theorem Bi(l:List bf):(kq l).length=32:=by simp[kq]
theorem KK(l:List bf)(s:bf)(h0:∀x∈s.Leaves,0≤x)(hd:s.Leaves.Nodup):jq (kq l) s.Leaves=kq (l++[s]):=by
 apply List.ext_getElem?;intro m;rw[DV _ _ m h0 hd];by_cases h:m<32
 ·rw[xE _ h,xE _ h];grind
 ·rw[List.getElem?_eq_none (by rw[Bi];omega),List.getElem?_eq_none (by rw[Bi];omega)];rfl
theorem NN:∀(l:List Int),uE l=true→l.Nodup∧∀(i j:Nat) x y,i<j→l[i]? =some x→l[j]? =some y→x<y:=by
 intro l h;have hadj:∀(i:Nat) x y,l[i]? =some x→l[i+1]? =some y→x<y:=by
  intro i x y hx hy;simp only[uE,List.all_eq_true,decide_eq_true_eq]at h;exact h (x,y) (List.mem_of_getElem? (i:=i) (by grind))
 have hlt:∀(d i:Nat) x y,l[i]? =some x→l[i+d+1]? =some y→x<y:=by
  intro d;induction d with
  |zero=>grind
  |succ d ih=>
   grind
 have hall:∀(i j:Nat) x y,i<j→l[i]? =some x→l[j]? =some y→x<y:=by
  intro i j x y hij hx hy;exact hlt (j - i - 1) i x y hx (by rw[← hy];congr 1;omega)
 refine⟨?_,hall⟩;rw[List.nodup_iff_pairwise_ne,List.pairwise_iff_getElem];intro i j hi hj hij he;have:=hall i j l[i] l[j] hij (List.getElem?_eq_getElem hi) (List.getElem?_eq_getElem hj);omega
end Go.L
namespace Go.L
open Go.AM
theorem Iz{β:Type}(b ak j o n s:Nat)(i:Int)(k:Unit→Option β):(Nb b ak j o n s i).run.bind k=if 0≤i∧i<n then k ()else none:=by
 show(if 0≤i∧i<n then some ()else none).bind k=_
 split<;>rfl
theorem KL{X β:Type}(l:List X)(c:X→AVal)(b ak sz o:Nat)(k:X→Option β):(S8 l c b ak sz o).run.bind k=(l[o]?).bind k:=rfl
theorem KM{X β:Type}(l:List X)(c:X→AVal)(b ak sz o:Nat)(y:X)(k:Unit→Option β):(Dv l c b ak sz o y).run.bind k=if o<l.length then k ()else none:=by
 show(if o<l.length then some ()else none).bind k=_
 split<;>rfl
def lI:ByteArray:=⟨⟨[115,101,103,109,101,110,116,115]⟩⟩
def CG(f:au)(i:Nat)(x:bf):Int:=
 if((x.Leaves.length:Int)==0)=true then 3 else if((x.aI.length:Int)==0)=true then 3
 else if(x.Leaves.any fun n=> !(decide (0≤n)&&decide (n<f.Leaves)))=true then 2 else if(x.aI.any fun n=> !(decide (0≤n)&&decide (n<(f.aI.length:Int))))=true then 2
 else if(!uE x.Leaves)=true then 10 else if(!uE x.aI)=true then 10
 else if(x.Leaves.any fun n=>decide (32<(((f.az.take i).countP fun s=>s.Leaves.contains n:Nat):Int)+1))=true then 7 else 0
theorem Aa{α τ γ ST:Type}{f:ST→Option (ST⊕τ)}{s0:ST}(mk:Nat→ST)(l:List α)(E:Nat→α→Int){k:τ→Option γ}(bad:Nat→Int→Option γ)(fin:Option γ){n:Nat}(h0:s0=mk 0)(hn:l.length<n)
 (hb:∀(i:Nat) x,l[i]? =some x→(∀(j:Nat) y,j<i→l[j]? =some y→E j y=0)→E i x≠0→∃t,f (mk i)=some (.inr t)∧k t=bad i (E i x))
 (hg:∀(i:Nat) x,l[i]? =some x→(∀(j:Nat) y,j<i→l[j]? =some y→E j y=0)→E i x=0→f (mk i)=some (.inl (mk (i+1))))
 (he:(∀(j:Nat) y,l[j]? =some y→E j y=0)→∃t,f (mk l.length)=some (.inr t)∧k t=fin):
 (bV f n s0).bind k=(match bI E 0 l with |none=>fin |some (e,i)=>bad i e):=by
 subst h0;exact Bg mk l E bad fin hn hb hg he
theorem Pq{γ:Type}{n:Nat}(L ports:List Int)(i:Int)(hn:L.length<n)(hp:ports.length=32)(h0:∀x∈L,0≤x∧x<32)(hd:L.Nodup)(hs:L.length≤4000)(hv:∀v∈ports,0≤v∧v≤1000)
 {k:(List Int×Int×ByteArray×Int)⊕List Int→Option γ} {bad fin:Option γ} (hbad:∀p,k (.inl (p,7,lI,i))=bad) (hfin:k (.inr (jq ports L))=fin)
 {f:Int×List Int→Option ((Int×List Int)⊕((List Int×Int×ByteArray×Int)⊕List Int))}
 (hf:∀a,f a=if decide (a.1<(L.length:Int))=true then(gv L a.1).bind fun x=>if 0≤x∧x<(32:Nat)then(a.2[0+x.toNat*1]?).bind fun v=>if 0≤x∧x<(32:Nat)then if 0+x.toNat*1<a.2.length then if 0≤x∧x<(32:Nat)then((a.2.set (0+x.toNat*1) (IntKind.wrap .i64 (v+1)))[0+x.toNat*1]?).bind fun w=>
  if decide (32<w)=true then some (.inr (.inl (a.2.set (0+x.toNat*1) (IntKind.wrap .i64 (v+1)),7,lI,i)))else some (.inl (IntKind.wrap .i64 (a.1+1),a.2.set (0+x.toNat*1) (IntKind.wrap .i64 (v+1))))else none else none else none else none
  else some (.inr (.inr a.2))):
 (bV f n (0,ports)).bind k=if(L.any fun x=>decide (32<ports[x.toNat]?.getD 0+1))=true then bad else fin:=by
 have step:∀(j:Nat) x,L[j]? =some x→∃v,ports[x.toNat]? =some v∧f ((j:Int),jq ports (L.take j))=if decide (32<v+1)=true then some (.inr (.inl (jq ports (L.take (j+1)),7,lI,i)))else some (.inl (((j+1:Nat):Int),jq ports (L.take (j+1)))):=by
  intro j x hx;have hj:=(List.getElem?_eq_some_iff.1 hx).1;have hx0:=h0 x (List.mem_of_getElem? hx);have hlt:x.toNat<ports.length:=by omega
  refine⟨ports[x.toNat],List.getElem?_eq_getElem hlt,?_⟩;have hvv:=hv ports[x.toNat] (List.getElem_mem hlt);have htake:L.take (j+1)=L.take j++[x]:=by rw[List.take_add_one,hx];rfl
  have hnot:¬((x.toNat:Nat):Int)∈L.take j:=by
   intro hm;rw[show((x.toNat:Nat):Int)=x by omega]at hm
   obtain⟨q,hq⟩:=List.getElem?_of_mem hm;have hq2:=(List.getElem?_eq_some_iff.1 hq).1;simp only[List.length_take]at hq2;rw[List.getElem?_take,if_pos (by omega)]at hq
   have:=List.nodup_iff_pairwise_ne.1 hd;rw[List.pairwise_iff_getElem]at this;have hne:=this q j (by omega) hj (by omega)
   rw[List.getElem?_eq_getElem (by omega)]at hq hx
   simp only[Option.some.injEq]at hq hx;exact hne (hq.trans hx.symm)
  have hB:(jq ports (L.take j))[x.toNat]? =some ports[x.toNat]:=by
   rw[DV _ _ _ (fun y hy=>(h0 y (List.mem_of_mem_take hy)).1) (hd.sublist (List.take_sublist _ _)),List.getElem?_eq_getElem hlt]
   simp only[Option.map_some,if_neg hnot]
  have hBl:(jq ports (L.take j)).length=32:=by rw[Iy,hp]
  have hset:(jq ports (L.take j)).set x.toNat (ports[x.toNat]+1)=jq ports (L.take (j+1)):=by
   rw[htake,GO,hB];rfl
  have hw:IntKind.wrap .i64 (ports[x.toNat]+1)=ports[x.toNat]+1:=wrap_i64 (by omega) (by omega)
  rw[hf];have hlt2:(j:Int)<(L.length:Int):=by omega
  have hx1:(0:Int)≤x∧x<((32:Nat):Int):=by omega
  simp only[hlt2,decide_true,if_true,bN,hx,Option.bind_some,hx1,and_self,Nat.zero_add,Nat.mul_one,hB,hw,hset];rw[if_pos (by rw[hBl];omega)]
  have hget:(jq ports (L.take (j+1)))[x.toNat]? =some (ports[x.toNat]+1):=by
   rw[← hset,List.getElem?_set_self (by rw[hBl];omega)]
  simp only[hget,Option.bind_some,ep (show j<9223372036854775807 by omega)]
 have main:=Bg (f:=f) (fun j=>((j:Int),jq ports (L.take j))) L (fun _ x=>if 32<ports[x.toNat]?.getD 0+1 then 7 else 0) (k:=k) (fun _ _=>bad) fin hn ?_ ?_ ?_
 ·have e:(match bI (fun _ x=>if 32<ports[x.toNat]?.getD 0+1 then(7:Int)else 0) 0 L with |none=>fin |some (_,_)=>bad)=if(L.any fun x=>decide (32<ports[x.toNat]?.getD 0+1))=true then bad else fin:=by
   have key:∀(L:List Int) (j:Nat),(match bI (fun _ x=>if 32<ports[x.toNat]?.getD 0+1 then(7:Int)else 0) j L with |none=>fin |some (_,_)=>bad)=if(L.any fun x=>decide (32<ports[x.toNat]?.getD 0+1))=true then bad else fin:=by
    intro L;induction L with
    |nil=>intro j;rfl
    |cons x xs ih=>
     grind [bI]
   exact key L 0
  rw[← e];exact main
 ·grind
 ·grind
 grind
theorem KN{n:Nat}(L ports:List Int)(i:Int)(hn:L.length<n)(hp:ports.length=32)(h0:∀x∈L,0≤x∧x<32)(hd:L.Nodup)(hs:L.length≤4000)(hv:∀v∈ports,0≤v∧v≤1000)
 {f:Int×List Int→Option ((Int×List Int)⊕((List Int×Int×ByteArray×Int)⊕List Int))}
 (hf:∀a,f a=if decide (a.1<(L.length:Int))=true then(gv L a.1).bind fun x=>if 0≤x∧x<(32:Nat)then(a.2[0+x.toNat*1]?).bind fun v=>if 0≤x∧x<(32:Nat)then if 0+x.toNat*1<a.2.length then if 0≤x∧x<(32:Nat)then((a.2.set (0+x.toNat*1) (IntKind.wrap .i64 (v+1)))[0+x.toNat*1]?).bind fun w=>
  if decide (32<w)=true then some (.inr (.inl (a.2.set (0+x.toNat*1) (IntKind.wrap .i64 (v+1)),7,lI,i)))else some (.inl (IntKind.wrap .i64 (a.1+1),a.2.set (0+x.toNat*1) (IntKind.wrap .i64 (v+1))))else none else none else none else none
  else some (.inr (.inr a.2))):
 ∃p,bV f n (0,ports)=some (if(L.any fun x=>decide (32<ports[x.toNat]?.getD 0+1))=true then .inl (p,7,lI,i)else .inr (jq ports L)):=by
 have main:=Pq L ports i hn hp h0 hd hs hv (k:=fun t=>some (match t with | .inl q=>(Sum.inl q.2:(Int×ByteArray×Int)⊕List Int) | .inr q=>.inr q)) (bad:=some (.inl (7,lI,i))) (fin:=some (.inr (jq ports L))) (fun p=>rfl) rfl hf
 cases hany:(L.any fun x=>decide (32<ports[x.toNat]?.getD 0+1))with
 |true=>
  rw[hany]at main;cases hit:bV f n (0,ports)with
  |none=>rw[hit]at main;simp at main
  |some t=>
   grind
 |false=>
  rw[hany]at main;cases hit:bV f n (0,ports)with
  |none=>rw[hit]at main;simp at main
  |some t=>
   rw[hit]at main;cases t with
   |inl q=>simp at main
   |inr q=>
    simp_all
theorem KO{n:Nat}{γ ST τ:Type}(L ports:List Int)(i:Int)(hn:L.length<n)(hp:ports.length=32)(h0:∀x∈L,0≤x∧x<32)(hd:L.Nodup)(hs:L.length≤4000)(hv:∀v∈ports,0≤v∧v≤1000)
 {f:Int×List Int→Option ((Int×List Int)⊕((List Int×Int×ByteArray×Int)⊕List Int))}
 (hf:∀a,f a=if decide (a.1<(L.length:Int))=true then(gv L a.1).bind fun x=>if 0≤x∧x<(32:Nat)then(a.2[0+x.toNat*1]?).bind fun v=>if 0≤x∧x<(32:Nat)then if 0+x.toNat*1<a.2.length then if 0≤x∧x<(32:Nat)then((a.2.set (0+x.toNat*1) (IntKind.wrap .i64 (v+1)))[0+x.toNat*1]?).bind fun w=>
  if decide (32<w)=true then some (.inr (.inl (a.2.set (0+x.toNat*1) (IntKind.wrap .i64 (v+1)),7,lI,i)))else some (.inl (IntKind.wrap .i64 (a.1+1),a.2.set (0+x.toNat*1) (IntKind.wrap .i64 (v+1))))else none else none else none else none
  else some (.inr (.inr a.2))) {k:(List Int×Int×ByteArray×Int)⊕List Int→Option (ST⊕τ)} {A:ST} {kk:τ→Option γ} {B:Option γ} {Ev:Int}
 (hEv:Ev=if(L.any fun x=>decide (32<ports[x.toNat]?.getD 0+1))=true then 7 else 0) (hk1:Ev=7→∀p,∃t,k (.inl (p,7,lI,i))=some (.inr t)∧kk t=B) (hk2:k (.inr (jq ports L))=some (.inl A)):
 (Ev=0∧(bV f n (0,ports)).bind k=some (.inl A))∨(Ev≠0∧∃t,(bV f n (0,ports)).bind k=some (.inr t)∧kk t=B):=by
 obtain⟨p,hit⟩:=KN L ports i hn hp h0 hd hs hv hf;rw[hit];cases hany:(L.any fun x=>decide (32<ports[x.toNat]?.getD 0+1))with
 |true=>
  simp_all
 |false=>
  grind
theorem LK{α τ γ ST:Type}{f:ST→Option (ST⊕τ)}{s0:ST}(mk:Nat→ST)(l:List α)(E:Nat→α→Int){k:τ→Option γ}(bad:Nat→Int→Option γ)(fin:Option γ){n:Nat}(h0:s0=mk 0)(hn:l.length<n)
 (hr:∀(i:Nat) x,l[i]? =some x→(∀(j:Nat) y,j<i→l[j]? =some y→E j y=0)→(E i x=0∧f (mk i)=some (.inl (mk (i+1))))∨(E i x≠0∧∃t,f (mk i)=some (.inr t)∧k t=bad i (E i x)))
 (he:(∀(j:Nat) y,l[j]? =some y→E j y=0)→∃t,f (mk l.length)=some (.inr t)∧k t=fin):
 (bV f n s0).bind k=(match bI E 0 l with |none=>fin |some (e,i)=>bad i e):=by
 refine Aa mk l E bad fin h0 hn (fun i x hx hp hE=>?_) (fun i x hx hp hE=>?_) he
 ·grind
 grind
theorem LL(n:Nat)(f:au)(hn:f.az.length<n)(hL:f.Leaves≤32)(hB:f.aI.length≤4000)(hsn:∀s∈f.az,(s.aI.length<n∧s.aI.length≤4000)∧s.Leaves.length<n∧s.Leaves.length≤4000):
 jK.S n ⟨f⟩=some (outcome lI 64 (decide (64<(f.az.length:Int))) (bI (CG f) 0 f.az)):=by
 show(mG ⟨f⟩).run n=_;simp only[mG,G.run,aO,bY,fh,Sum.elim,gt_iff_lt,decide_eq_true_eq];by_cases hfull:(64:Int)<f.az.length
 ·simp[hfull,outcome];rfl
 ·simp only[hfull,if_false,decide_false];simp only[G.run,aO,bY,if_true,cw,kB,iK,fh,Sum.elim,Iz,KL,KM];refine Eq.trans (LK (fun i=>((i:Int),kq (f.az.take i))) f.az (CG f) (fun i e=>some (.inr (e,lI,(i:Int)))) (some (.inl ())) (by simp[LJ]) hn (fun i x hx hp=>?_) (fun hp=>?_)) ?_
  ·have hi:=(List.getElem?_eq_some_iff.1 hx).1;have hxm:=List.mem_of_getElem? hx;have hlt:(i:Int)<f.az.length:=by omega
   simp only[hlt,if_true,bN,hx,Option.bind_some];rw[GJ n x.Leaves f (hsn x hxm).2.1 (hsn x hxm).2.2];rw[I6 n x.aI f (hsn x hxm).1.1 (hsn x hxm).1.2];simp only[G.run,aO,bY,if_true,fh,Sum.elim];rw[uF n x.Leaves (hsn x hxm).2.1 (hsn x hxm).2.2,uF n x.aI (hsn x hxm).1.1 (hsn x hxm).1.2];simp only[G.run,aO,bY,if_true,fh,Sum.elim,cw,Iz,KL,KM,gt_iff_lt];unfold CG;cases hc1:((x.Leaves.length:Int)==0)
   case true=>exact .inr ⟨by simp,_,rfl,rfl⟩
   cases hc2:((x.aI.length:Int)==0)
   case true=>exact .inr ⟨by simp,_,rfl,rfl⟩
   cases hc3:(x.Leaves.any fun n=> !(decide (0≤n)&&decide (n<f.Leaves)))
   case true=>exact .inr ⟨by simp,_,rfl,rfl⟩
   cases hc4:(x.aI.any fun n=> !(decide (0≤n)&&decide (n<(f.aI.length:Int))))
   case true=>exact .inr ⟨by simp,_,rfl,rfl⟩
   cases hc5:uE x.Leaves
   case false=>exact .inr ⟨by simp,_,rfl,rfl⟩
   cases hc6:uE x.aI
   case false=>exact .inr ⟨by simp,_,rfl,rfl⟩
   simp only[Bool.not_true,Bool.false_eq_true,if_false];have hrange:∀y∈x.Leaves,0≤y∧y<32:=by
    intro y hy;rw[List.any_eq_false]at hc3;have:=hc3 y hy;simp at this;omega
   obtain⟨hnd,_⟩:=NN x.Leaves hc5;have hcnt:∀v∈kq (f.az.take i),0≤v∧v≤1000:=by
    intro v hv;simp only[kq,List.mem_map,List.mem_range]at hv;obtain⟨m,_,rfl⟩:=hv;have:=List.countP_le_length (p:=fun s:bf=>s.Leaves.contains (m:Int)) (l:=f.az.take i)
    simp only[List.length_take]at this;omega
   refine KO x.Leaves (kq (f.az.take i)) (i:Int) (hsn x hxm).2.1 (Bi _) hrange hnd (hsn x hxm).2.2 hcnt (fun a=>rfl) ?_ (fun h7 p=>⟨_,rfl,by rw[h7];rfl⟩) ?_
   ·have:(x.Leaves.any fun n=>decide (32<(((f.az.take i).countP fun s=>s.Leaves.contains n:Nat):Int)+1))=x.Leaves.any fun y=>decide (32<(kq (f.az.take i))[y.toNat]?.getD 0+1):=by
     apply Bool.eq_iff_iff.2;simp only[List.any_eq_true];constructor
     ·rintro⟨y,hy,h⟩;have hr:=hrange y hy;refine⟨y,hy,?_⟩;rw[xE _ (by omega),show((y.toNat:Nat):Int)=y by omega]
      exact h
     ·rintro⟨y,hy,h⟩;have hr:=hrange y hy;refine⟨y,hy,?_⟩;rw[xE _ (by omega),show((y.toNat:Nat):Int)=y by omega]at h
      exact h
    rw[this]
   ·have htake:f.az.take (i+1)=f.az.take i++[x]:=by rw[List.take_add_one,hx];rfl
    have e:jq (kq (f.az.take i)) x.Leaves=kq (f.az.take (i+1)):=by rw[htake];exact KK _ _ (fun y hy=>(hrange y hy).1) hnd
    rw[e];have hw:=ep (show i<9223372036854775807 by omega)
    show some (Sum.inl (IntKind.wrap .i64 ((i:Int)+1),kq (f.az.take (i+1))))=_;rw[hw]
  ·refine⟨.inr (kq f.az),?_,rfl⟩;simp
  ·cases bI (CG f) 0 f.az<;>rfl
end Go.L
namespace Go.L
open Go.AM
structure Small(f:au):Prop where
 links:f.Links.length≤4000
 sX:f.aA.length≤4000
 oC:f.aI.length≤4000
 segments:f.az.length≤4000
 AJ:f.Hosts.length≤4000
 leaks:f.Leaks.length≤4000
 seg:∀s∈f.az,s.Leaves.length≤4000∧s.aI.length≤4000
abbrev GP:=Unit⊕(Int×ByteArray×Int)
def qJ(f:au):GP:=if ez f=true then .inr (2,Mo,0)else .inl ()
def y9(f:au):GP:=if eF f.cC=true then .inr (2,Mp,0)else .inl ()
def GQ(f:au):GP:=outcome KG 128 (decide (128<(f.Links.length:Int))) (bI (yW f (bg (fun x:eV=>(⟨x.A,x.B⟩:V2 Int)) [] f.Links)) 0 f.Links)
def CH(f:au):GP:=outcome FA 16 (decide (16<(f.aA.length:Int))) (bI (sW (bg (fun x:av=>x.bL) [] f.aA) (bg (fun x:av=>x.Target) [] f.aA)) 0 f.aA)
def wV(f:au):GP:=outcome FC 32 (decide (32<(f.aI.length:Int))) (bI (z8 f (bg (fun x:BD=>x.bL) [] f.aI) (bg (fun x:BD=>x.Target) [] f.aI)) 0 f.aI)
def AK(f:au):GP:=outcome lI 64 (decide (64<(f.az.length:Int))) (bI (CG f) 0 f.az)
def GR(f:au):GP:=outcome KJ 128 (decide (128<(f.Hosts.length:Int))) (bI (yY f (bg (fun x:Host=>(⟨x.BD,x.bq⟩:bp)) [] f.Hosts) (bg (fun x:Host=>(⟨x.BD,IntKind.wrap .u64 x.IP⟩:bp)) [] f.Hosts)) 0 f.Hosts)
def GS(f:au):GP:=outcome KI 256 (decide (256<(f.Leaks.length:Int))) (bI (yX f (bg (fun x:dH=>x) [] f.Leaks)) 0 f.Leaks)
def vM(a:GP)(b:Int×ByteArray×Int):Int×ByteArray×Int:=match a with
 | .inl _=>b
 | .inr t=>t
def tV(f:au):Int×ByteArray×Int:=
 vM (qJ f)<|vM (y9 f)<|vM (GQ f)<|vM (CH f)<|vM (wV f)<|vM (AK f)<|vM (GR f)<|vM (GS f) (0,⟨⟨[]⟩⟩,0)
theorem CI{p:ByteArray}{m:Int}{b:Bool}{r:Option (Int×Nat)}{u:Unit}(h:outcome p m b r=.inl u):b=false∧r=none:=by
 unfold outcome at h;grind
theorem Tw{f:au}{u:Unit}(h:wV f=.inl u):∀b∈f.aI,b.aL≠0→gB b.aJ=true:=by
 intro b hb hg;have:=(CI h).2;rw[qw]at this;obtain⟨i,hi⟩:=List.getElem?_of_mem hb;have:=this i b hi;have hg':(b.aL==0)=false:=by simpa using hg
 have hcl:gF b.aJ=true:=by
  cases hc:gF b.aJ with
  |true=>rfl
  |false=>
   unfold z8 at this;simp only[hg',hc,Bool.not_false,if_true,Bool.false_eq_true,if_false]at this
   repeat' split at this
   all_goals cases this
 simp only[gF,Bool.and_eq_true]at hcl;exact hcl.1
theorem AL{f:au}{u:Unit}(h:qJ f=.inl u):1≤f.Leaves∧f.Leaves≤32∧0≤f.dK∧f.dK≤32:=by
 unfold qJ at h;split at h
 ·cases h
 ·rename_i hb;simp only[ez,out,Bool.not_eq_true,Bool.or_eq_false_iff,decide_eq_false_iff_not]at hb;omega
theorem KP{β:Type}(n:Nat)(hn:5000≤n)(f:au)(hs:Small f)(k:fB.sh.El→Option β):(fB.S n f).bind k=k (tV f):=by
 have b1:∀{γ:Type} (k:kF.sh.El→Option γ),(kF.S n ⟨f⟩).bind k=k (qJ f):=fun k=>by rw[Pn];rfl
 have b2:∀{γ:Type} (k:kG.sh.El→Option γ),(kG.S n ⟨f⟩).bind k=k (y9 f):=fun k=>by rw[Po];rfl
 have b3:∀{γ:Type} (k:k7.sh.El→Option γ),(k7.S n ⟨f⟩).bind k=k (GQ f):=fun k=>by rw[Q3 n f (by have:=hs.links;omega) (by omega)];rfl
 have b4:∀{γ:Type} (k:jX.sh.El→Option γ),(jX.S n ⟨f⟩).bind k=k (CH f):=fun k=>by rw[NK n f (by have:=hs.sX;omega)];rfl
 have b5:∀{γ:Type} (k:jY.sh.El→Option γ),(jY.S n ⟨f⟩).bind k=k (wV f):=fun k=>by rw[NM n f (by have:=hs.oC;omega) (by have:=hs.sX;omega) hs.sX];rfl
 have b8:∀{γ:Type} (k:k9.sh.El→Option γ),(k9.S n ⟨f⟩).bind k=k (GS f):=fun k=>by rw[Q5 n f (by have:=hs.leaks;omega)];rfl
 have hseg:∀s∈f.az,(s.aI.length<n∧s.aI.length≤4000)∧s.Leaves.length<n∧s.Leaves.length≤4000:=fun s h=>by
  have:=hs.seg s h;omega
 have:fB.S n f=some (tV f):=by
  show(wN f).run n=_;have b0:∀{γ:Type} (k:vt.sh.El→Option γ),(vt.S n ()).bind k=k ():=fun k=>rfl
  simp only[wN,G.run,aO,b0,b1];unfold tV;cases h1:qJ f with
  |inr t=>rfl
  |inl u=>
   simp only[Sum.elim,G.run,b2];cases h2:y9 f with
   |inr t=>rfl
   |inl u=>
    simp only[Sum.elim,G.run,b3];cases h3:GQ f with
    |inr t=>rfl
    |inl u=>
     simp only[Sum.elim,G.run,b4];cases h4:CH f with
     |inr t=>rfl
     |inl u=>
      simp only[Sum.elim,G.run,b5];cases h5:wV f with
      |inr t=>rfl
      |inl u=>
       have b6:∀{γ:Type} (k:jK.sh.El→Option γ),(jK.S n ⟨f⟩).bind k=k (AK f):=fun k=>by rw[LL n f (by have:=hs.segments;omega) (AL h1).2.1 hs.oC hseg];rfl
       simp only[Sum.elim,G.run,b6];cases h6:AK f with
       |inr t=>rfl
       |inl u=>
        have hle:f.az.length≤64:=by
         have:=(CI h6).1;simp only[decide_eq_false_iff_not]at this;omega
        have b7:∀{γ:Type} (k:k8.sh.El→Option γ),(k8.S n ⟨f⟩).bind k=k (GR f):=fun k=>by rw[Q6 n f (by have:=hs.AJ;omega) hle (fun s h=>(hseg s h).1) (Tw h5)];rfl
        simp only[Sum.elim,G.run,b7];cases h7:GR f with
        |inr t=>rfl
        |inl u=>
         simp only[Sum.elim,G.run,b8];cases h8:GS f with
         |inr t=>rfl
         |inl u=>rfl
 rw[this];rfl
end Go.L
end
section
namespace Go.L
open Go.AM
def Good{γ:Type}(o:Option γ)(Q:γ→Prop):Prop:=∃v,o=some v∧Q v
theorem Good.bind{γ δ:Type}{o:Option γ}{Q:γ→Prop}{k:γ→Option δ}{R:δ→Prop}(h:Good o Q)(hk:∀v,Q v→Good (k v) R):Good (o.bind k) R:=by
 obtain⟨v,rfl,hv⟩:=h;exact hk v hv
theorem Good.mono{γ:Type}{o:Option γ}{Q R:γ→Prop}(h:Good o Q)(hk:∀v,Q v→R v):Good o R:=by
 obtain⟨v,e,hv⟩:=h;exact⟨v,e,hk v hv⟩
theorem Good.some{γ:Type}{v:γ}{Q:γ→Prop}(h:Q v):Good (some v) Q:=⟨v,rfl,h⟩
theorem nV{ST τ:Type}{f:ST→Option (ST⊕τ)}{Q:τ→Prop}(I:Nat→ST→Prop)(N:Nat)
 (hf:∀j s,j<N→I j s→Good (f s) fun r=>match r with | .inl s'=>I (j+1) s' | .inr t=>Q t)
 (he:∀s,I N s→Good (f s) fun r=>match r with | .inl _=>False | .inr t=>Q t) {n:Nat} (hn:N<n) {s0:ST} (h0:I 0 s0):Good (bV f n s0) Q:=by
 have key:∀(k j n:Nat) (s:ST),j+k=N→k<n→I j s→Good (bV f n s) Q:=by
  intro k;induction k with
  |zero=>
   intro j n s hj hn hs;obtain⟨n,rfl⟩:∃m,n=m+1:=⟨n - 1,by omega⟩
   have:j=N:=by omega
   subst this;obtain⟨r,hr,h⟩:=he s hs;cases r with
   |inl s'=>exact h.elim
   |inr t=>exact⟨t,by simp only[bV,hr],h⟩
  |succ k ih=>
   intro j n s hj hn hs;obtain⟨n,rfl⟩:∃m,n=m+1:=⟨n - 1,by omega⟩
   obtain⟨r,hr,h⟩:=hf j s (by omega) hs
   cases r with
   |inl s'=>
    grind [bV]
   |inr t=>exact⟨t,by simp only[bV,hr],h⟩
 exact key N 0 n s0 (by omega) hn h0
def vY(c:Int)(x:ax):Prop:=0≤x.at_∧x.at_≤c
end Go.L
namespace Go.L
open Go.AM
theorem Sx(n:Nat)(x k:Int)(hk:0<k)(hk2:k≤4000000000000000000):AF.S n (x,k)=some (x % k):=by
 show(DK x k).run n=_;have h1:¬k≤0:=by omega
 have h2:k≠0:=by omega
 simp only[DK,G.run,aO,Hl,J3,decide_eq_true_eq,h1,if_false,h2,ne_eq,not_false_eq_true,decide_true,if_true,Option.bind_some,OV hk hk2,OU hk]<;>rfl
section
variable {n:Nat}
theorem cE(x:ax)(m c:Int)(hx:vY c x)(hc:c≤1000000)(h1:1≤m)(h2:m≤1000000):
 Good (γ:=Int×ax) (aX.S n (x,m)) fun r=>0≤r.1∧r.1<m∧vY (c+1) r.2:=by
 obtain⟨ha,hb⟩:=hx;show Good (γ:=Int×ax) ((uD x m).run n) _;have w1:IntKind.wrap .i64 (x.at_+1)=x.at_+1:=wrap_i64 (by omega) (by omega)
 have w2:IntKind.wrap .i64 (x.at_+1 - 1)=x.at_:=by rw[wrap_i64 (by omega) (by omega)];omega
 have eM:∀{γ:Type} (a:Int) (k:AF.sh.El→Option γ),(AF.S n (a,m)).bind k=k (a % m):=fun a k=>by rw[Sx n a m (by omega) (by omega)];rfl
 simp only[uD,G.run,aO,bY,cw,w1,w2,eM,if_true,decide_eq_true_eq];by_cases h:x.at_≥(x.l.length:Int)
 ·rw[if_pos h];exact .some ⟨by show(0:Int)≤0;omega,by show(0:Int)<m;omega,ha,by show x.at_≤c+1;omega⟩
 ·rw[if_neg h];obtain⟨i,hi⟩:∃i:Nat,x.at_=(i:Int):=⟨x.at_.toNat,by omega⟩
  have hlt:i<x.l.length:=by omega
  rw[hi,bN,List.getElem?_eq_getElem hlt,Option.bind_some];exact .some ⟨Int.emod_nonneg _ (by omega),Int.emod_lt_of_pos _ (by omega),by show(0:Int)≤(i:Int)+1;omega,by show(i:Int)+1≤c+1;omega⟩
end
end Go.L
namespace Go.L
open Go.AM
def RS(L S:Int)(x:eV):Prop:=0≤x.A∧x.A<L∧L≤x.B∧x.B<L+S∧1≤x.wH∧x.wH≤2
def CJ(x:eV):V2 Int:=⟨x.A,x.B⟩
def KQ(L S:Int)(l:List eV):Prop:=l.length≤32∧(∀x∈l,RS L S x)∧(l.map CJ).Nodup
def rU(L S j i:Int)(l:List eV):Prop:=(∀x∈l,RS L S x∧(x.A<j∨x.A=j∧x.B<L+i))∧(l.map CJ).Nodup
theorem LM{L S j i c:Int}{l:List eV}(h:rU L S j i l)(hj:0≤j∧j<L)(hi:0≤i∧i<S)(hc:1≤c∧c≤2):rU L S j (i+1) (l++[⟨j,L+i,c⟩]):=by
 refine⟨fun x hx=>?_,?_⟩
 ·rcases List.mem_append.1 hx with hx |hx
  ·obtain⟨h1,h2⟩:=h.1 x hx;exact⟨h1,by omega⟩
  ·simp only[List.mem_singleton]at hx;subst hx;refine⟨⟨?_,?_,?_,?_,?_,?_⟩,.inr ⟨rfl,?_⟩⟩<;>simp only<;>omega
 ·rw[List.map_append,List.nodup_append];refine⟨h.2,by simp,?_⟩
  intro a ha b hb;simp only[List.map_cons,List.map_nil,List.mem_singleton]at hb;subst hb;obtain⟨x,hx,rfl⟩:=List.mem_map.1 ha;obtain⟨h1,h2⟩:=h.1 x hx;intro e;simp only[CJ,V2.mk.injEq]at e;omega
theorem LN{L S j i:Int}{l:List eV}(h:rU L S j i l):rU L S j (i+1) l:=
 ⟨fun x hx=>⟨(h.1 x hx).1,by have:=(h.1 x hx).2;omega⟩,h.2⟩
theorem NO{L S j:Int}{i:Int}{l:List eV}(h:rU L S j i l)(hi:S≤i):rU L S (j+1) 0 l:=
 ⟨fun x hx=>⟨(h.1 x hx).1,by have:=(h.1 x hx).2;grind⟩,h.2⟩
section
variable {n:Nat}
theorem LO(x:ax)(L S c:Int)(hx:vY c x)(hc:c≤100000)(hL:0≤L∧L≤8)(hS:0≤S∧S≤4)(hn:5000≤n):
 Good (γ:=List eV×ax) (E1.S n (x,L,S)) fun r=>KQ L S r.1∧vY (c+64) r.2:=by
 show Good (γ:=List eV×ax) ((Bf x L S).run n) _;simp only[Bf,G.run,aO,xN,if_true,decide_eq_true_eq];refine Good.bind (γ:=List Int×Int×List eV) (Q:=fun t=>KQ L S t.2.2∧0≤t.2.1∧t.2.1≤c+64) ?_ (fun t ht=>?_)
 ·refine nV (fun j (s:Int×List Int×Int×List eV)=>s.1=(j:Int)∧0≤s.2.2.1∧s.2.2.1≤c+8*(j:Int)∧(s.2.2.2.length:Int)≤4*(j:Int)∧rU L S (j:Int) 0 s.2.2.2) L.toNat (fun j s hj hs=>?_) (fun s hs=>?_) (by omega) ⟨rfl,hx.1,by have:=hx.2;simp;omega,by simp,by simp[rU]⟩
  ·obtain⟨h1,h2,h3,h4,h5⟩:=hs;have hlt:s.1<L:=by omega
   simp only[hlt,if_true];refine Good.bind (γ:=List Int×Int×List eV) (Q:=fun t=>0≤t.2.1∧t.2.1≤c+8*((j:Int)+1)∧(t.2.2.length:Int)≤4*((j:Int)+1)∧rU L S ((j:Int)+1) 0 t.2.2) ?_ (fun t ht=>?_)
   ·refine nV (fun i (q:Int×List Int×Int×List eV)=>q.1=(i:Int)∧0≤q.2.2.1∧q.2.2.1≤c+8*(j:Int)+2*(i:Int)∧(q.2.2.2.length:Int)≤4*(j:Int)+(i:Int)∧rU L S (j:Int) (i:Int) q.2.2.2) S.toNat (fun i q hi hq=>?_) (fun q hq=>?_) (by omega) ⟨rfl,h2,by simp;omega,by simp;omega,h5⟩
    ·obtain⟨g1,g2,g3,g4,g5⟩:=hq;have hlt:q.1<S:=by omega
     simp only[hlt,if_true];refine Good.bind (cE _ 8 (c+8*(j:Int)+2*(i:Int)) ⟨g2,g3⟩ (by omega) (by decide) (by decide)) (fun r hr=>?_)
     obtain⟨r1,r2,r3⟩:=hr;by_cases h7:(r.1 != 7)=true
     ·simp only[h7,if_true];refine Good.bind (cE r.2 2 (c+8*(j:Int)+2*(i:Int)+1) r3 (by omega) (by decide) (by decide)) (fun r' hr'=>?_)
      obtain⟨s1,s2,s3⟩:=hr';obtain⟨s3,s4⟩:=s3;have w:IntKind.wrap .i64 (q.1+1)=q.1+1:=wrap_i64 (by omega) (by omega)
      have w2:IntKind.wrap .i64 (L+q.1)=L+q.1:=wrap_i64 (by omega) (by omega)
      have w3:IntKind.wrap .i64 (1+r'.1)=1+r'.1:=wrap_i64 (by omega) (by omega)
      have hroom:roomy (q.2.2.2.length+1) 24=true:=by simp[roomy];omega
      rw[if_pos ⟨trivial,hroom⟩,w,w2,w3];have hsn:rU L S (j:Int) ((i:Int)+1) (q.2.2.2++[⟨(j:Int),L+(i:Int),1+r'.1⟩]):=LM g5 ⟨by omega,by omega⟩ ⟨by omega,by omega⟩ ⟨by omega,by omega⟩
      refine .some ⟨?_,?_,?_,?_,?_⟩
      ·grind
      ·omega
      ·grind
      ·grind
      grind
     ·simp only[h7,Bool.false_eq_true,if_false];obtain⟨s3,s4⟩:=r3;have w:IntKind.wrap .i64 (q.1+1)=q.1+1:=wrap_i64 (by omega) (by omega)
      rw[w];exact .some ⟨by grind,s3,by grind,by grind,LN g5⟩
    ·obtain⟨g1,g2,g3,g4,g5⟩:=hq;have hlt:¬q.1<S:=by omega
     simp only[hlt,if_false];exact .some ⟨g2,by grind,by grind,NO g5 (by omega)⟩
   ·obtain⟨t1,t2,t3,t4⟩:=ht;have w:IntKind.wrap .i64 (s.1+1)=s.1+1:=wrap_i64 (by omega) (by omega)
    rw[w];exact .some ⟨by grind,t1,by grind,by grind,t4⟩
  ·obtain⟨h1,h2,h3,h4,h5⟩:=hs;have hlt:¬s.1<L:=by omega
   simp only[hlt,if_false];exact .some ⟨⟨by show s.2.2.2.length≤32;omega,fun x hx=>(h5.1 x hx).1,h5.2⟩,h2,by show s.2.2.1≤c+64;omega⟩
 ·obtain⟨h1,h2,h3⟩:=ht;simp[k6];refine .some ⟨h1,h2,h3⟩
def DW(l:List Int):Prop:=l.Pairwise (· < ·)
theorem Q7{l:List Int}{y:Int}(h:DW l)(hy:∀x∈l,x<y):DW (l++[y]):=by
 unfold DW at*;grind
def NP(m q:Int)(l:List Int):Prop:=1≤l.length∧(l.length:Int)≤q∧(∀y∈l,0≤y∧y<m)∧DW l
theorem GU(x:ax)(m q c:Int)(hx:vY c x)(hc:c≤100000)(hm:1≤m∧m≤8)(hq:1≤q)(hn:5000≤n):
 Good (γ:=List Int×ax) (CC.S n (x,m,q)) fun r=>NP m q r.1∧vY (c+9) r.2:=by
 show Good (γ:=List Int×ax) ((CB x m q).run n) _;simp only[CB,G.run,aO,xN,if_true,decide_eq_true_eq];refine Good.bind (cE x m c hx (by omega) (by omega) (by omega)) (fun r hr=>?_)
 obtain⟨r1,r2,r3,r4⟩:=hr;refine Good.bind (γ:=List Int×Int×List Int) (Q:=fun t=>(t.2.2.length:Int)≤q∧(∀y∈t.2.2,0≤y∧y<m)∧DW t.2.2∧0≤t.2.1∧t.2.1≤c+9) ?_ (fun t ht=>?_)
 ·refine nV (fun j (s:Int×List Int×Int×List Int)=>s.1=(j:Int)∧0≤s.2.2.1∧s.2.2.1≤c+1+(j:Int)∧(s.2.2.2.length:Int)≤(j:Int)∧(s.2.2.2.length:Int)≤q∧(∀y∈s.2.2.2,0≤y∧y<(j:Int))∧DW s.2.2.2) m.toNat (fun j s hj hs=>?_) (fun s hs=>?_) (by omega) ⟨rfl,r3,by simp;omega,by simp,by simp;omega,by simp,by simp[DW]⟩
  ·obtain⟨h1,h2,h3,h4,h4',h5,h5'⟩:=hs;have hlt:s.1<m:=by omega
   have w:IntKind.wrap .i64 (s.1+1)=s.1+1:=wrap_i64 (by omega) (by omega)
   have hroom:roomy (s.2.2.2.length+1) 8=true:=by simp[roomy];omega
   have h6:∀y∈s.2.2.2++[s.1],0≤y∧y<((j+1:Nat):Int):=by
    intro y hy;rcases List.mem_append.1 hy with hy |hy
    ·have:=h5 y hy;omega
    ·grind
   have h7:∀y∈s.2.2.2,0≤y∧y<((j+1:Nat):Int):=fun y hy=>by have:=h5 y hy;omega
   have h8:DW (s.2.2.2++[s.1]):=Q7 h5' fun y hy=>by have:=h5 y hy;omega
   simp only[hlt,if_true,w];by_cases hq:(s.2.2.2.length:Int)<q
   ·simp only[hq,if_true];by_cases he:(s.1==r.1)=true
    ·simp only[he,if_true];rw[if_pos ⟨trivial,hroom⟩];refine .some ⟨?_,?_,?_,?_,?_,h6,h8⟩<;>(try simp only[List.length_append,List.length_cons,List.length_nil])<;>omega
    ·simp only[he,Bool.false_eq_true,if_false];refine Good.bind (cE _ 3 (c+1+(j:Int)) ⟨h2,h3⟩ (by omega) (by decide) (by decide)) (fun r' hr'=>?_)
     obtain⟨s1,s2,s3,s4⟩:=hr';by_cases hz:(r'.1==1)=true
     ·simp only[hz,if_true];rw[if_pos ⟨trivial,hroom⟩];refine .some ⟨?_,?_,?_,?_,?_,h6,h8⟩<;>(try simp only[List.length_append,List.length_cons,List.length_nil])<;>omega
     ·simp only[hz,Bool.false_eq_true,if_false];refine .some ⟨?_,?_,?_,?_,?_,h7,h5'⟩<;>(try simp only[List.length_append,List.length_cons,List.length_nil])<;>omega
   ·simp only[hq,if_false];refine .some ⟨?_,fun y hy=>?_,h5',?_,?_⟩
    ·exact h4'
    ·have:=h5 y hy;omega
    ·exact h2
    ·show s.2.2.1≤c+9;omega
  ·obtain⟨h1,h2,h3,h4,h4',h5,h5'⟩:=hs;have hlt:¬s.1<m:=by omega
   simp only[hlt,if_false];refine .some ⟨?_,fun y hy=>?_,h5',?_,?_⟩
   ·exact h4'
   ·have:=h5 y hy;omega
   ·exact h2
   ·show s.2.2.1≤c+9;omega
 ·obtain⟨t1,t2,t2',t3,t4⟩:=ht;by_cases hz:((t.2.2.length:Int)==0)=true
  ·simp only[hz,if_true];simp[k6];refine .some ⟨⟨?_,?_,?_,?_⟩,t3,t4⟩
   ·simp
   ·simp;omega
   ·simp;omega
   ·simp[DW]
  ·simp only[hz,Bool.false_eq_true,if_false];simp[k6];refine .some ⟨⟨?_,t1,t2,t2'⟩,t3,t4⟩;grind
end
end Go.L
namespace Go.L
open Go.AM
theorem Pr{β:Type}(a b:Int)(hb:b≠0)(k:Unit→Option β):(Hl .i64 a b).run.bind k=k ():=by
 grind [Hl,J3]
theorem Tx:((2:Int) ^ (@Min.min Nat instMinNat (Int.toNat (16:Int)) (IntKind.bits .i64)))=65536:=by decide
theorem wrap_u32'{a:Int}(h0:0≤a)(h1:a<4294967296):IntKind.wrap .u32 a=a:=by
 simp only[IntKind.wrap,IntKind.bits,IntKind.signed];simp
 omega
def Pt(nt:Int)(i:Int)(b:BD):Prop:=0≤b.av∧b.av<nt∧b.bL=10+i∧b.Target=500+i∧(b.aJ=⟨0,0⟩∧b.aL=0∨b.aJ=⟨167772160+i*65536,24⟩∧b.aL=167772161+i*65536)
def GV(nt:Int)(x:dH):Prop:=0≤x.From∧x.From<nt∧0≤x.To∧x.To<nt∧x.From≠x.To∧(x.ah=⟨0,0⟩∨∃t,0≤t∧t<4∧x.ah=⟨167772160+t*65536,16⟩)
def NQ(L nb:Int)(s:bf):Prop:=NP L 3 s.Leaves∧NP nb 4 s.aI
def NR(oC:List BD)(segs:List bf)(i:Int)(h:Host):Prop:=
 h.bq=2199023951872+i∧0≤h.BD∧h.BD<(oC.length:Int)∧(h.bf= -1∨∃s,gv segs h.bf=some s∧h.BD∈s.aI)∧
 (h.IP=0∨∃b,gv oC h.BD=some b∧b.aL≠0∧h.IP=b.aJ.IP+(10+i))
section
variable {n:Nat}
theorem KR(x:ax)(i m c:Int)(hx:vY c x)(hc:c≤100000)(hm:1≤m∧m≤8)(hi:0≤i∧i≤8):
 Good (γ:=BD×ax) (DL.S n (x,i,m)) fun r=>Pt m i r.1∧vY (c+2) r.2:=by
 show Good (γ:=BD×ax) ((zW x i m).run n) _;have w1:IntKind.wrap .i64 (10+i)=10+i:=wrap_i64 (by omega) (by omega)
 have w2:IntKind.wrap .u32 (10+i)=10+i:=wrap_u32' (by omega) (by omega)
 have w3:IntKind.wrap .i64 (500+i)=500+i:=wrap_i64 (by omega) (by omega)
 have w4:IntKind.wrap .u32 (500+i)=500+i:=wrap_u32' (by omega) (by omega)
 have w5:IntKind.wrap .i64 (i*65536)=i*65536:=wrap_i64 (by omega) (by omega)
 have w6:IntKind.wrap .i64 (167772160+i*65536)=167772160+i*65536:=wrap_i64 (by omega) (by omega)
 have w7:IntKind.wrap .u32 (167772160+i*65536)=167772160+i*65536:=wrap_u32' (by omega) (by omega)
 have w8:IntKind.wrap .u32 (167772160+i*65536+1)=167772161+i*65536:=by rw[wrap_u32' (by omega) (by omega)];omega
 simp only[zW,G.run,aO,if_true,decide_eq_true_eq,Tx,w1,w2,w3,w4,w5,w6,w7,w8];refine Good.bind (cE x m c hx (by omega) (by omega) (by omega)) (fun r hr=>?_)
 refine Good.bind (cE r.2 4 (c+1) hr.2.2 (by omega) (by decide) (by decide)) (fun r' hr'=>?_)
 have h:vY (c+2) r'.2:=by have:=hr'.2.2;unfold vY at*;omega
 split
 ·exact .some ⟨⟨hr.1,hr.2.1,rfl,rfl,.inr ⟨rfl,rfl⟩⟩,h⟩
 ·exact .some ⟨⟨hr.1,hr.2.1,rfl,rfl,.inl ⟨rfl,rfl⟩⟩,h⟩
theorem NS(x:ax)(m c:Int)(hx:vY c x)(hc:c≤100000)(hm:2≤m∧m≤8):
 Good (γ:=dH×ax) (GC.S n (x,m)) fun r=>GV m r.1∧vY (c+4) r.2:=by
 show Good (γ:=dH×ax) ((CD x m).run n) _;have w:IntKind.wrap .i64 (m - 1)=m - 1:=wrap_i64 (by omega) (by omega)
 have e:=fun {γ:Type} (a:Int) (k:Unit→Option γ)=>Pr a m (by omega) k
 simp only[CD,G.run,aO,if_true,decide_eq_true_eq,w,e,Tx];refine Good.bind (cE x m c hx (by omega) (by omega) (by omega)) (fun r hr=>?_)
 refine Good.bind (cE r.2 (m - 1) (c+1) hr.2.2 (by omega) (by omega) (by omega)) (fun r' hr'=>?_)
 refine Good.bind (cE r'.2 2 (c+1+1) hr'.2.2 (by omega) (by decide) (by decide)) (fun q hq=>?_)
 obtain⟨a1,a2,a3⟩:=hr;obtain⟨b1,b2,b3⟩:=hr';have v1:IntKind.wrap .i64 (r.1+1)=r.1+1:=wrap_i64 (by omega) (by omega)
 have v2:IntKind.wrap .i64 (r.1+1+r'.1)=r.1+1+r'.1:=wrap_i64 (by omega) (by omega)
 have v3:Int.tmod (r.1+1+r'.1) m=(r.1+1+r'.1) % m:=Int.tmod_eq_emod_of_nonneg (by omega)
 have v4:0≤(r.1+1+r'.1) % m:=Int.emod_nonneg _ (by omega)
 have v5:(r.1+1+r'.1) % m<m:=Int.emod_lt_of_pos _ (by omega)
 have v6:r.1≠(r.1+1+r'.1) % m:=by
  by_cases hlt:r.1+1+r'.1<m
  ·rw[Int.emod_eq_of_lt (by omega) hlt];omega
  ·have e1:(r.1+1+r'.1) % m=(r.1+1+r'.1 - m) % m:=by rw[Int.sub_emod_right]
   rw[e1,Int.emod_eq_of_lt (by omega) (by omega)];omega
 rw[v1,v2,v3];split
 ·refine Good.bind (cE q.2 4 (c+1+1+1) hq.2.2 (by omega) (by decide) (by decide)) (fun p hp=>?_)
  have w5:IntKind.wrap .i64 (p.1*65536)=p.1*65536:=wrap_i64 (by omega) (by omega)
  have w6:IntKind.wrap .i64 (167772160+p.1*65536)=167772160+p.1*65536:=wrap_i64 (by omega) (by omega)
  have w7:IntKind.wrap .u32 (167772160+p.1*65536)=167772160+p.1*65536:=wrap_u32' (by omega) (by omega)
  rw[w5,w6,w7];exact .some ⟨⟨a1,a2,v4,v5,v6,.inr ⟨p.1,hp.1,hp.2.1,rfl⟩⟩,by grind⟩
 ·exact .some ⟨⟨a1,a2,v4,v5,v6,.inl rfl⟩,by have:=hq.2.2;unfold vY at*;grind⟩
theorem Jo{α:Type}(l:List α)(i:Int)(h0:0≤i)(h1:i<(l.length:Int)):∃x,gv l i=some x∧x∈l:=by
 obtain⟨j,rfl⟩:∃j:Nat,i=(j:Int):=⟨i.toNat,by omega⟩
 have hj:j<l.length:=by omega
 exact⟨l[j],by grind [bN],List.getElem_mem hj⟩
theorem fS{β:Type}(len m b ak:Nat)(i:Int)(k:Unit→Option β)(h0:0≤i)(h1:i<(len:Int)):(oV len m b ak i).run.bind k=k ():=by
 simp[oV,h0,h1]
theorem Ex{c d:Int}{x:ax}(h:vY c x)(hd:c≤d):vY d x:=⟨h.1,Int.le_trans h.2 hd⟩
def KS(nt:Int)(l:List BD):Prop:=∀(i:Nat) b,l[i]? =some b→Pt nt (i:Int) b
theorem Ty{nt i:Int}{b:BD}(h:Pt nt i b)(hi:0≤i∧i≤8)(hg:b.aL≠0):b.aJ.IP=167772160+i*65536:=by
 obtain⟨-,-,-,-,h |h⟩:=h
 ·exact absurd h.2 hg
 ·rw[h.1]
theorem NT(x:ax)(L S:Int)(links:List eV)(GW:List av)(oC:List BD)(segs:List bf)(a8 a9 a10:Int)(b11 b12:Bool)(a13 a14 a15 a16 a17 a18 i c nt:Int)(hx:vY c x)(hc:c≤100000)
 (h1:1≤segs.length∧segs.length≤8) (h2:∀s∈segs,NQ L (oC.length:Int) s) (h3:KS nt oC) (h4:oC.length≤8) (hi:0≤i∧i≤8):
 Good (γ:=Host×ax) (DM.S n (x,L,S,links,GW,oC,segs,a8,a9,a10,b11,b12,a13,a14,a15,a16,a17,a18,i)) fun r=>NR oC segs i r.1∧vY (c+4) r.2:=by
 show Good (γ:=Host×ax) ((zX x L S links GW oC segs a8 a9 a10 b11 b12 a13 a14 a15 a16 a17 a18 i).run n) _;have w1:IntKind.wrap .i64 (2199023951872+i)=2199023951872+i:=wrap_i64 (by omega) (by omega)
 have w2:IntKind.wrap .u64 (2199023951872+i)=2199023951872+i:=by
  simp only[IntKind.wrap,IntKind.bits,IntKind.signed];simp
  omega
 have w3:IntKind.wrap .i64 (10+i)=10+i:=wrap_i64 (by omega) (by omega)
 have w4:IntKind.wrap .u32 (10+i)=10+i:=wrap_u32' (by omega) (by omega)
 simp only[zX,G.run,aO,bY,cw,if_true,decide_eq_true_eq,w1,w2,w3,w4];refine Good.bind (cE x (segs.length:Int) c hx (by omega) (by omega) (by omega)) (fun r hr=>?_)
 obtain⟨s,hs,hm⟩:=Jo segs r.1 hr.1 hr.2.1;have hso:=(h2 s hm).2;obtain⟨so1,so2,so3,-⟩:=hso;rw[hs,Option.bind_some];refine Good.bind (cE r.2 (s.aI.length:Int) (c+1) hr.2.2 (by omega) (by omega) (by omega)) (fun r' hr'=>?_)
 obtain⟨d,hd,hdm⟩:=Jo s.aI r'.1 hr'.1 hr'.2.1;rw[hd,Option.bind_some];obtain⟨b,hb,_⟩:=Jo oC d (so3 d hdm).1 (so3 d hdm).2;rw[hb,Option.bind_some];have h3':vY (c+1+1) r'.2:=hr'.2.2;have hbd:=so3 d hdm;have hbv:Pt nt d b:=by
  obtain⟨j,rfl⟩:∃j:Nat,d=(j:Int):=⟨d.toNat,by omega⟩
  rw[bN]at hb;exact h3 j b hb
 have hseg:∀{v:Int},(v= -1∨v=r.1)→(v= -1∨∃s,gv segs v=some s∧d∈s.aI):=by
  rintro v (rfl |rfl)
  ·exact .inl rfl
  ·exact .inr ⟨s,hs,hdm⟩
 by_cases hg:(b.aL != 0)=true
 ·have hg':b.aL≠0:=by simpa using hg
  have hip:=Ty hbv ⟨hbd.1,by omega⟩ hg'
  have w5:IntKind.wrap .u32 (b.aJ.IP+(10+i))=b.aJ.IP+(10+i):=wrap_u32' (by omega) (by omega)
  rw[if_pos hg];refine Good.bind (cE r'.2 6 (c+1+1) h3' (by omega) (by decide) (by decide)) (fun q hq=>?_)
  split
  ·rw[Option.bind_some,w5];refine Good.bind (cE q.2 10 (c+1+1+1) hq.2.2 (by omega) (by decide) (by decide)) (fun p hp=>?_)
   split
   ·exact .some ⟨⟨rfl,hbd.1,hbd.2,hseg (.inl rfl),.inr ⟨b,hb,hg',rfl⟩⟩,Ex hp.2.2 (by omega)⟩
   ·exact .some ⟨⟨rfl,hbd.1,hbd.2,hseg (.inr rfl),.inr ⟨b,hb,hg',rfl⟩⟩,Ex hp.2.2 (by omega)⟩
  ·refine Good.bind (cE q.2 10 (c+1+1+1) hq.2.2 (by omega) (by decide) (by decide)) (fun p hp=>?_)
   split
   ·exact .some ⟨⟨rfl,hbd.1,hbd.2,hseg (.inl rfl),.inl rfl⟩,Ex hp.2.2 (by omega)⟩
   ·exact .some ⟨⟨rfl,hbd.1,hbd.2,hseg (.inr rfl),.inl rfl⟩,Ex hp.2.2 (by omega)⟩
 ·rw[if_neg hg];refine Good.bind (cE r'.2 10 (c+1+1) h3' (by omega) (by decide) (by decide)) (fun p hp=>?_)
  split
  ·exact .some ⟨⟨rfl,hbd.1,hbd.2,hseg (.inl rfl),.inl rfl⟩,Ex hp.2.2 (by omega)⟩
  ·exact .some ⟨⟨rfl,hbd.1,hbd.2,hseg (.inr rfl),.inl rfl⟩,Ex hp.2.2 (by omega)⟩
def Jp(l:List av):Prop:=∀(i:Nat) t,l[i]? =some t→t=⟨100+(i:Int),900+(i:Int)⟩
def GX(oC:List BD)(segs:List bf)(l:List Host):Prop:=∀(i:Nat) h,l[i]? =some h→NR oC segs (i:Int) h
structure Vf(f:au):Prop where
 leaves:2≤f.Leaves∧f.Leaves≤4
 GY:1≤f.dK∧f.dK≤3
 links:KQ f.Leaves f.dK f.Links
 sX:1≤f.aA.length∧f.aA.length≤3
 GW:Jp f.aA
 oC:1≤f.aI.length∧f.aI.length≤4
 bd:KS (f.aA.length:Int) f.aI
 segments:2≤f.az.length∧f.az.length≤6
 seg:∀s∈f.az,NQ f.Leaves (f.aI.length:Int) s
 AJ:f.Hosts.length≤8
 host:GX f.aI f.az f.Hosts
 leaks:f.Leaks.length≤2
 Tz:∀x∈f.Leaks,GV (f.aA.length:Int) x
 T9:f.Leaks.Nodup
 Ua:0≤f.xy∧f.xy≤2
 Sy:0≤f.qH∧f.qH≤1
 router:0≤f.cW∧f.cW≤1
 timers:1≤f.cC.rE∧f.cC.rE≤3∧f.cC.A8=9∧40≤f.cC.Dy∧f.cC.Dy≤69∧f.cC.qG=20∧f.cC.xx=5∧f.cC.Window=30
theorem FD{α:Type}{P:Nat→α→Prop}{l:List α}{y:α}(h:∀(i:Nat) x,l[i]? =some x→P i x)(hy:P l.length y):∀(i:Nat) x,(l++[y])[i]? =some x→P i x:=by
 grind
theorem KT(l:List Int)(hn:5000≤n):Good (γ:=au) (DN.S n l) Vf:=by
 show Good (γ:=au) ((zY l).run n) _;simp only[zY,G.run,aO,bY,cw,xN,if_true,decide_eq_true_eq];refine Good.bind (cE (n:=n) (Go.L.ax.mk l 0) 3 0 ⟨Int.le_refl _,Int.le_refl _⟩ (by decide) (by decide) (by decide)) (fun r2 h2=>?_)
 refine Good.bind (cE r2.2 3 1 h2.2.2 (by decide) (by decide) (by decide)) (fun r3 h3=>?_)
 refine Good.bind (cE r3.2 3 2 h3.2.2 (by decide) (by decide) (by decide)) (fun r4 h4=>?_)
 refine Good.bind (cE r4.2 2 3 h4.2.2 (by decide) (by decide) (by decide)) (fun r5 h5=>?_)
 refine Good.bind (cE r5.2 2 4 h5.2.2 (by decide) (by decide) (by decide)) (fun r6 h6=>?_)
 refine Good.bind (cE r6.2 2 5 h6.2.2 (by decide) (by decide) (by decide)) (fun r7 h7=>?_)
 refine Good.bind (cE r7.2 3 6 h7.2.2 (by decide) (by decide) (by decide)) (fun r8 h8=>?_)
 refine Good.bind (cE r8.2 3 7 h8.2.2 (by decide) (by decide) (by decide)) (fun r9 h9=>?_)
 refine Good.bind (cE r9.2 30 8 h9.2.2 (by decide) (by decide) (by decide)) (fun r10 h10=>?_)
 obtain⟨l1,l2,-⟩:=h2;obtain⟨p1,p2,-⟩:=h3;obtain⟨e1,e2,-⟩:=h4;obtain⟨e3,e4,-⟩:=h5;obtain⟨e5,e6,-⟩:=h6;obtain⟨e7,e8,-⟩:=h9;obtain⟨e9,e10,h10'⟩:=h10;have wl:IntKind.wrap .i64 (2+r2.1)=2+r2.1:=wrap_i64 (by omega) (by omega)
 have wp:IntKind.wrap .i64 (1+r3.1)=1+r3.1:=wrap_i64 (by omega) (by omega)
 have wd:IntKind.wrap .i64 (1+r9.1)=1+r9.1:=wrap_i64 (by omega) (by omega)
 have wa:IntKind.wrap .i64 (40+r10.1)=40+r10.1:=wrap_i64 (by omega) (by omega)
 rw[wl,wp,wd,wa];refine Good.bind (LO r10.2 (2+r2.1) (1+r3.1) 9 h10' (by decide) (by omega) (by omega) hn) (fun r11 h11=>?_)
 refine Good.bind (γ:=List Int×Int×List av) (Q:=fun t=>1≤t.2.2.length∧t.2.2.length≤3∧0≤t.2.1∧t.2.1≤77∧Jp t.2.2) ?_ (fun t1 ht1=>?_)
 ·obtain⟨k1,k2⟩:=h11.2;refine nV (fun j (s:Int×List Int×Int×List av)=>s.1=(j:Int)∧0≤s.2.2.1∧s.2.2.1≤73+(j:Int)∧(s.2.2.2.length:Int)=(j:Int)∧Jp s.2.2.2) 3 (fun j s hj hs=>?_) (fun s hs=>?_) (by omega) ⟨rfl,k1,by simp;omega,by simp,by simp[Jp]⟩
  ·obtain⟨g1,g2,g3,g4,g5⟩:=hs;refine Good.bind (cE (n:=n) (Go.L.ax.mk s.2.1 s.2.2.1) 3 (73+(j:Int)) ⟨g2,g3⟩ (by omega) (by decide) (by decide)) (fun r hr=>?_)
   obtain⟨s1,s2,s3,s4⟩:=hr;have w:IntKind.wrap .i64 (s.1+1)=s.1+1:=wrap_i64 (by omega) (by omega)
   have w1:IntKind.wrap .i64 (100+s.1)=100+s.1:=wrap_i64 (by omega) (by omega)
   have w2:IntKind.wrap .u32 (100+s.1)=100+s.1:=wrap_u32' (by omega) (by omega)
   have w3:IntKind.wrap .i64 (900+s.1)=900+s.1:=wrap_i64 (by omega) (by omega)
   have w4:IntKind.wrap .u32 (900+s.1)=900+s.1:=wrap_u32' (by omega) (by omega)
   have hroom:roomy (s.2.2.2.length+1) 8=true:=by simp[roomy];omega
   by_cases hle:s.1≤r.1
   ·rw[if_pos hle,if_pos ⟨trivial,hroom⟩,w,w1,w2,w3,w4];refine .some ⟨?_,?_,?_,?_,?_⟩
    ·grind
    ·exact s3
    ·grind
    ·grind
    ·refine FD (P:=fun i t=>t=(⟨100+(i:Int),900+(i:Int)⟩:av)) g5 ?_
     rw[g4,g1]
   ·rw[if_neg hle];refine .some ⟨?_,?_,?_,?_,g5⟩
    ·show 1≤s.2.2.2.length;omega
    ·show s.2.2.2.length≤3;omega
    ·exact s3
    ·show r.2.at_≤77;omega
  ·obtain⟨g1,g2,g3,g4,g5⟩:=hs;refine Good.bind (cE (n:=n) (Go.L.ax.mk s.2.1 s.2.2.1) 3 76 ⟨g2,by simpa using g3⟩ (by omega) (by decide) (by decide)) (fun r hr=>?_)
   obtain⟨s1,s2,s3,s4⟩:=hr;have hle:¬s.1≤r.1:=by omega
   rw[if_neg hle];refine .some ⟨?_,?_,?_,?_,g5⟩
   ·show 1≤s.2.2.2.length;omega
   ·show s.2.2.2.length≤3;omega
   ·exact s3
   ·show r.2.at_≤77;omega
 obtain⟨u1,u2,u3,u4,u5⟩:=ht1;refine Good.bind (cE (n:=n) (Go.L.ax.mk t1.1 t1.2.1) 4 77 ⟨u3,u4⟩ (by decide) (by decide) (by decide)) (fun r25 h25=>?_)
 obtain⟨q1,q2,q3⟩:=h25;have w25:IntKind.wrap .i64 (1+r25.1)=1+r25.1:=wrap_i64 (by omega) (by omega)
 rw[w25];simp[k6];refine Good.bind (γ:=List Int×Int×List BD) (Q:=fun t=>1≤t.2.2.length∧t.2.2.length≤4∧0≤t.2.1∧t.2.1≤86∧KS (t1.2.2.length:Int) t.2.2) ?_ (fun t2 ht2=>?_)
 ·refine nV (fun j (s:Int×List Int×Int×List BD)=>s.1=(j:Int)∧0≤s.2.2.1∧s.2.2.1≤78+2*(j:Int)∧(s.2.2.2.length:Int)=(j:Int)∧KS (t1.2.2.length:Int) s.2.2.2) (1+r25.1).toNat (fun j s hj hs=>?_) (fun s hs=>?_) (by omega) ⟨rfl,q3.1,by have:=q3.2;simp;omega,by simp,by simp[KS]⟩
  ·obtain⟨g1,g2,g3,g4,g5⟩:=hs;have hlt:s.1<1+r25.1:=by omega
   rw[if_pos hlt];refine Good.bind (KR (n:=n) (Go.L.ax.mk s.2.1 s.2.2.1) s.1 (t1.2.2.length:Int) (78+2*(j:Int)) ⟨g2,g3⟩ (by omega) (by omega) (by omega)) (fun r hr=>?_)
   obtain⟨hb,s3,s4⟩:=hr;have w:IntKind.wrap .i64 (s.1+1)=s.1+1:=wrap_i64 (by omega) (by omega)
   have hroom:roomy (s.2.2.2.length+1) 40=true:=by simp[roomy];omega
   rw[if_pos hroom,w];refine .some ⟨?_,?_,?_,?_,?_⟩
   ·grind
   ·exact s3
   ·grind
   ·grind
   ·refine FD (P:=fun i b=>Pt (t1.2.2.length:Int) (i:Int) b) g5 ?_
    rw[g4,← g1];exact hb
  ·obtain⟨g1,g2,g3,g4,g5⟩:=hs;have hlt:¬s.1<1+r25.1:=by omega
   rw[if_neg hlt];refine .some ⟨?_,?_,?_,?_,g5⟩
   ·show 1≤s.2.2.2.length;omega
   ·show s.2.2.2.length≤4;omega
   ·exact g2
   ·show s.2.2.1≤86;omega
 obtain⟨b1,b2,b3,b4,b5⟩:=ht2;refine Good.bind (cE (n:=n) (Go.L.ax.mk t2.1 t2.2.1) 5 86 ⟨b3,b4⟩ (by decide) (by decide) (by decide)) (fun r39 h39=>?_)
 obtain⟨q1',q2',q3'⟩:=h39;have w39:IntKind.wrap .i64 (2+r39.1)=2+r39.1:=wrap_i64 (by omega) (by omega)
 rw[w39];refine Good.bind (γ:=List Int×Int×List bf) (Q:=fun t=>2≤t.2.2.length∧t.2.2.length≤6∧(∀y∈t.2.2,NQ (2+r2.1) (t2.2.2.length:Int) y)∧0≤t.2.1∧t.2.1≤195) ?_ (fun t3 ht3=>?_)
 ·refine nV (fun j (s:Int×List Int×Int×List bf)=>s.1=(j:Int)∧0≤s.2.2.1∧s.2.2.1≤87+18*(j:Int)∧(s.2.2.2.length:Int)=(j:Int)∧∀y∈s.2.2.2,NQ (2+r2.1) (t2.2.2.length:Int) y) (2+r39.1).toNat (fun j s hj hs=>?_) (fun s hs=>?_) (by omega) ⟨rfl,q3'.1,by have:=q3'.2;simp;omega,by simp,by simp⟩
  ·obtain⟨g1,g2,g3,g4,g5⟩:=hs;have hlt:s.1<2+r39.1:=by omega
   rw[if_pos hlt];refine Good.bind (GU (n:=n) (Go.L.ax.mk s.2.1 s.2.2.1) (2+r2.1) 3 (87+18*(j:Int)) ⟨g2,g3⟩ (by omega) (by omega) (by omega) hn) (fun r hr=>?_)
   obtain⟨m1,m4⟩:=hr;refine Good.bind (GU (n:=n) r.2 (t2.2.2.length:Int) 4 (87+18*(j:Int)+9) m4 (by omega) (by omega) (by omega) hn) (fun r' hr'=>?_)
   obtain⟨m5,m8,m9⟩:=hr';have w:IntKind.wrap .i64 (s.1+1)=s.1+1:=wrap_i64 (by omega) (by omega)
   have hroom:roomy (s.2.2.2.length+1) 48=true:=by simp[roomy];omega
   rw[if_pos hroom,w];refine .some ⟨?_,?_,?_,?_,fun y hy=>?_⟩
   ·grind
   ·exact m8
   ·grind
   ·grind
   ·rcases List.mem_append.1 hy with hy |hy
    ·exact g5 y hy
    ·simp only[List.mem_singleton]at hy;subst hy;exact⟨m1,m5⟩
  ·obtain⟨g1,g2,g3,g4,g5⟩:=hs;have hlt:¬s.1<2+r39.1:=by omega
   rw[if_neg hlt];refine .some ⟨?_,?_,g5,g2,?_⟩
   ·show 2≤s.2.2.2.length;omega
   ·show s.2.2.2.length≤6;omega
   ·show s.2.2.1≤195;omega
 obtain⟨c1,c2,c3,c4,c5⟩:=ht3;refine Good.bind (cE (n:=n) (Go.L.ax.mk t3.1 t3.2.1) 9 195 ⟨c4,c5⟩ (by decide) (by decide) (by decide)) (fun r56 h56=>?_)
 obtain⟨v1,v2,v3⟩:=h56;refine Good.bind (γ:=List Int×Int×List Host) (Q:=fun t=>t.2.2.length≤8∧0≤t.2.1∧t.2.1≤228∧GX t2.2.2 t3.2.2 t.2.2) ?_ (fun t4 ht4=>?_)
 ·refine nV (fun j (s:Int×List Int×Int×List Host)=>s.1=(j:Int)∧0≤s.2.2.1∧s.2.2.1≤196+4*(j:Int)∧(s.2.2.2.length:Int)=(j:Int)∧GX t2.2.2 t3.2.2 s.2.2.2) r56.1.toNat (fun j s hj hs=>?_) (fun s hs=>?_) (by omega) ⟨rfl,v3.1,by have:=v3.2;simp;omega,by simp,by simp[GX]⟩
  ·obtain⟨g1,g2,g3,g4,g5⟩:=hs;have hlt:s.1<r56.1:=by omega
   rw[if_pos hlt];refine Good.bind (NT (n:=n) (Go.L.ax.mk s.2.1 s.2.2.1) _ _ _ _ t2.2.2 t3.2.2 _ _ _ _ _ _ _ _ _ _ _ s.1 (196+4*(j:Int)) (t1.2.2.length:Int) ⟨g2,g3⟩ (by omega) (by omega) c3 b5 (by omega) (by omega)) (fun r hr=>?_)
   obtain⟨hh,s3,s4⟩:=hr;have w:IntKind.wrap .i64 (s.1+1)=s.1+1:=wrap_i64 (by omega) (by omega)
   have hroom:roomy (s.2.2.2.length+1) 32=true:=by simp[roomy];omega
   rw[if_pos hroom,w];refine .some ⟨?_,?_,?_,?_,?_⟩
   ·grind
   ·exact s3
   ·grind
   ·grind
   ·refine FD (P:=fun i b=>NR t2.2.2 t3.2.2 (i:Int) b) g5 ?_
    rw[g4,← g1];exact hh
  ·obtain⟨g1,g2,g3,g4,g5⟩:=hs;have hlt:¬s.1<r56.1:=by omega
   rw[if_neg hlt];refine .some ⟨?_,?_,?_,g5⟩
   ·show s.2.2.2.length≤8;omega
   ·exact g2
   ·show s.2.2.1≤228;omega
 obtain⟨d1,d2,d3,d4⟩:=ht4;have hsz:∀lk:List dH,lk.length≤2→(∀x∈lk,GV (t1.2.2.length:Int) x)→lk.Nodup→Vf {Leaves:=2+r2.1,dK:=1+r3.1,Links:=r11.1,aA:=t1.2.2,aI:=t2.2.2,az:=t3.2.2,Hosts:=t4.2.2,Leaks:=lk,xy:=r4.1,qH:=r5.1,cW:=r6.1,Fu:=r7.1==0,Np:=r8.1==1,cC:={rE:=1+r9.1,A8:=9,Dy:=40+r10.1,qG:=20,xx:=5,Window:=30}}:=fun lk hlk hlv hld=>
  ⟨⟨by show 2≤2+r2.1;omega,by show 2+r2.1≤4;omega⟩,⟨by show 1≤1+r3.1;omega,by show 1+r3.1≤3;omega⟩,h11.1,⟨u1,u2⟩,u5,⟨b1,b2⟩,b5,⟨c1,c2⟩,c3,d1,d4,hlk,hlv,hld,
   ⟨e1,by show r4.1≤2;omega⟩,⟨e3,by show r5.1≤1;omega⟩,⟨e5,by show r6.1≤1;omega⟩,by show 1≤1+r9.1;omega,by show 1+r9.1≤3;omega,rfl,by show 40≤40+r10.1;omega,by show 40+r10.1≤69;omega,rfl,rfl,rfl⟩
 by_cases hm:(1:Int)<(t1.2.2.length:Int)
 ·rw[if_pos (by simpa using hm)]
  refine Good.bind (cE (n:=n) (Go.L.ax.mk t4.1 t4.2.1) 3 228 ⟨d2,d3⟩ (by decide) (by decide) (by decide)) (fun r70 h70=>?_)
  obtain⟨v1',v2',v3'⟩:=h70;refine Good.bind (γ:=List Int×Int×List dH) (Q:=fun t=>t.2.2.length≤2∧(∀x∈t.2.2,GV (t1.2.2.length:Int) x)∧t.2.2.Nodup) ?_ (fun t5 ht5=>?_)
  ·refine nV (fun j (s:Int×List Int×Int×List dH)=>s.1=(j:Int)∧0≤s.2.2.1∧s.2.2.1≤229+4*(j:Int)∧(s.2.2.2.length:Int)≤(j:Int)∧(∀x∈s.2.2.2,GV (t1.2.2.length:Int) x)∧s.2.2.2.Nodup) r70.1.toNat (fun j s hj hs=>?_) (fun s hs=>?_) (by omega) ⟨rfl,v3'.1,by have:=v3'.2;simp;omega,by simp,by simp,by simp⟩
   ·obtain⟨g1,g2,g3,g4,g5,g6⟩:=hs;have hlt:s.1<r70.1:=by omega
    rw[if_pos hlt];refine Good.bind (NS (n:=n) (Go.L.ax.mk s.2.1 s.2.2.1) (t1.2.2.length:Int) (229+4*(j:Int)) ⟨g2,g3⟩ (by omega) (by omega)) (fun r hr=>?_)
    obtain⟨hk,s3,s4⟩:=hr;have w:IntKind.wrap .i64 (s.1+1)=s.1+1:=wrap_i64 (by omega) (by omega)
    have hroom:roomy (s.2.2.2.length+1) 32=true:=by simp[roomy];omega
    refine Good.bind (γ:=Unit⊕Unit) (Q:=fun t=>match t with | .inl _=>True | .inr _=>r.1∉s.2.2.2) ?_ (fun t ht=>?_)
    ·refine nV (fun i (q:Int)=>q=(i:Int)∧∀j<i,∀y,s.2.2.2[j]? =some y→y≠r.1) s.2.2.2.length (fun i q hi hq=>?_) (fun q hq=>?_) (by omega) ⟨rfl,by simp⟩
     ·obtain⟨rfl,hq⟩:=hq;have hlt:(i:Int)<(s.2.2.2.length:Int):=by omega
      rw[if_pos hlt,fS _ _ _ _ _ _ (by omega) hlt]
      simp only[iN,Int.toNat_natCast,List.getElem?_eq_getElem hi,Option.bind_some];split
      ·exact .some trivial
      ·rename_i hne;refine .some ⟨ep (by omega),fun k hk y hy=>?_⟩
       grind
     ·obtain⟨rfl,hq⟩:=hq;simp only[Int.lt_irrefl,if_false];refine .some fun hmem=>?_
      obtain⟨k,hk⟩:=List.getElem?_of_mem hmem;grind
    ·cases t with
     |inl _=>
      simp only[Sum.elim,G.run,aO,if_true];rw[w];refine .some ⟨?_,s3,?_,?_,g5,g6⟩
      ·grind
      ·grind
      grind
     |inr _=>
      simp only[Sum.elim,G.run,aO,xN,if_true];rw[if_pos ⟨trivial,hroom⟩,w];refine .some ⟨?_,s3,?_,?_,fun x hx=>?_,?_⟩
      ·grind
      ·grind
      ·grind
      ·grind
      grind
   ·obtain⟨g1,g2,g3,g4,g5,g6⟩:=hs;have hlt:¬s.1<r70.1:=by omega
    rw[if_neg hlt];exact .some ⟨by show s.2.2.2.length≤2;omega,g5,g6⟩
  ·exact .some (hsz _ ht5.1 ht5.2.1 ht5.2.2)
 ·rw[if_neg (by simpa using hm)]
  exact .some (hsz [] (by simp) (by simp) (by simp))
end
end Go.L
namespace Go.L
open Go.AM
theorem nW{α K:Type}[DecidableEq K](key:α→K)(l:List α)(i:Nat)(x:α)(hx:l[i]? =some x)(h:∀(j:Nat) y,j<i→l[j]? =some y→key y≠key x):(bg key [] l).getD i false=false:=by
 rw[List.getD_eq_getElem?_getD,CE,hx];simp only[Option.map_some,Option.getD_some,List.nil_append,decide_eq_false_iff_not,List.mem_map,not_exists,not_and];intro y hy e;obtain⟨j,hj⟩:=List.getElem?_of_mem hy;grind
theorem qK{p:ByteArray}{m:Int}{b:Bool}{r:Option (Int×Nat)}(hb:b=false)(hr:r=none):outcome p m b r=.inl ():=by
 subst hb;subst hr;rfl
theorem pz{α:Type}{E:Nat→α→Int}{l:List α}(h:∀(j:Nat) x,l[j]? =some x→E j x=0):bI E 0 l=none:=
 (qw l 0).2 fun j x hx=>by rw[Nat.zero_add];exact h j x hx
theorem NU:∀{l:List Int},DW l→uE l=true
 | [],_=>rfl
 | [_],_=>rfl
 |x::y::l,h=>by
  have h':DW (y::l):=(List.pairwise_cons.1 h).2;have hxy:x<y:=(List.pairwise_cons.1 h).1 y (by simp)
  have ih:=NU h';simp only[uE,List.tail_cons,List.zip_cons_cons,List.all_cons,Bool.and_eq_true,decide_eq_true_eq]at ih ⊢;exact⟨hxy,ih⟩
theorem Pu{α:Type}{l:List α}(h:l.Nodup){i j:Nat}{x y:α}(hx:l[i]? =some x)(hy:l[j]? =some y)(hij:j<i):y≠x:=by
 obtain⟨h1,rfl⟩:=List.getElem?_eq_some_iff.1 hx;obtain⟨h2,rfl⟩:=List.getElem?_eq_some_iff.1 hy;exact(List.pairwise_iff_getElem.1 h) j i h2 h1 hij
section
variable {f:au} (hv:Vf f)
include hv
theorem Q8:GQ f=.inl ():=by
 obtain⟨h1,h2,h3⟩:=hv.links;refine qK (by simp;omega) (pz fun i x hx=>?_)
 obtain⟨a1,a2,a3,a4,a5,a6⟩:=h2 x (List.mem_of_getElem? hx);have hf:=nW (fun x:eV=>(⟨x.A,x.B⟩:V2 Int)) f.Links i x hx fun j y hj hy e=>by
  have e1:(f.Links.map CJ)[i]? =some (CJ x):=by rw[List.getElem?_map,hx];rfl
  have e2:(f.Links.map CJ)[j]? =some (CJ y):=by rw[List.getElem?_map,hy];rfl
  exact Pu h3 e1 e2 hj e
 have hw:IntKind.wrap .i64 (f.Leaves+f.dK)=f.Leaves+f.dK:=wrap_i64 (by grind) (by have:=hv.leaves;have:=hv.GY;omega)
 have c1:(decide (0≤x.A)&&decide (x.A<f.Leaves))=true:=by simp[a1,a2]
 have c2:decide (x.B≥f.Leaves)=true:=by simp;omega
 have c3:¬(!decide (x.B<IntKind.wrap .i64 (f.Leaves+f.dK)))=true:=by rw[hw];simp;omega
 have c4:¬(decide (x.wH<1)||decide (1000<x.wH))=true:=by simp;omega
 rw[yW,if_pos c1,if_pos c2,if_neg c3,if_neg c4,hf,if_neg (by decide)]
theorem NV:CH f=.inl ():=by
 obtain⟨h1,h2⟩:=hv.sX;have ht:=hv.GW;refine qK (by simp;omega) (pz fun i x hx=>?_)
 have hi:=(List.getElem?_eq_some_iff.1 hx).1;have e:=ht i x hx;have hf1:=nW (fun x:av=>x.bL) f.aA i x hx fun j y hj hy e'=>by
  have e2:=ht j y hy;subst e2;subst e;simp at e';omega
 have hf2:=nW (fun x:av=>x.Target) f.aA i x hx fun j y hj hy e'=>by
  have e2:=ht j y hy;subst e2;subst e;simp at e';omega
 subst e;have c1:¬decide ((100+(i:Int))<1)=true:=by simp;omega
 have c2:¬decide (16777215<(100+(i:Int)))=true:=by simp;omega
 have c3:¬(((900+(i:Int))==0)=true):=by simp;omega
 rw[sW,if_neg c1,if_neg c2,if_neg c3,hf1,if_neg (by decide),hf2,if_neg (by decide)]
theorem Q9:GS f=.inl ():=by
 refine qK (by have:=hv.leaks;simp;omega) (pz fun i x hx=>?_)
 obtain⟨a1,a2,a3,a4,a5,a6⟩:=hv.Tz x (List.mem_of_getElem? hx);have hf:=nW (fun x:dH=>x) f.Leaks i x hx fun j y hj hy e=>Pu hv.T9 hx hy hj e
 have c1:¬(!(decide (0≤x.From)&&decide (x.From<(f.aA.length:Int))))=true:=by simp[a1,a2]
 have c2:¬(!(decide (0≤x.To)&&decide (x.To<(f.aA.length:Int))))=true:=by simp[a3,a4]
 have c3:¬(x.From==x.To)=true:=by simp[a5]
 have c4:¬(!gF x.ah)=true:=by
  rcases a6 with e |⟨t,t0,t4,e⟩
  ·rw[e];decide
  ·rw[e];rcases(by omega:t=0∨t=1∨t=2∨t=3)with rfl |rfl |rfl |rfl<;>decide
 rw[yX,if_neg c1,if_neg c2,if_neg c3,if_neg c4,hf,if_neg (by decide)]
theorem NW:wV f=.inl ():=by
 obtain⟨h1,h2⟩:=hv.oC;obtain⟨h3,h4⟩:=hv.sX;have hb:=hv.bd;refine qK (by simp;omega) (pz fun i b hx=>?_)
 have hi:=(List.getElem?_eq_some_iff.1 hx).1;obtain⟨a1,a2,a3,a4,a5⟩:=hb i b hx;have hf1:=nW (fun x:BD=>x.bL) f.aI i b hx fun j y hj hy e=>by
  have:=(hb j y hy).2.2.1;have e':y.bL=b.bL:=e;omega
 have hf2:=nW (fun x:BD=>x.Target) f.aI i b hx fun j y hj hy e=>by
  have:=(hb j y hy).2.2.2.1;grind
 have c1:¬(!(decide (0≤b.av)&&decide (b.av<(f.aA.length:Int))))=true:=by simp[a1,a2]
 have c2:¬decide (b.bL<1)=true:=by simp;omega
 have c3:¬decide (16777215<b.bL)=true:=by simp;omega
 have c4:¬(b.Target==0)=true:=by simp;omega
 have c5:¬(f.aA.any fun x=>x.bL==b.bL)=true:=by
  simp only[List.any_eq_true,beq_iff_eq,not_exists,not_and];intro t ht e;obtain⟨j,hj⟩:=List.getElem?_of_mem ht;have:=hv.GW j t hj;have hjl:=(List.getElem?_eq_some_iff.1 hj).1;rw[this]at e;simp only at e;omega
 have c6:¬(f.aA.any fun x=>x.Target==b.Target)=true:=by
  simp only[List.any_eq_true,beq_iff_eq,not_exists,not_and];intro t ht e;obtain⟨j,hj⟩:=List.getElem?_of_mem ht;have:=hv.GW j t hj;have hjl:=(List.getElem?_eq_some_iff.1 hj).1;rw[this]at e;simp only at e;omega
 rw[z8,if_neg c1,if_neg c2,if_neg c3,if_neg c4,hf1,if_neg (by decide),hf2,if_neg (by decide),if_neg c5,if_neg c6]
 rcases a5 with⟨e1,e2⟩ |⟨e1,e2⟩
 ·grind
 ·have c7:¬(b.aL==0)=true:=by simp;omega
  have c11:¬((f.aI.take i).any (vL b.av b.aJ.IP b.aJ.Len))=true:=by
   simp only[List.any_eq_true,not_exists,not_and];intro y hy ho;obtain⟨j,hj⟩:=List.getElem?_of_mem hy;rw[List.getElem?_take]at hj;split at hj
   ·rename_i hlt;obtain⟨-,-,-,-,a6⟩:=hb j y hj;simp only[vL,Bool.and_eq_true,bne_iff_ne]at ho;obtain⟨-,hg,hc⟩:=ho;rcases a6 with⟨e3,e4⟩ |⟨e3,e4⟩
    ·exact hg e4
    ·rw[e1,e3]at hc;simp only at hc;rcases(by omega:(j=0∧i=1)∨(j=0∧i=2)∨(j=0∧i=3)∨(j=1∧i=2)∨(j=1∧i=3)∨(j=2∧i=3))with⟨rfl,rfl⟩ |⟨rfl,rfl⟩ |⟨rfl,rfl⟩ |⟨rfl,rfl⟩ |⟨rfl,rfl⟩ |⟨rfl,rfl⟩<;>revert hc<;>decide
   ·cases hj
  have c8:¬(!gF b.aJ)=true:=by
   rw[e1];rcases(by omega:i=0∨i=1∨i=2∨i=3)with rfl |rfl |rfl |rfl<;>decide
  have c9:¬out b.aJ.Len 8 30=true:=by rw[e1];show ¬out 24 8 30=true;decide
  have c10:¬(!xY b.aJ b.aL)=true:=by
   rw[e1,e2];rcases(by omega:i=0∨i=1∨i=2∨i=3)with rfl |rfl |rfl |rfl<;>decide
  grind
theorem LP:AK f=.inl ():=by
 obtain⟨h1,h2⟩:=hv.segments;refine qK (by simp;omega) (pz fun i x hx=>?_)
 have hi:=(List.getElem?_eq_some_iff.1 hx).1;obtain⟨⟨a1,a2,a3,a4⟩,⟨b1,b2,b3,b4⟩⟩:=hv.seg x (List.mem_of_getElem? hx);have c1:¬((x.Leaves.length:Int)==0)=true:=by simp only[beq_iff_eq];omega
 have c2:¬((x.aI.length:Int)==0)=true:=by simp only[beq_iff_eq];omega
 have c3:¬(x.Leaves.any fun n=> !(decide (0≤n)&&decide (n<f.Leaves)))=true:=by
  simp only[List.any_eq_true,not_exists,not_and];intro y hy;have:=a3 y hy;simp[this.1,this.2]
 have c4:¬(x.aI.any fun n=> !(decide (0≤n)&&decide (n<(f.aI.length:Int))))=true:=by
  simp only[List.any_eq_true,not_exists,not_and];intro y hy;have:=b3 y hy;simp[this.1,this.2]
 have c5:¬(!uE x.Leaves)=true:=by rw[NU a4];decide
 have c6:¬(!uE x.aI)=true:=by rw[NU b4];decide
 have c7:¬(x.Leaves.any fun n=>decide (32<(((f.az.take i).countP fun s=>s.Leaves.contains n:Nat):Int)+1))=true:=by
  simp only[List.any_eq_true,not_exists,not_and,decide_eq_true_eq];intro y hy;have h3:((f.az.take i).countP fun s=>s.Leaves.contains y)≤(f.az.take i).length:=List.countP_le_length
  have h4:(f.az.take i).length≤f.az.length:=by simp;omega
  omega
 rw[CG,if_neg c1,if_neg c2,if_neg c3,if_neg c4,if_neg c5,if_neg c6,if_neg c7]
theorem Ra:GR f=.inl ():=by
 have h1:=hv.AJ;have hh:=hv.host;refine qK (by simp;omega) (pz fun i h hx=>?_)
 have hi:=(List.getElem?_eq_some_iff.1 hx).1;obtain⟨a1,a2,a3,a4,a5⟩:=hh i h hx;have hf1:=nW (fun x:Host=>(⟨x.BD,x.bq⟩:bp)) f.Hosts i h hx fun j y hj hy e=>by
  have:=(hh j y hy).1;grind
 have c1:¬(h.bq==0)=true:=by simp;omega
 have c2:¬decide (281474976710655<h.bq)=true:=by simp;omega
 have c3:¬xD h.bq=true:=by
  rw[a1];rcases(by omega:i=0∨i=1∨i=2∨i=3∨i=4∨i=5∨i=6∨i=7)with rfl |rfl |rfl |rfl |rfl |rfl |rfl |rfl<;>decide
 have c4:¬(!(decide (0≤h.BD)&&decide (h.BD<(f.aI.length:Int))))=true:=by simp[a2,a3]
 have hsr:h.bf= -1∨0≤h.bf∧h.bf<(f.az.length:Int):=by
  rcases a4 with e |⟨s,hs,-⟩
  ·exact .inl e
  ·grind [gv]
 have c5:¬out h.bf (-1) ((f.az.length:Int) - 1)=true:=by
  simp only[out,Bool.or_eq_true,decide_eq_true_eq,not_or];have:=hv.segments;omega
 have c6:¬(h.bf != -1&& !(xZ f h.bf).any fun x=>h.BD==x)=true:=by
  rcases a4 with e |⟨s,hs,hm⟩
  ·rw[e];simp
  ·have:((xZ f h.bf).any fun x=>h.BD==x)=true:=by
    unfold xZ;rw[hs];simp only[Option.map_some,Option.getD_some,List.any_eq_true];exact⟨h.BD,hm,by simp⟩
   rw[this];simp
 have c7:¬(h.bq==1577058561)=true:=by simp;omega
 have c8:¬lS h.bq=true:=by
  simp only[lS,Bool.and_eq_true,Bool.not_eq_true',decide_eq_false_iff_not,not_and];omega
 have hbd:=hv.oC;have key:h.IP≠0→∃d:Nat,d<4∧h.BD=(d:Int)∧h.IP=167772160+(d:Int)*65536+(10+(i:Int))∧(Bh f h.BD).aL=167772161+(d:Int)*65536∧(Bh f h.BD).aJ=⟨167772160+(d:Int)*65536,24⟩:=by
  intro h0;rcases a5 with e |⟨b,hb,hg,e⟩
  ·exact absurd e h0
  ·obtain⟨d,hd⟩:∃d:Nat,h.BD=(d:Int):=⟨h.BD.toNat,by omega⟩
   have hbv:=hv.bd d b (by rw[hd,bN]at hb;exact hb)
   obtain⟨-,-,-,-,e3 |e3⟩:=hbv
   ·exact absurd e3.2 hg
   ·refine⟨d,by omega,hd,?_,?_,?_⟩
    ·rw[e,e3.1]
    ·unfold Bh;rw[hb];exact e3.2
    ·unfold Bh;rw[hb];exact e3.1
 have c9:¬(!gC (Bh f h.BD) h.IP)=true:=by
  by_cases h0:h.IP=0
  ·rw[h0];simp[gC]
  ·obtain⟨d,hd,-,e1,e2,e3⟩:=key h0;rw[gC,e1,e2,e3];have hi8:i<8:=by omega
   clear key a5 a4 c6 c5 hsr c8 c7 c4 c3 c2 c1 hf1 a1 a2 a3 hx hh hbd h1 hv e1 e2 e3 h0;rcases(by omega:d=0∨d=1∨d=2∨d=3)with rfl |rfl |rfl |rfl<;>
    rcases(by omega:i=0∨i=1∨i=2∨i=3∨i=4∨i=5∨i=6∨i=7)with rfl |rfl |rfl |rfl |rfl |rfl |rfl |rfl<;>decide
 have c10:¬(h.IP != 0&&(bg (fun x:Host=>(⟨x.BD,IntKind.wrap .u64 x.IP⟩:bp)) [] f.Hosts).getD i false)=true:=by
  by_cases h0:h.IP=0
  ·rw[h0];simp
  ·obtain⟨d,hd,ed,e1,-,-⟩:=key h0;rw[nW (fun x:Host=>(⟨x.BD,IntKind.wrap .u64 x.IP⟩:bp)) f.Hosts i h hx fun j y hj hy e=>by
    simp only[bp.mk.injEq]at e;obtain⟨eb,ei⟩:=e;obtain⟨-,-,-,-,y5⟩:=hh j y hy;rcases y5 with y5 |⟨b,hb,hg,y5⟩
    ·rw[y5,e1]at ei;rcases(by omega:d=0∨d=1∨d=2∨d=3)with rfl |rfl |rfl |rfl<;>(simp only[IntKind.wrap,IntKind.bits,IntKind.signed]at ei;simp at ei;omega)
    ·have hbv:=hv.bd d b (by rw[eb,ed,bN]at hb;exact hb)
     obtain⟨-,-,-,-,e3 |e3⟩:=hbv
     ·exact absurd e3.2 hg
     ·rw[y5,e3.1,e1]at ei;simp only[IntKind.wrap,IntKind.bits,IntKind.signed]at ei;simp at ei;omega]
   simp
 rw[yY,if_neg c1,if_neg c2,if_neg c3,if_neg c4,if_neg c5,if_neg c6,if_neg c7,if_neg c8,if_neg c9,hf1,if_neg (by decide),if_neg c10]
theorem Pv:qJ f=.inl ():=by
 have hL:=hv.leaves;have hS:=hv.GY;have hw:IntKind.wrap .i64 (f.Leaves+f.dK)=f.Leaves+f.dK:=wrap_i64 (by omega) (by omega)
 have e1:=hv.Ua;have e2:=hv.Sy;have e3:=hv.router;have:ez f=false:=by
  simp only[ez,out,hw,Bool.or_eq_false_iff,decide_eq_false_iff_not];omega
 rw[qJ,this];rfl
theorem Pw:y9 f=.inl ():=by
 obtain⟨t1,t2,t3,t4,t5,t6,t7,t8⟩:=hv.timers;have:eF f.cC=false:=by
  simp only[eF,out,Bool.or_eq_false_iff,decide_eq_false_iff_not];omega
 rw[y9,this];rfl
theorem KU:tV f=(0,⟨⟨[]⟩⟩,0):=by
 simp only[tV,Pv hv,Pw hv,Q8 hv,NV hv,NW hv,LP hv,Ra hv,Q9 hv,vM]
theorem KV:Small f:=by
 refine⟨?_,?_,?_,?_,?_,?_,fun s hs=>?_⟩
 ·have:=hv.links.1;omega
 ·have:=hv.sX;omega
 ·have:=hv.oC;omega
 ·have:=hv.segments;omega
 ·have:=hv.AJ;omega
 ·have:=hv.leaks;omega
 ·obtain⟨⟨a1,a2,-⟩,⟨b1,b2,-⟩⟩:=hv.seg s hs;omega
end
end Go.L
end
